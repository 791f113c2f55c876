/- Frames of readings as plain functions on lists of bytes: made, read, found in a stream. No program. -/
import Derived.Test.YtmpcnhiklpahnaaDoorCrc
namespace Go.Proofs.YtmpcnhiklpahnaaDoor

/-- a reading: its values as bits of binary64 -/
structure Rd where
  sensor : Nat
  seq : Nat
  stamp : Nat
  vals : List Nat

/-- what is said of numbers: which are finite, which are singles; a single's bits, and back -/
structure Fl where
  fin : Nat → Bool
  isS : Nat → Bool
  nb : Nat → Nat
  wb : Nat → Nat
structure Fl.Ok (F : Fl) : Prop where
  to : ∀ x, x < 18446744073709551616 → F.fin x = true → F.isS x = true → F.nb x < 4294967296 ∧ F.wb (F.nb x) = x
  back : ∀ u, u < 4294967296 → F.fin (F.wb u) = true → F.isS (F.wb u) = true ∧ F.nb (F.wb u) = u
  lt : ∀ u, u < 4294967296 → F.wb u < 18446744073709551616

variable (F : Fl)
/-- is something wrong with a reading (its sensor any number) -/
def checkV (s : Int) (vals : List Nat) : Int := if s < 0 ∨ 64 ≤ s ∨ 6 < vals.length then 210 else if vals.all F.fin then 0 else 4
def bodyV (wide : Bool) (vals : List Nat) : List Nat := vals.flatMap fun x => if wide then leBytes 8 x else leBytes 4 (F.nb x)
def headV (wide : Bool) (s n q t : Nat) : List Nat := [181, 98, s, if wide then n + 128 else n] ++ leBytes 4 q ++ leBytes 4 t
def withSum (b : List Nat) : List Nat := b ++ leBytes 4 (crcOf b)
def packV (r : Rd) : List Nat := withSum (headV (!r.vals.all F.isS) r.sensor r.vals.length r.seq r.stamp ++ bodyV F (!r.vals.all F.isS) r.vals)

/-- how many bytes a frame has, by its fourth one -/
def szOf (c : Nat) : Nat := if 128 ≤ c then 16 + 8 * (c - 128) else 16 + 4 * c
/-- may these bytes begin a frame, as far as they are there? -/
def headB (b : List Nat) : Bool := b.getD 0 181 == 181 && b.getD 1 98 == 98 && decide (b.getD 2 0 < 64) && decide (b.getD 3 0 % 128 ≤ 6)
def rdVals (wide : Bool) : Nat → List Nat → List Nat
  | 0, _ => []
  | k + 1, v => (if wide then leVal (v.take 8) else F.wb (leVal (v.take 4))) :: rdVals wide k (v.drop (if wide then 8 else 4))
def wideB (b : List Nat) : Bool := decide (128 ≤ b.getD 3 0)
def sizeB (b : List Nat) : Bool := decide (4 ≤ b.length) && headB b && decide (b.length = szOf (b.getD 3 0))
def valsB (b : List Nat) : List Nat := rdVals F (wideB b) (b.getD 3 0 % 128) (b.drop 12)
def readB (b : List Nat) : Rd := ⟨b.getD 2 0, leVal ((b.drop 4).take 4), leVal ((b.drop 8).take 4), valsB F b⟩
def unpackE (b : List Nat) : Int :=
  if sizeB b = false then 211
  else if crcOf (b.take (b.length - 4)) ≠ leVal (b.drop (b.length - 4)) then 212
  else if (valsB F b).all F.fin = false ∨ wideB b = (valsB F b).all F.isS then 211 else 0

/-- what is found in bytes: the readings, how many bytes are dropped, what is kept -/
def feedV (b : List Nat) : List Rd × Nat × List Nat :=
  match b with
  | [] => ([], 0, [])
  | c :: l =>
    if headB (c :: l) = false then let x := feedV l; (x.1, x.2.1 + 1, x.2.2)
    else if (c :: l).length < 4 ∨ (c :: l).length < szOf ((c :: l).getD 3 0) then ([], 0, c :: l)
    else if unpackE F ((c :: l).take (szOf ((c :: l).getD 3 0))) ≠ 0 then let x := feedV l; (x.1, x.2.1 + 1, x.2.2)
    else let x := feedV ((c :: l).drop (szOf ((c :: l).getD 3 0))); (readB F ((c :: l).take (szOf ((c :: l).getD 3 0))) :: x.1, x.2.1, x.2.2)
termination_by b.length
decreasing_by
  · simp
  · simp
  · have : 16 ≤ szOf ((c :: l).getD 3 0) := by unfold szOf; split <;> omega
    simp only [List.length_drop, List.length_cons]; omega

variable {F}
theorem szOf_ge (c : Nat) : 16 ≤ szOf c := by unfold szOf; split <;> omega
theorem szOf_le {c : Nat} (h : c % 128 ≤ 6) (hc : c < 256) : szOf c ≤ 64 := by unfold szOf; split <;> omega
theorem feedV_nil : feedV F [] = ([], 0, []) := by rw [feedV]
theorem feedV_bad {b : List Nat} (h0 : b ≠ []) (h : headB b = false) : feedV F b = ((feedV F (b.drop 1)).1, (feedV F (b.drop 1)).2.1 + 1, (feedV F (b.drop 1)).2.2) := by
  cases b with
  | nil => exact absurd rfl h0
  | cons c l => rw [feedV, if_pos h]; rfl
theorem feedV_wait {b : List Nat} (h : headB b = true) (h1 : b.length < 4 ∨ b.length < szOf (b.getD 3 0)) : feedV F b = ([], 0, b) := by
  cases b with
  | nil => exact feedV_nil
  | cons c l => rw [feedV, if_neg (by rw [h]; decide), if_pos h1]
theorem feedV_spoilt {b : List Nat} (h : headB b = true) (h1 : ¬ (b.length < 4 ∨ b.length < szOf (b.getD 3 0))) (h2 : unpackE F (b.take (szOf (b.getD 3 0))) ≠ 0) : feedV F b = ((feedV F (b.drop 1)).1, (feedV F (b.drop 1)).2.1 + 1, (feedV F (b.drop 1)).2.2) := by
  cases b with
  | nil => exact absurd (.inl (by decide)) h1
  | cons c l => rw [feedV, if_neg (by rw [h]; decide), if_neg h1, if_pos h2]; rfl
theorem feedV_frame {b : List Nat} (h : headB b = true) (h1 : ¬ (b.length < 4 ∨ b.length < szOf (b.getD 3 0))) (h2 : unpackE F (b.take (szOf (b.getD 3 0))) = 0) :
    feedV F b = (readB F (b.take (szOf (b.getD 3 0))) :: (feedV F (b.drop (szOf (b.getD 3 0)))).1, (feedV F (b.drop (szOf (b.getD 3 0)))).2.1, (feedV F (b.drop (szOf (b.getD 3 0)))).2.2) := by
  cases b with
  | nil => exact absurd (.inl (by decide)) h1
  | cons c l => rw [feedV, if_neg (by rw [h]; decide), if_neg h1, if_neg (by rw [h2]; decide)]

theorem getD_app {x y : List Nat} {i d : Nat} (h : i < x.length) : (x ++ y).getD i d = x.getD i d := by
  simp [List.getD, List.getElem?_append_left h]
theorem getD_end {x : List Nat} {i d : Nat} (h : x.length ≤ i) : x.getD i d = d := by
  simp [List.getD, List.getElem?_eq_none h]
theorem headB_more {x : List Nat} (y : List Nat) (h : headB x = false) : headB (x ++ y) = false := by
  have key : ∀ i d, x.getD i d ≠ d → (x ++ y).getD i d = x.getD i d := fun i d hn => by
    rcases Nat.lt_or_ge i x.length with hi | hi
    · exact getD_app hi
    · exact absurd (getD_end hi) hn
  rw [Bool.eq_false_iff] at h ⊢
  intro g
  apply h
  unfold headB at g ⊢
  simp only [Bool.and_eq_true, beq_iff_eq, decide_eq_true_eq] at g ⊢
  obtain ⟨⟨⟨g0, g1⟩, g2⟩, g3⟩ := g
  refine ⟨⟨⟨?_, ?_⟩, ?_⟩, ?_⟩
  · by_cases e : x.getD 0 181 = 181
    · exact e
    · rw [← key 0 181 e]; exact g0
  · by_cases e : x.getD 1 98 = 98
    · exact e
    · rw [← key 1 98 e]; exact g1
  · by_cases e : x.getD 2 0 = 0
    · omega
    · rw [← key 2 0 e]; exact g2
  · by_cases e : x.getD 3 0 = 0
    · omega
    · rw [← key 3 0 e]; exact g3
theorem headB_same {x : List Nat} (y : List Nat) (h : 4 ≤ x.length) : headB (x ++ y) = headB x := by
  unfold headB
  rw [getD_app (by omega), getD_app (by omega), getD_app (by omega), getD_app (by omega)]
/-- however bytes are cut -/
theorem feedV_app : ∀ (n : Nat) (x y : List Nat), x.length ≤ n →
    feedV F (x ++ y) = ((feedV F x).1 ++ (feedV F ((feedV F x).2.2 ++ y)).1, (feedV F x).2.1 + (feedV F ((feedV F x).2.2 ++ y)).2.1, (feedV F ((feedV F x).2.2 ++ y)).2.2) := by
  intro n
  induction n with
  | zero =>
    intro x y hn
    obtain rfl := List.eq_nil_of_length_eq_zero (Nat.le_zero.1 hn)
    rw [feedV_nil]; simp
  | succ n ih =>
    intro x y hn
    cases x with
    | nil => rw [feedV_nil]; simp
    | cons c l =>
      have hdr : ∀ k, 1 ≤ k → ((c :: l).drop k).length ≤ n := fun k hk => by rw [List.length_drop]; omega
      have hne : c :: l ++ y ≠ [] := by simp
      by_cases hb : headB (c :: l) = false
      · rw [feedV_bad hne (headB_more y hb), feedV_bad (by simp) hb, List.drop_append_of_le_length (by simp), ih _ y (hdr 1 (Nat.le_refl _))]
        simp only [Prod.mk.injEq, true_and, and_true]
        omega
      have hb : headB (c :: l) = true := by simpa using hb
      by_cases hw : (c :: l).length < 4 ∨ (c :: l).length < szOf ((c :: l).getD 3 0)
      · rw [feedV_wait hb hw]; simp
      have h4 : 4 ≤ (c :: l).length := by omega
      have hsz : szOf ((c :: l).getD 3 0) ≤ (c :: l).length := by omega
      have h16 := szOf_ge ((c :: l).getD 3 0)
      have hb' : headB (c :: l ++ y) = true := by rw [headB_same y h4]; exact hb
      have hg : (c :: l ++ y).getD 3 0 = (c :: l).getD 3 0 := getD_app (by omega)
      have hw' : ¬ ((c :: l ++ y).length < 4 ∨ (c :: l ++ y).length < szOf ((c :: l ++ y).getD 3 0)) := by
        rw [hg, List.length_append]; omega
      have ht : (c :: l ++ y).take (szOf ((c :: l).getD 3 0)) = (c :: l).take (szOf ((c :: l).getD 3 0)) := List.take_append_of_le_length hsz
      by_cases hu : unpackE F ((c :: l).take (szOf ((c :: l).getD 3 0))) = 0
      · rw [feedV_frame hb' hw' (by rw [hg, ht]; exact hu), feedV_frame hb hw hu, hg, ht, List.drop_append_of_le_length hsz, ih _ y (hdr _ (by omega))]
        rfl
      · rw [feedV_spoilt hb' hw' (by rw [hg, ht]; exact hu), feedV_spoilt hb hw hu, List.drop_append_of_le_length (by simp), ih _ y (hdr 1 (Nat.le_refl _))]
        simp only [Prod.mk.injEq, true_and, and_true]
        omega
/-- of what is kept less than a frame's most bytes -/
theorem feedV_kept : ∀ (n : Nat) (x : List Nat), x.length ≤ n → Bytes x → (feedV F x).2.2.length < 64 ∧ Bytes (feedV F x).2.2 := by
  intro n
  induction n with
  | zero =>
    intro x hn hx
    obtain rfl := List.eq_nil_of_length_eq_zero (Nat.le_zero.1 hn)
    rw [feedV_nil]; exact ⟨by decide, hx⟩
  | succ n ih =>
    intro x hn hx
    cases x with
    | nil => rw [feedV_nil]; exact ⟨by decide, hx⟩
    | cons c l =>
      have hdr : ∀ k, 1 ≤ k → ((c :: l).drop k).length ≤ n := fun k hk => by rw [List.length_drop]; omega
      by_cases hb : headB (c :: l) = false
      · rw [feedV_bad (by simp) hb]; exact ih _ (hdr 1 (Nat.le_refl _)) (hx.drop 1)
      have hb : headB (c :: l) = true := by simpa using hb
      by_cases hw : (c :: l).length < 4 ∨ (c :: l).length < szOf ((c :: l).getD 3 0)
      · rw [feedV_wait hb hw]
        refine ⟨?_, hx⟩
        rcases Nat.lt_or_ge (c :: l).length 4 with h4 | h4
        · show (c :: l).length < 64
          omega
        · have h3 : (c :: l).getD 3 0 < 256 := by
            have := hx ((c :: l)[3]'(by omega)) (List.getElem_mem _)
            rwa [List.getD, List.getElem?_eq_getElem (by omega), Option.getD_some]
          have h6 : (c :: l).getD 3 0 % 128 ≤ 6 := by
            unfold headB at hb
            simp only [Bool.and_eq_true, decide_eq_true_eq] at hb
            exact hb.2
          have := szOf_le h6 h3
          show (c :: l).length < 64
          omega
      have h16 := szOf_ge ((c :: l).getD 3 0)
      by_cases hu : unpackE F ((c :: l).take (szOf ((c :: l).getD 3 0))) = 0
      · rw [feedV_frame hb hw hu]; exact ih _ (hdr _ (by omega)) (hx.drop _)
      · rw [feedV_spoilt hb hw hu]; exact ih _ (hdr 1 (Nat.le_refl _)) (hx.drop 1)
end Go.Proofs.YtmpcnhiklpahnaaDoor
