/- What the law's walk rests on, part 3: contracts of functions and plain facts. -/
import Derived.Test.YtifgngmebnjfkaaGreatDoorRows
import Ieee.Arith
import Derived.WalkKit
import Derived.WalkSpells
import Derived.WalkLawsBesides
import Derived.BigQuiet
import Derived.Lib.Hide
import Derived.Lib.TrailingZeros
import Derived.Lib.BitFns
import Derived.Lib.Strings
import Derived.Lib.Slices
import Derived.Lib.Small
import Derived.Lib.Walk
import Derived.Deep.OwnRows
import Derived.OwnWalk
import Derived.LoopTactic
import Derived.Outline
import Derived.IntWalk
import Derived.OrdersHeld
import Derived.StillTail
import Derived.Deep.RegionHeld3
import Derived.Maps.AppendAt
import Derived.Deep.DeepCutAuto
import Derived.Deep.QuietTactic
import Derived.ProofKit
import Derived.OpenShut
import Derived.ShutString
import Derived.ChangeOld
import Derived.Below
import Derived.Deep.DeepHandedRow
import Derived.Deep.Strs
import Derived.Lib.LaidTab
import Derived.Test.YtifgngmebnjfkaaGreatDoorZSum2
set_option linter.unusedVariables false
set_option linter.unusedSimpArgs false
section
namespace Go.Proofs.YtifgngmebnjfkaaGreatDoor
def wval : List Nat → Nat
  | [] => 0
  | x :: l => x + 4294967296 * wval l
def Words (l : List Nat) : Prop := ∀ x ∈ l, x < 4294967296
def lo (l : List Nat) (k : Nat) : Nat := wval (l.take k)
theorem wval_append (a b : List Nat) : wval (a ++ b) = wval a + 4294967296 ^ a.length * wval b := by
  induction a with
  | nil => simp [wval]
  | cons x a ih => simp only [List.cons_append, wval, ih, List.length_cons, Nat.pow_succ]; rw [Nat.mul_add, ← Nat.mul_assoc, Nat.mul_comm 4294967296 (4294967296 ^ a.length), Nat.add_assoc]
theorem wval_zeros (n : Nat) : wval (List.replicate n 0) = 0 := by
  induction n with
  | zero => rfl
  | succ n ih => simp [List.replicate_succ, wval, ih]
theorem wval_lt (l : List Nat) (h : Words l) : wval l < 4294967296 ^ l.length := by
  induction l with
  | nil => simp [wval]
  | cons x l ih =>
    have h1 := ih (fun y hy => h y (List.mem_cons_of_mem _ hy))
    have h2 := h x List.mem_cons_self
    simp only [wval, List.length_cons, Nat.pow_succ]
    omega
theorem lo_zero (l : List Nat) : lo l 0 = 0 := by simp [lo, wval]
theorem lo_all (l : List Nat) {k : Nat} (h : l.length ≤ k) : lo l k = wval l := by unfold lo; rw [List.take_of_length_le h]
theorem lo_succ (l : List Nat) (k : Nat) : lo l (k + 1) = lo l k + 4294967296 ^ k * l.getD k 0 := by
  unfold lo
  by_cases h : k < l.length
  · rw [List.take_succ_eq_append_getElem h, wval_append, List.length_take, Nat.min_eq_left (by omega), List.getD_eq_getElem?_getD, List.getElem?_eq_getElem h]
    simp [wval]
  · rw [List.take_of_length_le (by omega), List.take_of_length_le (by omega), List.getD_eq_getElem?_getD, List.getElem?_eq_none (by omega)]
    simp
theorem lo_set_same (l : List Nat) (k x : Nat) : lo (l.set k x) k = lo l k := by
  unfold lo; rw [List.take_set_of_le (Nat.le_refl _)]
theorem lo_set_ge (l : List Nat) (k j x : Nat) (h : k ≤ j) : lo (l.set j x) k = lo l k := by
  unfold lo; rw [List.take_set_of_le h]
theorem getD_set_eq (l : List Nat) (k x : Nat) (h : k < l.length) : (l.set k x).getD k 0 = x := by
  simp [List.getD_eq_getElem?_getD, h]
theorem lset_ne (l : List Nat) (k j x : Nat) (h : k ≠ j) : (l.set k x).getD j 0 = l.getD j 0 := by
  simp [List.getD_eq_getElem?_getD, h]
theorem lo_set_succ (l : List Nat) (k x : Nat) (h : k < l.length) : lo (l.set k x) (k + 1) = lo l k + 4294967296 ^ k * x := by
  rw [lo_succ, lo_set_same, getD_set_eq l k x h]
theorem Words.set {l : List Nat} (h : Words l) (k x : Nat) (hx : x < 4294967296) : Words (l.set k x) := by
  intro y hy
  rcases List.mem_or_eq_of_mem_set hy with h1 | h1
  · exact h y h1
  · omega
theorem Words.getD {l : List Nat} (h : Words l) (k : Nat) : l.getD k 0 < 4294967296 := by
  by_cases hk : k < l.length
  · rw [List.getD_eq_getElem?_getD, List.getElem?_eq_getElem hk]; exact h _ (List.getElem_mem hk)
  · rw [List.getD_eq_getElem?_getD, List.getElem?_eq_none (by omega)]; decide
theorem Words.take {l : List Nat} (h : Words l) (k : Nat) : Words (l.take k) := fun y hy => h y (List.mem_of_mem_take hy)
theorem Words.drop {l : List Nat} (h : Words l) (k : Nat) : Words (l.drop k) := fun y hy => h y (List.mem_of_mem_drop hy)
theorem Words.zeros (n : Nat) : Words (List.replicate n 0) := fun y hy => by rw [(List.mem_replicate.1 hy).2]; decide
theorem lo_lt (l : List Nat) (h : Words l) (k : Nat) : lo l k < 4294967296 ^ k := by
  have h1 := wval_lt _ (h.take k)
  refine Nat.lt_of_lt_of_le h1 (Nat.pow_le_pow_right (by decide) ?_)
  rw [List.length_take]; exact Nat.min_le_left _ _
theorem wval_split (l : List Nat) (k : Nat) : wval l = lo l k + 4294967296 ^ k * wval (l.drop k) := by
  by_cases h : k ≤ l.length
  · conv => lhs; rw [← List.take_append_drop k l]
    rw [wval_append, List.length_take, Nat.min_eq_left h]; rfl
  · rw [lo_all l (by omega), List.drop_eq_nil_of_le (by omega)]; simp [wval]
/-! the words of a number -/
def dg (n : Nat) : List Nat := if n = 0 then [] else n % 4294967296 :: dg (n / 4294967296)
termination_by n
decreasing_by omega
theorem dg_zero : dg 0 = [] := by unfold dg; rfl
theorem dg_pos {n : Nat} (h : n ≠ 0) : dg n = n % 4294967296 :: dg (n / 4294967296) := by rw [dg, if_neg h]
theorem wval_dg (n : Nat) : wval (dg n) = n := by
  induction n using Nat.strongRecOn with
  | ind n ih =>
    by_cases h : n = 0
    · subst h; rw [dg_zero]; rfl
    · rw [dg_pos h]; simp only [wval]; rw [ih _ (by omega)]; omega
theorem words_dg (n : Nat) : Words (dg n) := by
  induction n using Nat.strongRecOn with
  | ind n ih =>
    by_cases h : n = 0
    · subst h; rw [dg_zero]; intro x hx; simp at hx
    · rw [dg_pos h]
      intro x hx
      rcases List.mem_cons.1 hx with h1 | h1
      · omega
      · exact ih _ (by omega) x h1
theorem dg_eq_nil {n : Nat} (h : dg n = []) : n = 0 := by have := wval_dg n; rw [h] at this; exact this.symm
theorem dg_len_pos {n : Nat} (h : n ≠ 0) : 0 < (dg n).length := by rw [dg_pos h]; simp
theorem dg_of (l : List Nat) (hw : Words l) (hl : 0 < l.length → l.getD (l.length - 1) 0 ≠ 0) : l = dg (wval l) := by
  induction l with
  | nil => rw [show wval [] = 0 from rfl, dg_zero]
  | cons x l ih =>
    have hx := hw x List.mem_cons_self
    have hl' : 0 < l.length → l.getD (l.length - 1) 0 ≠ 0 := by
      intro h
      have := hl (by simp)
      simp only [List.length_cons, Nat.add_sub_cancel] at this
      obtain ⟨k, hk⟩ : ∃ k, l.length = k + 1 := ⟨l.length - 1, by omega⟩
      rw [hk] at this ⊢
      simpa using this
    have ih' := ih (fun y hy => hw y (List.mem_cons_of_mem _ hy)) hl'
    have hne : wval (x :: l) ≠ 0 := by
      simp only [wval]
      intro h0
      have hx0 : x = 0 := by omega
      have hv0 : wval l = 0 := by omega
      rw [hv0, dg_zero] at ih'
      subst ih'
      have := hl (by simp)
      simp at this
      exact this hx0
    rw [dg_pos hne]
    simp only [wval]
    rw [show (x + 4294967296 * wval l) % 4294967296 = x by omega, show (x + 4294967296 * wval l) / 4294967296 = wval l by omega, ← ih']
theorem dg_last {n : Nat} (h : n ≠ 0) : (dg n).getD ((dg n).length - 1) 0 ≠ 0 := by
  induction n using Nat.strongRecOn with
  | ind n ih =>
    rw [dg_pos h]
    by_cases h1 : n / 4294967296 = 0
    · rw [h1, dg_zero]; simp; omega
    · have := ih _ (by omega) h1
      obtain ⟨k, hk⟩ : ∃ k, (dg (n / 4294967296)).length = k + 1 := ⟨_, (Nat.succ_pred_eq_of_pos (dg_len_pos h1)).symm⟩
      rw [hk] at this
      simp only [List.length_cons, hk, Nat.add_sub_cancel] at this ⊢
      simpa using this
theorem dg_cut (l : List Nat) (hw : Words l) (j : Nat) (hj : j ≤ l.length) (hz : ∀ i, j ≤ i → l.getD i 0 = 0) (hn : 0 < j → l.getD (j - 1) 0 ≠ 0) : l.take j = dg (wval l) := by
  have hd : wval (l.drop j) = 0 := by
    have : ∀ (m : List Nat), (∀ i, m.getD i 0 = 0) → wval m = 0 := by
      intro m
      induction m with
      | nil => intro _; rfl
      | cons x m ih =>
        intro h
        have h0 := h 0
        have h1 := ih (fun i => by have := h (i + 1); simpa using this)
        simp at h0
        simp [wval, h0, h1]
    apply this
    intro i
    have := hz (j + i) (by omega)
    simp only [List.getD_eq_getElem?_getD, List.getElem?_drop] at this ⊢
    exact this
  have e : wval l = wval (l.take j) := by rw [wval_split l j, hd]; simp [lo]
  rw [e]
  apply dg_of _ (hw.take j)
  intro h
  rw [List.length_take, Nat.min_eq_left hj] at h ⊢
  have := hn h
  simp only [List.getD_eq_getElem?_getD, List.getElem?_take] at this ⊢
  rw [if_pos (by omega)]
  exact this
theorem dg_len_le {n k : Nat} (h : n < 4294967296 ^ k) : (dg n).length ≤ k := by
  induction k generalizing n with
  | zero => have : n = 0 := by simpa using h
            subst this; rw [dg_zero]; exact Nat.le_refl _
  | succ k ih =>
    by_cases h0 : n = 0
    · subst h0; rw [dg_zero]; exact Nat.zero_le _
    · rw [dg_pos h0, List.length_cons]
      have : n / 4294967296 < 4294967296 ^ k := by
        rw [Nat.div_lt_iff_lt_mul (by decide), ← Nat.pow_succ]; exact h
      have := ih this
      omega
theorem lt_of_dg (n : Nat) : n < 4294967296 ^ (dg n).length := by have := wval_lt _ (words_dg n); rwa [wval_dg] at this
theorem le_of_dg {n : Nat} (h : n ≠ 0) : 4294967296 ^ ((dg n).length - 1) ≤ n := by
  rcases Nat.lt_or_ge n (4294967296 ^ ((dg n).length - 1)) with h1 | h1
  · have := dg_len_le h1; have := dg_len_pos h; omega
  · exact h1
theorem dg_len_mono {a b : Nat} (h : a ≤ b) : (dg a).length ≤ (dg b).length := dg_len_le (Nat.lt_of_le_of_lt h (lt_of_dg b))
theorem lt_of_len {a b : Nat} (h : (dg a).length < (dg b).length) : a < b := by
  rcases Nat.lt_or_ge a b with h1 | h1
  · exact h1
  · have := dg_len_mono h1; omega
theorem lt_of_top {a b i : Nat} (hl : (dg a).length = (dg b).length) (he : ∀ j, i < j → (dg a).getD j 0 = (dg b).getD j 0) (hlt : (dg a).getD i 0 < (dg b).getD i 0) : a < b := by
  have hs : ∀ (x y : List Nat), x.length = y.length → (∀ j, i < j → x.getD j 0 = y.getD j 0) → x.drop (i + 1) = y.drop (i + 1) := by
    intro x y hxy hj
    apply List.ext_getElem?
    intro k
    rw [List.getElem?_drop, List.getElem?_drop]
    have := hj (i + 1 + k) (by omega)
    simp only [List.getD_eq_getElem?_getD] at this
    by_cases hk : i + 1 + k < x.length
    · rw [List.getElem?_eq_getElem hk, List.getElem?_eq_getElem (by omega)] at this ⊢
      simpa using this
    · rw [List.getElem?_eq_none (by omega), List.getElem?_eq_none (by omega)]
  have hd := hs _ _ hl he
  have ha := wval_split (dg a) (i + 1)
  have hb := wval_split (dg b) (i + 1)
  rw [wval_dg, lo_succ] at ha hb
  rw [hd] at ha
  have h1 := lo_lt (dg a) (words_dg a) i
  generalize lo (dg a) i = p at *
  generalize lo (dg b) i = q at *
  generalize wval (List.drop (i + 1) (dg b)) = r at *
  generalize (dg a).getD i 0 = x at *
  generalize (dg b).getD i 0 = y at *
  have h2 : 4294967296 ^ i * x + 4294967296 ^ i ≤ 4294967296 ^ i * y := by rw [← Nat.mul_succ]; exact Nat.mul_le_mul_left _ hlt
  generalize 4294967296 ^ i * x = X at *
  generalize 4294967296 ^ i * y = Y at *
  generalize 4294967296 ^ i = Z at *
  generalize 4294967296 ^ (i+1) * r = W at *
  omega
theorem eq_of_all {a b : Nat} (hl : (dg a).length = (dg b).length) (he : ∀ j, (dg a).getD j 0 = (dg b).getD j 0) : a = b := by
  have : dg a = dg b := by
    apply List.ext_getElem hl
    intro i h1 h2
    have := he i
    simpa [List.getD_eq_getElem?_getD, h1, h2] using this
  rw [← wval_dg a, ← wval_dg b, this]
/-! rounds of sums, differences, products, shifts -/
theorem plus_step {P lo0 la lb c a b : Nat} (h : lo0 + P * c = la + lb) : lo0 + P * ((a + c + b) % 4294967296) + P * 4294967296 * ((a + c + b) / 4294967296) = la + P * a + (lb + P * b) := by
  have e : (a + c + b) % 4294967296 + 4294967296 * ((a + c + b) / 4294967296) = a + c + b := Nat.mod_add_div _ _
  have e2 : P * ((a + c + b) % 4294967296) + P * 4294967296 * ((a + c + b) / 4294967296) = P * a + P * c + P * b := by
    rw [Nat.mul_assoc, ← Nat.mul_add, e, Nat.mul_add, Nat.mul_add]
  omega
theorem minus_less {P lo0 la lb br a b : Nat} (h : lo0 + lb = la + P * br) (hb : br + b ≤ 4294967296) : lo0 + P * (a + 4294967296 - (br + b)) + (lb + P * b) = la + P * a + P * 4294967296 * 1 := by
  have e : P * (a + 4294967296 - (br + b)) + (P * br + P * b) = P * a + P * 4294967296 := by
    rw [← Nat.mul_add, ← Nat.mul_add, ← Nat.mul_add]; congr 1; omega
  omega
theorem minus_more {P lo0 la lb br a b : Nat} (h : lo0 + lb = la + P * br) (hge : br + b ≤ a) : lo0 + P * (a - (br + b)) + (lb + P * b) = la + P * a + P * 4294967296 * 0 := by
  have e : P * (a - (br + b)) + (P * br + P * b) = P * a := by
    rw [← Nat.mul_add, ← Nat.mul_add]; congr 1; omega
  omega
theorem minus_end {n o a b br : Nat} (h : o + b = a + 4294967296 ^ n * br) (ho : o < 4294967296 ^ n) (hb : b ≤ a) : br = 0 ∧ o = a - b := by
  generalize 4294967296 ^ n = P at *
  rcases br with _ | br
  · simp at h; omega
  · exfalso
    have : P ≤ P * (br + 1) := Nat.le_mul_of_pos_right _ (by omega)
    omega
theorem word_mul {a b : Nat} (ha : a < 4294967296) (hb : b < 4294967296) : a * b ≤ 18446744065119617025 := Nat.le_trans (Nat.mul_le_mul (Nat.le_of_lt_succ (n := 4294967295) (by omega)) (Nat.le_of_lt_succ (n := 4294967295) (by omega))) (by decide)
theorem times_step {P Q lo1 lo0 c s x y z : Nat} (h : lo1 + P * c = lo0 + s) (t : Nat) (ht : t = x * y + z + c) (hs : Q = P * (x * y)) : lo1 + P * (t % 4294967296) + P * 4294967296 * (t / 4294967296) = lo0 + P * z + (s + Q) := by
  have e : t % 4294967296 + 4294967296 * (t / 4294967296) = t := Nat.mod_add_div _ _
  have e2 : P * (t % 4294967296) + P * 4294967296 * (t / 4294967296) = P * t := by
    rw [Nat.mul_assoc, ← Nat.mul_add, e]
  have e3 : P * t = P * (x * y) + P * z + P * c := by rw [ht, Nat.mul_add, Nat.mul_add]
  omega
theorem left_low {m s : Nat} (hs : s < 32) : (m * 2 ^ s) % 4294967296 = (m % 2 ^ (32 - s)) * 2 ^ s := by
  rw [show (4294967296 : Nat) = 2 ^ (32 - s) * 2 ^ s by rw [← Nat.pow_add, show 32 - s + s = 32 by omega], Nat.mul_mod_mul_right]
theorem left_high {m s : Nat} (hm : m < 4294967296) : (m * 2 ^ s) / 4294967296 < 2 ^ s := by
  rw [Nat.div_lt_iff_lt_mul (by decide), Nat.mul_comm (2 ^ s)]; exact Nat.mul_lt_mul_of_pos_right hm (Nat.two_pow_pos s)
theorem left_step {P lo0 x t A : Nat} (h : lo0 + P * x = A) : lo0 + P * (x + t % 4294967296) + P * 4294967296 * (t / 4294967296) = A + P * t := by
  have e : t % 4294967296 + 4294967296 * (t / 4294967296) = t := Nat.mod_add_div _ _
  have e2 : P * (t % 4294967296) + P * 4294967296 * (t / 4294967296) = P * t := by
    rw [Nat.mul_assoc, ← Nat.mul_add, e]
  rw [Nat.mul_add]; omega
theorem right_digit (D s i : Nat) (l : List Nat) (hl : D = wval l) (hw : Words l) (hs : s < 32) : (D / 2 ^ s) / 4294967296 ^ i % 4294967296 = (l.getD i 0 + 4294967296 * l.getD (i + 1) 0) / 2 ^ s % 4294967296 := by
  have e : D / 4294967296 ^ i = l.getD i 0 + 4294967296 * (l.getD (i + 1) 0 + 4294967296 * wval (l.drop (i + 2))) := by
    have hd : wval (l.drop i) = l.getD i 0 + 4294967296 * wval (l.drop (i + 1)) := by
      by_cases h : i < l.length
      · rw [List.drop_eq_getElem_cons h]; simp [wval, List.getD_eq_getElem?_getD, h]
      · rw [List.drop_eq_nil_of_le (by omega), List.drop_eq_nil_of_le (by omega)]; simp [wval, List.getD_eq_getElem?_getD, h]
    have hd2 : wval (l.drop (i + 1)) = l.getD (i + 1) 0 + 4294967296 * wval (l.drop (i + 2)) := by
      by_cases h : i + 1 < l.length
      · rw [List.drop_eq_getElem_cons h]; simp [wval, List.getD_eq_getElem?_getD, h]
      · rw [List.drop_eq_nil_of_le (by omega), List.drop_eq_nil_of_le (by omega)]; simp [wval, List.getD_eq_getElem?_getD, h]
    rw [hl, wval_split l i, Nat.add_mul_div_left _ _ (Nat.pow_pos (by decide)), Nat.div_eq_of_lt (lo_lt l hw i), hd, hd2]; omega
  rw [Nat.div_div_eq_div_mul, Nat.mul_comm (2 ^ s), ← Nat.div_div_eq_div_mul, e]
  generalize wval (l.drop (i + 2)) = r
  generalize l.getD i 0 = x
  generalize l.getD (i + 1) 0 = y
  have h2 : (4294967296 : Nat) = 2 ^ s * 2 ^ (32 - s) := by rw [← Nat.pow_add, show s + (32 - s) = 32 by omega]
  rw [show x + 4294967296 * (y + 4294967296 * r) = (x + 4294967296 * y) + 2 ^ s * (4294967296 * (2 ^ (32 - s) * r)) by
    rw [Nat.mul_add 4294967296 y, ← Nat.add_assoc]
    congr 1
    rw [Nat.mul_left_comm (2 ^ s), ← Nat.mul_assoc (2 ^ s), ← h2], Nat.add_mul_div_left _ _ (Nat.two_pow_pos s), Nat.add_mul_mod_self_left]
theorem mod_succ (X i : Nat) : X % 4294967296 ^ (i + 1) = X % 4294967296 ^ i + 4294967296 ^ i * (X / 4294967296 ^ i % 4294967296) := by
  rw [Nat.pow_succ, Nat.mod_mul]
/-! how two stand -/
def cmpN (a b : Nat) : Int := if a < b then -1 else if b < a then 1 else 0
theorem cmpN_lt {a b : Nat} (h : a < b) : cmpN a b = -1 := if_pos h
theorem cmpN_gt {a b : Nat} (h : b < a) : cmpN a b = 1 := by unfold cmpN; rw [if_neg (by omega), if_pos h]
theorem cmpN_eq (a : Nat) : cmpN a a = 0 := by unfold cmpN; rw [if_neg (by omega), if_neg (by omega)]
end Go.Proofs.YtifgngmebnjfkaaGreatDoor
end

section
namespace Go.Proofs.YtifgngmebnjfkaaGreatDoor
open Go.RowKit
def RowAt (w : World) (A : Option Addr) (l : List Nat) : Prop :=
  0 < l.length → ∃ g m f, A = some ⟨g, 0, none⟩ ∧ l.length ≤ m ∧ w.rowIs g 22 m f ∧ ∀ i, i < l.length → f i = .int .u32 ((l.getD i 0 : Nat) : Int)
def OwnW (w : World) (g : Nat) (l : List Nat) : Prop := w.rowIs g 22 l.length (fun i => .int .u32 ((l.getD i 0 : Nat) : Int))
def IntTy (w : World) (g : Nat) : Prop := ∃ b s, w.heap[g]? = some (.cells #[.bool b, s] 91 (0, 0))
def IntB (w : World) (g : Nat) (v : Int) : Prop :=
  ∃ A c, w.heap[g]? = some (.cells #[.bool (decide (v < 0)), .slice A (dg v.natAbs).length c] 91 (0, 0)) ∧ (dg v.natAbs).length ≤ c ∧ RowAt w A (dg v.natAbs)
theorem rowIs_ne {w : World} {g h : Nat} {m : Nat} {f : Nat → Value} (k : w.rowIs g 22 m f) (hz : IntTy w h) : g ≠ h := by
  rintro rfl
  obtain ⟨c, hb, _⟩ := k
  obtain ⟨b, s, hz⟩ := hz
  rw [hb] at hz
  injection hz with hz
  injection hz with _ ht
  exact absurd ht (by decide)
theorem RowAt.of_block {w w' : World} {A : Option Addr} {l : List Nat} (h : RowAt w A l) (hk : ∀ g m f, w.rowIs g 22 m f → w'.heap[g]? = w.heap[g]?) : RowAt w' A l := by
  intro hl
  obtain ⟨g, m, f, e, hm, hr, hf⟩ := h hl
  exact ⟨g, m, f, e, hm, hr.of_block (hk _ _ _ hr), hf⟩
theorem RowAt.of {w w' : World} {A : Option Addr} {l : List Nat} (h : RowAt w A l) (k : Within w w') : RowAt w' A l := h.of_block fun _ _ _ hr => k.block _ hr.lt
theorem RowAt.grown {w w' : World} {A : Option Addr} {l : List Nat} {z : Nat} (h : RowAt w A l) (hz : IntTy w z) (k : w.grownBy w' (some z)) : RowAt w' A l :=
  h.of_block fun _ _ _ hr => k.block _ hr.lt (fun e => rowIs_ne hr hz (by injection e))
theorem RowAt.setInt {w : World} {A : Option Addr} {l : List Nat} {z o : Nat} (h : RowAt w A l) (hz : IntTy w z) (u : Value) : RowAt (w.setCell ⟨z, o, none⟩ u) A l :=
  h.of_block fun _ _ _ hr => Below.heap_setCell w _ u _ (rowIs_ne hr hz)
theorem RowAt.take {w : World} {A : Option Addr} {l : List Nat} (h : RowAt w A l) (k : Nat) : RowAt w A (l.take k) := by
  intro hl
  have hl' : 0 < l.length := Nat.lt_of_lt_of_le hl (List.length_take_le' _ _)
  obtain ⟨g, m, f, e, hm, hr, hf⟩ := h hl'
  refine ⟨g, m, f, e, Nat.le_trans (List.length_take_le' _ _) hm, hr, fun i hi => ?_⟩
  have hi' : i < l.length := Nat.lt_of_lt_of_le hi (List.length_take_le' _ _)
  rw [hf i hi']
  have : i < k := Nat.lt_of_lt_of_le hi (List.length_take_le _ _)
  simp [List.getD_eq_getElem?_getD, List.getElem?_take, this]
theorem RowAt.nil {w : World} {A : Option Addr} : RowAt w A [] := fun h => absurd h (by simp)
theorem OwnW.at {w : World} {g : Nat} {l : List Nat} (h : OwnW w g l) : RowAt w (some ⟨g, 0, none⟩) l := fun _ => ⟨g, _, _, rfl, Nat.le_refl _, h, fun _ _ => rfl⟩
theorem OwnW.made (w : World) (n : Nat) : OwnW (w.alloc (.cells (madeCells #[.int .u32 0] n) 22)) w.heap.size (List.replicate n 0) := by
  have h := World.rowIs_made w (.int .u32 0) n 22
  unfold OwnW
  rw [List.length_replicate]
  refine h.congr fun i hi => ?_
  simp [List.getD_eq_getElem?_getD, hi]
theorem OwnW.set {w : World} {g : Nat} {l : List Nat} (h : OwnW w g l) (i x : Nat) (hi : i < l.length) : OwnW (w.setCell ⟨g, i, none⟩ (.int .u32 (x : Int))) g (l.set i x) := by
  have k := World.rowIs.set h i (.int .u32 (x : Int))
  unfold OwnW
  rw [List.length_set]
  refine k.congr fun j hj => ?_
  show (if j = i then _ else _) = _
  by_cases e : j = i
  · subst e; rw [if_pos rfl, getD_set_eq _ _ _ hi]
  · rw [if_neg e, lset_ne _ _ _ _ (fun h => e h.symm)]
theorem OwnW.cell {w : World} {g : Nat} {l : List Nat} (h : OwnW w g l) {i : Nat} (hi : i < l.length) : w.cell? ⟨g, i, none⟩ = some (.int .u32 ((l.getD i 0 : Nat) : Int)) := World.rowIs.cell h hi
theorem OwnW.frozen {w : World} {g : Nat} {l : List Nat} (h : OwnW w g l) (i : Nat) : w.frozen? ⟨g, i, none⟩ = false := World.rowIs.frozen h i
theorem OwnW.of_block {w w' : World} {g : Nat} {l : List Nat} (h : OwnW w g l) (e : w'.heap[g]? = w.heap[g]?) : OwnW w' g l := World.rowIs.of_block h e
theorem OwnW.alloc {w : World} {g : Nat} {l : List Nat} (h : OwnW w g l) (o : Obj) : OwnW (w.alloc o) g l := World.rowIs.alloc h o
theorem OwnW.drew {w : World} {g : Nat} {l : List Nat} (h : OwnW w g l) : OwnW w.drew g l := h
theorem OwnW.lt {w : World} {g : Nat} {l : List Nat} (h : OwnW w g l) : g < w.heap.size := World.rowIs.lt h
theorem RowAt.cell {w : World} {A : Option Addr} {l : List Nat} (h : RowAt w A l) {i : Nat} (hi : i < l.length) : ∃ g, A = some ⟨g, 0, none⟩ ∧ g < w.heap.size ∧ w.cell? ⟨g, i, none⟩ = some (.int .u32 ((l.getD i 0 : Nat) : Int)) := by
  obtain ⟨g, m, f, e, hm, hr, hf⟩ := h (by omega)
  exact ⟨g, e, hr.lt, by rw [hr.cell (by omega), hf i hi]⟩
theorem IntB.ty {w : World} {g : Nat} {v : Int} (h : IntB w g v) : IntTy w g := by
  obtain ⟨A, c, hb, _⟩ := h
  exact ⟨_, _, hb⟩
theorem IntB.lt {w : World} {g : Nat} {v : Int} (h : IntB w g v) : g < w.heap.size := by
  obtain ⟨A, c, hb, _⟩ := h
  obtain ⟨hlt, _⟩ := Array.getElem?_eq_some_iff.1 hb
  exact hlt
theorem IntTy.lt {w : World} {g : Nat} (h : IntTy w g) : g < w.heap.size := by
  obtain ⟨A, c, hb⟩ := h
  obtain ⟨hlt, _⟩ := Array.getElem?_eq_some_iff.1 hb
  exact hlt
theorem IntTy.of {w w' : World} {g : Nat} (h : IntTy w g) (k : Within w w') : IntTy w' g := by
  have := h.lt
  obtain ⟨b, s, hb⟩ := h
  exact ⟨b, s, (k.block _ this).trans hb⟩
theorem IntB.of {w w' : World} {g : Nat} {v : Int} (h : IntB w g v) (k : Within w w') : IntB w' g v := by
  have hl := h.lt
  obtain ⟨A, c, hb, hc, hr⟩ := h
  exact ⟨A, c, (k.block _ hl).trans hb, hc, hr.of k⟩
theorem IntB.grown {w w' : World} {g z : Nat} {v : Int} (h : IntB w g v) (hz : IntTy w z) (hne : g ≠ z) (k : w.grownBy w' (some z)) : IntB w' g v := by
  have hl := h.lt
  obtain ⟨A, c, hb, hc, hr⟩ := h
  exact ⟨A, c, (k.block _ hl (fun e => hne (by injection e))).trans hb, hc, hr.grown hz k⟩
theorem IntB.cells {w : World} {g : Nat} {v : Int} (h : IntB w g v) : ∃ A c, w.cell? ⟨g, 0, none⟩ = some (.bool (decide (v < 0))) ∧ w.cell? ⟨g, 1, none⟩ = some (.slice A (dg v.natAbs).length c) ∧ (dg v.natAbs).length ≤ c ∧ RowAt w A (dg v.natAbs) := by
  obtain ⟨A, c, hb, hc, hr⟩ := h
  exact ⟨A, c, by simp [World.cell?, hb], by simp [World.cell?, hb], hc, hr⟩
theorem IntTy.frozen {w : World} {g : Nat} (h : IntTy w g) (i : Nat) : w.frozen? ⟨g, i, none⟩ = false := by
  obtain ⟨b, s, hb⟩ := h
  simp [World.frozen?, hb]
theorem IntTy.cells {w : World} {g : Nat} (h : IntTy w g) : ∃ b s, w.cell? ⟨g, 0, none⟩ = some (.bool b) ∧ w.cell? ⟨g, 1, none⟩ = some s := by
  obtain ⟨b, s, hb⟩ := h
  exact ⟨b, s, by simp [World.cell?, hb], by simp [World.cell?, hb]⟩
theorem IntB.made (w : World) : IntB (w.alloc (.cells #[.bool false, .slice none 0 0] 91)) w.heap.size 0 :=
  ⟨none, 0, by rw [show (dg (0 : Int).natAbs) = [] from dg_zero]; exact heap_alloc_new w _, by rw [show (dg (0 : Int).natAbs) = [] from dg_zero]; exact Nat.le_refl _, by rw [show (dg (0 : Int).natAbs) = [] from dg_zero]; exact RowAt.nil⟩
theorem Within.grown {W w w' : World} {z : Nat} (h : Within W w) (k : w.grownBy w' (some z)) (hz : W.heap.size ≤ z) : Within W w' :=
  Below.grown h k h.size (fun _ e => by injection e with e; omega)
theorem grown_trans {a b c : World} {z : Nat} (h : a.grownBy b (some z)) (k : b.grownBy c (some z)) : a.grownBy c (some z) :=
  ⟨k.os.trans h.os, k.tape.trans h.tape, k.output.trans h.output, Nat.le_trans h.size k.size, fun i hi hne => (k.block i (Nat.lt_of_lt_of_le hi h.size) hne).trans (h.block i hi hne)⟩
theorem grown_within {a b : World} (z : Nat) (h : Within a b) : a.grownBy b (some z) := ⟨h.os, h.tape, h.output, h.size, fun i hi _ => h.block i hi⟩
theorem grown_set {a w : World} {z o : Nat} (h : a.grownBy w (some z)) (u : Value) : a.grownBy (w.setCell ⟨z, o, none⟩ u) (some z) :=
  ⟨h.os, h.tape, h.output, by simpa [World.setCell] using h.size, fun i hi hne => (Below.heap_setCell w _ u i (fun e => hne (by subst e; rfl))).trans (h.block i hi hne)⟩
def RetW (W : World) (n : Nat) (e : Ending) (w' : World) : Prop := ∃ A c, e = .returned (.slice A (dg n).length c) ∧ (dg n).length ≤ c ∧ RowAt w' A (dg n) ∧ Within W w'
def PutI (W : World) (z : Nat) (v : Int) (e : Ending) (w' : World) : Prop := e = .returned (.pointer (some ⟨z, 0, none⟩)) ∧ IntB w' z v ∧ W.grownBy w' (some z)
def Small (n : Nat) : Prop := (dg n).length ≤ 1000000
theorem Small.le {a b : Nat} (h : Small b) (k : a ≤ b) : Small a := Nat.le_trans (dg_len_mono k) h
end Go.Proofs.YtifgngmebnjfkaaGreatDoor
end

section
namespace Go.Proofs.YtifgngmebnjfkaaGreatDoor
open Go.RowKit
theorem lastWord (l : List Nat) : ∃ j, j ≤ l.length ∧ (∀ i, j ≤ i → l.getD i 0 = 0) ∧ (0 < j → l.getD (j - 1) 0 ≠ 0) := by
  have : ∀ n, n ≤ l.length → (∀ i, n ≤ i → l.getD i 0 = 0) → ∃ j, j ≤ l.length ∧ (∀ i, j ≤ i → l.getD i 0 = 0) ∧ (0 < j → l.getD (j - 1) 0 ≠ 0) := by
    intro n
    induction n with
    | zero => intro h1 h2; exact ⟨0, h1, h2, fun h => absurd h (by omega)⟩
    | succ n ih =>
      intro h1 h2
      by_cases h : l.getD n 0 = 0
      · exact ih (by omega) (fun i hi => by
          rcases Nat.eq_or_lt_of_le hi with e | e
          · subst e; exact h
          · exact h2 i e)
      · exact ⟨n + 1, h1, h2, fun _ => by rw [Nat.add_sub_cancel]; exact h⟩
  exact this l.length (Nat.le_refl _) (fun i hi => by simp [List.getD_eq_getElem?_getD, hi])
def slen : Value → Nat | .slice _ n _ => n | _ => 0
def CutRel (l : List Nat) (A : Option Addr) (c : Nat) (m : Value) : Prop := ∃ j : Nat, j ≤ l.length ∧ m = .slice A j c ∧ ∀ i, j ≤ i → l.getD i 0 = 0
set_option maxRecDepth 100000 in
set_option maxHeartbeats 600000 in
theorem Bcut (l : List Nat) (A : Option Addr) (c : Nat) (hw : Words l) (hc : l.length ≤ c) (hl : l.length ≤ 2000000) (w : World) (hr : RowAt w A l) :
    Calls Tryz.prog 130 #[.slice A l.length c] w fun e w' => e = .returned (.slice A (dg (wval l)).length c) ∧ w = w' := by
  have HW := Lib.hid hw; have HR := Lib.hid hr; clear hw hr
  go_enter Tryz.func130, Tryz.ntmps130
  go_wp2
  go_loop [0] (fun m => CutRel l A c m) (fun m => slen m)
  case atStart => exact ⟨l.length, Nat.le_refl _, rfl, fun i hi => by simp [List.getD_eq_getElem?_getD, hi]⟩
  case round =>
    obtain ⟨j, hj, rfl, hz⟩ := hrel
    have HZ := Lib.hid hz; clear hz
    rcases Nat.eq_zero_or_pos j with h0 | h0
    · subst h0
      go_wp2
      go_ret
      refine ⟨?_, rfl⟩
      have := dg_cut l HW.out 0 (Nat.zero_le _) HZ.out (fun h => absurd h (by omega))
      rw [← this]; simp
    · obtain ⟨g, rfl, _, hcell⟩ := (HR.out.cell (i := j - 1) (by omega))
      obtain ⟨i, rfl⟩ : ∃ i, j = i + 1 := ⟨j - 1, by omega⟩
      rw [Nat.add_sub_cancel] at hcell
      have g1 : IntKind.i64.wrap ((↑(i + 1) : Int) - 1) = (i : Int) := by rw [IntWalk.i64_in _ (by omega)]; omega
      obtain ⟨x, hxe⟩ : ∃ x, x = l.getD i 0 := ⟨_, rfl⟩
      rw [← hxe] at hcell
      have HXE := Lib.hid hxe; clear hxe
      rcases x with _ | x
      · go_wp2
        go_round
        case rel => exact ⟨i, by omega, rfl, fun k hk => by
          rcases Nat.eq_or_lt_of_le hk with h | h
          · subst h; exact HXE.out.symm
          · exact HZ.out k h⟩
        case measure => simp [slen]
      · have hx' : (((x + 1 : Nat) : Int) == 0) = false := beq_eq_false_iff_ne.2 (by omega)
        have hx2 : ((x : Int) + 1 == 0) = false := beq_eq_false_iff_ne.2 (by omega)
        go_wp2
        go_ret
        refine ⟨?_, rfl⟩
        have := dg_cut l HW.out (i + 1) hj HZ.out (fun _ => by rw [Nat.add_sub_cancel, ← HXE.out]; omega)
        rw [← this]; simp; omega
theorem put_heap {w : World} {z : Nat} (h : IntTy w z) (b : Bool) (s : Value) : ((w.setCell ⟨z, 1, none⟩ s).setCell ⟨z, 0, none⟩ (.bool b)).heap[z]? = some (.cells #[.bool b, s] 91 (0, 0)) := by
  obtain ⟨b', s', hb⟩ := h
  simp [World.setCell, Array.getElem?_modify, hb]
theorem put_is {w : World} {z : Nat} (h : IntTy w z) (A : Option Addr) (c : Nat) (v : Int) (hc : (dg v.natAbs).length ≤ c) (hr : RowAt w A (dg v.natAbs)) :
    PutI w z v (.returned (.pointer (some ⟨z, 0, none⟩))) ((w.setCell ⟨z, 1, none⟩ (.slice A (dg v.natAbs).length c)).setCell ⟨z, 0, none⟩ (.bool (decide (v < 0)))) := by
  have g1 : w.grownBy (w.setCell ⟨z, 1, none⟩ (.slice A (dg v.natAbs).length c)) (some z) := grown_set (World.grownBy.refl _ _) _
  refine ⟨rfl, ⟨A, c, put_heap h _ _, hc, ?_⟩, grown_set g1 _⟩
  have := hr.grown h g1
  refine RowAt.setInt this ?_ _
  obtain ⟨b', s', hb⟩ := h
  exact ⟨b', (.slice A (dg v.natAbs).length c), by simp [World.setCell, Array.getElem?_modify, hb]⟩
def sgv (neg : Bool) (n : Nat) : Int := if neg then -(n : Int) else n
theorem sgv_abs (neg : Bool) (n : Nat) : (sgv neg n).natAbs = n := by unfold sgv; split <;> omega
theorem sgv_neg (neg : Bool) (n : Nat) : decide (sgv neg n < 0) = (neg && decide (0 < n)) := by
  unfold sgv; cases neg
  · simp
  · simp
set_option maxRecDepth 100000 in
set_option maxHeartbeats 600000 in
theorem Bput0 (z : Nat) (neg : Bool) (l : List Nat) (A : Option Addr) (c : Nat) (b0 : Bool) (s0 : Value) (n : Nat) (B : Bool) (w : World)
    (c0 : w.cell? ⟨z, 0, none⟩ = some (.bool b0)) (c1 : w.cell? ⟨z, 1, none⟩ = some s0) (f0 : w.frozen? ⟨z, 0, none⟩ = false) (f1 : w.frozen? ⟨z, 1, none⟩ = false)
    (hB : (neg && decide (0 < n)) = B)
    (CT : Hid (∀ w', w = w' → Calls Tryz.prog 130 #[.slice A l.length c] w' fun e w'' => e = .returned (.slice A n c) ∧ w' = w'')) :
    Calls Tryz.prog 101 #[.pointer (some ⟨z, 0, none⟩), .bool neg, .slice A l.length c] w fun e w' => e = .returned (.pointer (some ⟨z, 0, none⟩)) ∧ (w.setCell ⟨z, 1, none⟩ (.slice A n c)).setCell ⟨z, 0, none⟩ (.bool B) = w' := by
  have hn : neg = true → ∀ k : Nat, (decide ((k : Int) > 0)) = decide (0 < k) := fun _ k => by simp
  cases neg
  · simp only [Bool.false_and] at hB
    subst hB
    go_enter Tryz.func101, Tryz.ntmps101
    go_wp2_with fail
    refine (CT.out _ rfl).mono ?_; rintro e1 w1 ⟨rfl, rfl⟩
    go_wp2
    go_ret
    exact ⟨rfl, rfl⟩
  · simp only [Bool.true_and] at hB
    subst hB
    go_enter Tryz.func101, Tryz.ntmps101
    go_wp2_with fail
    refine (CT.out _ rfl).mono ?_; rintro e1 w1 ⟨rfl, rfl⟩
    go_wp2
    go_ret
    exact ⟨rfl, rfl⟩
theorem Bput (z : Nat) (neg : Bool) (l : List Nat) (A : Option Addr) (c : Nat) (hw : Words l) (hc : l.length ≤ c) (hl : l.length ≤ 2000000) (w : World) (hr : RowAt w A l) (hz : IntTy w z) :
    Calls Tryz.prog 101 #[.pointer (some ⟨z, 0, none⟩), .bool neg, .slice A l.length c] w (PutI w z (sgv neg (wval l))) := by
  obtain ⟨b0, s0, c0, c1⟩ := hz.cells
  have hle : (dg (wval l)).length ≤ l.length := dg_len_le (wval_lt l hw)
  refine (Bput0 z neg l A c b0 s0 (dg (wval l)).length (decide (sgv neg (wval l) < 0)) w c0 c1 (hz.frozen 0) (hz.frozen 1) ?_ (Lib.hid fun w' e => e ▸ Bcut l A c hw hc hl w hr)).mono ?_
  · rw [sgv_neg]
    congr 1
    rw [decide_eq_decide]
    constructor
    · intro h
      rcases Nat.eq_zero_or_pos (wval l) with h0 | h0
      · rw [h0, dg_zero] at h; simp at h
      · exact h0
    · intro h; exact dg_len_pos (by omega)
  · rintro e w' ⟨rfl, rfl⟩
    have := put_is hz A c (sgv neg (wval l)) (by rw [sgv_abs]; omega) (by
      rw [sgv_abs]
      intro hpos
      have hne : wval l ≠ 0 := fun h => by rw [h, dg_zero] at hpos; simp at hpos
      obtain ⟨j, hj, hjj⟩ : ∃ j, j ≤ l.length ∧ l.take j = dg (wval l) := by
        obtain ⟨j, hj, h1, h2⟩ : ∃ j, j ≤ l.length ∧ (∀ i, j ≤ i → l.getD i 0 = 0) ∧ (0 < j → l.getD (j - 1) 0 ≠ 0) := lastWord l
        exact ⟨j, hj, dg_cut l hw j hj h1 h2⟩
      rw [← hjj] at hpos ⊢
      exact hr.take j hpos)
    rw [sgv_abs] at this
    exact this
end Go.Proofs.YtifgngmebnjfkaaGreatDoor
end

section
namespace Go.Proofs.YtifgngmebnjfkaaGreatDoor
section
variable {P : Program} {ops : Array Oper} {Q : Exit → Act → World → Prop} {md : Region.Mode} {S : World → Prop}
def OnlyN (Q : Exit → Act → World → Prop) : Exit → Act → World → Prop
  | .normal, a, w => Q .normal a w
  | _, _, _ => False
theorem OnlyN.imp {Q : Exit → Act → World → Prop} : ∀ (e : Exit) (a : Act) (w : World), OnlyN Q e a w → Q e a w := fun e a w h => by
  cases e <;> first | exact h | exact (h : False).elim
def wpAnyG (P : Program) (md : Region.Mode) (ops : Array Oper) (Q : Exit → Act → World → Prop) (S : World → Prop) (p : Nat) : Nat → Array Bool → Act → World → Prop
  | 0, listed, a, w => Region.ready md ops listed = [] ∧ Q .normal a w
  | fuel + 1, listed, a, w =>
    (Region.ready md ops listed = [] → Q .normal a w) ∧
    ∀ i ∈ Region.ready md ops listed, wpOp P ops Q i (fun a' w' => (i < p → S w') ∧ wpAnyG P md ops Q S p fuel (listed.setIfInBounds i true) a' w') a w
theorem wpAny_of_G {p : Nat} : ∀ (fuel : Nat) (listed : Array Bool) (a : Act) (w : World), wpAnyG P md ops Q S p fuel listed a w → wpAny P md ops Q fuel listed a w
  | 0, _, _, _, h => h
  | fuel + 1, _, _, _, h => ⟨h.1, fun i hi => wpOp_mono (fun _ _ h' => wpAny_of_G fuel _ _ _ h'.2) (h.2 i hi)⟩
theorem wpAnyG_first {p i : Nat} {oi : Oper} {v : Value} (hi : ops[i]? = some oi) (hsel : ∀ (j : Nat) (o : Oper) cs b, ops[j]? = some o → o.op ≠ .select cs b)
    (hQ : ∀ c a w, Q (.panic c) (a.put oi.dst v) w → Q (.panic c) a w) (hs : Region.sinkB md ops p = true) (hc : Region.chainB md ops p = true) (hn : p < ops.size) (hip : i < p) :
    ∀ (fuel : Nat) (listed : Array Bool) (a : Act) (w : World), HeadInv md ops p listed →
      (∀ j oj, ops[j]? = some oj → j ≠ i → listed.getD j true = false → (∀ e ∈ oj.after, Region.binds md e = true → e.on ≠ i) → oi.apart ops oj = true) →
      i ∈ Region.ready md ops listed → YieldsIf P ops S oi v a → S w →
      wpAnyG P md ops Q S p fuel (listed.setIfInBounds i true) (a.put oi.dst v) w → wpAnyG P md ops Q S p (fuel + 1) listed a w := by
  intro fuel
  induction fuel with
  | zero =>
    intro listed a w _ _ hr hy hS H
    refine ⟨fun h => (by rw [h] at hr; cases hr), fun j hj => ?_⟩
    by_cases hji : j = i
    · subst hji; exact hy.wpOp hi hS ⟨fun _ => hS, H⟩
    · have := ready_mono hj hji
      rw [H.1] at this
      cases this
  | succ fuel ih =>
    intro listed a w inv hfree hr hy hS H
    have hun := (mem_ready.1 hr).1
    refine ⟨fun h => (by rw [h] at hr; cases hr), fun j hj => ?_⟩
    have hjp : j < p := by
      rcases Nat.lt_or_ge j p with h | h
      · exact h
      · exact absurd hj (tail_waits hs hc hn inv _ i rfl hip hun j h)
    by_cases hji : j = i
    · subst hji; exact hy.wpOp hi hS ⟨fun _ => hS, H⟩
    · have h1 := H.2 j (ready_mono hj hji)
      obtain ⟨hjun, oj, hoj, hall⟩ := mem_ready.1 hj
      have hnot : ∀ e ∈ oj.after, Region.binds md e = true → e.on ≠ i := fun e he hb heq => by
        have h1 := hall e he hb
        rw [heq, getD_both hun] at h1
        cases h1
      have h2 := wpOp_putIf hoj (hfree j oj hoj hji hjun hnot) (fun cs b => hsel i oi cs b hi) (fun cs b => hsel j oj cs b hoj) hQ hy h1
      have hfree' : ∀ k ok, ops[k]? = some ok → k ≠ i → (listed.setIfInBounds j true).getD k true = false →
          (∀ e ∈ ok.after, Region.binds md e = true → e.on ≠ i) → oi.apart ops ok = true := fun k ok hk hki hun hno => by
        refine hfree k ok hk hki ?_ hno
        by_cases hjk : j = k
        · subst hjk; exact hjun
        · rw [getD_set_ne true hjk] at hun; exact hun
      refine wpOp_mono (fun a' w' h3 => ⟨fun _ => h3.2.1 hjp, ih (listed.setIfInBounds j true) a' w' (inv.set hj hjp) hfree' (ready_mono hr (Ne.symm hji)) h3.1 (h3.2.1 hjp) ?_⟩) h2
      rw [Array.setIfInBounds_comm _ _ hji]
      exact h3.2.2
def schedB (md : Region.Mode) (ops : Array Oper) (p : Nat) : List (Nat × Bool) → Array Bool → Bool
  | [], listed => (Region.ready md ops listed).isEmpty
  | (k, true) :: r, listed => (Region.ready md ops listed).contains k && Region.free md ops listed k && decide (k < p) && schedB md ops p r (listed.setIfInBounds k true)
  | (k, false) :: r, listed => decide (Region.ready md ops listed = [k]) && (decide (k < p) || r.all fun x => !x.2) && schedB md ops p r (listed.setIfInBounds k true)
def firmUpon (w : World) (v : Value) : Result Next → Prop
  | .ok (.value u) w' => w' = w ∧ u = v
  | _ => False
def firmAt (P : Program) (o : Oper) (a : Act) (w : World) (v : Value) : Prop := firmUpon w v ((execOp a.eval o).run P w)
theorem firmAt.run {o : Oper} {a : Act} {w : World} {v : Value} (h : firmAt P o a w v) : (execOp a.eval o).run P w = .ok (.value v) w := by
  unfold firmAt at h
  generalize (execOp a.eval o).run P w = r at *
  cases r with
  | ok n w' =>
    cases n <;> simp only [firmUpon] at h
    obtain ⟨rfl, rfl⟩ := h
    rfl
  | halt x w' => simp only [firmUpon] at h
def wpSched (P : Program) (ops : Array Oper) (Q : Exit → Act → World → Prop) (S : World → Prop) (p : Nat) : List (Nat × Bool) → Act → World → Prop
  | [], a, w => Q .normal a w
  | (k, true) :: r, a, w => S w ∧ ∃ o v, ops[k]? = some o ∧ YieldsIf P ops S o v a ∧ wpSched P ops Q S p r (a.put o.dst v) w
  | (k, false) :: r, a, w => wpOp P ops Q k (fun a' w' => (k < p → S w') ∧ wpSched P ops Q S p r a' w') a w
theorem wpAnyG_sched {p : Nat} (hsel : Region.noSelect ops = true) (hQ : ∀ c a d v w, Q (.panic c) (a.put d v) w → Q (.panic c) a w) (hs : Region.sinkB md ops p = true) (hc : Region.chainB md ops p = true) (hn : p < ops.size) :
    ∀ (ord : List (Nat × Bool)) (listed : Array Bool) (a : Act) (w : World), (HeadInv md ops p listed ∨ (ord.all fun x => !x.2) = true) → schedB md ops p ord listed = true → wpSched P ops Q S p ord a w → wpAnyG P md ops Q S p ord.length listed a w
  | [], listed, a, w, _, hB, h => ⟨by simpa [schedB] using hB, h⟩
  | (k, true) :: r, listed, a, w, inv, hB, h => by
    simp only [schedB, Bool.and_eq_true, decide_eq_true_eq] at hB
    obtain ⟨⟨⟨hr, hf⟩, hkp⟩, hB'⟩ := hB
    obtain ⟨hS, o, v, ho, hy, hK⟩ := h
    have inv' : HeadInv md ops p listed := by
      rcases inv with h | h
      · exact h
      · simp at h
    have hr' : k ∈ Region.ready md ops listed := by simpa using hr
    exact wpAnyG_first ho (Region.noSelect_spec hsel) (fun c a w => hQ c a _ _ w) hs hc hn hkp r.length listed a w inv' (Region.free_spec ho hf) hr' hy hS
      (wpAnyG_sched hsel hQ hs hc hn r _ _ _ (.inl (inv'.set hr' hkp)) hB' hK)
  | (k, false) :: r, listed, a, w, inv, hB, h => by
    simp only [schedB, Bool.and_eq_true, decide_eq_true_eq, Bool.or_eq_true] at hB
    obtain ⟨⟨hr, hd⟩, hB'⟩ := hB
    refine ⟨fun h0 => (by rw [hr] at h0; cases h0), fun i hi => ?_⟩
    have hi' : k ∈ Region.ready md ops listed := by rw [hr]; exact List.mem_singleton.2 rfl
    rw [hr] at hi
    have hik : i = k := by simpa using hi
    subst hik
    refine wpOp_mono (fun a' w' h' => ⟨h'.1, wpAnyG_sched hsel hQ hs hc hn r _ _ _ ?_ hB' h'.2⟩) h
    rcases inv with inv | inv
    · rcases hd with hd | hd
      · exact .inl (inv.set hi' hd)
      · exact .inr hd
    · right
      simp only [List.all_cons, Bool.and_eq_true] at inv
      exact inv.2
def schedAllB (ops : Array Oper) (p : Nat) (ord : List (Nat × Bool)) : Bool :=
  Region.noSelect ops && decide (p < ops.size) && Region.sinkB .any ops p && Region.chainB .any ops p && decide (ord.length = ops.size) && schedB .any ops p ord (Array.replicate ops.size false)
theorem wp_region_sched {id : Nat} {a : Act} {w : World} (S : World → Prop) (p : Nat) (ord : List (Nat × Bool)) (hm : P.follows .mixedOrders = true) (hB : schedAllB ops p ord = true) (hS : S w.drew)
    (h : S w.drew → wpSched P ops (OnlyN Q) S p ord a w.drew) : (Code.region id ops true).wp P Q a w := by
  simp only [schedAllB, Bool.and_eq_true, decide_eq_true_eq] at hB
  obtain ⟨⟨⟨⟨⟨hsel, hn⟩, hs⟩, hc⟩, hlen⟩, hsc⟩ := hB
  have inv0 : HeadInv .any ops p (Array.replicate ops.size false) :=
    ⟨by simp, fun j oj _ hl => (by rw [getD_replicate_false] at hl; cases hl), fun t _ ht => getD_in (by simpa using ht) (getD_replicate_false _ _)⟩
  have H := wpAnyG_sched (md := .any) (S := S) hsel (Q := OnlyN Q) (fun c a d v w h => h) hs hc hn ord _ a w.drew (.inl inv0) hsc (h hS)
  have H2 := wpAny_of_G _ _ _ _ H
  rw [hlen] at H2
  exact Code.wp_mono OnlyN.imp (wp_region_any hm H2)
variable {p k : Nat} {r : List (Nat × Bool)} {a : Act} {w : World}
theorem sched_nil (h : Q .normal a w) : wpSched P ops (OnlyN Q) S p [] a w := h
theorem sched_firm {o : Oper} {v : Value} (ho : ops.toList[k]? = some o) (hg : o.guard = none) (hS : S w) (h1 : ∀ w, S w → firmAt P o a w v) (h2 : wpSched P ops (OnlyN Q) S p r (a.put o.dst v) w) : wpSched P ops (OnlyN Q) S p ((k, true) :: r) a w :=
  ⟨hS, o, v, (Array.getElem?_toList ▸ ho), .inl ⟨by simp [Region.wanted, hg], fun w hw => (h1 w hw).run⟩, h2⟩
theorem sched_one {o : Oper} (ho : ops.toList[k]? = some o) (hg : o.guard = none) (h : ∀ K : Act → World → Prop, (∀ a' w', (k < p → S w') → wpSched P ops (OnlyN Q) S p r a' w' → K a' w') → o.wp P a w K (OnlyN Q)) : wpSched P ops (OnlyN Q) S p ((k, false) :: r) a w := by
  show wpOp P ops (OnlyN Q) k _ a w
  unfold wpOp
  rw [Array.getElem?_toList] at ho
  simp only [ho]
  rw [if_pos (by simp [Region.wanted, hg])]
  exact .inl (h _ fun a' w' hS hr => ⟨hS, hr⟩)
/-! schedules with branches: two operations that may come up in either order -/
inductive Sch where
  | nil : Sch
  | firm (k : Nat) (r : Sch) : Sch
  | one (k : Nat) (r : Sch) : Sch
  | two (i : Nat) (r : Sch) (j : Nat) (s : Sch) : Sch
def Sch.late : Sch → Bool
  | .nil => true
  | .one _ r => r.late
  | _ => false
def Sch.long : Sch → Nat → Bool
  | .nil, n => decide (n = 0)
  | .firm _ r, n => decide (0 < n) && r.long (n - 1)
  | .one _ r, n => decide (0 < n) && r.long (n - 1)
  | .two _ r _ s, n => decide (0 < n) && r.long (n - 1) && s.long (n - 1)
def Sch.ok (md : Region.Mode) (ops : Array Oper) (p : Nat) : Sch → Array Bool → Bool
  | .nil, listed => (Region.ready md ops listed).isEmpty
  | .firm k r, listed => (Region.ready md ops listed).contains k && Region.free md ops listed k && decide (k < p) && r.ok md ops p (listed.setIfInBounds k true)
  | .one k r, listed => decide (Region.ready md ops listed = [k]) && (decide (k < p) || r.late) && r.ok md ops p (listed.setIfInBounds k true)
  | .two i r j s, listed => decide (Region.ready md ops listed = [i, j]) && decide (i < p) && decide (j < p) && r.ok md ops p (listed.setIfInBounds i true) && s.ok md ops p (listed.setIfInBounds j true)
def wpSch (P : Program) (ops : Array Oper) (Q : Exit → Act → World → Prop) (S : World → Prop) (p : Nat) : Sch → Act → World → Prop
  | .nil, a, w => Q .normal a w
  | .firm k r, a, w => S w ∧ ∃ o v, ops[k]? = some o ∧ YieldsIf P ops S o v a ∧ wpSch P ops Q S p r (a.put o.dst v) w
  | .one k r, a, w => wpOp P ops Q k (fun a' w' => (k < p → S w') ∧ wpSch P ops Q S p r a' w') a w
  | .two i r j s, a, w => wpOp P ops Q i (fun a' w' => S w' ∧ wpSch P ops Q S p r a' w') a w ∧ wpOp P ops Q j (fun a' w' => S w' ∧ wpSch P ops Q S p s a' w') a w
theorem wpAnyG_sch {p : Nat} (hsel : Region.noSelect ops = true) (hQ : ∀ c a d v w, Q (.panic c) (a.put d v) w → Q (.panic c) a w) (hs : Region.sinkB md ops p = true) (hc : Region.chainB md ops p = true) (hn : p < ops.size) :
    ∀ (t : Sch) (n : Nat) (listed : Array Bool) (a : Act) (w : World), t.long n = true → (HeadInv md ops p listed ∨ t.late = true) → t.ok md ops p listed = true → wpSch P ops Q S p t a w → wpAnyG P md ops Q S p n listed a w := by
  intro t
  induction t with
  | nil =>
    intro n listed a w hl _ hB h
    simp only [Sch.long, decide_eq_true_eq] at hl
    subst hl
    exact ⟨by simpa [Sch.ok] using hB, h⟩
  | firm k r ih =>
    intro n listed a w hl inv hB h
    simp only [Sch.long, Bool.and_eq_true, decide_eq_true_eq] at hl
    obtain ⟨m, rfl⟩ : ∃ m, n = m + 1 := ⟨n - 1, by omega⟩
    simp only [Sch.ok, Bool.and_eq_true, decide_eq_true_eq] at hB
    obtain ⟨⟨⟨hr, hf⟩, hkp⟩, hB'⟩ := hB
    obtain ⟨hS, o, v, ho, hy, hK⟩ := h
    have inv' : HeadInv md ops p listed := by
      rcases inv with h | h
      · exact h
      · simp [Sch.late] at h
    have hr' : k ∈ Region.ready md ops listed := by simpa using hr
    exact wpAnyG_first ho (Region.noSelect_spec hsel) (fun c a w => hQ c a _ _ w) hs hc hn hkp m listed a w inv' (Region.free_spec ho hf) hr' hy hS
      (ih m _ _ _ hl.2 (.inl (inv'.set hr' hkp)) hB' hK)
  | one k r ih =>
    intro n listed a w hl inv hB h
    simp only [Sch.long, Bool.and_eq_true, decide_eq_true_eq] at hl
    obtain ⟨m, rfl⟩ : ∃ m, n = m + 1 := ⟨n - 1, by omega⟩
    simp only [Sch.ok, Bool.and_eq_true, decide_eq_true_eq, Bool.or_eq_true] at hB
    obtain ⟨⟨hr, hd⟩, hB'⟩ := hB
    refine ⟨fun h0 => (by rw [hr] at h0; cases h0), fun i hi => ?_⟩
    have hi' : k ∈ Region.ready md ops listed := by rw [hr]; exact List.mem_singleton.2 rfl
    rw [hr] at hi
    have hik : i = k := by simpa using hi
    subst hik
    refine wpOp_mono (fun a' w' h' => ⟨h'.1, ih m _ _ _ hl.2 ?_ hB' h'.2⟩) h
    rcases inv with inv | inv
    · rcases hd with hd | hd
      · exact .inl (inv.set hi' hd)
      · exact .inr hd
    · exact .inr inv
  | two i r j s ih1 ih2 =>
    intro n listed a w hl inv hB h
    simp only [Sch.long, Bool.and_eq_true, decide_eq_true_eq] at hl
    obtain ⟨m, rfl⟩ : ∃ m, n = m + 1 := ⟨n - 1, by omega⟩
    simp only [Sch.ok, Bool.and_eq_true, decide_eq_true_eq] at hB
    obtain ⟨⟨⟨⟨hr, hip⟩, hjp⟩, hB1⟩, hB2⟩ := hB
    have inv' : HeadInv md ops p listed := by
      rcases inv with h | h
      · exact h
      · simp [Sch.late] at h
    refine ⟨fun h0 => (by rw [hr] at h0; cases h0), fun q hq => ?_⟩
    have hi' : i ∈ Region.ready md ops listed := by rw [hr]; simp
    have hj' : j ∈ Region.ready md ops listed := by rw [hr]; simp
    rw [hr] at hq
    rcases List.mem_cons.1 hq with e | e
    · subst e
      exact wpOp_mono (fun a' w' h' => ⟨fun _ => h'.1, ih1 m _ _ _ hl.1.2 (.inl (inv'.set hi' hip)) hB1 h'.2⟩) h.1
    · have e' : q = j := by simpa using e
      subst e'
      exact wpOp_mono (fun a' w' h' => ⟨fun _ => h'.1, ih2 m _ _ _ hl.2 (.inl (inv'.set hj' hjp)) hB2 h'.2⟩) h.2
def Sch.okAll (ops : Array Oper) (p : Nat) (t : Sch) : Bool :=
  Region.noSelect ops && decide (p < ops.size) && Region.sinkB .any ops p && Region.chainB .any ops p && t.long ops.size && t.ok .any ops p (Array.replicate ops.size false)
theorem wp_region_sch {id : Nat} {a : Act} {w : World} (S : World → Prop) (p : Nat) (t : Sch) (hm : P.follows .mixedOrders = true) (hB : t.okAll ops p = true) (hS : S w.drew)
    (h : S w.drew → wpSch P ops (OnlyN Q) S p t a w.drew) : (Code.region id ops true).wp P Q a w := by
  simp only [Sch.okAll, Bool.and_eq_true, decide_eq_true_eq] at hB
  obtain ⟨⟨⟨⟨⟨hsel, hn⟩, hs⟩, hc⟩, hlen⟩, hsc⟩ := hB
  have inv0 : HeadInv .any ops p (Array.replicate ops.size false) :=
    ⟨by simp, fun j oj _ hl => (by rw [getD_replicate_false] at hl; cases hl), fun t _ ht => getD_in (by simpa using ht) (getD_replicate_false _ _)⟩
  exact Code.wp_mono OnlyN.imp (wp_region_any hm (wpAny_of_G _ _ _ _ (wpAnyG_sch (md := .any) (S := S) hsel (Q := OnlyN Q) (fun c a d v w h => h) hs hc hn t _ _ a w.drew hlen (.inl inv0) hsc (h hS))))
variable {t u : Sch} {i j : Nat}
theorem sch_nil (h : Q .normal a w) : wpSch P ops (OnlyN Q) S p .nil a w := h
theorem sch_firm {o : Oper} {v : Value} (ho : ops.toList[k]? = some o) (hg : o.guard = none) (hS : S w) (h1 : ∀ w, S w → firmAt P o a w v) (h2 : wpSch P ops (OnlyN Q) S p t (a.put o.dst v) w) : wpSch P ops (OnlyN Q) S p (.firm k t) a w :=
  ⟨hS, o, v, (Array.getElem?_toList ▸ ho), .inl ⟨by simp [Region.wanted, hg], fun w hw => (h1 w hw).run⟩, h2⟩
theorem sch_want {o : Oper} {v : Value} (ho : ops.toList[k]? = some o) (hg : Region.wanted o (yielded ops a.tmps) = true) (hS : S w) (h1 : ∀ w, S w → firmAt P o a w v) (h2 : wpSch P ops (OnlyN Q) S p t (a.put o.dst v) w) : wpSch P ops (OnlyN Q) S p (.firm k t) a w :=
  ⟨hS, o, v, (Array.getElem?_toList ▸ ho), .inl ⟨hg, fun w hw => (h1 w hw).run⟩, h2⟩
theorem sch_skip {o : Oper} (ho : ops.toList[k]? = some o) (hg : Region.wanted o (yielded ops a.tmps) = false) (hS : S w) (h2 : wpSch P ops (OnlyN Q) S p t (a.put o.dst undef) w) : wpSch P ops (OnlyN Q) S p (.firm k t) a w :=
  ⟨hS, o, undef, (Array.getElem?_toList ▸ ho), .inr ⟨hg, rfl⟩, h2⟩
theorem sch_op {o : Oper} {R : Act → World → Prop} (ho : ops.toList[k]? = some o) (hg : o.guard = none) (h : ∀ K : Act → World → Prop, (∀ a' w', R a' w' → K a' w') → o.wp P a w K (OnlyN Q)) : wpOp P ops (OnlyN Q) k R a w := by
  unfold wpOp
  rw [Array.getElem?_toList] at ho
  simp only [ho]
  rw [if_pos (by simp [Region.wanted, hg])]
  exact .inl (h _ fun a' w' hr => hr)
theorem sch_one {o : Oper} (ho : ops.toList[k]? = some o) (hg : o.guard = none) (h : ∀ K : Act → World → Prop, (∀ a' w', (k < p → S w') → wpSch P ops (OnlyN Q) S p t a' w' → K a' w') → o.wp P a w K (OnlyN Q)) : wpSch P ops (OnlyN Q) S p (.one k t) a w :=
  sch_op ho hg fun K hK => h K fun a' w' hS hr => hK a' w' ⟨hS, hr⟩
theorem sch_two {o o' : Oper} (ho : ops.toList[i]? = some o) (hg : o.guard = none) (ho' : ops.toList[j]? = some o') (hg' : o'.guard = none)
    (h : ∀ K : Act → World → Prop, (∀ a' w', S w' → wpSch P ops (OnlyN Q) S p t a' w' → K a' w') → o.wp P a w K (OnlyN Q))
    (h' : ∀ K : Act → World → Prop, (∀ a' w', S w' → wpSch P ops (OnlyN Q) S p u a' w' → K a' w') → o'.wp P a w K (OnlyN Q)) : wpSch P ops (OnlyN Q) S p (.two i t j u) a w :=
  ⟨sch_op ho hg fun K hK => h K fun a' w' hS hr => hK a' w' ⟨hS, hr⟩, sch_op ho' hg' fun K hK => h' K fun a' w' hS hr => hK a' w' ⟨hS, hr⟩⟩
theorem wp_region_schW {id : Nat} {a : Act} {w : World} (p : Nat) (t : Sch) (hm : P.follows .mixedOrders = true) (hB : t.okAll ops p = true)
    (h : wpSch P ops (OnlyN Q) (Within w) p t a w.drew) : (Code.region id ops true).wp P Q a w :=
  wp_region_sch (Within w) p t hm hB (Within.refl w).drew fun _ => h
theorem wp_region_schG {id : Nat} {a : Act} {w : World} (F : World → Prop) (p : Nat) (t : Sch) (hm : P.follows .mixedOrders = true) (hB : t.okAll ops p = true) (hF : F w)
    (h : ∀ w0, F w0 → wpSch P ops (OnlyN Q) (Within w0) p t a w0.drew) : (Code.region id ops true).wp P Q a w := wp_region_schW p t hm hB (h w hF)
end
end Go.Proofs.YtifgngmebnjfkaaGreatDoor
end

section
namespace Go.Proofs.YtifgngmebnjfkaaGreatDoor
open Go.RowKit
attribute [go_sem] firmAt firmUpon
theorem Tryz.infoW : (Tryz.prog.info? 22).map (fun i => (i.zero, i.size, i.bytes)) = some (some (.int .u32 0), 1, 4) := by kernel_rfl
def uv (l : List Nat) : List Value := l.map fun (x : Nat) => .int .u32 (x : Int)
theorem add_zero_off (g j : Nat) : (⟨g, 0, none⟩ : Addr).add j = ⟨g, j, none⟩ := by
  unfold Addr.add; split
  · rename_i h; subst h; rfl
  · simp
theorem uv_at (l : List Nat) {j : Nat} {u : Value} (h : (uv l)[j]? = some u) : j < l.length ∧ u = .int .u32 ((l.getD j 0 : Nat) : Int) := by
  unfold uv at h
  rw [List.getElem?_map] at h
  by_cases hj : j < l.length
  · rw [List.getElem?_eq_getElem hj] at h
    refine ⟨hj, ?_⟩
    simp at h
    rw [← h]; simp [List.getD_eq_getElem?_getD, hj]
  · rw [List.getElem?_eq_none (by omega)] at h; simp at h
theorem rowAt_of_owns {w : World} {base n : Nat} {v : Value} {l : List Nat} (h : w.ownsRow base 22 1 v n (uv l)) : ∃ A c, v = .slice A l.length c ∧ l.length ≤ c ∧ RowAt w A l := by
  have hlen : l.length = n := by have := h.1; simpa [uv] using this
  subst hlen
  rcases h.2 with ⟨rfl, h0⟩ | ⟨g, cap, cur, rfl, _, hb, hc, _, hsz, htk⟩
  · refine ⟨none, 0, by rw [h0], by omega, ?_⟩
    intro hp; omega
  · refine ⟨_, _, rfl, hc, fun _ => ⟨g, cur.size, fun i => (cur[i]?).getD undef, rfl, by omega, ⟨cur, hb, rfl, fun i hi => by simp [hi]⟩, fun i hi => ?_⟩⟩
    have : (cur.toList.take (l.length * 1))[i]? = (uv l)[i]? := by rw [htk]
    rw [List.getElem?_take, if_pos (by omega), Array.getElem?_toList] at this
    show (cur[i]?).getD undef = _
    rw [this]
    unfold uv
    simp [List.getD_eq_getElem?_getD, hi]
theorem run_append_nil_nil {P : Program} (w : World) (t ty e : TypeId) (i : TypeInfo) (ht : P.underlying t = some (.slice e)) (hi : P.info? e = some i) (c : Nat) : (Builtin.append_ #[t, t] ty #[.slice none 0 0, .slice none 0 c]).run P w = .ok (.slice none 0 0) w := by
  simp [Builtin.append_, run_underlying ht, sizeOf, typeInfo, hi, Builtin.lenOf, Builtin.firstCells]
theorem run_copy {w : World} (A : Option Addr) (l : List Nat) (c : Nat) (hr : RowAt w A l) (hl : l.length ≤ 3000000) :
    ∃ A' c' w', (Builtin.append_ #[89, 89] 89 #[.slice none 0 0, .slice A l.length c]).run Tryz.prog w = .ok (.slice A' l.length c') w' ∧ l.length ≤ c' ∧ RowAt w' A' l ∧ Within w w' := by
  obtain ⟨i0, hi0, hz0, hz1, hz2⟩ := info_parts Tryz.infoW
  have hU : Tryz.prog.underlying 89 = some (.slice 22) := by kernel_rfl
  rcases A with _ | ad
  · have h0 : l = [] := by
      rcases Nat.eq_zero_or_pos l.length with h | h
      · exact List.eq_nil_of_length_eq_zero h
      · obtain ⟨g, _, _, e, _⟩ := hr h; cases e
    subst h0
    exact ⟨none, 0, w, run_append_nil_nil w _ _ _ i0 hU hi0 c, by simp, RowAt.nil, Within.refl _⟩
  · have hcells : ∀ j u, (uv l)[j]? = some u → w.cell? (ad.add j) = some u := by
      intro j u hu
      obtain ⟨hj, rfl⟩ := uv_at l hu
      obtain ⟨g, e, _, hc⟩ := hr.cell hj
      have e' := Option.some.inj e
      rw [e', add_zero_off]; exact hc
    obtain ⟨v', w', hrun, h2, h3, _, _⟩ := run_append_own_at (P := Tryz.prog) w w.heap.size 89 89 22 i0 (.int .u32 0) 1 4 hU hi0 hz0 hz1 hz2 rfl (by decide) (.slice none 0 0) 0 [] (World.ownsRow_nil _ _ _ _) ad l.length c (uv l)
      (by simp [uv]) hcells (by intro u hu; obtain ⟨x, _, rfl⟩ := List.mem_map.1 hu; rfl) (by unfold maxLen; omega) (by omega) (Nat.le_refl _)
    rw [List.nil_append] at h2
    obtain ⟨A', c', rfl, hc, hr'⟩ := rowAt_of_owns h2
    refine ⟨A', c', w', hrun, hc, hr', ⟨h3.os, h3.tape, h3.output, h3.size, fun k hk => h3.block k hk (by intro e; cases e)⟩⟩
theorem RowAt.drew {w : World} {A : Option Addr} {l : List Nat} (h : RowAt w A l) : RowAt w.drew A l := h
theorem wp_copy {w : World} {o : Oper} {a : Act} {K : Act → World → Prop} {Q : Exit → Act → World → Prop} (s x : Operand) (A : Option Addr) (l : List Nat) (c : Nat)
    (ho : o.op = .call { callee := .builtin .append, args := #[s, x], argTypes := #[89, 89] }) (ht : o.type = 89) (hs : a.eval s = .slice none 0 0) (hx : a.eval x = .slice A l.length c) (hr : RowAt w A l) (hl : l.length ≤ 3000000)
    (h : ∀ A' c' w', l.length ≤ c' → RowAt w' A' l → Within w w' → K (a.put o.dst (.slice A' l.length c')) w') : o.wp Tryz.prog a w K Q := by
  obtain ⟨A', c', w', hrun, h1, h2, h3⟩ := run_copy A l c hr hl
  rw [← ht] at hrun
  unfold Oper.wp execOp
  simp only [ho, resolve, invoke, builtin, Sem.run_bind, Sem.run_pure, Result.andThen_ok, List.map_toArray, List.map_cons, List.map_nil, hs, hx, ht] at hrun ⊢
  rw [hrun]
  exact h A' c' w' h1 h2 h3
set_option maxRecDepth 100000 in
set_option maxHeartbeats 600000 in
theorem Bset0 (z x : Nat) (b : Bool) (A : Option Addr) (l : List Nat) (c : Nat) (hw : Words l) (hl : l.length ≤ 2000000) (w : World) (hz : IntTy w z) (c0 : w.cell? ⟨x, 0, none⟩ = some (.bool b)) (c1 : w.cell? ⟨x, 1, none⟩ = some (.slice A l.length c)) (hr : RowAt w A l) :
    Calls Tryz.prog 96 #[.pointer (some ⟨z, 0, none⟩), .pointer (some ⟨x, 0, none⟩)] w (PutI w z (sgv b (wval l))) := by
  have HZ := Lib.hid hz; have HW := Lib.hid hw; have HR := Lib.hid hr; clear hz hw hr
  have hlt := World.block_lt_of_cell? w _ c0
  go_enter Tryz.func96, Tryz.ntmps96
  go_wp2
  refine wp_region_sched (fun W => W.cell? ⟨x, 0, none⟩ = some (.bool b) ∧ W.cell? ⟨x, 1, none⟩ = some (.slice A l.length c)) 10 [(0, true), (1, true), (2, true), (3, true), (4, true), (5, true), (6, true), (7, true), (8, true), (9, false), (10, false), (11, false)] (by kernel_rfl) (by kernel_rfl) ⟨c0, c1⟩ ?_
  intro hS
  repeat
    apply sched_firm rfl rfl hS
    · intro wq hq
      have hq0 := hq.1; have hq1 := hq.2
      clear hq
      go_simp
      first | rfl | (trace_state; fail)
    simp only [Act.put, List.setIfInBounds_toArray, List.set_cons_zero, List.set_cons_succ]
  refine sched_one rfl rfl (fun K hK => ?_)
  refine wp_copy (.const (.slice none 0 0)) (.tmp 13) A l c rfl rfl rfl rfl (RowAt.drew HR.out) (Nat.le_trans hl (by decide)) ?_
  intro A' c' w2 hc' hr' hb'
  have hb2 : Within w w2 := (Within.refl w).drew.trans hb'
  refine hK _ _ (fun _ => ⟨(hb2.cells _ _ hlt).trans c0, (hb2.cells _ _ hlt).trans c1⟩) ?_
  clear hK K hS
  try simp only [Act.put, List.setIfInBounds_toArray, List.set_cons_zero, List.set_cons_succ]
  refine sched_one rfl rfl (fun K hK => ?_)
  go_simp
  refine (Bput z b l A' c' HW.out hc' hl w2 hr' (HZ.out.of hb2)).mono ?_
  rintro e3 w3 ⟨rfl, hI, hG⟩
  refine hK _ _ (fun h => absurd h (by decide)) ?_
  clear hK K
  try simp only [Act.put, List.setIfInBounds_toArray, List.set_cons_zero, List.set_cons_succ]
  refine sched_one rfl rfl (fun K hK => ?_)
  go_simp
  refine hK _ _ (fun h => absurd h (by decide)) ?_
  clear hK K
  try simp only [Act.put, List.setIfInBounds_toArray, List.set_cons_zero, List.set_cons_succ]
  refine sched_nil ?_
  go_wp2
  go_ret
  exact ⟨rfl, hI, grown_trans (grown_within z hb2) hG⟩
end Go.Proofs.YtifgngmebnjfkaaGreatDoor
end

section
namespace Go.Proofs.YtifgngmebnjfkaaGreatDoor
open Go.RowKit
theorem Tryz.infoU32 : (Tryz.prog.info? 22).map (fun i => (i.zero, i.size, i.bytes)) = some (some (.int .u32 0), 1, 4) := by kernel_rfl
theorem RowAt.cut {w : World} {A : Option Addr} {l : List Nat} (hr : RowAt w A l) (hw : Words l) : RowAt w A (dg (wval l)) := by
  intro hpos
  obtain ⟨j, hj, h1, h2⟩ := lastWord l
  have hjj := dg_cut l hw j hj h1 h2
  rw [← hjj] at hpos ⊢
  exact hr.take j hpos
theorem retW_cut {W w : World} {A : Option Addr} {l : List Nat} {c n : Nat} (hr : RowAt w A l) (hw : Words l) (hc : l.length ≤ c) (hW : Within W w) (hn : wval l = n) : RetW W n (.returned (.slice A (dg (wval l)).length c)) w := by
  subst hn
  exact ⟨A, c, rfl, Nat.le_trans (dg_len_le (wval_lt l hw)) hc, hr.cut hw, hW⟩
def PlusRel (W : World) (g : Nat) (la lb : List Nat) (cv iv : Value) (wr : World) : Prop :=
  ∃ (k c : Nat) (o : List Nat), k ≤ la.length ∧ c ≤ 1 ∧ cv = .int .u64 (c : Int) ∧ iv = .int .i64 (k : Int) ∧ o.length = la.length + 1 ∧ Words o ∧ OwnW wr g o ∧ lo o k + 4294967296 ^ k * c = lo la k + lo lb k ∧ Within W wr
theorem PlusRel.step {W wr : World} {g : Nat} {la lb o : List Nat} {k c x y : Nat} (u v q : Int) (hk : k < la.length) (hc : c ≤ 1) (ho : o.length = la.length + 1) (hwo : Words o) (hown : OwnW wr g o) (hval : lo o k + 4294967296 ^ k * c = lo la k + lo lb k) (hin : Within W wr)
    (hx : x = la.getD k 0) (hy : y = lb.getD k 0) (hx2 : x < 4294967296) (hy2 : y < 4294967296) (hg : W.heap.size ≤ g) (hu : u = (((x + c + y) / 4294967296 : Nat) : Int)) (hv : v = (((x + c + y) % 4294967296 : Nat) : Int)) (hq : q = ((k + 1 : Nat) : Int)) :
    PlusRel W g la lb (.int .u64 u) (.int .i64 q) (wr.setCell ⟨g, k, none⟩ (.int .u32 v)) := by
  subst hu hv hq
  refine ⟨k + 1, (x + c + y) / 4294967296, o.set k ((x + c + y) % 4294967296), by omega, by omega, rfl, rfl, by rw [List.length_set]; exact ho, hwo.set _ _ (by omega), hown.set _ _ (by omega), ?_, hin.setCell hg _⟩
  rw [lo_set_succ _ _ _ (by omega), lo_succ la, lo_succ lb, ← hx, ← hy, Nat.pow_succ]
  have := plus_step (P := 4294967296 ^ k) (a := x) (b := y) hval
  omega
set_option maxRecDepth 100000 in
set_option maxHeartbeats 600000 in
theorem Bplus_ge (la lb : List Nat) (A Bv : Option Addr) (ca cb : Nat) (hwa : Words la) (hwb : Words lb) (hla : la.length ≤ 1500000) (hge : lb.length ≤ la.length) (w : World) (hra : RowAt w A la) (hrb : RowAt w Bv lb) :
    Calls Tryz.prog 126 #[.slice A la.length ca, .slice Bv lb.length cb] w (RetW w (wval la + wval lb)) := by
  have hmk := run_make_row' (P := Tryz.prog) 89 22 (.int .u32 0) 4 (by kernel_rfl) Tryz.infoU32 rfl .i64 .i64 (la.length + 1) (by omega) (by omega)
  rw [show ((la.length + 1 : Nat) : Int) = (la.length : Int) + 1 by omega] at hmk
  have d1 : decide (la.length < lb.length) = false := decide_eq_false (by omega)
  have HWA := Lib.hid hwa; have HWB := Lib.hid hwb; have HRA := Lib.hid hra; have HRB := Lib.hid hrb; clear hwa hwb hra hrb
  have HGE := Lib.hid hge; clear hge
  have HM := OwnW.made w (la.length + 1)
  go_enter Tryz.func126, Tryz.ntmps126
  go_wp2
  go_loopw [7, 8] (fun cv iv wr => PlusRel w w.heap.size la lb cv iv wr) (fun _ iv _ => la.length - (intOf iv).toNat)
  case atStart => exact ⟨0, 0, _, Nat.zero_le _, Nat.zero_le _, rfl, rfl, by simp, Words.zeros _, HM, by simp [lo_zero], (Within.refl w).alloc _⟩
  case round =>
    obtain ⟨k, c, o, hk, hc, rfl, rfl, ho, hwo, hown, hval, hin⟩ := hrel
    have HV := Lib.hid hval; have HO := Lib.hid ho; have HWO := Lib.hid hwo; clear hval ho hwo
    rcases Nat.lt_or_ge k la.length with hlt | hlt
    · obtain ⟨ga, rfl, hga, hca⟩ := (HRA.out.of hin).cell hlt
      obtain ⟨x, hxe⟩ : ∃ x, x = la.getD k 0 := ⟨_, rfl⟩
      have hx : x < 4294967296 := by rw [hxe]; exact HWA.out.getD k
      rw [← hxe] at hca
      have HXE := Lib.hid hxe; clear hxe
      have hco := hown.cell (i := k) (by rw [HO.out]; omega)
      have hfo := hown.frozen k
      rcases Nat.lt_or_ge k lb.length with hlb | hlb
      · obtain ⟨gb, rfl, hgb, hcb⟩ := (HRB.out.of hin).cell hlb
        obtain ⟨y, hye⟩ : ∃ y, y = lb.getD k 0 := ⟨_, rfl⟩
        have hy : y < 4294967296 := by rw [hye]; exact HWB.out.getD k
        rw [← hye] at hcb
        have HYE := Lib.hid hye; clear hye
        go_wp2
        go_roundw
        case rel => exact PlusRel.step (x := x) (y := y) _ _ _ hlt hc HO.out HWO.out hown HV.out hin HXE.out HYE.out hx hy (Nat.le_refl _) (by omega) (by omega) (by omega)
        case measure => simp [intOf]; omega
      · have hy0 : 0 = lb.getD k 0 := by simp [List.getD_eq_getElem?_getD, hlb]
        have HY0 := Lib.hid hy0; clear hy0
        go_wp2
        go_roundw
        case rel => exact PlusRel.step (x := x) (y := 0) _ _ _ hlt hc HO.out HWO.out hown HV.out hin HXE.out HY0.out hx (by decide) (Nat.le_refl _) (by omega) (by omega) (by omega)
        case measure => simp [intOf]; omega
    · obtain rfl : k = la.length := by omega
      have hco := hown.cell (i := la.length) (by rw [HO.out]; omega)
      have hfo := hown.frozen la.length
      have hsz := HO.out
      have hown2 := hown.set la.length c (by omega)
      have HL : Hid ((o.set la.length c).length = la.length + 1) := by rw [List.length_set]; exact hsz
      have CT := Lib.hid (Bcut (o.set la.length c) (some ⟨w.heap.size, 0, none⟩) (la.length + 1) (HWO.out.set _ _ (by omega)) (by rw [HL.out]; exact Nat.le_refl _) (by rw [HL.out]; omega) _ hown2.at)
      rw [HL.out] at CT
      clear hsz hown2
      go_wp2_with fail
      refine (CT.out).mono ?_; rintro e1 w1 ⟨rfl, rfl⟩
      go_wp2
      go_ret
      refine retW_cut (hown.set la.length c (by rw [HO.out]; omega)).at (HWO.out.set _ _ (by omega)) (by rw [HL.out]; exact Nat.le_refl _) (hin.setCell (Nat.le_refl _) _) ?_
      rw [← lo_all (o.set la.length c) (Nat.le_of_eq HL.out), lo_set_succ _ _ _ (by rw [HO.out]; omega), HV.out, lo_all _ (Nat.le_refl _), lo_all _ HGE.out]
set_option maxRecDepth 100000 in
set_option maxHeartbeats 600000 in
theorem Bplus_lt (lb la : List Nat) (Bv A : Option Addr) (cb ca : Nat) (hwa : Words lb) (hwb : Words la) (hla : lb.length ≤ 1500000) (hgt : la.length < lb.length) (w : World) (hra : RowAt w Bv lb) (hrb : RowAt w A la) :
    Calls Tryz.prog 126 #[.slice A la.length ca, .slice Bv lb.length cb] w (RetW w (wval lb + wval la)) := by
  have hmk := run_make_row' (P := Tryz.prog) 89 22 (.int .u32 0) 4 (by kernel_rfl) Tryz.infoU32 rfl .i64 .i64 (lb.length + 1) (by omega) (by omega)
  rw [show ((lb.length + 1 : Nat) : Int) = (lb.length : Int) + 1 by omega] at hmk
  have d1 : decide (la.length < lb.length) = true := decide_eq_true (by omega)
  have HWA := Lib.hid hwa; have HWB := Lib.hid hwb; have HRA := Lib.hid hra; have HRB := Lib.hid hrb; clear hwa hwb hra hrb
  have HGE := Lib.hid (Nat.le_of_lt hgt); clear hgt
  have HM := OwnW.made w (lb.length + 1)
  go_enter Tryz.func126, Tryz.ntmps126
  go_wp2
  go_loopw [7, 8] (fun cv iv wr => PlusRel w w.heap.size lb la cv iv wr) (fun _ iv _ => lb.length - (intOf iv).toNat)
  case atStart => exact ⟨0, 0, _, Nat.zero_le _, Nat.zero_le _, rfl, rfl, by simp, Words.zeros _, HM, by simp [lo_zero], (Within.refl w).alloc _⟩
  case round =>
    obtain ⟨k, c, o, hk, hc, rfl, rfl, ho, hwo, hown, hval, hin⟩ := hrel
    have HV := Lib.hid hval; have HO := Lib.hid ho; have HWO := Lib.hid hwo; clear hval ho hwo
    rcases Nat.lt_or_ge k lb.length with hlt | hlt
    · obtain ⟨ga, rfl, hga, hca⟩ := (HRA.out.of hin).cell hlt
      obtain ⟨x, hxe⟩ : ∃ x, x = lb.getD k 0 := ⟨_, rfl⟩
      have hx : x < 4294967296 := by rw [hxe]; exact HWA.out.getD k
      rw [← hxe] at hca
      have HXE := Lib.hid hxe; clear hxe
      have hco := hown.cell (i := k) (by rw [HO.out]; omega)
      have hfo := hown.frozen k
      rcases Nat.lt_or_ge k la.length with hlb | hlb
      · obtain ⟨gb, rfl, hgb, hcb⟩ := (HRB.out.of hin).cell hlb
        obtain ⟨y, hye⟩ : ∃ y, y = la.getD k 0 := ⟨_, rfl⟩
        have hy : y < 4294967296 := by rw [hye]; exact HWB.out.getD k
        rw [← hye] at hcb
        have HYE := Lib.hid hye; clear hye
        go_wp2
        go_roundw
        case rel => exact PlusRel.step (x := x) (y := y) _ _ _ hlt hc HO.out HWO.out hown HV.out hin HXE.out HYE.out hx hy (Nat.le_refl _) (by omega) (by omega) (by omega)
        case measure => simp [intOf]; omega
      · have hy0 : 0 = la.getD k 0 := by simp [List.getD_eq_getElem?_getD, hlb]
        have HY0 := Lib.hid hy0; clear hy0
        go_wp2
        go_roundw
        case rel => exact PlusRel.step (x := x) (y := 0) _ _ _ hlt hc HO.out HWO.out hown HV.out hin HXE.out HY0.out hx (by decide) (Nat.le_refl _) (by omega) (by omega) (by omega)
        case measure => simp [intOf]; omega
    · obtain rfl : k = lb.length := by omega
      have hco := hown.cell (i := lb.length) (by rw [HO.out]; omega)
      have hfo := hown.frozen lb.length
      have hsz := HO.out
      have hown2 := hown.set lb.length c (by omega)
      have HL : Hid ((o.set lb.length c).length = lb.length + 1) := by rw [List.length_set]; exact hsz
      have CT := Lib.hid (Bcut (o.set lb.length c) (some ⟨w.heap.size, 0, none⟩) (lb.length + 1) (HWO.out.set _ _ (by omega)) (by rw [HL.out]; exact Nat.le_refl _) (by rw [HL.out]; omega) _ hown2.at)
      rw [HL.out] at CT
      clear hsz hown2
      go_wp2_with fail
      refine (CT.out).mono ?_; rintro e1 w1 ⟨rfl, rfl⟩
      go_wp2
      go_ret
      refine retW_cut (hown.set lb.length c (by rw [HO.out]; omega)).at (HWO.out.set _ _ (by omega)) (by rw [HL.out]; exact Nat.le_refl _) (hin.setCell (Nat.le_refl _) _) ?_
      rw [← lo_all (o.set lb.length c) (Nat.le_of_eq HL.out), lo_set_succ _ _ _ (by rw [HO.out]; omega), HV.out, lo_all _ (Nat.le_refl _), lo_all _ HGE.out]
theorem Bplus (a b : Nat) (A Bv : Option Addr) (ca cb : Nat) (ha : (dg a).length ≤ 1500000) (hb : (dg b).length ≤ 1500000) (w : World) (hra : RowAt w A (dg a)) (hrb : RowAt w Bv (dg b)) :
    Calls Tryz.prog 126 #[.slice A (dg a).length ca, .slice Bv (dg b).length cb] w (RetW w (a + b)) := by
  rcases Nat.lt_or_ge (dg a).length (dg b).length with h | h
  · have := Bplus_lt (dg b) (dg a) Bv A cb ca (words_dg b) (words_dg a) hb h w hrb hra
    rw [wval_dg, wval_dg, Nat.add_comm] at this
    exact this
  · have := Bplus_ge (dg a) (dg b) A Bv ca cb (words_dg a) (words_dg b) ha h w hra hrb
    rw [wval_dg, wval_dg] at this
    exact this
end Go.Proofs.YtifgngmebnjfkaaGreatDoor
end

section
namespace Go.Proofs.YtifgngmebnjfkaaGreatDoor
open Go.RowKit
theorem IntB.rd {w : World} {g : Nat} {v : Int} (h : IntB w g v) : ∃ A c, w.cell? ⟨g, 0, none⟩ = some (.bool (decide (v < 0))) ∧ w.cell? ⟨g, 1, none⟩ = some (.slice A (dg v.natAbs).length c) ∧ RowAt w A (dg v.natAbs) := by
  obtain ⟨A, c, h0, h1, _, hr⟩ := h.cells
  exact ⟨A, c, h0, h1, hr⟩
theorem sgv_self (v : Int) : sgv (decide (v < 0)) v.natAbs = v := by
  unfold sgv; by_cases h : v < 0
  · rw [if_pos (decide_eq_true h)]; omega
  · rw [decide_eq_false h, if_neg Bool.false_ne_true]; omega
theorem sgv_not (v : Int) : sgv (!decide (v < 0)) v.natAbs = -v := by
  unfold sgv; by_cases h : v < 0
  · rw [decide_eq_true h, if_neg (by decide)]; omega
  · rw [decide_eq_false h, if_pos (by decide)]; omega
theorem sgv_no (n : Nat) : sgv false n = n := rfl
theorem PutI.trans {W w : World} {z : Nat} {v : Int} {e : Ending} {w' : World} (h : Within W w) (k : PutI w z v e w') : PutI W z v e w' := ⟨k.1, k.2.1, grown_trans (grown_within z h) k.2.2⟩
theorem wval_two (n : Nat) : wval [n % 4294967296, n / 4294967296] = n := by
  simp only [wval]; omega
theorem two_at (w : World) (x y : Nat) (C : Array Value) (hC : C = #[.int .u32 (x : Int), .int .u32 (y : Int)]) : RowAt (w.alloc (.cells C 22)) (some ⟨w.heap.size, 0, none⟩) [x, y] := by
  subst hC
  intro _
  have h := World.rowIs_alloc w #[.int .u32 (x : Int), .int .u32 (y : Int)] 22 (fun i => .int .u32 (([x, y].getD i 0 : Nat) : Int)) (by
    intro i hi
    have : i = 0 ∨ i = 1 := by simp at hi; omega
    rcases this with rfl | rfl <;> rfl)
  exact ⟨_, _, _, rfl, Nat.le_refl _, h, fun i _ => rfl⟩
set_option maxRecDepth 100000 in
set_option maxHeartbeats 600000 in
theorem Bwords (n : Nat) (hn : n < 18446744073709551616) (w : World) : Calls Tryz.prog 121 #[.int .u64 (n : Int)] w (RetW w n) := by
  have hh : (n : Int) / 4294967296 % 4294967296 = (n : Int) / 4294967296 := by omega
  have HN := Lib.hid hn; clear hn
  have CT := Lib.hid (fun (w' : World) (hr : RowAt w' (some ⟨w.heap.size, 0, none⟩) [n % 4294967296, n / 4294967296]) => Bcut [n % 4294967296, n / 4294967296] (some ⟨w.heap.size, 0, none⟩) 2 (by intro x hx; have := HN.out; simp at hx; omega) (by simp) (by simp) w' hr)
  go_enter Tryz.func121, Tryz.ntmps121
  go_wp2_with fail
  refine (CT.out _ (two_at w _ _ _ (by simp))).mono ?_; rintro e1 w1 ⟨rfl, rfl⟩
  go_wp2
  go_ret
  exact retW_cut (two_at w _ _ _ (by simp)) (by intro x hx; have := HN.out; simp at hx; omega) (by simp) ((Within.refl w).alloc _) (wval_two n)
set_option maxRecDepth 100000 in
set_option maxHeartbeats 600000 in
theorem BsetUint64 (z n : Nat) (hn : n < 18446744073709551616) (w : World) (hz : IntTy w z) : Calls Tryz.prog 89 #[.pointer (some ⟨z, 0, none⟩), .int .u64 (n : Int)] w (PutI w z n) := by
  have HZ := Lib.hid hz; clear hz
  have HN := Lib.hid hn; clear hn
  go_enter Tryz.func89, Tryz.ntmps89
  go_wp2_with fail
  refine (Bwords n HN.out w).mono ?_; rintro e1 w1 ⟨A1, c1, rfl, hc1, hr1, hb1⟩
  go_wp2_with fail
  refine (Bput z false (dg n) A1 c1 (words_dg n) hc1 (Nat.le_trans (dg_len_le (k := 2) HN.out) (by decide)) w1 hr1 (HZ.out.of hb1)).mono ?_; rintro e2 w2 ⟨rfl, hI, hG⟩
  go_wp2
  go_ret
  rw [wval_dg, sgv_no] at hI
  exact ⟨rfl, hI, grown_trans (grown_within z hb1) hG⟩
set_option maxRecDepth 100000 in
set_option maxHeartbeats 600000 in
theorem BsetInt64_neg (z : Nat) (n : Int) (m : Nat) (b : Bool) (hn : n < 0) (hb : b = true) (hm : n = -(m : Int)) (hl : m ≤ 9223372036854775808) (w : World) (hz : IntTy w z) : Calls Tryz.prog 103 #[.pointer (some ⟨z, 0, none⟩), .int .i64 n] w (PutI w z (sgv b m)) := by
  have HZ := Lib.hid hz; clear hz
  have HL := Lib.hid (show m < 18446744073709551616 by omega)
  have d : decide (n < 0) = true := decide_eq_true hn
  have HB := Lib.hid hb; clear hb
  have g : IntKind.u64.wrap (-IntKind.u64.wrap n) = (m : Int) := by rw [IntKind.wrap_u64, IntKind.wrap_u64]; omega
  clear hn hm hl
  go_enter Tryz.func103, Tryz.ntmps103
  go_wp2_with fail
  refine (Bwords m HL.out w).mono ?_; rintro e1 w1 ⟨A1, c1, rfl, hc1, hr1, hb1⟩
  go_wp2_with fail
  refine (Bput z true (dg m) A1 c1 (words_dg m) hc1 (Nat.le_trans (dg_len_le (k := 2) HL.out) (by decide)) w1 hr1 (HZ.out.of hb1)).mono ?_; rintro e2 w2 ⟨rfl, hI, hG⟩
  go_wp2
  go_ret
  rw [wval_dg] at hI
  rw [HB.out]
  exact ⟨rfl, hI, grown_trans (grown_within z hb1) hG⟩
set_option maxRecDepth 100000 in
set_option maxHeartbeats 600000 in
theorem BsetInt64_pos (z : Nat) (n : Int) (m : Nat) (b : Bool) (hn : ¬ n < 0) (hb : b = false) (hm : n = (m : Int)) (hl : m ≤ 9223372036854775807) (w : World) (hz : IntTy w z) : Calls Tryz.prog 103 #[.pointer (some ⟨z, 0, none⟩), .int .i64 n] w (PutI w z (sgv b m)) := by
  have HZ := Lib.hid hz; clear hz
  have HL := Lib.hid (show m < 18446744073709551616 by omega)
  have d : decide (n < 0) = false := decide_eq_false hn
  have HB := Lib.hid hb; clear hb
  have g : IntKind.u64.wrap n = (m : Int) := by rw [IntKind.wrap_u64]; omega
  clear hn hm hl
  go_enter Tryz.func103, Tryz.ntmps103
  go_wp2_with fail
  refine (Bwords m HL.out w).mono ?_; rintro e1 w1 ⟨A1, c1, rfl, hc1, hr1, hb1⟩
  go_wp2_with fail
  refine (Bput z false (dg m) A1 c1 (words_dg m) hc1 (Nat.le_trans (dg_len_le (k := 2) HL.out) (by decide)) w1 hr1 (HZ.out.of hb1)).mono ?_; rintro e2 w2 ⟨rfl, hI, hG⟩
  go_wp2
  go_ret
  rw [wval_dg] at hI
  rw [HB.out]
  exact ⟨rfl, hI, grown_trans (grown_within z hb1) hG⟩
theorem BsetInt64 (z : Nat) (n : Int) (h1 : -9223372036854775808 ≤ n) (h2 : n ≤ 9223372036854775807) (w : World) (hz : IntTy w z) : Calls Tryz.prog 103 #[.pointer (some ⟨z, 0, none⟩), .int .i64 n] w (PutI w z n) := by
  by_cases h : n < 0
  · have := BsetInt64_neg z n n.natAbs true h rfl (by omega) (by omega) w hz
    rwa [show sgv true n.natAbs = n by unfold sgv; rw [if_pos rfl]; omega] at this
  · have := BsetInt64_pos z n n.natAbs false h rfl (by omega) (by omega) w hz
    rwa [show sgv false n.natAbs = n by unfold sgv; rw [if_neg (by decide)]; omega] at this
def NewI (W : World) (v : Int) (e : Ending) (w' : World) : Prop := ∃ g, e = .returned (.pointer (some ⟨g, 0, none⟩)) ∧ IntB w' g v ∧ W.heap.size ≤ g ∧ Within W w'
set_option maxRecDepth 100000 in
set_option maxHeartbeats 600000 in
theorem BnewInt (n : Int) (h1 : -9223372036854775808 ≤ n) (h2 : n ≤ 9223372036854775807) (w : World) : Calls Tryz.prog 61 #[.int .i64 n] w (NewI w n) := by
  have SI := Lib.hid (fun (w' : World) (hz : IntTy w' w.heap.size) => BsetInt64 w.heap.size n h1 h2 w' hz)
  have HT := Lib.hid (IntB.made w).ty
  clear h1 h2
  go_enter Tryz.func61, Tryz.ntmps61
  go_wp2_with fail
  refine (SI.out _ HT.out).mono ?_; rintro e1 w1 ⟨rfl, hI, hG⟩
  go_wp2
  go_ret
  exact ⟨_, rfl, hI, Nat.le_refl _, Within.grown ((Within.refl w).alloc _) hG (Nat.le_refl _)⟩
theorem Bset (z x : Nat) (v : Int) (hl : (dg v.natAbs).length ≤ 2000000) (w : World) (hz : IntTy w z) (hx : IntB w x v) : Calls Tryz.prog 96 #[.pointer (some ⟨z, 0, none⟩), .pointer (some ⟨x, 0, none⟩)] w (PutI w z v) := by
  obtain ⟨A, c, c0, c1, hr⟩ := hx.rd
  have := Bset0 z x _ A (dg v.natAbs) c (words_dg _) hl w hz c0 c1 hr
  rw [wval_dg, sgv_self] at this
  exact this
set_option maxRecDepth 100000 in
set_option maxHeartbeats 600000 in
theorem Bneg0 (z x : Nat) (b : Bool) (A : Option Addr) (l : List Nat) (c : Nat) (hw : Words l) (hl : l.length ≤ 2000000) (w : World) (hz : IntTy w z) (c0 : w.cell? ⟨x, 0, none⟩ = some (.bool b)) (c1 : w.cell? ⟨x, 1, none⟩ = some (.slice A l.length c)) (hr : RowAt w A l) : Calls Tryz.prog 63 #[.pointer (some ⟨z, 0, none⟩), .pointer (some ⟨x, 0, none⟩)] w (PutI w z (sgv (!b) (wval l))) := by
  have HZ := Lib.hid hz; have HW := Lib.hid hw; have HR := Lib.hid hr; clear hz hw hr
  have hlt := World.block_lt_of_cell? w _ c0
  go_enter Tryz.func63, Tryz.ntmps63
  go_wp2
  refine wp_region_sched (fun W => W.cell? ⟨x, 0, none⟩ = some (.bool b) ∧ W.cell? ⟨x, 1, none⟩ = some (.slice A l.length c)) 11 [(0, true), (1, true), (2, true), (3, true), (4, true), (5, true), (6, true), (7, true), (8, true), (9, true), (10, false), (11, false), (12, false)] (by kernel_rfl) (by kernel_rfl) ⟨c0, c1⟩ ?_
  intro hS
  repeat
    apply sched_firm rfl rfl hS
    · intro wq hq
      have hq0 := hq.1; have hq1 := hq.2
      clear hq
      go_simp
      first | rfl | (trace_state; fail)
    try simp only [Act.put, List.setIfInBounds_toArray, List.set_cons_zero, List.set_cons_succ]
  refine sched_one rfl rfl (fun K hK => ?_)
  refine wp_copy (.const (.slice none 0 0)) (.tmp 14) A l c rfl rfl rfl rfl (RowAt.drew HR.out) (Nat.le_trans hl (by decide)) ?_
  intro A' c' w2 hc' hr' hb'
  have hb2 : Within w w2 := (Within.refl w).drew.trans hb'
  refine hK _ _ (fun h => ⟨(hb2.cells _ _ hlt).trans c0, (hb2.cells _ _ hlt).trans c1⟩) ?_
  clear hK K
  try simp only [Act.put, List.setIfInBounds_toArray, List.set_cons_zero, List.set_cons_succ]
  refine sched_one rfl rfl (fun K hK => ?_)
  go_simp
  refine (Bput z (!b) l A' c' HW.out hc' hl w2 hr' (HZ.out.of hb2)).mono ?_
  rintro e3 w3 ⟨rfl, hI, hG⟩
  refine hK _ _ (fun h => absurd h (by decide)) ?_
  clear hK K
  try simp only [Act.put, List.setIfInBounds_toArray, List.set_cons_zero, List.set_cons_succ]
  refine sched_one rfl rfl (fun K hK => ?_)
  go_simp
  refine hK _ _ (fun h => absurd h (by decide)) ?_
  clear hK K
  try simp only [Act.put, List.setIfInBounds_toArray, List.set_cons_zero, List.set_cons_succ]
  refine sched_nil ?_
  go_wp2
  go_ret
  exact ⟨rfl, hI, grown_trans (grown_within z hb2) hG⟩
theorem Bneg (z x : Nat) (v : Int) (hl : (dg v.natAbs).length ≤ 2000000) (w : World) (hz : IntTy w z) (hx : IntB w x v) : Calls Tryz.prog 63 #[.pointer (some ⟨z, 0, none⟩), .pointer (some ⟨x, 0, none⟩)] w (PutI w z (-v)) := by
  obtain ⟨A, c, c0, c1, hr⟩ := hx.rd
  have := Bneg0 z x _ A (dg v.natAbs) c (words_dg _) hl w hz c0 c1 hr
  rw [wval_dg, sgv_not] at this
  exact this
set_option maxRecDepth 100000 in
set_option maxHeartbeats 600000 in
theorem Babs (z x : Nat) (v : Int) (hl : (dg v.natAbs).length ≤ 2000000) (w : World) (hz : IntTy w z) (hx : IntB w x v) : Calls Tryz.prog 108 #[.pointer (some ⟨z, 0, none⟩), .pointer (some ⟨x, 0, none⟩)] w (PutI w z (v.natAbs : Int)) := by
  obtain ⟨A, c, c0, c1, hr⟩ := hx.rd
  have HZ := Lib.hid hz; have HR := Lib.hid hr; clear hz hr hx
  obtain ⟨l, hle⟩ : ∃ l, l = dg v.natAbs := ⟨_, rfl⟩
  rw [← hle] at hl c1 HR
  have HLE := Lib.hid hle; clear hle
  go_enter Tryz.func108, Tryz.ntmps108
  go_wp2_with (refine wpList_plain rfl fun K hK => ?_; refine wp_copy (.const (.slice none 0 0)) (.tmp 9) A l c rfl rfl rfl rfl HR.out (Nat.le_trans hl (by decide)) ?_; intro A' c' w2 hc' hr' hb'; refine hK _ _ ?_)
  refine (Bput z false l A' c' (by rw [HLE.out]; exact words_dg _) hc' hl w2 hr' (HZ.out.of hb')).mono ?_; rintro e3 w3 ⟨rfl, hI, hG⟩
  go_wp2
  go_ret
  rw [HLE.out, wval_dg, sgv_no] at hI
  exact ⟨rfl, hI, grown_trans (grown_within z hb') hG⟩
end Go.Proofs.YtifgngmebnjfkaaGreatDoor
end

section
namespace Go.Proofs.YtifgngmebnjfkaaGreatDoor
open Go.RowKit
abbrev fmS : Value := .agg #[.int .i64 24, .int .i64 (-126), .int .i64 127, .int .i64 8]
theorem grown_cells {w w' : World} {z : Nat} (h : w.grownBy w' (some z)) : ∀ b o, b < w.heap.size → b ≠ z → w'.cell? ⟨b, o, none⟩ = w.cell? ⟨b, o, none⟩ := fun b o hb hne => World.cell?_of_block (w := w) (h.block b hb (fun e => hne (by injection e)))
theorem grown_frozens {w w' : World} {z : Nat} (h : w.grownBy w' (some z)) : ∀ b o, b < w.heap.size → b ≠ z → w'.frozen? ⟨b, o, none⟩ = w.frozen? ⟨b, o, none⟩ := fun b o hb hne => World.frozen?_of_block (w := w) (h.block b hb (fun e => hne (by injection e)))
theorem ty_new (w : World) (b : Bool) (s : Value) (z : Nat) (h : z = w.heap.size) : IntTy (w.alloc (.cells #[.bool b, s] 91)) z := by subst h; exact ⟨b, s, heap_alloc_new w _⟩
theorem hp_new (w : World) (o : Obj) (z : Nat) (h : z = w.heap.size) : (w.alloc o).heap[z]? = some o := by subst h; exact heap_alloc_new w _
theorem hp_alloc {w : World} {z : Nat} {u : Obj} (h : w.heap[z]? = some u) (o : Obj) : (w.alloc o).heap[z]? = some u := by
  obtain ⟨hlt, _⟩ := Array.getElem?_eq_some_iff.1 h
  exact (Below.heap_alloc w o z hlt).trans h
theorem hp_drew {w : World} {z : Nat} {u : Obj} (h : w.heap[z]? = some u) : w.drew.heap[z]? = some u := h
theorem hp_grown {w w' : World} {z n : Nat} {u : Obj} (hG : w.grownBy w' (some z)) (hne : n ≠ z) (h : w.heap[n]? = some u) : w'.heap[n]? = some u := by
  obtain ⟨hlt, _⟩ := Array.getElem?_eq_some_iff.1 h
  exact (hG.block n hlt (fun e => hne (by injection e))).trans h
theorem ty_alloc {w : World} {z : Nat} (h : IntTy w z) (o : Obj) : IntTy (w.alloc o) z := h.of ((Within.refl _).alloc _)
theorem ty_drew {w : World} {z : Nat} (h : IntTy w z) : IntTy w.drew z := h
def TakeI (W : World) (top : Nat) (ng : Bool) (fr fd hid : Nat) (lo : Int) (e : Ending) (w' : World) : Prop :=
  ∃ g, e = .returned (.agg #[.int .i64 (if fd = top then (if fr = 0 then 1 else 2) else 0), .bool (if fd = top ∧ fr ≠ 0 then false else ng), .pointer (some ⟨g, 0, none⟩), .int .i64 (if fd = top then (if fr = 0 then lo else 0) else if fd = 0 then lo else (fd : Int) - 1 + lo)]) ∧
    IntB w' g ((if fd = top then 0 else if fd = 0 then fr else fr + hid : Nat) : Int) ∧ W.heap.size ≤ g ∧ Within W w'
def NumCut (W0 : World) (v : Int) (ng : Bool) (e : Int) (s7 : Value) (wx : World) : Prop :=
  ∃ g n : Nat, s7 = .pointer (some ⟨n, 0, none⟩) ∧ wx.heap[n]? = some (.cells #[.int .i64 0, .bool ng, .pointer (some ⟨g, 0, none⟩), .int .i64 e] 65 (0, 0)) ∧ IntB wx g v ∧ W0.heap.size ≤ g ∧ W0.heap.size ≤ n ∧ g ≠ n ∧ Within W0 wx
theorem numCut_new {W0 w : World} {v : Int} {ng : Bool} {e : Int} {g : Nat} (h : IntB w g v) (hW : Within W0 w) (hg : W0.heap.size ≤ g) : NumCut W0 v ng e (.pointer (some ⟨w.heap.size, 0, none⟩)) (w.alloc (.cells #[.int .i64 0, .bool ng, .pointer (some ⟨g, 0, none⟩), .int .i64 e] 65)) :=
  ⟨g, _, rfl, heap_alloc_new w _, h.of ((Within.refl _).alloc _), hg, hW.sizes, Nat.ne_of_lt h.lt, hW.alloc _⟩
theorem IntB.setTy {w : World} {g n : Nat} {v : Int} {t : TypeId} {cs : Array Value} (h : IntB w g v) (hn : w.heap[n]? = some (.cells cs t (0, 0))) (ht : t ≠ 22) (hne : g ≠ n) {w' : World} (hb : ∀ k, k ≠ n → w'.heap[k]? = w.heap[k]?) : IntB w' g v := by
  obtain ⟨A, c, hb', hc, hr⟩ := h
  refine ⟨A, c, (hb _ hne).trans hb', hc, hr.of_block fun k m f hk => hb _ ?_⟩
  rintro rfl
  obtain ⟨cs', h1, _⟩ := hk
  rw [hn] at h1
  injection h1 with h1
  injection h1 with _ h2
  exact ht h2
theorem set4 {w : World} {n : Nat} {a b c d : Value} {t : TypeId} (h : w.heap[n]? = some (.cells #[a, b, c, d] t (0, 0))) (a' b' c' d' : Value) :
    ((((w.setCell ⟨n, 0, none⟩ a').setCell ⟨n, 1, none⟩ b').setCell ⟨n, 2, none⟩ c').setCell ⟨n, 3, none⟩ d').heap[n]? = some (.cells #[a', b', c', d'] t (0, 0)) := by
  simp [World.setCell, Array.getElem?_modify, h]
theorem set4_other {w : World} {n : Nat} (a' b' c' d' : Value) : ∀ k, k ≠ n →
    ((((w.setCell ⟨n, 0, none⟩ a').setCell ⟨n, 1, none⟩ b').setCell ⟨n, 2, none⟩ c').setCell ⟨n, 3, none⟩ d').heap[k]? = w.heap[k]? := by
  intro k hk
  rw [Below.heap_setCell _ _ _ _ hk, Below.heap_setCell _ _ _ _ hk, Below.heap_setCell _ _ _ _ hk, Below.heap_setCell _ _ _ _ hk]
def NumTy (w : World) (p : Nat) : Prop := ∃ cs, w.heap[p]? = some (.cells cs 65 (0, 0))
theorem NumTy.set {w : World} {p : Nat} (h : NumTy w p) (q : Addr) (u : Value) : NumTy (w.setCell q u) p := by
  obtain ⟨cs, h⟩ := h
  by_cases e : p = q.block
  · subst e; unfold NumTy; simp [World.setCell, Array.getElem?_modify, h]
  · exact ⟨cs, (Below.heap_setCell w q u p e).trans h⟩
theorem NumTy.lt {w : World} {p : Nat} (h : NumTy w p) : p < w.heap.size := by
  obtain ⟨cs, h⟩ := h
  obtain ⟨hlt, _⟩ := Array.getElem?_eq_some_iff.1 h
  exact hlt
theorem NumTy.alloc {w : World} {p : Nat} (h : NumTy w p) (o : Obj) : NumTy (w.alloc o) p := by
  have := h.lt
  obtain ⟨cs, h⟩ := h
  exact ⟨cs, (Below.heap_alloc w o p this).trans h⟩
theorem NumTy.grown {w w' : World} {p z : Nat} (h : NumTy w p) (hG : w.grownBy w' (some z)) (hne : p ≠ z) : NumTy w' p := by
  obtain ⟨cs, h⟩ := h
  exact ⟨cs, hp_grown hG hne h⟩
theorem IntB.setNum {w : World} {g : Nat} {v : Int} (h : IntB w g v) {p : Addr} (hne : g ≠ p.block) (ht : NumTy w p.block) (u : Value) : IntB (w.setCell p u) g v := by
  obtain ⟨cs, ht⟩ := ht
  exact h.setTy ht (by decide) hne (fun k hk => Below.heap_setCell w p u k hk)
theorem IntB.alloc {w : World} {g : Nat} {v : Int} (h : IntB w g v) (o : Obj) : IntB (w.alloc o) g v := h.of ((Within.refl _).alloc _)
theorem ib_new (w : World) (z : Nat) (h : z = w.heap.size) : IntB (w.alloc (.cells #[.bool false, .slice none 0 0] 91)) z 0 := by subst h; exact IntB.made w
theorem numCut_set {W0 w : World} {v : Int} {ng : Bool} {e : Int} {g n : Nat} {a b c d : Value} (h : IntB w g v) (hn : w.heap[n]? = some (.cells #[a, b, c, d] 65 (0, 0))) (hW : Within W0 w) (hg : W0.heap.size ≤ g) (hn2 : W0.heap.size ≤ n) (hne : g ≠ n) :
    NumCut W0 v ng e (.pointer (some ⟨n, 0, none⟩)) ((((w.setCell ⟨n, 0, none⟩ (.int .i64 0)).setCell ⟨n, 1, none⟩ (.bool ng)).setCell ⟨n, 2, none⟩ (.pointer (some ⟨g, 0, none⟩))).setCell ⟨n, 3, none⟩ (.int .i64 e)) :=
  ⟨g, n, rfl, set4 hn _ _ _ _, h.setTy hn (by decide) hne (set4_other _ _ _ _), hg, hn2, hne, (((hW.setCell hn2 _).setCell hn2 _).setCell hn2 _).setCell hn2 _⟩
set_option maxRecDepth 100000 in
set_option maxHeartbeats 600000 in
theorem takeS_0 (b fr fd : Nat) (hfr : fr < 8388608) (hfd : fd < 256) (e1 : bits .and .u64 (b : Int) 8388607 = (fr : Int)) (e2 : bits .and .u64 ((b : Int) / 8388608) 255 = (fd : Int)) (e3 : bits .and .u64 ((b : Int) / 2147483648) 1 = 0) (w : World) : Calls Tryz.prog 49 #[fmS, .int .u64 (b : Int)] w (TakeI w 255 false fr fd 8388608 (-149)) := by
  have HF := Lib.hid (show fr < 18446744073709551616 by omega); have HFR := Lib.hid hfr; clear hfr
  have k0 : IntKind.i64.wrap 23 = 23 := by decide
  have k1 : IntKind.i64.wrap 31 = 31 := by decide
  have k2 : IntKind.u64.wrap 31 = 31 := by decide
  have k3 : IntKind.i64.wrap (-150) = -150 := by decide
  have k4 : IntKind.i64.wrap (-149) = -149 := by decide
  have k9 : (2 : Int) ^ min (Int.toNat 31) 64 = 2147483648 := by decide
  go_enter Tryz.func49, Tryz.ntmps49
  go_upto_region 3 with fail
  go_cut [7] (fun s7 wx => NumCut ((w.alloc (.cells #[.int .i64 24, .int .i64 (-126), .int .i64 127, .int .i64 8] 60)).alloc (.cells #[.int .i64 0, .bool false, .pointer none, .int .i64 0] 65)) fr false (-149) s7 wx)
  case first =>
    refine wp_region_schG (fun W => W.cell? ⟨w.heap.size, 0, none⟩ = some (.int .i64 (24)) ∧ W.cell? ⟨w.heap.size, 1, none⟩ = some (.int .i64 (-126)) ∧ W.cell? ⟨w.heap.size, 3, none⟩ = some (.int .i64 (8)) ∧ Within ((w.alloc (.cells #[.int .i64 24, .int .i64 (-126), .int .i64 127, .int .i64 8] 60)).alloc (.cells #[.int .i64 0, .bool false, .pointer none, .int .i64 0] 65)) W) 22 (.firm 0 (.firm 1 (.firm 2 (.firm 3 (.firm 4 (.firm 5 (.firm 6 (.firm 7 (.firm 8 (.firm 9 (.firm 10 (.firm 12 (.firm 14 (.firm 15 (.firm 16 (.firm 17 (.firm 18 (.firm 19 (.two 11 (.two 13 (.firm 20 (.one 21 (.one 22 .nil))) 21 (.one 13 (.firm 20 (.one 22 .nil)))) 21 (.one 11 (.one 13 (.firm 20 (.one 22 .nil))))))))))))))))))))))) (by kernel_rfl) (by kernel_rfl) ⟨by go_simp, by go_simp, by go_simp, Within.refl _⟩ ?_
    rintro w0 ⟨c0, c1, c3, hw0⟩
    try simp only [Act.put, List.setIfInBounds_toArray, List.set_cons_zero, List.set_cons_succ]
    have hs0 : w.heap.size < w0.heap.size := by have := hw0.sizes; simp at this; omega
    repeat
      apply sch_firm rfl rfl (by repeat (with_reducible first | exact Within.refl _ | assumption | refine Within.alloc ?_ _ | refine Within.drew ?_ | refine Within.drewN ?_ _ | refine Within.setCell ?_ (by first | (simp; done) | (simp; omega)) _ | refine Within.trans ?_ (by assumption)))
      · intro wq hq
        have hcq := hq.cells
        clear hq
        go_simp
        first | rfl | (trace_state; fail)
      try simp only [Act.put, List.setIfInBounds_toArray, List.set_cons_zero, List.set_cons_succ]
    refine sch_two rfl rfl rfl rfl (fun K hK => ?_) (fun K hK => ?_)
    · go_simp
      refine hK _ _ (by repeat (with_reducible first | exact Within.refl _ | assumption | refine Within.alloc ?_ _ | refine Within.drew ?_ | refine Within.drewN ?_ _ | refine Within.setCell ?_ (by first | (simp; done) | (simp; omega)) _ | refine Within.trans ?_ (by assumption))) ?_
      clear hK K
      try simp only [Act.put, List.setIfInBounds_toArray, List.set_cons_zero, List.set_cons_succ]
      refine sch_two rfl rfl rfl rfl (fun K hK => ?_) (fun K hK => ?_)
      · go_simp
        refine (BsetUint64 _ fr HF.out _ (by repeat (first | exact ty_new _ _ _ _ (by simp; done) | refine ty_drew ?_ | refine ty_alloc ?_ _))).mono ?_; rintro e1 w1 ⟨rfl, hI, hG⟩
        have hb1 : Within w0 w1 := Within.grown (by repeat (with_reducible first | exact Within.refl _ | assumption | refine Within.alloc ?_ _ | refine Within.drew ?_ | refine Within.drewN ?_ _ | refine Within.setCell ?_ (by first | (simp; done) | (simp; omega)) _ | refine Within.trans ?_ (by assumption))) hG (by simp)
        have hcl := grown_cells hG; have hfz := grown_frozens hG
        refine hK _ _ (by repeat (with_reducible first | exact Within.refl _ | assumption | refine Within.alloc ?_ _ | refine Within.drew ?_ | refine Within.drewN ?_ _ | refine Within.setCell ?_ (by first | (simp; done) | (simp; omega)) _ | refine Within.trans ?_ (by assumption))) ?_
        clear hK K
        try simp only [Act.put, List.setIfInBounds_toArray, List.set_cons_zero, List.set_cons_succ]
        repeat
          apply sch_firm rfl rfl (by repeat (with_reducible first | exact Within.refl _ | assumption | refine Within.alloc ?_ _ | refine Within.drew ?_ | refine Within.drewN ?_ _ | refine Within.setCell ?_ (by first | (simp; done) | (simp; omega)) _ | refine Within.trans ?_ (by assumption)))
          · intro wq hq
            have hcq := hq.cells
            clear hq
            go_simp
            first | rfl | (trace_state; fail)
          try simp only [Act.put, List.setIfInBounds_toArray, List.set_cons_zero, List.set_cons_succ]
        refine sch_one rfl rfl (fun K hK => ?_)
        go_simp
        refine hK _ _ (fun _ => (by repeat (with_reducible first | exact Within.refl _ | assumption | refine Within.alloc ?_ _ | refine Within.drew ?_ | refine Within.drewN ?_ _ | refine Within.setCell ?_ (by first | (simp; done) | (simp; omega)) _ | refine Within.trans ?_ (by assumption)))) ?_
        clear hK K
        try simp only [Act.put, List.setIfInBounds_toArray, List.set_cons_zero, List.set_cons_succ]
        refine sch_one rfl rfl (fun K hK => ?_)
        go_simp
        refine hK _ _ (fun h => absurd h (by decide)) ?_
        clear hK K
        try simp only [Act.put, List.setIfInBounds_toArray, List.set_cons_zero, List.set_cons_succ]
        refine sch_nil ?_
        go_wp2_with fail
        go_meet
        exact numCut_new hI (hw0.trans hb1) (Nat.le_trans hw0.sizes (by simp))
      · go_simp
        refine hK _ _ (by repeat (with_reducible first | exact Within.refl _ | assumption | refine Within.alloc ?_ _ | refine Within.drew ?_ | refine Within.drewN ?_ _ | refine Within.setCell ?_ (by first | (simp; done) | (simp; omega)) _ | refine Within.trans ?_ (by assumption))) ?_
        clear hK K
        try simp only [Act.put, List.setIfInBounds_toArray, List.set_cons_zero, List.set_cons_succ]
        refine sch_one rfl rfl (fun K hK => ?_)
        go_simp
        refine (BsetUint64 _ fr HF.out _ (by repeat (first | exact ty_new _ _ _ _ (by simp; done) | refine ty_drew ?_ | refine ty_alloc ?_ _))).mono ?_; rintro e1 w1 ⟨rfl, hI, hG⟩
        have hb1 : Within w0 w1 := Within.grown (by repeat (with_reducible first | exact Within.refl _ | assumption | refine Within.alloc ?_ _ | refine Within.drew ?_ | refine Within.drewN ?_ _ | refine Within.setCell ?_ (by first | (simp; done) | (simp; omega)) _ | refine Within.trans ?_ (by assumption))) hG (by simp)
        have hcl := grown_cells hG; have hfz := grown_frozens hG
        refine hK _ _ (fun _ => (by repeat (with_reducible first | exact Within.refl _ | assumption | refine Within.alloc ?_ _ | refine Within.drew ?_ | refine Within.drewN ?_ _ | refine Within.setCell ?_ (by first | (simp; done) | (simp; omega)) _ | refine Within.trans ?_ (by assumption)))) ?_
        clear hK K
        try simp only [Act.put, List.setIfInBounds_toArray, List.set_cons_zero, List.set_cons_succ]
        repeat
          apply sch_firm rfl rfl (by repeat (with_reducible first | exact Within.refl _ | assumption | refine Within.alloc ?_ _ | refine Within.drew ?_ | refine Within.drewN ?_ _ | refine Within.setCell ?_ (by first | (simp; done) | (simp; omega)) _ | refine Within.trans ?_ (by assumption)))
          · intro wq hq
            have hcq := hq.cells
            clear hq
            go_simp
            first | rfl | (trace_state; fail)
          try simp only [Act.put, List.setIfInBounds_toArray, List.set_cons_zero, List.set_cons_succ]
        refine sch_one rfl rfl (fun K hK => ?_)
        go_simp
        refine hK _ _ (fun h => absurd h (by decide)) ?_
        clear hK K
        try simp only [Act.put, List.setIfInBounds_toArray, List.set_cons_zero, List.set_cons_succ]
        refine sch_nil ?_
        go_wp2_with fail
        go_meet
        exact numCut_set hI (hp_grown hG (by simp) (by repeat (first | exact hp_new _ _ _ (by simp; done) | refine hp_drew ?_ | refine hp_alloc ?_ _))) (hw0.trans hb1) (Nat.le_trans hw0.sizes (by simp)) (Nat.le_trans hw0.sizes (by simp)) (by simp)
    · go_simp
      refine hK _ _ (by repeat (with_reducible first | exact Within.refl _ | assumption | refine Within.alloc ?_ _ | refine Within.drew ?_ | refine Within.drewN ?_ _ | refine Within.setCell ?_ (by first | (simp; done) | (simp; omega)) _ | refine Within.trans ?_ (by assumption))) ?_
      clear hK K
      try simp only [Act.put, List.setIfInBounds_toArray, List.set_cons_zero, List.set_cons_succ]
      refine sch_one rfl rfl (fun K hK => ?_)
      go_simp
      refine hK _ _ (fun _ => (by repeat (with_reducible first | exact Within.refl _ | assumption | refine Within.alloc ?_ _ | refine Within.drew ?_ | refine Within.drewN ?_ _ | refine Within.setCell ?_ (by first | (simp; done) | (simp; omega)) _ | refine Within.trans ?_ (by assumption)))) ?_
      clear hK K
      try simp only [Act.put, List.setIfInBounds_toArray, List.set_cons_zero, List.set_cons_succ]
      refine sch_one rfl rfl (fun K hK => ?_)
      go_simp
      refine (BsetUint64 _ fr HF.out _ (by repeat (first | exact ty_new _ _ _ _ (by simp; done) | refine ty_drew ?_ | refine ty_alloc ?_ _))).mono ?_; rintro e1 w1 ⟨rfl, hI, hG⟩
      have hb1 : Within w0 w1 := Within.grown (by repeat (with_reducible first | exact Within.refl _ | assumption | refine Within.alloc ?_ _ | refine Within.drew ?_ | refine Within.drewN ?_ _ | refine Within.setCell ?_ (by first | (simp; done) | (simp; omega)) _ | refine Within.trans ?_ (by assumption))) hG (by simp)
      have hcl := grown_cells hG; have hfz := grown_frozens hG
      refine hK _ _ (fun _ => (by repeat (with_reducible first | exact Within.refl _ | assumption | refine Within.alloc ?_ _ | refine Within.drew ?_ | refine Within.drewN ?_ _ | refine Within.setCell ?_ (by first | (simp; done) | (simp; omega)) _ | refine Within.trans ?_ (by assumption)))) ?_
      clear hK K
      try simp only [Act.put, List.setIfInBounds_toArray, List.set_cons_zero, List.set_cons_succ]
      repeat
        apply sch_firm rfl rfl (by repeat (with_reducible first | exact Within.refl _ | assumption | refine Within.alloc ?_ _ | refine Within.drew ?_ | refine Within.drewN ?_ _ | refine Within.setCell ?_ (by first | (simp; done) | (simp; omega)) _ | refine Within.trans ?_ (by assumption)))
        · intro wq hq
          have hcq := hq.cells
          clear hq
          go_simp
          first | rfl | (trace_state; fail)
        try simp only [Act.put, List.setIfInBounds_toArray, List.set_cons_zero, List.set_cons_succ]
      refine sch_one rfl rfl (fun K hK => ?_)
      go_simp
      refine hK _ _ (fun h => absurd h (by decide)) ?_
      clear hK K
      try simp only [Act.put, List.setIfInBounds_toArray, List.set_cons_zero, List.set_cons_succ]
      refine sch_nil ?_
      go_wp2_with fail
      go_meet
      exact numCut_set hI (hp_grown hG (by simp) (by repeat (first | exact hp_new _ _ _ (by simp; done) | refine hp_drew ?_ | refine hp_alloc ?_ _))) (hw0.trans hb1) (Nat.le_trans hw0.sizes (by simp)) (Nat.le_trans hw0.sizes (by simp)) (by simp)
  case rest =>
    obtain ⟨g, n, rfl, hn, hI, hg, hn2, hne, hw⟩ := hcut
    have m0 : wc.cell? ⟨n, 0, none⟩ = some (.int .i64 0) := by simp [World.cell?, hn]
    have m1 : wc.cell? ⟨n, 1, none⟩ = some (.bool false) := by simp [World.cell?, hn]
    have m2 : wc.cell? ⟨n, 2, none⟩ = some (.pointer (some ⟨g, 0, none⟩)) := by simp [World.cell?, hn]
    have m3 : wc.cell? ⟨n, 3, none⟩ = some (.int .i64 (-149)) := by simp [World.cell?, hn]
    have mf : ∀ o, wc.frozen? ⟨n, o, none⟩ = false := fun o => by simp [World.frozen?, hn]
    have x0 : wc.cell? ⟨w.heap.size, 0, none⟩ = some (.int .i64 (24)) := (hw.cells _ _ (by simp; omega)).trans (by go_simp)
    have x1 : wc.cell? ⟨w.heap.size, 1, none⟩ = some (.int .i64 (-126)) := (hw.cells _ _ (by simp; omega)).trans (by go_simp)
    have x3 : wc.cell? ⟨w.heap.size, 3, none⟩ = some (.int .i64 (8)) := (hw.cells _ _ (by simp; omega)).trans (by go_simp)
    have r0 : wc.cell? ⟨w.heap.size + 1, 0, none⟩ = some (.int .i64 0) := (hw.cells _ _ (by simp)).trans (by go_simp)
    have r1 : wc.cell? ⟨w.heap.size + 1, 1, none⟩ = some (.bool false) := (hw.cells _ _ (by simp)).trans (by go_simp)
    have r2 : wc.cell? ⟨w.heap.size + 1, 2, none⟩ = some (.pointer none) := (hw.cells _ _ (by simp)).trans (by go_simp)
    have r3 : wc.cell? ⟨w.heap.size + 1, 3, none⟩ = some (.int .i64 0) := (hw.cells _ _ (by simp)).trans (by go_simp)
    have rf : ∀ o, wc.frozen? ⟨w.heap.size + 1, o, none⟩ = false := fun o => (hw.frozens _ _ (by simp)).trans (by go_simp)
    have hT := Lib.hid hI.ty; have hlg := hI.lt
    have hln : n < wc.heap.size := World.block_lt_of_cell? wc _ m0; have hl1 : w.heap.size + 1 < wc.heap.size := World.block_lt_of_cell? wc _ r0; have hl0 : w.heap.size < wc.heap.size := by omega
    have hn3 : w.heap.size + 2 ≤ n := by simp at hn2; omega
    have hg3 : w.heap.size + 2 ≤ g := by simp at hg; omega
    have q1 : ¬ (w.heap.size + 1 = n) := by omega
    have q2 : ¬ (n = w.heap.size + 1) := by omega
    have q3 : ¬ (w.heap.size = n) := by omega
    have q4 : ¬ (n = w.heap.size) := by omega
    have q5 : ¬ (w.heap.size + 1 = g) := by omega
    have q6 : ¬ (w.heap.size = g) := by omega
    have q7 : ¬ (n = g) := fun h => hne h.symm
    have q8 : ¬ (g = n) := hne
    have tn : NumTy wc n := ⟨_, hn⟩
    have tr : NumTy wc (w.heap.size + 1) := ⟨_, (hw.block _ (by simp)).trans (hp_new _ _ _ (by simp))⟩
    have HI := Lib.hid hI; have HW := Lib.hid hw; have HG := Lib.hid hg3; have HN := Lib.hid hn
    have hww := (Within.refl w).alloc (.cells #[.int .i64 24, .int .i64 (-126), .int .i64 127, .int .i64 8] 60)
    have HWW : Hid (Within w wc) := Lib.hid (((Within.refl w).alloc _ |>.alloc _).trans hw)
    clear hn hn2 hg hI hw hww
    by_cases hF : fd = 255
    · subst hF
      by_cases hr : fr = 0
      · subst hr
        go_wp2
        have hI : IntB wc g 0 := HI.out
        have hWW := HWW.out
        refine bodyPost_ret (v := .agg #[.int .i64 1, .bool false, .pointer (some ⟨g, 0, none⟩), .int .i64 (-149)]) (by simp [results, Tryz.results49, go_sem, r0, r1, r2, r3, q1, q2, hl1]) rfl ?_
        refine ⟨g, ?_, ?_, ?_, ?_⟩
        · simp
        · simp; exact (by repeat (with_reducible first | assumption | exact ib_new _ _ (by simp; done) | refine IntB.setNum ?_ (by first | assumption | (simp; omega)) (by repeat (with_reducible first | assumption | refine NumTy.set ?_ _ _ | refine NumTy.alloc ?_ _)) _ | refine IntB.alloc ?_ _))
        · omega
        · exact (by repeat (with_reducible first | exact Within.refl _ | assumption | refine Within.alloc ?_ _ | refine Within.drew ?_ | refine Within.drewN ?_ _ | refine Within.setCell ?_ (by first | (simp; done) | (simp; omega)) _ | refine Within.trans ?_ (by assumption)))
      · have d1 : ((fr : Int) != 0) = true := bne_iff_ne.2 (by omega)
        have HR := Lib.hid hr; clear hr
        go_wp2
        have hWW := HWW.out
        refine bodyPost_ret (v := .agg #[.int .i64 2, .bool false, .pointer (some ⟨wc.heap.size, 0, none⟩), .int .i64 (0)]) (by simp [results, Tryz.results49, go_sem, r0, r1, r2, r3, q1, q2, hl1]) rfl ?_
        refine ⟨wc.heap.size, ?_, ?_, ?_, ?_⟩
        · simp [HR.out]
        · simp [HR.out]; exact (by repeat (with_reducible first | assumption | exact ib_new _ _ (by simp; done) | refine IntB.setNum ?_ (by first | assumption | (simp; omega)) (by repeat (with_reducible first | assumption | refine NumTy.set ?_ _ _ | refine NumTy.alloc ?_ _)) _ | refine IntB.alloc ?_ _))
        · omega
        · exact (by repeat (with_reducible first | exact Within.refl _ | assumption | refine Within.alloc ?_ _ | refine Within.drew ?_ | refine Within.drewN ?_ _ | refine Within.setCell ?_ (by first | (simp; done) | (simp; omega)) _ | refine Within.trans ?_ (by assumption)))
    · have d1 : True → ((fd : Int) == 255) = false := fun _ => beq_eq_false_iff_ne.2 (by omega)
      have HF2 := Lib.hid hF; clear hF
      by_cases h0 : fd = 0
      · subst h0
        go_wp2
        have hI := HI.out; have hWW := HWW.out
        refine bodyPost_ret (v := .agg #[.int .i64 0, .bool false, .pointer (some ⟨g, 0, none⟩), .int .i64 (-149)]) (by simp [results, Tryz.results49, go_sem, r0, r1, r2, r3, q1, q2, hl1]) rfl ?_
        refine ⟨g, ?_, ?_, ?_, ?_⟩
        · simp
        · simp; exact (by repeat (with_reducible first | assumption | exact ib_new _ _ (by simp; done) | refine IntB.setNum ?_ (by first | assumption | (simp; omega)) (by repeat (with_reducible first | assumption | refine NumTy.set ?_ _ _ | refine NumTy.alloc ?_ _)) _ | refine IntB.alloc ?_ _))
        · omega
        · exact (by repeat (with_reducible first | exact Within.refl _ | assumption | refine Within.alloc ?_ _ | refine Within.drew ?_ | refine Within.drewN ?_ _ | refine Within.setCell ?_ (by first | (simp; done) | (simp; omega)) _ | refine Within.trans ?_ (by assumption)))
      · have hp : 0 < fd := by omega
        have gor : bits .or .u64 (fr : Int) 8388608 = ((fr + 8388608 : Nat) : Int) := by have := HFR.out; rw [show (8388608 : Int) = ((8388608 : Nat) : Int) from rfl, u64_or_nat _ _ (by omega) (by decide), Nat.or_comm, nat_join 23 _ _ (by decide) HFR.out, Nat.add_comm]
        have HR := Lib.hid h0; clear h0
        go_wp2_with fail
        refine (BsetUint64 g (fr + 8388608) (by have := HFR.out; omega) wc hT.out).mono ?_; rintro e2 w2 ⟨rfl, hI2, hG2⟩
        have hcl := grown_cells hG2; have hfz := grown_frozens hG2; have hsz := hG2.size
        have r0 := (hcl _ 0 hl1 q5).trans r0; have r1 := (hcl _ 1 hl1 q5).trans r1; have r2 := (hcl _ 2 hl1 q5).trans r2; have r3 := (hcl _ 3 hl1 q5).trans r3
        have tn2 := tn.grown hG2 q7; have tr2 := tr.grown hG2 q5
        have hl2 : n < w2.heap.size := by omega
        have HW2 : Hid (Within w w2) := Lib.hid (Within.grown HWW.out hG2 (by omega))
        go_wp2
        have hI : IntB w2 g ((fr : Int) + 8388608) := by have := hI2; simpa using this
        have hWW := HW2.out
        refine bodyPost_ret (v := .agg #[.int .i64 0, .bool false, .pointer (some ⟨g, 0, none⟩), .int .i64 ((fd : Int) - 1 + (-126) - 24 + 1)]) (by simp [results, Tryz.results49, go_sem, r0, r1, r2, r3, q1, q2, hl1]) rfl ?_
        refine ⟨g, ?_, ?_, ?_, ?_⟩
        · simp [HF2.out, HR.out]; omega
        · simp [HF2.out, HR.out]; exact (by repeat (with_reducible first | assumption | exact ib_new _ _ (by simp; done) | refine IntB.setNum ?_ (by first | assumption | (simp; omega)) (by repeat (with_reducible first | assumption | refine NumTy.set ?_ _ _ | refine NumTy.alloc ?_ _)) _ | refine IntB.alloc ?_ _))
        · omega
        · exact (by repeat (with_reducible first | exact Within.refl _ | assumption | refine Within.alloc ?_ _ | refine Within.drew ?_ | refine Within.drewN ?_ _ | refine Within.setCell ?_ (by first | (simp; done) | (simp; omega)) _ | refine Within.trans ?_ (by assumption)))
set_option maxRecDepth 100000 in
set_option maxHeartbeats 600000 in
theorem takeS_1 (b fr fd : Nat) (hfr : fr < 8388608) (hfd : fd < 256) (e1 : bits .and .u64 (b : Int) 8388607 = (fr : Int)) (e2 : bits .and .u64 ((b : Int) / 8388608) 255 = (fd : Int)) (e3 : bits .and .u64 ((b : Int) / 2147483648) 1 = 1) (w : World) : Calls Tryz.prog 49 #[fmS, .int .u64 (b : Int)] w (TakeI w 255 true fr fd 8388608 (-149)) := by
  have HF := Lib.hid (show fr < 18446744073709551616 by omega); have HFR := Lib.hid hfr; clear hfr
  have k0 : IntKind.i64.wrap 23 = 23 := by decide
  have k1 : IntKind.i64.wrap 31 = 31 := by decide
  have k2 : IntKind.u64.wrap 31 = 31 := by decide
  have k3 : IntKind.i64.wrap (-150) = -150 := by decide
  have k4 : IntKind.i64.wrap (-149) = -149 := by decide
  have k9 : (2 : Int) ^ min (Int.toNat 31) 64 = 2147483648 := by decide
  go_enter Tryz.func49, Tryz.ntmps49
  go_upto_region 3 with fail
  go_cut [7] (fun s7 wx => NumCut ((w.alloc (.cells #[.int .i64 24, .int .i64 (-126), .int .i64 127, .int .i64 8] 60)).alloc (.cells #[.int .i64 0, .bool false, .pointer none, .int .i64 0] 65)) fr true (-149) s7 wx)
  case first =>
    refine wp_region_schG (fun W => W.cell? ⟨w.heap.size, 0, none⟩ = some (.int .i64 (24)) ∧ W.cell? ⟨w.heap.size, 1, none⟩ = some (.int .i64 (-126)) ∧ W.cell? ⟨w.heap.size, 3, none⟩ = some (.int .i64 (8)) ∧ Within ((w.alloc (.cells #[.int .i64 24, .int .i64 (-126), .int .i64 127, .int .i64 8] 60)).alloc (.cells #[.int .i64 0, .bool false, .pointer none, .int .i64 0] 65)) W) 22 (.firm 0 (.firm 1 (.firm 2 (.firm 3 (.firm 4 (.firm 5 (.firm 6 (.firm 7 (.firm 8 (.firm 9 (.firm 10 (.firm 12 (.firm 14 (.firm 15 (.firm 16 (.firm 17 (.firm 18 (.firm 19 (.two 11 (.two 13 (.firm 20 (.one 21 (.one 22 .nil))) 21 (.one 13 (.firm 20 (.one 22 .nil)))) 21 (.one 11 (.one 13 (.firm 20 (.one 22 .nil))))))))))))))))))))))) (by kernel_rfl) (by kernel_rfl) ⟨by go_simp, by go_simp, by go_simp, Within.refl _⟩ ?_
    rintro w0 ⟨c0, c1, c3, hw0⟩
    try simp only [Act.put, List.setIfInBounds_toArray, List.set_cons_zero, List.set_cons_succ]
    have hs0 : w.heap.size < w0.heap.size := by have := hw0.sizes; simp at this; omega
    repeat
      apply sch_firm rfl rfl (by repeat (with_reducible first | exact Within.refl _ | assumption | refine Within.alloc ?_ _ | refine Within.drew ?_ | refine Within.drewN ?_ _ | refine Within.setCell ?_ (by first | (simp; done) | (simp; omega)) _ | refine Within.trans ?_ (by assumption)))
      · intro wq hq
        have hcq := hq.cells
        clear hq
        go_simp
        first | rfl | (trace_state; fail)
      try simp only [Act.put, List.setIfInBounds_toArray, List.set_cons_zero, List.set_cons_succ]
    refine sch_two rfl rfl rfl rfl (fun K hK => ?_) (fun K hK => ?_)
    · go_simp
      refine hK _ _ (by repeat (with_reducible first | exact Within.refl _ | assumption | refine Within.alloc ?_ _ | refine Within.drew ?_ | refine Within.drewN ?_ _ | refine Within.setCell ?_ (by first | (simp; done) | (simp; omega)) _ | refine Within.trans ?_ (by assumption))) ?_
      clear hK K
      try simp only [Act.put, List.setIfInBounds_toArray, List.set_cons_zero, List.set_cons_succ]
      refine sch_two rfl rfl rfl rfl (fun K hK => ?_) (fun K hK => ?_)
      · go_simp
        refine (BsetUint64 _ fr HF.out _ (by repeat (first | exact ty_new _ _ _ _ (by simp; done) | refine ty_drew ?_ | refine ty_alloc ?_ _))).mono ?_; rintro e1 w1 ⟨rfl, hI, hG⟩
        have hb1 : Within w0 w1 := Within.grown (by repeat (with_reducible first | exact Within.refl _ | assumption | refine Within.alloc ?_ _ | refine Within.drew ?_ | refine Within.drewN ?_ _ | refine Within.setCell ?_ (by first | (simp; done) | (simp; omega)) _ | refine Within.trans ?_ (by assumption))) hG (by simp)
        have hcl := grown_cells hG; have hfz := grown_frozens hG
        refine hK _ _ (by repeat (with_reducible first | exact Within.refl _ | assumption | refine Within.alloc ?_ _ | refine Within.drew ?_ | refine Within.drewN ?_ _ | refine Within.setCell ?_ (by first | (simp; done) | (simp; omega)) _ | refine Within.trans ?_ (by assumption))) ?_
        clear hK K
        try simp only [Act.put, List.setIfInBounds_toArray, List.set_cons_zero, List.set_cons_succ]
        repeat
          apply sch_firm rfl rfl (by repeat (with_reducible first | exact Within.refl _ | assumption | refine Within.alloc ?_ _ | refine Within.drew ?_ | refine Within.drewN ?_ _ | refine Within.setCell ?_ (by first | (simp; done) | (simp; omega)) _ | refine Within.trans ?_ (by assumption)))
          · intro wq hq
            have hcq := hq.cells
            clear hq
            go_simp
            first | rfl | (trace_state; fail)
          try simp only [Act.put, List.setIfInBounds_toArray, List.set_cons_zero, List.set_cons_succ]
        refine sch_one rfl rfl (fun K hK => ?_)
        go_simp
        refine hK _ _ (fun _ => (by repeat (with_reducible first | exact Within.refl _ | assumption | refine Within.alloc ?_ _ | refine Within.drew ?_ | refine Within.drewN ?_ _ | refine Within.setCell ?_ (by first | (simp; done) | (simp; omega)) _ | refine Within.trans ?_ (by assumption)))) ?_
        clear hK K
        try simp only [Act.put, List.setIfInBounds_toArray, List.set_cons_zero, List.set_cons_succ]
        refine sch_one rfl rfl (fun K hK => ?_)
        go_simp
        refine hK _ _ (fun h => absurd h (by decide)) ?_
        clear hK K
        try simp only [Act.put, List.setIfInBounds_toArray, List.set_cons_zero, List.set_cons_succ]
        refine sch_nil ?_
        go_wp2_with fail
        go_meet
        exact numCut_new hI (hw0.trans hb1) (Nat.le_trans hw0.sizes (by simp))
      · go_simp
        refine hK _ _ (by repeat (with_reducible first | exact Within.refl _ | assumption | refine Within.alloc ?_ _ | refine Within.drew ?_ | refine Within.drewN ?_ _ | refine Within.setCell ?_ (by first | (simp; done) | (simp; omega)) _ | refine Within.trans ?_ (by assumption))) ?_
        clear hK K
        try simp only [Act.put, List.setIfInBounds_toArray, List.set_cons_zero, List.set_cons_succ]
        refine sch_one rfl rfl (fun K hK => ?_)
        go_simp
        refine (BsetUint64 _ fr HF.out _ (by repeat (first | exact ty_new _ _ _ _ (by simp; done) | refine ty_drew ?_ | refine ty_alloc ?_ _))).mono ?_; rintro e1 w1 ⟨rfl, hI, hG⟩
        have hb1 : Within w0 w1 := Within.grown (by repeat (with_reducible first | exact Within.refl _ | assumption | refine Within.alloc ?_ _ | refine Within.drew ?_ | refine Within.drewN ?_ _ | refine Within.setCell ?_ (by first | (simp; done) | (simp; omega)) _ | refine Within.trans ?_ (by assumption))) hG (by simp)
        have hcl := grown_cells hG; have hfz := grown_frozens hG
        refine hK _ _ (fun _ => (by repeat (with_reducible first | exact Within.refl _ | assumption | refine Within.alloc ?_ _ | refine Within.drew ?_ | refine Within.drewN ?_ _ | refine Within.setCell ?_ (by first | (simp; done) | (simp; omega)) _ | refine Within.trans ?_ (by assumption)))) ?_
        clear hK K
        try simp only [Act.put, List.setIfInBounds_toArray, List.set_cons_zero, List.set_cons_succ]
        repeat
          apply sch_firm rfl rfl (by repeat (with_reducible first | exact Within.refl _ | assumption | refine Within.alloc ?_ _ | refine Within.drew ?_ | refine Within.drewN ?_ _ | refine Within.setCell ?_ (by first | (simp; done) | (simp; omega)) _ | refine Within.trans ?_ (by assumption)))
          · intro wq hq
            have hcq := hq.cells
            clear hq
            go_simp
            first | rfl | (trace_state; fail)
          try simp only [Act.put, List.setIfInBounds_toArray, List.set_cons_zero, List.set_cons_succ]
        refine sch_one rfl rfl (fun K hK => ?_)
        go_simp
        refine hK _ _ (fun h => absurd h (by decide)) ?_
        clear hK K
        try simp only [Act.put, List.setIfInBounds_toArray, List.set_cons_zero, List.set_cons_succ]
        refine sch_nil ?_
        go_wp2_with fail
        go_meet
        exact numCut_set hI (hp_grown hG (by simp) (by repeat (first | exact hp_new _ _ _ (by simp; done) | refine hp_drew ?_ | refine hp_alloc ?_ _))) (hw0.trans hb1) (Nat.le_trans hw0.sizes (by simp)) (Nat.le_trans hw0.sizes (by simp)) (by simp)
    · go_simp
      refine hK _ _ (by repeat (with_reducible first | exact Within.refl _ | assumption | refine Within.alloc ?_ _ | refine Within.drew ?_ | refine Within.drewN ?_ _ | refine Within.setCell ?_ (by first | (simp; done) | (simp; omega)) _ | refine Within.trans ?_ (by assumption))) ?_
      clear hK K
      try simp only [Act.put, List.setIfInBounds_toArray, List.set_cons_zero, List.set_cons_succ]
      refine sch_one rfl rfl (fun K hK => ?_)
      go_simp
      refine hK _ _ (fun _ => (by repeat (with_reducible first | exact Within.refl _ | assumption | refine Within.alloc ?_ _ | refine Within.drew ?_ | refine Within.drewN ?_ _ | refine Within.setCell ?_ (by first | (simp; done) | (simp; omega)) _ | refine Within.trans ?_ (by assumption)))) ?_
      clear hK K
      try simp only [Act.put, List.setIfInBounds_toArray, List.set_cons_zero, List.set_cons_succ]
      refine sch_one rfl rfl (fun K hK => ?_)
      go_simp
      refine (BsetUint64 _ fr HF.out _ (by repeat (first | exact ty_new _ _ _ _ (by simp; done) | refine ty_drew ?_ | refine ty_alloc ?_ _))).mono ?_; rintro e1 w1 ⟨rfl, hI, hG⟩
      have hb1 : Within w0 w1 := Within.grown (by repeat (with_reducible first | exact Within.refl _ | assumption | refine Within.alloc ?_ _ | refine Within.drew ?_ | refine Within.drewN ?_ _ | refine Within.setCell ?_ (by first | (simp; done) | (simp; omega)) _ | refine Within.trans ?_ (by assumption))) hG (by simp)
      have hcl := grown_cells hG; have hfz := grown_frozens hG
      refine hK _ _ (fun _ => (by repeat (with_reducible first | exact Within.refl _ | assumption | refine Within.alloc ?_ _ | refine Within.drew ?_ | refine Within.drewN ?_ _ | refine Within.setCell ?_ (by first | (simp; done) | (simp; omega)) _ | refine Within.trans ?_ (by assumption)))) ?_
      clear hK K
      try simp only [Act.put, List.setIfInBounds_toArray, List.set_cons_zero, List.set_cons_succ]
      repeat
        apply sch_firm rfl rfl (by repeat (with_reducible first | exact Within.refl _ | assumption | refine Within.alloc ?_ _ | refine Within.drew ?_ | refine Within.drewN ?_ _ | refine Within.setCell ?_ (by first | (simp; done) | (simp; omega)) _ | refine Within.trans ?_ (by assumption)))
        · intro wq hq
          have hcq := hq.cells
          clear hq
          go_simp
          first | rfl | (trace_state; fail)
        try simp only [Act.put, List.setIfInBounds_toArray, List.set_cons_zero, List.set_cons_succ]
      refine sch_one rfl rfl (fun K hK => ?_)
      go_simp
      refine hK _ _ (fun h => absurd h (by decide)) ?_
      clear hK K
      try simp only [Act.put, List.setIfInBounds_toArray, List.set_cons_zero, List.set_cons_succ]
      refine sch_nil ?_
      go_wp2_with fail
      go_meet
      exact numCut_set hI (hp_grown hG (by simp) (by repeat (first | exact hp_new _ _ _ (by simp; done) | refine hp_drew ?_ | refine hp_alloc ?_ _))) (hw0.trans hb1) (Nat.le_trans hw0.sizes (by simp)) (Nat.le_trans hw0.sizes (by simp)) (by simp)
  case rest =>
    obtain ⟨g, n, rfl, hn, hI, hg, hn2, hne, hw⟩ := hcut
    have m0 : wc.cell? ⟨n, 0, none⟩ = some (.int .i64 0) := by simp [World.cell?, hn]
    have m1 : wc.cell? ⟨n, 1, none⟩ = some (.bool true) := by simp [World.cell?, hn]
    have m2 : wc.cell? ⟨n, 2, none⟩ = some (.pointer (some ⟨g, 0, none⟩)) := by simp [World.cell?, hn]
    have m3 : wc.cell? ⟨n, 3, none⟩ = some (.int .i64 (-149)) := by simp [World.cell?, hn]
    have mf : ∀ o, wc.frozen? ⟨n, o, none⟩ = false := fun o => by simp [World.frozen?, hn]
    have x0 : wc.cell? ⟨w.heap.size, 0, none⟩ = some (.int .i64 (24)) := (hw.cells _ _ (by simp; omega)).trans (by go_simp)
    have x1 : wc.cell? ⟨w.heap.size, 1, none⟩ = some (.int .i64 (-126)) := (hw.cells _ _ (by simp; omega)).trans (by go_simp)
    have x3 : wc.cell? ⟨w.heap.size, 3, none⟩ = some (.int .i64 (8)) := (hw.cells _ _ (by simp; omega)).trans (by go_simp)
    have r0 : wc.cell? ⟨w.heap.size + 1, 0, none⟩ = some (.int .i64 0) := (hw.cells _ _ (by simp)).trans (by go_simp)
    have r1 : wc.cell? ⟨w.heap.size + 1, 1, none⟩ = some (.bool false) := (hw.cells _ _ (by simp)).trans (by go_simp)
    have r2 : wc.cell? ⟨w.heap.size + 1, 2, none⟩ = some (.pointer none) := (hw.cells _ _ (by simp)).trans (by go_simp)
    have r3 : wc.cell? ⟨w.heap.size + 1, 3, none⟩ = some (.int .i64 0) := (hw.cells _ _ (by simp)).trans (by go_simp)
    have rf : ∀ o, wc.frozen? ⟨w.heap.size + 1, o, none⟩ = false := fun o => (hw.frozens _ _ (by simp)).trans (by go_simp)
    have hT := Lib.hid hI.ty; have hlg := hI.lt
    have hln : n < wc.heap.size := World.block_lt_of_cell? wc _ m0; have hl1 : w.heap.size + 1 < wc.heap.size := World.block_lt_of_cell? wc _ r0; have hl0 : w.heap.size < wc.heap.size := by omega
    have hn3 : w.heap.size + 2 ≤ n := by simp at hn2; omega
    have hg3 : w.heap.size + 2 ≤ g := by simp at hg; omega
    have q1 : ¬ (w.heap.size + 1 = n) := by omega
    have q2 : ¬ (n = w.heap.size + 1) := by omega
    have q3 : ¬ (w.heap.size = n) := by omega
    have q4 : ¬ (n = w.heap.size) := by omega
    have q5 : ¬ (w.heap.size + 1 = g) := by omega
    have q6 : ¬ (w.heap.size = g) := by omega
    have q7 : ¬ (n = g) := fun h => hne h.symm
    have q8 : ¬ (g = n) := hne
    have tn : NumTy wc n := ⟨_, hn⟩
    have tr : NumTy wc (w.heap.size + 1) := ⟨_, (hw.block _ (by simp)).trans (hp_new _ _ _ (by simp))⟩
    have HI := Lib.hid hI; have HW := Lib.hid hw; have HG := Lib.hid hg3; have HN := Lib.hid hn
    have hww := (Within.refl w).alloc (.cells #[.int .i64 24, .int .i64 (-126), .int .i64 127, .int .i64 8] 60)
    have HWW : Hid (Within w wc) := Lib.hid (((Within.refl w).alloc _ |>.alloc _).trans hw)
    clear hn hn2 hg hI hw hww
    by_cases hF : fd = 255
    · subst hF
      by_cases hr : fr = 0
      · subst hr
        go_wp2
        have hI : IntB wc g 0 := HI.out
        have hWW := HWW.out
        refine bodyPost_ret (v := .agg #[.int .i64 1, .bool true, .pointer (some ⟨g, 0, none⟩), .int .i64 (-149)]) (by simp [results, Tryz.results49, go_sem, r0, r1, r2, r3, q1, q2, hl1]) rfl ?_
        refine ⟨g, ?_, ?_, ?_, ?_⟩
        · simp
        · simp; exact (by repeat (with_reducible first | assumption | exact ib_new _ _ (by simp; done) | refine IntB.setNum ?_ (by first | assumption | (simp; omega)) (by repeat (with_reducible first | assumption | refine NumTy.set ?_ _ _ | refine NumTy.alloc ?_ _)) _ | refine IntB.alloc ?_ _))
        · omega
        · exact (by repeat (with_reducible first | exact Within.refl _ | assumption | refine Within.alloc ?_ _ | refine Within.drew ?_ | refine Within.drewN ?_ _ | refine Within.setCell ?_ (by first | (simp; done) | (simp; omega)) _ | refine Within.trans ?_ (by assumption)))
      · have d1 : ((fr : Int) != 0) = true := bne_iff_ne.2 (by omega)
        have HR := Lib.hid hr; clear hr
        go_wp2
        have hWW := HWW.out
        refine bodyPost_ret (v := .agg #[.int .i64 2, .bool false, .pointer (some ⟨wc.heap.size, 0, none⟩), .int .i64 (0)]) (by simp [results, Tryz.results49, go_sem, r0, r1, r2, r3, q1, q2, hl1]) rfl ?_
        refine ⟨wc.heap.size, ?_, ?_, ?_, ?_⟩
        · simp [HR.out]
        · simp [HR.out]; exact (by repeat (with_reducible first | assumption | exact ib_new _ _ (by simp; done) | refine IntB.setNum ?_ (by first | assumption | (simp; omega)) (by repeat (with_reducible first | assumption | refine NumTy.set ?_ _ _ | refine NumTy.alloc ?_ _)) _ | refine IntB.alloc ?_ _))
        · omega
        · exact (by repeat (with_reducible first | exact Within.refl _ | assumption | refine Within.alloc ?_ _ | refine Within.drew ?_ | refine Within.drewN ?_ _ | refine Within.setCell ?_ (by first | (simp; done) | (simp; omega)) _ | refine Within.trans ?_ (by assumption)))
    · have d1 : True → ((fd : Int) == 255) = false := fun _ => beq_eq_false_iff_ne.2 (by omega)
      have HF2 := Lib.hid hF; clear hF
      by_cases h0 : fd = 0
      · subst h0
        go_wp2
        have hI := HI.out; have hWW := HWW.out
        refine bodyPost_ret (v := .agg #[.int .i64 0, .bool true, .pointer (some ⟨g, 0, none⟩), .int .i64 (-149)]) (by simp [results, Tryz.results49, go_sem, r0, r1, r2, r3, q1, q2, hl1]) rfl ?_
        refine ⟨g, ?_, ?_, ?_, ?_⟩
        · simp
        · simp; exact (by repeat (with_reducible first | assumption | exact ib_new _ _ (by simp; done) | refine IntB.setNum ?_ (by first | assumption | (simp; omega)) (by repeat (with_reducible first | assumption | refine NumTy.set ?_ _ _ | refine NumTy.alloc ?_ _)) _ | refine IntB.alloc ?_ _))
        · omega
        · exact (by repeat (with_reducible first | exact Within.refl _ | assumption | refine Within.alloc ?_ _ | refine Within.drew ?_ | refine Within.drewN ?_ _ | refine Within.setCell ?_ (by first | (simp; done) | (simp; omega)) _ | refine Within.trans ?_ (by assumption)))
      · have hp : 0 < fd := by omega
        have gor : bits .or .u64 (fr : Int) 8388608 = ((fr + 8388608 : Nat) : Int) := by have := HFR.out; rw [show (8388608 : Int) = ((8388608 : Nat) : Int) from rfl, u64_or_nat _ _ (by omega) (by decide), Nat.or_comm, nat_join 23 _ _ (by decide) HFR.out, Nat.add_comm]
        have HR := Lib.hid h0; clear h0
        go_wp2_with fail
        refine (BsetUint64 g (fr + 8388608) (by have := HFR.out; omega) wc hT.out).mono ?_; rintro e2 w2 ⟨rfl, hI2, hG2⟩
        have hcl := grown_cells hG2; have hfz := grown_frozens hG2; have hsz := hG2.size
        have r0 := (hcl _ 0 hl1 q5).trans r0; have r1 := (hcl _ 1 hl1 q5).trans r1; have r2 := (hcl _ 2 hl1 q5).trans r2; have r3 := (hcl _ 3 hl1 q5).trans r3
        have tn2 := tn.grown hG2 q7; have tr2 := tr.grown hG2 q5
        have hl2 : n < w2.heap.size := by omega
        have HW2 : Hid (Within w w2) := Lib.hid (Within.grown HWW.out hG2 (by omega))
        go_wp2
        have hI : IntB w2 g ((fr : Int) + 8388608) := by have := hI2; simpa using this
        have hWW := HW2.out
        refine bodyPost_ret (v := .agg #[.int .i64 0, .bool true, .pointer (some ⟨g, 0, none⟩), .int .i64 ((fd : Int) - 1 + (-126) - 24 + 1)]) (by simp [results, Tryz.results49, go_sem, r0, r1, r2, r3, q1, q2, hl1]) rfl ?_
        refine ⟨g, ?_, ?_, ?_, ?_⟩
        · simp [HF2.out, HR.out]; omega
        · simp [HF2.out, HR.out]; exact (by repeat (with_reducible first | assumption | exact ib_new _ _ (by simp; done) | refine IntB.setNum ?_ (by first | assumption | (simp; omega)) (by repeat (with_reducible first | assumption | refine NumTy.set ?_ _ _ | refine NumTy.alloc ?_ _)) _ | refine IntB.alloc ?_ _))
        · omega
        · exact (by repeat (with_reducible first | exact Within.refl _ | assumption | refine Within.alloc ?_ _ | refine Within.drew ?_ | refine Within.drewN ?_ _ | refine Within.setCell ?_ (by first | (simp; done) | (simp; omega)) _ | refine Within.trans ?_ (by assumption)))
theorem RtakeS (b : Nat) (hb : b < 4294967296) (w : World) : Calls Tryz.prog 49 #[fmS, .int .u64 (b : Int)] w (TakeI w 255 (decide (2147483648 ≤ b)) (b % 8388608) (b / 8388608 % 256) 8388608 (-149)) := by
  have e1 := u64_mask 23 (by decide) b (by omega)
  have e2 := u64_mask 8 (by decide) (b / 8388608) (by omega)
  have e3 := u64_mask 1 (by decide) (b / 2147483648) (by omega)
  rw [show (2 ^ 23 - 1 : Nat) = 8388607 from rfl, show (2 ^ 23 : Nat) = 8388608 from rfl] at e1
  rw [show (2 ^ 8 - 1 : Nat) = 255 from rfl, show (2 ^ 8 : Nat) = 256 from rfl, Int.natCast_ediv] at e2
  rw [show (2 ^ 1 - 1 : Nat) = 1 from rfl, show (2 ^ 1 : Nat) = 2 from rfl, Int.natCast_ediv] at e3
  by_cases h : 2147483648 ≤ b
  · rw [decide_eq_true h]
    rw [show b / 2147483648 % 2 = 1 by omega] at e3
    exact takeS_1 b (b % 8388608) (b / 8388608 % 256) (Nat.mod_lt _ (by decide)) (Nat.mod_lt _ (by decide)) e1 e2 e3 w
  · rw [decide_eq_false h]
    rw [show b / 2147483648 % 2 = 0 by omega] at e3
    exact takeS_0 b (b % 8388608) (b / 8388608 % 256) (Nat.mod_lt _ (by decide)) (Nat.mod_lt _ (by decide)) e1 e2 e3 w
end Go.Proofs.YtifgngmebnjfkaaGreatDoor
end

section
namespace Go.Proofs.YtifgngmebnjfkaaGreatDoor
open Go.RowKit
def MinusRel (W : World) (g : Nat) (la lb : List Nat) (cv iv : Value) (wr : World) : Prop :=
  ∃ (k c : Nat) (o : List Nat), k ≤ la.length ∧ c ≤ 1 ∧ cv = .int .u64 (c : Int) ∧ iv = .int .i64 (k : Int) ∧ o.length = la.length ∧ Words o ∧ OwnW wr g o ∧ lo o k + lo lb k = lo la k + 4294967296 ^ k * c ∧ Within W wr
theorem MinusRel.less {W wr : World} {g : Nat} {la lb o : List Nat} {k c x y : Nat} (v q : Int) (hk : k < la.length) (hc : c ≤ 1) (ho : o.length = la.length) (hwo : Words o) (hown : OwnW wr g o) (hval : lo o k + lo lb k = lo la k + 4294967296 ^ k * c) (hin : Within W wr)
    (hx : x = la.getD k 0) (hy : y = lb.getD k 0) (hx2 : x < 4294967296) (hy2 : y < 4294967296) (hg : W.heap.size ≤ g) (hlt : x < c + y) (hv : v = ((x + 4294967296 - (c + y) : Nat) : Int)) (hq : q = ((k + 1 : Nat) : Int)) :
    MinusRel W g la lb (.int .u64 1) (.int .i64 q) (wr.setCell ⟨g, k, none⟩ (.int .u32 v)) := by
  subst hv hq
  refine ⟨k + 1, 1, o.set k (x + 4294967296 - (c + y)), by omega, by omega, rfl, rfl, by rw [List.length_set]; exact ho, hwo.set _ _ (by omega), hown.set _ _ (by omega), ?_, hin.setCell hg _⟩
  rw [lo_set_succ _ _ _ (by omega), lo_succ la, lo_succ lb, ← hx, ← hy, Nat.pow_succ]
  have := minus_less (P := 4294967296 ^ k) (a := x) (b := y) hval (by omega)
  omega
theorem MinusRel.more {W wr : World} {g : Nat} {la lb o : List Nat} {k c x y : Nat} (v q : Int) (hk : k < la.length) (ho : o.length = la.length) (hwo : Words o) (hown : OwnW wr g o) (hval : lo o k + lo lb k = lo la k + 4294967296 ^ k * c) (hin : Within W wr)
    (hx : x = la.getD k 0) (hy : y = lb.getD k 0) (hx2 : x < 4294967296) (hg : W.heap.size ≤ g) (hge : c + y ≤ x) (hv : v = ((x - (c + y) : Nat) : Int)) (hq : q = ((k + 1 : Nat) : Int)) :
    MinusRel W g la lb (.int .u64 0) (.int .i64 q) (wr.setCell ⟨g, k, none⟩ (.int .u32 v)) := by
  subst hv hq
  refine ⟨k + 1, 0, o.set k (x - (c + y)), by omega, by omega, rfl, rfl, by rw [List.length_set]; exact ho, hwo.set _ _ (by omega), hown.set _ _ (by omega), ?_, hin.setCell hg _⟩
  rw [lo_set_succ _ _ _ (by omega), lo_succ la, lo_succ lb, ← hx, ← hy, Nat.pow_succ]
  have := minus_more (P := 4294967296 ^ k) (a := x) (b := y) hval (by omega)
  omega
set_option maxRecDepth 100000 in
set_option maxHeartbeats 600000 in
theorem Bminus0 (la lb : List Nat) (A Bv : Option Addr) (ca cb : Nat) (hwa : Words la) (hwb : Words lb) (hla : la.length ≤ 1500000) (hll : lb.length ≤ la.length) (hge : wval lb ≤ wval la) (w : World) (hra : RowAt w A la) (hrb : RowAt w Bv lb) :
    Calls Tryz.prog 125 #[.slice A la.length ca, .slice Bv lb.length cb] w (RetW w (wval la - wval lb)) := by
  have hmk := run_make_row' (P := Tryz.prog) 89 22 (.int .u32 0) 4 (by kernel_rfl) Tryz.infoU32 rfl .i64 .i64 la.length (by omega) (by omega)
  have HWA := Lib.hid hwa; have HWB := Lib.hid hwb; have HRA := Lib.hid hra; have HRB := Lib.hid hrb; clear hwa hwb hra hrb
  have HGE := Lib.hid hge; have HLL := Lib.hid hll; clear hge hll
  have HM := OwnW.made w la.length
  go_enter Tryz.func125, Tryz.ntmps125
  go_wp2
  go_loopw [6, 7] (fun cv iv wr => MinusRel w w.heap.size la lb cv iv wr) (fun _ iv _ => la.length - (intOf iv).toNat)
  case atStart => exact ⟨0, 0, _, Nat.zero_le _, Nat.zero_le _, rfl, rfl, by simp, Words.zeros _, HM, by simp [lo_zero], (Within.refl w).alloc _⟩
  case round =>
    obtain ⟨k, c, o, hk, hc, rfl, rfl, ho, hwo, hown, hval, hin⟩ := hrel
    have HV := Lib.hid hval; have HO := Lib.hid ho; have HWO := Lib.hid hwo; clear hval ho hwo
    rcases Nat.lt_or_ge k la.length with hlt | hlt
    · obtain ⟨ga, rfl, hga, hca⟩ := (HRA.out.of hin).cell hlt
      obtain ⟨x, hxe⟩ : ∃ x, x = la.getD k 0 := ⟨_, rfl⟩
      have hx : x < 4294967296 := by rw [hxe]; exact HWA.out.getD k
      rw [← hxe] at hca
      have HXE := Lib.hid hxe; clear hxe
      have hco := hown.cell (i := k) (by rw [HO.out]; omega)
      have hfo := hown.frozen k
      rcases Nat.lt_or_ge k lb.length with hlb | hlb
      · obtain ⟨gb, rfl, hgb, hcb⟩ := (HRB.out.of hin).cell hlb
        obtain ⟨y, hye⟩ : ∃ y, y = lb.getD k 0 := ⟨_, rfl⟩
        have hy : y < 4294967296 := by rw [hye]; exact HWB.out.getD k
        rw [← hye] at hcb
        have HYE := Lib.hid hye; clear hye
        rcases Nat.lt_or_ge x (c + y) with hxy | hxy
        · have dx : decide ((x : Int) < c + y) = true := decide_eq_true (by omega)
          go_wp2
          go_roundw
          case rel => exact MinusRel.less (x := x) (y := y) _ _ hlt hc HO.out HWO.out hown HV.out hin HXE.out HYE.out hx hy (Nat.le_refl _) hxy (by omega) (by omega)
          case measure => simp [intOf]; omega
        · have dx : decide ((x : Int) < c + y) = false := decide_eq_false (by omega)
          go_wp2
          go_roundw
          case rel => exact MinusRel.more (x := x) (y := y) _ _ hlt HO.out HWO.out hown HV.out hin HXE.out HYE.out hx (Nat.le_refl _) hxy (by omega) (by omega)
          case measure => simp [intOf]; omega
      · have hy0 : 0 = lb.getD k 0 := by simp [List.getD_eq_getElem?_getD, hlb]
        have HY0 := Lib.hid hy0; clear hy0
        rcases Nat.lt_or_ge x (c) with hxy | hxy
        · have dx : decide ((x : Int) < c) = true := decide_eq_true (by omega)
          go_wp2
          go_roundw
          case rel => exact MinusRel.less (x := x) (y := 0) _ _ hlt hc HO.out HWO.out hown HV.out hin HXE.out HY0.out hx (by decide) (Nat.le_refl _) hxy (by omega) (by omega)
          case measure => simp [intOf]; omega
        · have dx : decide ((x : Int) < c) = false := decide_eq_false (by omega)
          go_wp2
          go_roundw
          case rel => exact MinusRel.more (x := x) (y := 0) _ _ hlt HO.out HWO.out hown HV.out hin HXE.out HY0.out hx (Nat.le_refl _) hxy (by omega) (by omega)
          case measure => simp [intOf]; omega
    · obtain rfl : k = la.length := by omega
      have CT := Lib.hid (Bcut o (some ⟨w.heap.size, 0, none⟩) la.length HWO.out (by rw [HO.out]; exact Nat.le_refl _) (by rw [HO.out]; omega) _ hown.at)
      rw [HO.out] at CT
      go_wp2_with fail
      refine (CT.out).mono ?_; rintro e1 w1 ⟨rfl, rfl⟩
      go_wp2
      go_ret
      refine retW_cut hown.at HWO.out (by rw [HO.out]; exact Nat.le_refl _) hin ?_
      have h1 := HV.out
      have h2 := lo_lt o HWO.out la.length
      rw [lo_all o (Nat.le_of_eq HO.out), lo_all la (Nat.le_refl _), lo_all lb HLL.out] at h1
      rw [lo_all o (Nat.le_of_eq HO.out)] at h2
      exact (minus_end h1 h2 HGE.out).2
theorem Bminus (a b : Nat) (A Bv : Option Addr) (ca cb : Nat) (ha : (dg a).length ≤ 1500000) (hge : b ≤ a) (w : World) (hra : RowAt w A (dg a)) (hrb : RowAt w Bv (dg b)) :
    Calls Tryz.prog 125 #[.slice A (dg a).length ca, .slice Bv (dg b).length cb] w (RetW w (a - b)) := by
  have := Bminus0 (dg a) (dg b) A Bv ca cb (words_dg a) (words_dg b) ha (dg_len_mono hge) (by rw [wval_dg, wval_dg]; exact hge) w hra hrb
  rw [wval_dg, wval_dg] at this
  exact this
end Go.Proofs.YtifgngmebnjfkaaGreatDoor
end

section
namespace Go.Proofs.YtifgngmebnjfkaaGreatDoor
open Go.RowKit
def CmpRel (W : World) (la lb : List Nat) (iv : Value) (wr : World) : Prop :=
  ∃ k : Nat, k ≤ la.length ∧ iv = .int .i64 ((k : Int) - 1) ∧ (∀ j, k ≤ j → la.getD j 0 = lb.getD j 0) ∧ Within W wr
set_option maxRecDepth 100000 in
set_option maxHeartbeats 600000 in
theorem Bcompare_ne (n m : Nat) (A Bv : Option Addr) (ca cb : Nat) (h : n ≠ m) (hn : n ≤ 1500000) (hm : m ≤ 1500000) (w : World) :
    Calls Tryz.prog 131 #[.slice A n ca, .slice Bv m cb] w fun e w' => e = .returned (.int .i64 (if n < m then -1 else 1)) ∧ Within w w' := by
  have d0 : ((n : Int) != m) = true := bne_iff_ne.2 (by omega)
  rcases Nat.lt_or_ge n m with hlt | hlt
  · rw [if_pos hlt]
    clear h
    go_enter Tryz.func131, Tryz.ntmps131
    go_wp2
    go_ret
    exact ⟨rfl, Within.refl _⟩
  · rw [if_neg (by omega)]
    clear h
    go_enter Tryz.func131, Tryz.ntmps131
    go_wp2
    go_ret
    exact ⟨rfl, Within.refl _⟩
set_option maxRecDepth 100000 in
set_option maxHeartbeats 600000 in
theorem Bcompare_eq (a b : Nat) (A Bv : Option Addr) (ca cb : Nat) (h : (dg b).length = (dg a).length) (ha : (dg a).length ≤ 1500000) (w : World) (hra : RowAt w A (dg a)) (hrb : RowAt w Bv (dg b)) :
    Calls Tryz.prog 131 #[.slice A (dg a).length ca, .slice Bv (dg a).length cb] w fun e w' => e = .returned (.int .i64 (cmpN a b)) ∧ Within w w' := by
  have d0 : (((dg a).length : Int) != (dg a).length) = false := bne_self_eq_false _
  have HRA := Lib.hid hra; have HRB := Lib.hid hrb; clear hra hrb
  have HL := Lib.hid h; clear h
  go_enter Tryz.func131, Tryz.ntmps131
  go_wp2
  go_loopw [5] (fun iv wr => CmpRel w (dg a) (dg b) iv wr) (fun iv _ => (intOf iv + 1).toNat)
  case atStart => exact ⟨(dg a).length, Nat.le_refl _, by simp, fun j hj => by simp [List.getD_eq_getElem?_getD, hj, HL.out], Within.refl _⟩
  case round =>
    obtain ⟨k, hk, rfl, he, hin⟩ := hrel
    have HE := Lib.hid he; clear he
    rcases k with _ | k
    · rw [show ((0 : Nat) : Int) - 1 = -1 from rfl]
      go_wp2
      go_ret
      refine ⟨ret_int ?_, hin⟩
      rw [eq_of_all (a := a) (b := b) HL.out.symm (fun j => HE.out j (Nat.zero_le _)), cmpN_eq]
    · obtain ⟨ga, rfl, hga, hca⟩ := (HRA.out.of hin).cell (i := k) (by omega)
      obtain ⟨gb, rfl, hgb, hcb⟩ := (HRB.out.of hin).cell (i := k) (by rw [HL.out]; omega)
      obtain ⟨x, hxe⟩ : ∃ x, x = (dg a).getD k 0 := ⟨_, rfl⟩
      obtain ⟨y, hye⟩ : ∃ y, y = (dg b).getD k 0 := ⟨_, rfl⟩
      rw [← hxe] at hca; rw [← hye] at hcb
      have HXE := Lib.hid hxe; have HYE := Lib.hid hye; clear hxe hye
      have e1 : ((k + 1 : Nat) : Int) - 1 = (k : Int) := by omega
      rw [e1]
      rcases Nat.lt_trichotomy x y with hxy | hxy | hxy
      · have hxx : decide ((x : Int) < y) = true := decide_eq_true (by omega)
        go_wp2
        go_quiet (fail)
        go_wp2
        go_ret
        refine ⟨ret_int ?_, hin.drewN _⟩
        rw [cmpN_lt (lt_of_top (i := k) HL.out.symm (fun j hj => HE.out j hj) (by rw [← HXE.out, ← HYE.out]; exact hxy))]
      · subst hxy
        have hxx : decide ((x : Int) < x) = false := decide_eq_false (by omega)
        have hxx2 : decide ((x : Int) > x) = false := decide_eq_false (by omega)
        go_wp2
        go_quiet (fail)
        go_wp2
        go_quiet (fail)
        go_wp2
        go_roundw
        case rel => exact ⟨k, by omega, rfl, fun j hj => by
          rcases Nat.eq_or_lt_of_le hj with h | h
          · subst h; rw [← HXE.out, ← HYE.out]
          · exact HE.out j h, hin.drewN _⟩
        case measure => simp [intOf]
      · have hxx : decide ((x : Int) < y) = false := decide_eq_false (by omega)
        have hxx2 : decide ((x : Int) > y) = true := decide_eq_true (by omega)
        go_wp2
        go_quiet (fail)
        go_wp2
        go_quiet (fail)
        go_wp2
        go_ret
        refine ⟨ret_int ?_, (hin.drewN _).drewN _⟩
        rw [cmpN_gt (lt_of_top (i := k) HL.out (fun j hj => (HE.out j hj).symm) (by rw [← HXE.out, ← HYE.out]; exact hxy))]
theorem Bcompare (a b : Nat) (A Bv : Option Addr) (ca cb : Nat) (ha : (dg a).length ≤ 1500000) (hb : (dg b).length ≤ 1500000) (w : World) (hra : RowAt w A (dg a)) (hrb : RowAt w Bv (dg b)) :
    Calls Tryz.prog 131 #[.slice A (dg a).length ca, .slice Bv (dg b).length cb] w fun e w' => e = .returned (.int .i64 (cmpN a b)) ∧ Within w w' := by
  by_cases h : (dg b).length = (dg a).length
  · rw [h]; exact Bcompare_eq a b A Bv ca cb h ha w hra hrb
  · refine (Bcompare_ne _ _ A Bv ca cb (fun e => h e.symm) ha hb w).mono ?_
    rintro e w' ⟨rfl, hb'⟩
    refine ⟨?_, hb'⟩
    rcases Nat.lt_or_ge (dg a).length (dg b).length with hlt | hlt
    · rw [if_pos hlt, cmpN_lt (lt_of_len hlt)]
    · rw [if_neg (by omega), cmpN_gt (lt_of_len (by omega))]
end Go.Proofs.YtifgngmebnjfkaaGreatDoor
end

section
namespace Go.Proofs.YtifgngmebnjfkaaGreatDoor
open Go.RowKit
theorem dg_add_len {a b n : Nat} (ha : (dg a).length ≤ n) (hb : (dg b).length ≤ n) : (dg (a + b)).length ≤ n + 1 := by
  refine dg_len_le ?_
  have h1 := lt_of_dg a
  have h2 := lt_of_dg b
  have h3 : 4294967296 ^ (dg a).length ≤ 4294967296 ^ n := Nat.pow_le_pow_right (by decide) ha
  have h4 : 4294967296 ^ (dg b).length ≤ 4294967296 ^ n := Nat.pow_le_pow_right (by decide) hb
  rw [Nat.pow_succ]
  generalize 4294967296 ^ n = Z at *
  omega
theorem dg_add_le {a b : Nat} (ha : (dg a).length ≤ 1000000) (hb : (dg b).length ≤ 1000000) : (dg (a + b)).length ≤ 1500000 := Nat.le_trans (dg_add_len ha hb) (by decide)
set_option maxRecDepth 100000 in
set_option maxHeartbeats 600000 in
theorem Bsum_same000 (z x y : Nat) (na nb : Nat) (A Bv : Option Addr) (ca cb : Nat) (ha : (dg na).length ≤ 1000000) (hb : (dg nb).length ≤ 1000000) (w : World) (hz : IntTy w z) (a0 : w.cell? ⟨x, 0, none⟩ = some (.bool false)) (a1 : w.cell? ⟨x, 1, none⟩ = some (.slice A (dg na).length ca)) (hra : RowAt w A (dg na)) (b0 : w.cell? ⟨y, 0, none⟩ = some (.bool false)) (b1 : w.cell? ⟨y, 1, none⟩ = some (.slice Bv (dg nb).length cb)) (hrb : RowAt w Bv (dg nb)) : Calls Tryz.prog 105 #[.pointer (some ⟨z, 0, none⟩), .pointer (some ⟨x, 0, none⟩), .pointer (some ⟨y, 0, none⟩), .bool false] w (PutI w z (sgv false (na + nb))) := by
  have HZ := Lib.hid hz; have HRA := Lib.hid hra; have HRB := Lib.hid hrb; clear hz hra hrb
  have hlx := World.block_lt_of_cell? w _ a0
  have hly := World.block_lt_of_cell? w _ b0
  go_enter Tryz.func105, Tryz.ntmps105
  go_wp2
  refine wp_region_sched (fun W => W.cell? ⟨x, 1, none⟩ = some (.slice A (dg na).length ca) ∧ W.cell? ⟨y, 1, none⟩ = some (.slice Bv (dg nb).length cb)) 11 [(0, true), (1, true), (2, true), (3, true), (4, true), (5, true), (6, true), (7, true), (8, true), (9, true), (10, false), (11, false), (12, false)] (by kernel_rfl) (by kernel_rfl) ⟨a1, b1⟩ ?_
  intro hS
  repeat
    apply sched_firm rfl rfl hS
    · intro wq hq
      have hq0 := hq.1; have hq1 := hq.2
      clear hq
      go_simp
      first | rfl | (trace_state; fail)
    try simp only [Act.put, List.setIfInBounds_toArray, List.set_cons_zero, List.set_cons_succ]
  refine sched_one rfl rfl (fun K hK => ?_)
  go_simp
  refine (Bplus na nb A Bv ca cb (by omega) (by omega) w.drew (RowAt.drew HRA.out) (RowAt.drew HRB.out)).mono ?_
  rintro e2 w2 ⟨A', c', rfl, hc', hr', hb'⟩
  have hb2 : Within w w2 := (Within.refl w).drew.trans hb'
  have hlA : (dg (na + nb)).length ≤ 1500000 := by first | exact Nat.le_trans (dg_len_mono (Nat.sub_le _ _)) (by omega) | exact dg_add_le ha hb
  refine hK _ _ (fun h => ⟨(hb2.cells _ _ hlx).trans a1, (hb2.cells _ _ hly).trans b1⟩) ?_
  clear hK K
  try simp only [Act.put, List.setIfInBounds_toArray, List.set_cons_zero, List.set_cons_succ]
  refine sched_one rfl rfl (fun K hK => ?_)
  go_simp
  refine (Bput z false (dg (na + nb)) A' c' (words_dg _) hc' (by omega) w2 hr' (HZ.out.of hb2)).mono ?_
  rintro e3 w3 ⟨rfl, hI, hG⟩
  refine hK _ _ (fun h => absurd h (by decide)) ?_
  clear hK K
  try simp only [Act.put, List.setIfInBounds_toArray, List.set_cons_zero, List.set_cons_succ]
  refine sched_one rfl rfl (fun K hK => ?_)
  go_simp
  refine hK _ _ (fun h => absurd h (by decide)) ?_
  clear hK K
  try simp only [Act.put, List.setIfInBounds_toArray, List.set_cons_zero, List.set_cons_succ]
  refine sched_nil ?_
  go_wp2
  go_ret
  rw [wval_dg] at hI
  exact ⟨rfl, hI, grown_trans (grown_within z hb2) hG⟩
set_option maxRecDepth 100000 in
set_option maxHeartbeats 600000 in
theorem Bsum_ge001 (z x y : Nat) (na nb : Nat) (A Bv : Option Addr) (ca cb : Nat) (ha : (dg na).length ≤ 1000000) (hb : (dg nb).length ≤ 1000000) (w : World) (hz : IntTy w z) (a0 : w.cell? ⟨x, 0, none⟩ = some (.bool false)) (a1 : w.cell? ⟨x, 1, none⟩ = some (.slice A (dg na).length ca)) (hra : RowAt w A (dg na)) (b0 : w.cell? ⟨y, 0, none⟩ = some (.bool false)) (b1 : w.cell? ⟨y, 1, none⟩ = some (.slice Bv (dg nb).length cb)) (hrb : RowAt w Bv (dg nb)) (hge : nb ≤ na) : Calls Tryz.prog 105 #[.pointer (some ⟨z, 0, none⟩), .pointer (some ⟨x, 0, none⟩), .pointer (some ⟨y, 0, none⟩), .bool true] w (PutI w z (sgv false (na - nb))) := by
  have HZ := Lib.hid hz; have HRA := Lib.hid hra; have HRB := Lib.hid hrb; clear hz hra hrb
  have hlx := World.block_lt_of_cell? w _ a0
  have hly := World.block_lt_of_cell? w _ b0
  have hc : decide (cmpN na nb ≥ 0) = true := by unfold cmpN; rw [if_neg (by omega)]; split <;> rfl
  obtain ⟨cm, hcm⟩ : ∃ cm, cm = cmpN na nb := ⟨_, rfl⟩
  rw [← hcm] at hc
  have HC := Lib.hid hcm; clear hcm
  go_enter Tryz.func105, Tryz.ntmps105
  go_wp2
  refine wp_region_sched (fun W => W.cell? ⟨x, 1, none⟩ = some (.slice A (dg na).length ca) ∧ W.cell? ⟨y, 1, none⟩ = some (.slice Bv (dg nb).length cb)) 8 [(0, true), (1, true), (2, true), (3, true), (4, true), (5, true), (6, true), (7, true), (8, false), (9, false)] (by kernel_rfl) (by kernel_rfl) ⟨a1, b1⟩ ?_
  intro hS
  repeat
    apply sched_firm rfl rfl hS
    · intro wq hq
      have hq0 := hq.1; have hq1 := hq.2
      clear hq
      go_simp
      first | rfl | (trace_state; fail)
    try simp only [Act.put, List.setIfInBounds_toArray, List.set_cons_zero, List.set_cons_succ]
  refine sched_one rfl rfl (fun K hK => ?_)
  go_simp
  refine (Bcompare na nb A Bv ca cb (by omega) (by omega) w.drew (RowAt.drew HRA.out) (RowAt.drew HRB.out)).mono ?_
  rintro e1 w1 ⟨rfl, hb1'⟩
  rw [← HC.out]
  have hb1 : Within w w1 := (Within.refl w).drew.trans hb1'
  refine hK _ _ (fun h => absurd h (by decide)) ?_
  clear hK K
  try simp only [Act.put, List.setIfInBounds_toArray, List.set_cons_zero, List.set_cons_succ]
  refine sched_one rfl rfl (fun K hK => ?_)
  go_simp
  refine hK _ _ (fun h => absurd h (by decide)) ?_
  clear hK K
  try simp only [Act.put, List.setIfInBounds_toArray, List.set_cons_zero, List.set_cons_succ]
  refine sched_nil ?_
  have a0' := (hb1.cells _ 0 hlx).trans a0; have a1' := (hb1.cells _ 1 hlx).trans a1; have b0' := (hb1.cells _ 0 hly).trans b0; have b1' := (hb1.cells _ 1 hly).trans b1
  clear hS
  go_wp2
  refine wp_region_sched (fun W => W.cell? ⟨x, 0, none⟩ = some (.bool false) ∧ W.cell? ⟨x, 1, none⟩ = some (.slice A (dg na).length ca) ∧ W.cell? ⟨y, 1, none⟩ = some (.slice Bv (dg nb).length cb)) 14 [(0, true), (1, true), (2, true), (3, true), (4, true), (5, true), (6, true), (7, true), (8, true), (9, true), (10, true), (11, true), (12, true), (13, false), (14, false), (15, false)] (by kernel_rfl) (by kernel_rfl) ⟨a0', a1', b1'⟩ ?_
  intro hS
  repeat
    apply sched_firm rfl rfl hS
    · intro wq hq
      have hq0 := hq.1; have hq1 := hq.2.1; have hq2 := hq.2.2
      clear hq
      go_simp
      first | rfl | (trace_state; fail)
    try simp only [Act.put, List.setIfInBounds_toArray, List.set_cons_zero, List.set_cons_succ]
  refine sched_one rfl rfl (fun K hK => ?_)
  go_simp
  refine (Bminus na nb A Bv ca cb (by omega) hge w1.drew (RowAt.drew (HRA.out.of hb1)) (RowAt.drew (HRB.out.of hb1))).mono ?_
  rintro e2 w2 ⟨A', c', rfl, hc', hr', hb'⟩
  have hb2 : Within w w2 := hb1.drew.trans hb'
  have hlA : (dg (na - nb)).length ≤ 1500000 := by first | exact Nat.le_trans (dg_len_mono (Nat.sub_le _ _)) (by omega) | exact dg_add_le ha hb
  refine hK _ _ (fun h => ⟨(hb2.cells _ _ hlx).trans a0, (hb2.cells _ _ hlx).trans a1, (hb2.cells _ _ hly).trans b1⟩) ?_
  clear hK K
  try simp only [Act.put, List.setIfInBounds_toArray, List.set_cons_zero, List.set_cons_succ]
  refine sched_one rfl rfl (fun K hK => ?_)
  go_simp
  refine (Bput z false (dg (na - nb)) A' c' (words_dg _) hc' (by omega) w2 hr' (HZ.out.of hb2)).mono ?_
  rintro e3 w3 ⟨rfl, hI, hG⟩
  refine hK _ _ (fun h => absurd h (by decide)) ?_
  clear hK K
  try simp only [Act.put, List.setIfInBounds_toArray, List.set_cons_zero, List.set_cons_succ]
  refine sched_one rfl rfl (fun K hK => ?_)
  go_simp
  refine hK _ _ (fun h => absurd h (by decide)) ?_
  clear hK K
  try simp only [Act.put, List.setIfInBounds_toArray, List.set_cons_zero, List.set_cons_succ]
  refine sched_nil ?_
  go_wp2
  go_ret
  rw [wval_dg] at hI
  exact ⟨rfl, hI, grown_trans (grown_within z hb2) hG⟩
set_option maxRecDepth 100000 in
set_option maxHeartbeats 600000 in
theorem Bsum_lt001 (z x y : Nat) (na nb : Nat) (A Bv : Option Addr) (ca cb : Nat) (ha : (dg na).length ≤ 1000000) (hb : (dg nb).length ≤ 1000000) (w : World) (hz : IntTy w z) (a0 : w.cell? ⟨x, 0, none⟩ = some (.bool false)) (a1 : w.cell? ⟨x, 1, none⟩ = some (.slice A (dg na).length ca)) (hra : RowAt w A (dg na)) (b0 : w.cell? ⟨y, 0, none⟩ = some (.bool false)) (b1 : w.cell? ⟨y, 1, none⟩ = some (.slice Bv (dg nb).length cb)) (hrb : RowAt w Bv (dg nb)) (hge : na < nb) : Calls Tryz.prog 105 #[.pointer (some ⟨z, 0, none⟩), .pointer (some ⟨x, 0, none⟩), .pointer (some ⟨y, 0, none⟩), .bool true] w (PutI w z (sgv true (nb - na))) := by
  have HZ := Lib.hid hz; have HRA := Lib.hid hra; have HRB := Lib.hid hrb; clear hz hra hrb
  have hlx := World.block_lt_of_cell? w _ a0
  have hly := World.block_lt_of_cell? w _ b0
  have hc : decide (cmpN na nb ≥ 0) = false := by unfold cmpN; rw [if_pos hge]; rfl
  obtain ⟨cm, hcm⟩ : ∃ cm, cm = cmpN na nb := ⟨_, rfl⟩
  rw [← hcm] at hc
  have HC := Lib.hid hcm; clear hcm
  go_enter Tryz.func105, Tryz.ntmps105
  go_wp2
  refine wp_region_sched (fun W => W.cell? ⟨x, 1, none⟩ = some (.slice A (dg na).length ca) ∧ W.cell? ⟨y, 1, none⟩ = some (.slice Bv (dg nb).length cb)) 8 [(0, true), (1, true), (2, true), (3, true), (4, true), (5, true), (6, true), (7, true), (8, false), (9, false)] (by kernel_rfl) (by kernel_rfl) ⟨a1, b1⟩ ?_
  intro hS
  repeat
    apply sched_firm rfl rfl hS
    · intro wq hq
      have hq0 := hq.1; have hq1 := hq.2
      clear hq
      go_simp
      first | rfl | (trace_state; fail)
    try simp only [Act.put, List.setIfInBounds_toArray, List.set_cons_zero, List.set_cons_succ]
  refine sched_one rfl rfl (fun K hK => ?_)
  go_simp
  refine (Bcompare na nb A Bv ca cb (by omega) (by omega) w.drew (RowAt.drew HRA.out) (RowAt.drew HRB.out)).mono ?_
  rintro e1 w1 ⟨rfl, hb1'⟩
  rw [← HC.out]
  have hb1 : Within w w1 := (Within.refl w).drew.trans hb1'
  refine hK _ _ (fun h => absurd h (by decide)) ?_
  clear hK K
  try simp only [Act.put, List.setIfInBounds_toArray, List.set_cons_zero, List.set_cons_succ]
  refine sched_one rfl rfl (fun K hK => ?_)
  go_simp
  refine hK _ _ (fun h => absurd h (by decide)) ?_
  clear hK K
  try simp only [Act.put, List.setIfInBounds_toArray, List.set_cons_zero, List.set_cons_succ]
  refine sched_nil ?_
  have a0' := (hb1.cells _ 0 hlx).trans a0; have a1' := (hb1.cells _ 1 hlx).trans a1; have b0' := (hb1.cells _ 0 hly).trans b0; have b1' := (hb1.cells _ 1 hly).trans b1
  clear hS
  go_wp2
  refine wp_region_sched (fun W => W.cell? ⟨y, 1, none⟩ = some (.slice Bv (dg nb).length cb) ∧ W.cell? ⟨x, 1, none⟩ = some (.slice A (dg na).length ca)) 11 [(0, true), (1, true), (2, true), (3, true), (4, true), (5, true), (6, true), (7, true), (8, true), (9, true), (10, false), (11, false), (12, false)] (by kernel_rfl) (by kernel_rfl) ⟨b1', a1'⟩ ?_
  intro hS
  repeat
    apply sched_firm rfl rfl hS
    · intro wq hq
      have hq0 := hq.1; have hq1 := hq.2
      clear hq
      go_simp
      first | rfl | (trace_state; fail)
    try simp only [Act.put, List.setIfInBounds_toArray, List.set_cons_zero, List.set_cons_succ]
  refine sched_one rfl rfl (fun K hK => ?_)
  go_simp
  refine (Bminus nb na Bv A cb ca (by omega) (by omega) w1.drew (RowAt.drew (HRB.out.of hb1)) (RowAt.drew (HRA.out.of hb1))).mono ?_
  rintro e2 w2 ⟨A', c', rfl, hc', hr', hb'⟩
  have hb2 : Within w w2 := hb1.drew.trans hb'
  have hlA : (dg (nb - na)).length ≤ 1500000 := by first | exact Nat.le_trans (dg_len_mono (Nat.sub_le _ _)) (by omega) | exact dg_add_le ha hb
  refine hK _ _ (fun h => ⟨(hb2.cells _ _ hly).trans b1, (hb2.cells _ _ hlx).trans a1⟩) ?_
  clear hK K
  try simp only [Act.put, List.setIfInBounds_toArray, List.set_cons_zero, List.set_cons_succ]
  refine sched_one rfl rfl (fun K hK => ?_)
  go_simp
  refine (Bput z true (dg (nb - na)) A' c' (words_dg _) hc' (by omega) w2 hr' (HZ.out.of hb2)).mono ?_
  rintro e3 w3 ⟨rfl, hI, hG⟩
  refine hK _ _ (fun h => absurd h (by decide)) ?_
  clear hK K
  try simp only [Act.put, List.setIfInBounds_toArray, List.set_cons_zero, List.set_cons_succ]
  refine sched_one rfl rfl (fun K hK => ?_)
  go_simp
  refine hK _ _ (fun h => absurd h (by decide)) ?_
  clear hK K
  try simp only [Act.put, List.setIfInBounds_toArray, List.set_cons_zero, List.set_cons_succ]
  refine sched_nil ?_
  go_wp2
  go_ret
  rw [wval_dg] at hI
  exact ⟨rfl, hI, grown_trans (grown_within z hb2) hG⟩
set_option maxRecDepth 100000 in
set_option maxHeartbeats 600000 in
theorem Bsum_ge010 (z x y : Nat) (na nb : Nat) (A Bv : Option Addr) (ca cb : Nat) (ha : (dg na).length ≤ 1000000) (hb : (dg nb).length ≤ 1000000) (w : World) (hz : IntTy w z) (a0 : w.cell? ⟨x, 0, none⟩ = some (.bool false)) (a1 : w.cell? ⟨x, 1, none⟩ = some (.slice A (dg na).length ca)) (hra : RowAt w A (dg na)) (b0 : w.cell? ⟨y, 0, none⟩ = some (.bool true)) (b1 : w.cell? ⟨y, 1, none⟩ = some (.slice Bv (dg nb).length cb)) (hrb : RowAt w Bv (dg nb)) (hge : nb ≤ na) : Calls Tryz.prog 105 #[.pointer (some ⟨z, 0, none⟩), .pointer (some ⟨x, 0, none⟩), .pointer (some ⟨y, 0, none⟩), .bool false] w (PutI w z (sgv false (na - nb))) := by
  have HZ := Lib.hid hz; have HRA := Lib.hid hra; have HRB := Lib.hid hrb; clear hz hra hrb
  have hlx := World.block_lt_of_cell? w _ a0
  have hly := World.block_lt_of_cell? w _ b0
  have hc : decide (cmpN na nb ≥ 0) = true := by unfold cmpN; rw [if_neg (by omega)]; split <;> rfl
  obtain ⟨cm, hcm⟩ : ∃ cm, cm = cmpN na nb := ⟨_, rfl⟩
  rw [← hcm] at hc
  have HC := Lib.hid hcm; clear hcm
  go_enter Tryz.func105, Tryz.ntmps105
  go_wp2
  refine wp_region_sched (fun W => W.cell? ⟨x, 1, none⟩ = some (.slice A (dg na).length ca) ∧ W.cell? ⟨y, 1, none⟩ = some (.slice Bv (dg nb).length cb)) 8 [(0, true), (1, true), (2, true), (3, true), (4, true), (5, true), (6, true), (7, true), (8, false), (9, false)] (by kernel_rfl) (by kernel_rfl) ⟨a1, b1⟩ ?_
  intro hS
  repeat
    apply sched_firm rfl rfl hS
    · intro wq hq
      have hq0 := hq.1; have hq1 := hq.2
      clear hq
      go_simp
      first | rfl | (trace_state; fail)
    try simp only [Act.put, List.setIfInBounds_toArray, List.set_cons_zero, List.set_cons_succ]
  refine sched_one rfl rfl (fun K hK => ?_)
  go_simp
  refine (Bcompare na nb A Bv ca cb (by omega) (by omega) w.drew (RowAt.drew HRA.out) (RowAt.drew HRB.out)).mono ?_
  rintro e1 w1 ⟨rfl, hb1'⟩
  rw [← HC.out]
  have hb1 : Within w w1 := (Within.refl w).drew.trans hb1'
  refine hK _ _ (fun h => absurd h (by decide)) ?_
  clear hK K
  try simp only [Act.put, List.setIfInBounds_toArray, List.set_cons_zero, List.set_cons_succ]
  refine sched_one rfl rfl (fun K hK => ?_)
  go_simp
  refine hK _ _ (fun h => absurd h (by decide)) ?_
  clear hK K
  try simp only [Act.put, List.setIfInBounds_toArray, List.set_cons_zero, List.set_cons_succ]
  refine sched_nil ?_
  have a0' := (hb1.cells _ 0 hlx).trans a0; have a1' := (hb1.cells _ 1 hlx).trans a1; have b0' := (hb1.cells _ 0 hly).trans b0; have b1' := (hb1.cells _ 1 hly).trans b1
  clear hS
  go_wp2
  refine wp_region_sched (fun W => W.cell? ⟨x, 0, none⟩ = some (.bool false) ∧ W.cell? ⟨x, 1, none⟩ = some (.slice A (dg na).length ca) ∧ W.cell? ⟨y, 1, none⟩ = some (.slice Bv (dg nb).length cb)) 14 [(0, true), (1, true), (2, true), (3, true), (4, true), (5, true), (6, true), (7, true), (8, true), (9, true), (10, true), (11, true), (12, true), (13, false), (14, false), (15, false)] (by kernel_rfl) (by kernel_rfl) ⟨a0', a1', b1'⟩ ?_
  intro hS
  repeat
    apply sched_firm rfl rfl hS
    · intro wq hq
      have hq0 := hq.1; have hq1 := hq.2.1; have hq2 := hq.2.2
      clear hq
      go_simp
      first | rfl | (trace_state; fail)
    try simp only [Act.put, List.setIfInBounds_toArray, List.set_cons_zero, List.set_cons_succ]
  refine sched_one rfl rfl (fun K hK => ?_)
  go_simp
  refine (Bminus na nb A Bv ca cb (by omega) hge w1.drew (RowAt.drew (HRA.out.of hb1)) (RowAt.drew (HRB.out.of hb1))).mono ?_
  rintro e2 w2 ⟨A', c', rfl, hc', hr', hb'⟩
  have hb2 : Within w w2 := hb1.drew.trans hb'
  have hlA : (dg (na - nb)).length ≤ 1500000 := by first | exact Nat.le_trans (dg_len_mono (Nat.sub_le _ _)) (by omega) | exact dg_add_le ha hb
  refine hK _ _ (fun h => ⟨(hb2.cells _ _ hlx).trans a0, (hb2.cells _ _ hlx).trans a1, (hb2.cells _ _ hly).trans b1⟩) ?_
  clear hK K
  try simp only [Act.put, List.setIfInBounds_toArray, List.set_cons_zero, List.set_cons_succ]
  refine sched_one rfl rfl (fun K hK => ?_)
  go_simp
  refine (Bput z false (dg (na - nb)) A' c' (words_dg _) hc' (by omega) w2 hr' (HZ.out.of hb2)).mono ?_
  rintro e3 w3 ⟨rfl, hI, hG⟩
  refine hK _ _ (fun h => absurd h (by decide)) ?_
  clear hK K
  try simp only [Act.put, List.setIfInBounds_toArray, List.set_cons_zero, List.set_cons_succ]
  refine sched_one rfl rfl (fun K hK => ?_)
  go_simp
  refine hK _ _ (fun h => absurd h (by decide)) ?_
  clear hK K
  try simp only [Act.put, List.setIfInBounds_toArray, List.set_cons_zero, List.set_cons_succ]
  refine sched_nil ?_
  go_wp2
  go_ret
  rw [wval_dg] at hI
  exact ⟨rfl, hI, grown_trans (grown_within z hb2) hG⟩
set_option maxRecDepth 100000 in
set_option maxHeartbeats 600000 in
theorem Bsum_lt010 (z x y : Nat) (na nb : Nat) (A Bv : Option Addr) (ca cb : Nat) (ha : (dg na).length ≤ 1000000) (hb : (dg nb).length ≤ 1000000) (w : World) (hz : IntTy w z) (a0 : w.cell? ⟨x, 0, none⟩ = some (.bool false)) (a1 : w.cell? ⟨x, 1, none⟩ = some (.slice A (dg na).length ca)) (hra : RowAt w A (dg na)) (b0 : w.cell? ⟨y, 0, none⟩ = some (.bool true)) (b1 : w.cell? ⟨y, 1, none⟩ = some (.slice Bv (dg nb).length cb)) (hrb : RowAt w Bv (dg nb)) (hge : na < nb) : Calls Tryz.prog 105 #[.pointer (some ⟨z, 0, none⟩), .pointer (some ⟨x, 0, none⟩), .pointer (some ⟨y, 0, none⟩), .bool false] w (PutI w z (sgv true (nb - na))) := by
  have HZ := Lib.hid hz; have HRA := Lib.hid hra; have HRB := Lib.hid hrb; clear hz hra hrb
  have hlx := World.block_lt_of_cell? w _ a0
  have hly := World.block_lt_of_cell? w _ b0
  have hc : decide (cmpN na nb ≥ 0) = false := by unfold cmpN; rw [if_pos hge]; rfl
  obtain ⟨cm, hcm⟩ : ∃ cm, cm = cmpN na nb := ⟨_, rfl⟩
  rw [← hcm] at hc
  have HC := Lib.hid hcm; clear hcm
  go_enter Tryz.func105, Tryz.ntmps105
  go_wp2
  refine wp_region_sched (fun W => W.cell? ⟨x, 1, none⟩ = some (.slice A (dg na).length ca) ∧ W.cell? ⟨y, 1, none⟩ = some (.slice Bv (dg nb).length cb)) 8 [(0, true), (1, true), (2, true), (3, true), (4, true), (5, true), (6, true), (7, true), (8, false), (9, false)] (by kernel_rfl) (by kernel_rfl) ⟨a1, b1⟩ ?_
  intro hS
  repeat
    apply sched_firm rfl rfl hS
    · intro wq hq
      have hq0 := hq.1; have hq1 := hq.2
      clear hq
      go_simp
      first | rfl | (trace_state; fail)
    try simp only [Act.put, List.setIfInBounds_toArray, List.set_cons_zero, List.set_cons_succ]
  refine sched_one rfl rfl (fun K hK => ?_)
  go_simp
  refine (Bcompare na nb A Bv ca cb (by omega) (by omega) w.drew (RowAt.drew HRA.out) (RowAt.drew HRB.out)).mono ?_
  rintro e1 w1 ⟨rfl, hb1'⟩
  rw [← HC.out]
  have hb1 : Within w w1 := (Within.refl w).drew.trans hb1'
  refine hK _ _ (fun h => absurd h (by decide)) ?_
  clear hK K
  try simp only [Act.put, List.setIfInBounds_toArray, List.set_cons_zero, List.set_cons_succ]
  refine sched_one rfl rfl (fun K hK => ?_)
  go_simp
  refine hK _ _ (fun h => absurd h (by decide)) ?_
  clear hK K
  try simp only [Act.put, List.setIfInBounds_toArray, List.set_cons_zero, List.set_cons_succ]
  refine sched_nil ?_
  have a0' := (hb1.cells _ 0 hlx).trans a0; have a1' := (hb1.cells _ 1 hlx).trans a1; have b0' := (hb1.cells _ 0 hly).trans b0; have b1' := (hb1.cells _ 1 hly).trans b1
  clear hS
  go_wp2
  refine wp_region_sched (fun W => W.cell? ⟨y, 1, none⟩ = some (.slice Bv (dg nb).length cb) ∧ W.cell? ⟨x, 1, none⟩ = some (.slice A (dg na).length ca)) 11 [(0, true), (1, true), (2, true), (3, true), (4, true), (5, true), (6, true), (7, true), (8, true), (9, true), (10, false), (11, false), (12, false)] (by kernel_rfl) (by kernel_rfl) ⟨b1', a1'⟩ ?_
  intro hS
  repeat
    apply sched_firm rfl rfl hS
    · intro wq hq
      have hq0 := hq.1; have hq1 := hq.2
      clear hq
      go_simp
      first | rfl | (trace_state; fail)
    try simp only [Act.put, List.setIfInBounds_toArray, List.set_cons_zero, List.set_cons_succ]
  refine sched_one rfl rfl (fun K hK => ?_)
  go_simp
  refine (Bminus nb na Bv A cb ca (by omega) (by omega) w1.drew (RowAt.drew (HRB.out.of hb1)) (RowAt.drew (HRA.out.of hb1))).mono ?_
  rintro e2 w2 ⟨A', c', rfl, hc', hr', hb'⟩
  have hb2 : Within w w2 := hb1.drew.trans hb'
  have hlA : (dg (nb - na)).length ≤ 1500000 := by first | exact Nat.le_trans (dg_len_mono (Nat.sub_le _ _)) (by omega) | exact dg_add_le ha hb
  refine hK _ _ (fun h => ⟨(hb2.cells _ _ hly).trans b1, (hb2.cells _ _ hlx).trans a1⟩) ?_
  clear hK K
  try simp only [Act.put, List.setIfInBounds_toArray, List.set_cons_zero, List.set_cons_succ]
  refine sched_one rfl rfl (fun K hK => ?_)
  go_simp
  refine (Bput z true (dg (nb - na)) A' c' (words_dg _) hc' (by omega) w2 hr' (HZ.out.of hb2)).mono ?_
  rintro e3 w3 ⟨rfl, hI, hG⟩
  refine hK _ _ (fun h => absurd h (by decide)) ?_
  clear hK K
  try simp only [Act.put, List.setIfInBounds_toArray, List.set_cons_zero, List.set_cons_succ]
  refine sched_one rfl rfl (fun K hK => ?_)
  go_simp
  refine hK _ _ (fun h => absurd h (by decide)) ?_
  clear hK K
  try simp only [Act.put, List.setIfInBounds_toArray, List.set_cons_zero, List.set_cons_succ]
  refine sched_nil ?_
  go_wp2
  go_ret
  rw [wval_dg] at hI
  exact ⟨rfl, hI, grown_trans (grown_within z hb2) hG⟩
set_option maxRecDepth 100000 in
set_option maxHeartbeats 600000 in
theorem Bsum_same011 (z x y : Nat) (na nb : Nat) (A Bv : Option Addr) (ca cb : Nat) (ha : (dg na).length ≤ 1000000) (hb : (dg nb).length ≤ 1000000) (w : World) (hz : IntTy w z) (a0 : w.cell? ⟨x, 0, none⟩ = some (.bool false)) (a1 : w.cell? ⟨x, 1, none⟩ = some (.slice A (dg na).length ca)) (hra : RowAt w A (dg na)) (b0 : w.cell? ⟨y, 0, none⟩ = some (.bool true)) (b1 : w.cell? ⟨y, 1, none⟩ = some (.slice Bv (dg nb).length cb)) (hrb : RowAt w Bv (dg nb)) : Calls Tryz.prog 105 #[.pointer (some ⟨z, 0, none⟩), .pointer (some ⟨x, 0, none⟩), .pointer (some ⟨y, 0, none⟩), .bool true] w (PutI w z (sgv false (na + nb))) := by
  have HZ := Lib.hid hz; have HRA := Lib.hid hra; have HRB := Lib.hid hrb; clear hz hra hrb
  have hlx := World.block_lt_of_cell? w _ a0
  have hly := World.block_lt_of_cell? w _ b0
  go_enter Tryz.func105, Tryz.ntmps105
  go_wp2
  refine wp_region_sched (fun W => W.cell? ⟨x, 1, none⟩ = some (.slice A (dg na).length ca) ∧ W.cell? ⟨y, 1, none⟩ = some (.slice Bv (dg nb).length cb)) 11 [(0, true), (1, true), (2, true), (3, true), (4, true), (5, true), (6, true), (7, true), (8, true), (9, true), (10, false), (11, false), (12, false)] (by kernel_rfl) (by kernel_rfl) ⟨a1, b1⟩ ?_
  intro hS
  repeat
    apply sched_firm rfl rfl hS
    · intro wq hq
      have hq0 := hq.1; have hq1 := hq.2
      clear hq
      go_simp
      first | rfl | (trace_state; fail)
    try simp only [Act.put, List.setIfInBounds_toArray, List.set_cons_zero, List.set_cons_succ]
  refine sched_one rfl rfl (fun K hK => ?_)
  go_simp
  refine (Bplus na nb A Bv ca cb (by omega) (by omega) w.drew (RowAt.drew HRA.out) (RowAt.drew HRB.out)).mono ?_
  rintro e2 w2 ⟨A', c', rfl, hc', hr', hb'⟩
  have hb2 : Within w w2 := (Within.refl w).drew.trans hb'
  have hlA : (dg (na + nb)).length ≤ 1500000 := by first | exact Nat.le_trans (dg_len_mono (Nat.sub_le _ _)) (by omega) | exact dg_add_le ha hb
  refine hK _ _ (fun h => ⟨(hb2.cells _ _ hlx).trans a1, (hb2.cells _ _ hly).trans b1⟩) ?_
  clear hK K
  try simp only [Act.put, List.setIfInBounds_toArray, List.set_cons_zero, List.set_cons_succ]
  refine sched_one rfl rfl (fun K hK => ?_)
  go_simp
  refine (Bput z false (dg (na + nb)) A' c' (words_dg _) hc' (by omega) w2 hr' (HZ.out.of hb2)).mono ?_
  rintro e3 w3 ⟨rfl, hI, hG⟩
  refine hK _ _ (fun h => absurd h (by decide)) ?_
  clear hK K
  try simp only [Act.put, List.setIfInBounds_toArray, List.set_cons_zero, List.set_cons_succ]
  refine sched_one rfl rfl (fun K hK => ?_)
  go_simp
  refine hK _ _ (fun h => absurd h (by decide)) ?_
  clear hK K
  try simp only [Act.put, List.setIfInBounds_toArray, List.set_cons_zero, List.set_cons_succ]
  refine sched_nil ?_
  go_wp2
  go_ret
  rw [wval_dg] at hI
  exact ⟨rfl, hI, grown_trans (grown_within z hb2) hG⟩
set_option maxRecDepth 100000 in
set_option maxHeartbeats 600000 in
theorem Bsum_ge100 (z x y : Nat) (na nb : Nat) (A Bv : Option Addr) (ca cb : Nat) (ha : (dg na).length ≤ 1000000) (hb : (dg nb).length ≤ 1000000) (w : World) (hz : IntTy w z) (a0 : w.cell? ⟨x, 0, none⟩ = some (.bool true)) (a1 : w.cell? ⟨x, 1, none⟩ = some (.slice A (dg na).length ca)) (hra : RowAt w A (dg na)) (b0 : w.cell? ⟨y, 0, none⟩ = some (.bool false)) (b1 : w.cell? ⟨y, 1, none⟩ = some (.slice Bv (dg nb).length cb)) (hrb : RowAt w Bv (dg nb)) (hge : nb ≤ na) : Calls Tryz.prog 105 #[.pointer (some ⟨z, 0, none⟩), .pointer (some ⟨x, 0, none⟩), .pointer (some ⟨y, 0, none⟩), .bool false] w (PutI w z (sgv true (na - nb))) := by
  have HZ := Lib.hid hz; have HRA := Lib.hid hra; have HRB := Lib.hid hrb; clear hz hra hrb
  have hlx := World.block_lt_of_cell? w _ a0
  have hly := World.block_lt_of_cell? w _ b0
  have hc : decide (cmpN na nb ≥ 0) = true := by unfold cmpN; rw [if_neg (by omega)]; split <;> rfl
  obtain ⟨cm, hcm⟩ : ∃ cm, cm = cmpN na nb := ⟨_, rfl⟩
  rw [← hcm] at hc
  have HC := Lib.hid hcm; clear hcm
  go_enter Tryz.func105, Tryz.ntmps105
  go_wp2
  refine wp_region_sched (fun W => W.cell? ⟨x, 1, none⟩ = some (.slice A (dg na).length ca) ∧ W.cell? ⟨y, 1, none⟩ = some (.slice Bv (dg nb).length cb)) 8 [(0, true), (1, true), (2, true), (3, true), (4, true), (5, true), (6, true), (7, true), (8, false), (9, false)] (by kernel_rfl) (by kernel_rfl) ⟨a1, b1⟩ ?_
  intro hS
  repeat
    apply sched_firm rfl rfl hS
    · intro wq hq
      have hq0 := hq.1; have hq1 := hq.2
      clear hq
      go_simp
      first | rfl | (trace_state; fail)
    try simp only [Act.put, List.setIfInBounds_toArray, List.set_cons_zero, List.set_cons_succ]
  refine sched_one rfl rfl (fun K hK => ?_)
  go_simp
  refine (Bcompare na nb A Bv ca cb (by omega) (by omega) w.drew (RowAt.drew HRA.out) (RowAt.drew HRB.out)).mono ?_
  rintro e1 w1 ⟨rfl, hb1'⟩
  rw [← HC.out]
  have hb1 : Within w w1 := (Within.refl w).drew.trans hb1'
  refine hK _ _ (fun h => absurd h (by decide)) ?_
  clear hK K
  try simp only [Act.put, List.setIfInBounds_toArray, List.set_cons_zero, List.set_cons_succ]
  refine sched_one rfl rfl (fun K hK => ?_)
  go_simp
  refine hK _ _ (fun h => absurd h (by decide)) ?_
  clear hK K
  try simp only [Act.put, List.setIfInBounds_toArray, List.set_cons_zero, List.set_cons_succ]
  refine sched_nil ?_
  have a0' := (hb1.cells _ 0 hlx).trans a0; have a1' := (hb1.cells _ 1 hlx).trans a1; have b0' := (hb1.cells _ 0 hly).trans b0; have b1' := (hb1.cells _ 1 hly).trans b1
  clear hS
  go_wp2
  refine wp_region_sched (fun W => W.cell? ⟨x, 0, none⟩ = some (.bool true) ∧ W.cell? ⟨x, 1, none⟩ = some (.slice A (dg na).length ca) ∧ W.cell? ⟨y, 1, none⟩ = some (.slice Bv (dg nb).length cb)) 14 [(0, true), (1, true), (2, true), (3, true), (4, true), (5, true), (6, true), (7, true), (8, true), (9, true), (10, true), (11, true), (12, true), (13, false), (14, false), (15, false)] (by kernel_rfl) (by kernel_rfl) ⟨a0', a1', b1'⟩ ?_
  intro hS
  repeat
    apply sched_firm rfl rfl hS
    · intro wq hq
      have hq0 := hq.1; have hq1 := hq.2.1; have hq2 := hq.2.2
      clear hq
      go_simp
      first | rfl | (trace_state; fail)
    try simp only [Act.put, List.setIfInBounds_toArray, List.set_cons_zero, List.set_cons_succ]
  refine sched_one rfl rfl (fun K hK => ?_)
  go_simp
  refine (Bminus na nb A Bv ca cb (by omega) hge w1.drew (RowAt.drew (HRA.out.of hb1)) (RowAt.drew (HRB.out.of hb1))).mono ?_
  rintro e2 w2 ⟨A', c', rfl, hc', hr', hb'⟩
  have hb2 : Within w w2 := hb1.drew.trans hb'
  have hlA : (dg (na - nb)).length ≤ 1500000 := by first | exact Nat.le_trans (dg_len_mono (Nat.sub_le _ _)) (by omega) | exact dg_add_le ha hb
  refine hK _ _ (fun h => ⟨(hb2.cells _ _ hlx).trans a0, (hb2.cells _ _ hlx).trans a1, (hb2.cells _ _ hly).trans b1⟩) ?_
  clear hK K
  try simp only [Act.put, List.setIfInBounds_toArray, List.set_cons_zero, List.set_cons_succ]
  refine sched_one rfl rfl (fun K hK => ?_)
  go_simp
  refine (Bput z true (dg (na - nb)) A' c' (words_dg _) hc' (by omega) w2 hr' (HZ.out.of hb2)).mono ?_
  rintro e3 w3 ⟨rfl, hI, hG⟩
  refine hK _ _ (fun h => absurd h (by decide)) ?_
  clear hK K
  try simp only [Act.put, List.setIfInBounds_toArray, List.set_cons_zero, List.set_cons_succ]
  refine sched_one rfl rfl (fun K hK => ?_)
  go_simp
  refine hK _ _ (fun h => absurd h (by decide)) ?_
  clear hK K
  try simp only [Act.put, List.setIfInBounds_toArray, List.set_cons_zero, List.set_cons_succ]
  refine sched_nil ?_
  go_wp2
  go_ret
  rw [wval_dg] at hI
  exact ⟨rfl, hI, grown_trans (grown_within z hb2) hG⟩
set_option maxRecDepth 100000 in
set_option maxHeartbeats 600000 in
theorem Bsum_lt100 (z x y : Nat) (na nb : Nat) (A Bv : Option Addr) (ca cb : Nat) (ha : (dg na).length ≤ 1000000) (hb : (dg nb).length ≤ 1000000) (w : World) (hz : IntTy w z) (a0 : w.cell? ⟨x, 0, none⟩ = some (.bool true)) (a1 : w.cell? ⟨x, 1, none⟩ = some (.slice A (dg na).length ca)) (hra : RowAt w A (dg na)) (b0 : w.cell? ⟨y, 0, none⟩ = some (.bool false)) (b1 : w.cell? ⟨y, 1, none⟩ = some (.slice Bv (dg nb).length cb)) (hrb : RowAt w Bv (dg nb)) (hge : na < nb) : Calls Tryz.prog 105 #[.pointer (some ⟨z, 0, none⟩), .pointer (some ⟨x, 0, none⟩), .pointer (some ⟨y, 0, none⟩), .bool false] w (PutI w z (sgv false (nb - na))) := by
  have HZ := Lib.hid hz; have HRA := Lib.hid hra; have HRB := Lib.hid hrb; clear hz hra hrb
  have hlx := World.block_lt_of_cell? w _ a0
  have hly := World.block_lt_of_cell? w _ b0
  have hc : decide (cmpN na nb ≥ 0) = false := by unfold cmpN; rw [if_pos hge]; rfl
  obtain ⟨cm, hcm⟩ : ∃ cm, cm = cmpN na nb := ⟨_, rfl⟩
  rw [← hcm] at hc
  have HC := Lib.hid hcm; clear hcm
  go_enter Tryz.func105, Tryz.ntmps105
  go_wp2
  refine wp_region_sched (fun W => W.cell? ⟨x, 1, none⟩ = some (.slice A (dg na).length ca) ∧ W.cell? ⟨y, 1, none⟩ = some (.slice Bv (dg nb).length cb)) 8 [(0, true), (1, true), (2, true), (3, true), (4, true), (5, true), (6, true), (7, true), (8, false), (9, false)] (by kernel_rfl) (by kernel_rfl) ⟨a1, b1⟩ ?_
  intro hS
  repeat
    apply sched_firm rfl rfl hS
    · intro wq hq
      have hq0 := hq.1; have hq1 := hq.2
      clear hq
      go_simp
      first | rfl | (trace_state; fail)
    try simp only [Act.put, List.setIfInBounds_toArray, List.set_cons_zero, List.set_cons_succ]
  refine sched_one rfl rfl (fun K hK => ?_)
  go_simp
  refine (Bcompare na nb A Bv ca cb (by omega) (by omega) w.drew (RowAt.drew HRA.out) (RowAt.drew HRB.out)).mono ?_
  rintro e1 w1 ⟨rfl, hb1'⟩
  rw [← HC.out]
  have hb1 : Within w w1 := (Within.refl w).drew.trans hb1'
  refine hK _ _ (fun h => absurd h (by decide)) ?_
  clear hK K
  try simp only [Act.put, List.setIfInBounds_toArray, List.set_cons_zero, List.set_cons_succ]
  refine sched_one rfl rfl (fun K hK => ?_)
  go_simp
  refine hK _ _ (fun h => absurd h (by decide)) ?_
  clear hK K
  try simp only [Act.put, List.setIfInBounds_toArray, List.set_cons_zero, List.set_cons_succ]
  refine sched_nil ?_
  have a0' := (hb1.cells _ 0 hlx).trans a0; have a1' := (hb1.cells _ 1 hlx).trans a1; have b0' := (hb1.cells _ 0 hly).trans b0; have b1' := (hb1.cells _ 1 hly).trans b1
  clear hS
  go_wp2
  refine wp_region_sched (fun W => W.cell? ⟨y, 1, none⟩ = some (.slice Bv (dg nb).length cb) ∧ W.cell? ⟨x, 1, none⟩ = some (.slice A (dg na).length ca)) 11 [(0, true), (1, true), (2, true), (3, true), (4, true), (5, true), (6, true), (7, true), (8, true), (9, true), (10, false), (11, false), (12, false)] (by kernel_rfl) (by kernel_rfl) ⟨b1', a1'⟩ ?_
  intro hS
  repeat
    apply sched_firm rfl rfl hS
    · intro wq hq
      have hq0 := hq.1; have hq1 := hq.2
      clear hq
      go_simp
      first | rfl | (trace_state; fail)
    try simp only [Act.put, List.setIfInBounds_toArray, List.set_cons_zero, List.set_cons_succ]
  refine sched_one rfl rfl (fun K hK => ?_)
  go_simp
  refine (Bminus nb na Bv A cb ca (by omega) (by omega) w1.drew (RowAt.drew (HRB.out.of hb1)) (RowAt.drew (HRA.out.of hb1))).mono ?_
  rintro e2 w2 ⟨A', c', rfl, hc', hr', hb'⟩
  have hb2 : Within w w2 := hb1.drew.trans hb'
  have hlA : (dg (nb - na)).length ≤ 1500000 := by first | exact Nat.le_trans (dg_len_mono (Nat.sub_le _ _)) (by omega) | exact dg_add_le ha hb
  refine hK _ _ (fun h => ⟨(hb2.cells _ _ hly).trans b1, (hb2.cells _ _ hlx).trans a1⟩) ?_
  clear hK K
  try simp only [Act.put, List.setIfInBounds_toArray, List.set_cons_zero, List.set_cons_succ]
  refine sched_one rfl rfl (fun K hK => ?_)
  go_simp
  refine (Bput z false (dg (nb - na)) A' c' (words_dg _) hc' (by omega) w2 hr' (HZ.out.of hb2)).mono ?_
  rintro e3 w3 ⟨rfl, hI, hG⟩
  refine hK _ _ (fun h => absurd h (by decide)) ?_
  clear hK K
  try simp only [Act.put, List.setIfInBounds_toArray, List.set_cons_zero, List.set_cons_succ]
  refine sched_one rfl rfl (fun K hK => ?_)
  go_simp
  refine hK _ _ (fun h => absurd h (by decide)) ?_
  clear hK K
  try simp only [Act.put, List.setIfInBounds_toArray, List.set_cons_zero, List.set_cons_succ]
  refine sched_nil ?_
  go_wp2
  go_ret
  rw [wval_dg] at hI
  exact ⟨rfl, hI, grown_trans (grown_within z hb2) hG⟩
set_option maxRecDepth 100000 in
set_option maxHeartbeats 600000 in
theorem Bsum_same101 (z x y : Nat) (na nb : Nat) (A Bv : Option Addr) (ca cb : Nat) (ha : (dg na).length ≤ 1000000) (hb : (dg nb).length ≤ 1000000) (w : World) (hz : IntTy w z) (a0 : w.cell? ⟨x, 0, none⟩ = some (.bool true)) (a1 : w.cell? ⟨x, 1, none⟩ = some (.slice A (dg na).length ca)) (hra : RowAt w A (dg na)) (b0 : w.cell? ⟨y, 0, none⟩ = some (.bool false)) (b1 : w.cell? ⟨y, 1, none⟩ = some (.slice Bv (dg nb).length cb)) (hrb : RowAt w Bv (dg nb)) : Calls Tryz.prog 105 #[.pointer (some ⟨z, 0, none⟩), .pointer (some ⟨x, 0, none⟩), .pointer (some ⟨y, 0, none⟩), .bool true] w (PutI w z (sgv true (na + nb))) := by
  have HZ := Lib.hid hz; have HRA := Lib.hid hra; have HRB := Lib.hid hrb; clear hz hra hrb
  have hlx := World.block_lt_of_cell? w _ a0
  have hly := World.block_lt_of_cell? w _ b0
  go_enter Tryz.func105, Tryz.ntmps105
  go_wp2
  refine wp_region_sched (fun W => W.cell? ⟨x, 1, none⟩ = some (.slice A (dg na).length ca) ∧ W.cell? ⟨y, 1, none⟩ = some (.slice Bv (dg nb).length cb)) 11 [(0, true), (1, true), (2, true), (3, true), (4, true), (5, true), (6, true), (7, true), (8, true), (9, true), (10, false), (11, false), (12, false)] (by kernel_rfl) (by kernel_rfl) ⟨a1, b1⟩ ?_
  intro hS
  repeat
    apply sched_firm rfl rfl hS
    · intro wq hq
      have hq0 := hq.1; have hq1 := hq.2
      clear hq
      go_simp
      first | rfl | (trace_state; fail)
    try simp only [Act.put, List.setIfInBounds_toArray, List.set_cons_zero, List.set_cons_succ]
  refine sched_one rfl rfl (fun K hK => ?_)
  go_simp
  refine (Bplus na nb A Bv ca cb (by omega) (by omega) w.drew (RowAt.drew HRA.out) (RowAt.drew HRB.out)).mono ?_
  rintro e2 w2 ⟨A', c', rfl, hc', hr', hb'⟩
  have hb2 : Within w w2 := (Within.refl w).drew.trans hb'
  have hlA : (dg (na + nb)).length ≤ 1500000 := by first | exact Nat.le_trans (dg_len_mono (Nat.sub_le _ _)) (by omega) | exact dg_add_le ha hb
  refine hK _ _ (fun h => ⟨(hb2.cells _ _ hlx).trans a1, (hb2.cells _ _ hly).trans b1⟩) ?_
  clear hK K
  try simp only [Act.put, List.setIfInBounds_toArray, List.set_cons_zero, List.set_cons_succ]
  refine sched_one rfl rfl (fun K hK => ?_)
  go_simp
  refine (Bput z true (dg (na + nb)) A' c' (words_dg _) hc' (by omega) w2 hr' (HZ.out.of hb2)).mono ?_
  rintro e3 w3 ⟨rfl, hI, hG⟩
  refine hK _ _ (fun h => absurd h (by decide)) ?_
  clear hK K
  try simp only [Act.put, List.setIfInBounds_toArray, List.set_cons_zero, List.set_cons_succ]
  refine sched_one rfl rfl (fun K hK => ?_)
  go_simp
  refine hK _ _ (fun h => absurd h (by decide)) ?_
  clear hK K
  try simp only [Act.put, List.setIfInBounds_toArray, List.set_cons_zero, List.set_cons_succ]
  refine sched_nil ?_
  go_wp2
  go_ret
  rw [wval_dg] at hI
  exact ⟨rfl, hI, grown_trans (grown_within z hb2) hG⟩
set_option maxRecDepth 100000 in
set_option maxHeartbeats 600000 in
theorem Bsum_same110 (z x y : Nat) (na nb : Nat) (A Bv : Option Addr) (ca cb : Nat) (ha : (dg na).length ≤ 1000000) (hb : (dg nb).length ≤ 1000000) (w : World) (hz : IntTy w z) (a0 : w.cell? ⟨x, 0, none⟩ = some (.bool true)) (a1 : w.cell? ⟨x, 1, none⟩ = some (.slice A (dg na).length ca)) (hra : RowAt w A (dg na)) (b0 : w.cell? ⟨y, 0, none⟩ = some (.bool true)) (b1 : w.cell? ⟨y, 1, none⟩ = some (.slice Bv (dg nb).length cb)) (hrb : RowAt w Bv (dg nb)) : Calls Tryz.prog 105 #[.pointer (some ⟨z, 0, none⟩), .pointer (some ⟨x, 0, none⟩), .pointer (some ⟨y, 0, none⟩), .bool false] w (PutI w z (sgv true (na + nb))) := by
  have HZ := Lib.hid hz; have HRA := Lib.hid hra; have HRB := Lib.hid hrb; clear hz hra hrb
  have hlx := World.block_lt_of_cell? w _ a0
  have hly := World.block_lt_of_cell? w _ b0
  go_enter Tryz.func105, Tryz.ntmps105
  go_wp2
  refine wp_region_sched (fun W => W.cell? ⟨x, 1, none⟩ = some (.slice A (dg na).length ca) ∧ W.cell? ⟨y, 1, none⟩ = some (.slice Bv (dg nb).length cb)) 11 [(0, true), (1, true), (2, true), (3, true), (4, true), (5, true), (6, true), (7, true), (8, true), (9, true), (10, false), (11, false), (12, false)] (by kernel_rfl) (by kernel_rfl) ⟨a1, b1⟩ ?_
  intro hS
  repeat
    apply sched_firm rfl rfl hS
    · intro wq hq
      have hq0 := hq.1; have hq1 := hq.2
      clear hq
      go_simp
      first | rfl | (trace_state; fail)
    try simp only [Act.put, List.setIfInBounds_toArray, List.set_cons_zero, List.set_cons_succ]
  refine sched_one rfl rfl (fun K hK => ?_)
  go_simp
  refine (Bplus na nb A Bv ca cb (by omega) (by omega) w.drew (RowAt.drew HRA.out) (RowAt.drew HRB.out)).mono ?_
  rintro e2 w2 ⟨A', c', rfl, hc', hr', hb'⟩
  have hb2 : Within w w2 := (Within.refl w).drew.trans hb'
  have hlA : (dg (na + nb)).length ≤ 1500000 := by first | exact Nat.le_trans (dg_len_mono (Nat.sub_le _ _)) (by omega) | exact dg_add_le ha hb
  refine hK _ _ (fun h => ⟨(hb2.cells _ _ hlx).trans a1, (hb2.cells _ _ hly).trans b1⟩) ?_
  clear hK K
  try simp only [Act.put, List.setIfInBounds_toArray, List.set_cons_zero, List.set_cons_succ]
  refine sched_one rfl rfl (fun K hK => ?_)
  go_simp
  refine (Bput z true (dg (na + nb)) A' c' (words_dg _) hc' (by omega) w2 hr' (HZ.out.of hb2)).mono ?_
  rintro e3 w3 ⟨rfl, hI, hG⟩
  refine hK _ _ (fun h => absurd h (by decide)) ?_
  clear hK K
  try simp only [Act.put, List.setIfInBounds_toArray, List.set_cons_zero, List.set_cons_succ]
  refine sched_one rfl rfl (fun K hK => ?_)
  go_simp
  refine hK _ _ (fun h => absurd h (by decide)) ?_
  clear hK K
  try simp only [Act.put, List.setIfInBounds_toArray, List.set_cons_zero, List.set_cons_succ]
  refine sched_nil ?_
  go_wp2
  go_ret
  rw [wval_dg] at hI
  exact ⟨rfl, hI, grown_trans (grown_within z hb2) hG⟩
set_option maxRecDepth 100000 in
set_option maxHeartbeats 600000 in
theorem Bsum_ge111 (z x y : Nat) (na nb : Nat) (A Bv : Option Addr) (ca cb : Nat) (ha : (dg na).length ≤ 1000000) (hb : (dg nb).length ≤ 1000000) (w : World) (hz : IntTy w z) (a0 : w.cell? ⟨x, 0, none⟩ = some (.bool true)) (a1 : w.cell? ⟨x, 1, none⟩ = some (.slice A (dg na).length ca)) (hra : RowAt w A (dg na)) (b0 : w.cell? ⟨y, 0, none⟩ = some (.bool true)) (b1 : w.cell? ⟨y, 1, none⟩ = some (.slice Bv (dg nb).length cb)) (hrb : RowAt w Bv (dg nb)) (hge : nb ≤ na) : Calls Tryz.prog 105 #[.pointer (some ⟨z, 0, none⟩), .pointer (some ⟨x, 0, none⟩), .pointer (some ⟨y, 0, none⟩), .bool true] w (PutI w z (sgv true (na - nb))) := by
  have HZ := Lib.hid hz; have HRA := Lib.hid hra; have HRB := Lib.hid hrb; clear hz hra hrb
  have hlx := World.block_lt_of_cell? w _ a0
  have hly := World.block_lt_of_cell? w _ b0
  have hc : decide (cmpN na nb ≥ 0) = true := by unfold cmpN; rw [if_neg (by omega)]; split <;> rfl
  obtain ⟨cm, hcm⟩ : ∃ cm, cm = cmpN na nb := ⟨_, rfl⟩
  rw [← hcm] at hc
  have HC := Lib.hid hcm; clear hcm
  go_enter Tryz.func105, Tryz.ntmps105
  go_wp2
  refine wp_region_sched (fun W => W.cell? ⟨x, 1, none⟩ = some (.slice A (dg na).length ca) ∧ W.cell? ⟨y, 1, none⟩ = some (.slice Bv (dg nb).length cb)) 8 [(0, true), (1, true), (2, true), (3, true), (4, true), (5, true), (6, true), (7, true), (8, false), (9, false)] (by kernel_rfl) (by kernel_rfl) ⟨a1, b1⟩ ?_
  intro hS
  repeat
    apply sched_firm rfl rfl hS
    · intro wq hq
      have hq0 := hq.1; have hq1 := hq.2
      clear hq
      go_simp
      first | rfl | (trace_state; fail)
    try simp only [Act.put, List.setIfInBounds_toArray, List.set_cons_zero, List.set_cons_succ]
  refine sched_one rfl rfl (fun K hK => ?_)
  go_simp
  refine (Bcompare na nb A Bv ca cb (by omega) (by omega) w.drew (RowAt.drew HRA.out) (RowAt.drew HRB.out)).mono ?_
  rintro e1 w1 ⟨rfl, hb1'⟩
  rw [← HC.out]
  have hb1 : Within w w1 := (Within.refl w).drew.trans hb1'
  refine hK _ _ (fun h => absurd h (by decide)) ?_
  clear hK K
  try simp only [Act.put, List.setIfInBounds_toArray, List.set_cons_zero, List.set_cons_succ]
  refine sched_one rfl rfl (fun K hK => ?_)
  go_simp
  refine hK _ _ (fun h => absurd h (by decide)) ?_
  clear hK K
  try simp only [Act.put, List.setIfInBounds_toArray, List.set_cons_zero, List.set_cons_succ]
  refine sched_nil ?_
  have a0' := (hb1.cells _ 0 hlx).trans a0; have a1' := (hb1.cells _ 1 hlx).trans a1; have b0' := (hb1.cells _ 0 hly).trans b0; have b1' := (hb1.cells _ 1 hly).trans b1
  clear hS
  go_wp2
  refine wp_region_sched (fun W => W.cell? ⟨x, 0, none⟩ = some (.bool true) ∧ W.cell? ⟨x, 1, none⟩ = some (.slice A (dg na).length ca) ∧ W.cell? ⟨y, 1, none⟩ = some (.slice Bv (dg nb).length cb)) 14 [(0, true), (1, true), (2, true), (3, true), (4, true), (5, true), (6, true), (7, true), (8, true), (9, true), (10, true), (11, true), (12, true), (13, false), (14, false), (15, false)] (by kernel_rfl) (by kernel_rfl) ⟨a0', a1', b1'⟩ ?_
  intro hS
  repeat
    apply sched_firm rfl rfl hS
    · intro wq hq
      have hq0 := hq.1; have hq1 := hq.2.1; have hq2 := hq.2.2
      clear hq
      go_simp
      first | rfl | (trace_state; fail)
    try simp only [Act.put, List.setIfInBounds_toArray, List.set_cons_zero, List.set_cons_succ]
  refine sched_one rfl rfl (fun K hK => ?_)
  go_simp
  refine (Bminus na nb A Bv ca cb (by omega) hge w1.drew (RowAt.drew (HRA.out.of hb1)) (RowAt.drew (HRB.out.of hb1))).mono ?_
  rintro e2 w2 ⟨A', c', rfl, hc', hr', hb'⟩
  have hb2 : Within w w2 := hb1.drew.trans hb'
  have hlA : (dg (na - nb)).length ≤ 1500000 := by first | exact Nat.le_trans (dg_len_mono (Nat.sub_le _ _)) (by omega) | exact dg_add_le ha hb
  refine hK _ _ (fun h => ⟨(hb2.cells _ _ hlx).trans a0, (hb2.cells _ _ hlx).trans a1, (hb2.cells _ _ hly).trans b1⟩) ?_
  clear hK K
  try simp only [Act.put, List.setIfInBounds_toArray, List.set_cons_zero, List.set_cons_succ]
  refine sched_one rfl rfl (fun K hK => ?_)
  go_simp
  refine (Bput z true (dg (na - nb)) A' c' (words_dg _) hc' (by omega) w2 hr' (HZ.out.of hb2)).mono ?_
  rintro e3 w3 ⟨rfl, hI, hG⟩
  refine hK _ _ (fun h => absurd h (by decide)) ?_
  clear hK K
  try simp only [Act.put, List.setIfInBounds_toArray, List.set_cons_zero, List.set_cons_succ]
  refine sched_one rfl rfl (fun K hK => ?_)
  go_simp
  refine hK _ _ (fun h => absurd h (by decide)) ?_
  clear hK K
  try simp only [Act.put, List.setIfInBounds_toArray, List.set_cons_zero, List.set_cons_succ]
  refine sched_nil ?_
  go_wp2
  go_ret
  rw [wval_dg] at hI
  exact ⟨rfl, hI, grown_trans (grown_within z hb2) hG⟩
set_option maxRecDepth 100000 in
set_option maxHeartbeats 600000 in
theorem Bsum_lt111 (z x y : Nat) (na nb : Nat) (A Bv : Option Addr) (ca cb : Nat) (ha : (dg na).length ≤ 1000000) (hb : (dg nb).length ≤ 1000000) (w : World) (hz : IntTy w z) (a0 : w.cell? ⟨x, 0, none⟩ = some (.bool true)) (a1 : w.cell? ⟨x, 1, none⟩ = some (.slice A (dg na).length ca)) (hra : RowAt w A (dg na)) (b0 : w.cell? ⟨y, 0, none⟩ = some (.bool true)) (b1 : w.cell? ⟨y, 1, none⟩ = some (.slice Bv (dg nb).length cb)) (hrb : RowAt w Bv (dg nb)) (hge : na < nb) : Calls Tryz.prog 105 #[.pointer (some ⟨z, 0, none⟩), .pointer (some ⟨x, 0, none⟩), .pointer (some ⟨y, 0, none⟩), .bool true] w (PutI w z (sgv false (nb - na))) := by
  have HZ := Lib.hid hz; have HRA := Lib.hid hra; have HRB := Lib.hid hrb; clear hz hra hrb
  have hlx := World.block_lt_of_cell? w _ a0
  have hly := World.block_lt_of_cell? w _ b0
  have hc : decide (cmpN na nb ≥ 0) = false := by unfold cmpN; rw [if_pos hge]; rfl
  obtain ⟨cm, hcm⟩ : ∃ cm, cm = cmpN na nb := ⟨_, rfl⟩
  rw [← hcm] at hc
  have HC := Lib.hid hcm; clear hcm
  go_enter Tryz.func105, Tryz.ntmps105
  go_wp2
  refine wp_region_sched (fun W => W.cell? ⟨x, 1, none⟩ = some (.slice A (dg na).length ca) ∧ W.cell? ⟨y, 1, none⟩ = some (.slice Bv (dg nb).length cb)) 8 [(0, true), (1, true), (2, true), (3, true), (4, true), (5, true), (6, true), (7, true), (8, false), (9, false)] (by kernel_rfl) (by kernel_rfl) ⟨a1, b1⟩ ?_
  intro hS
  repeat
    apply sched_firm rfl rfl hS
    · intro wq hq
      have hq0 := hq.1; have hq1 := hq.2
      clear hq
      go_simp
      first | rfl | (trace_state; fail)
    try simp only [Act.put, List.setIfInBounds_toArray, List.set_cons_zero, List.set_cons_succ]
  refine sched_one rfl rfl (fun K hK => ?_)
  go_simp
  refine (Bcompare na nb A Bv ca cb (by omega) (by omega) w.drew (RowAt.drew HRA.out) (RowAt.drew HRB.out)).mono ?_
  rintro e1 w1 ⟨rfl, hb1'⟩
  rw [← HC.out]
  have hb1 : Within w w1 := (Within.refl w).drew.trans hb1'
  refine hK _ _ (fun h => absurd h (by decide)) ?_
  clear hK K
  try simp only [Act.put, List.setIfInBounds_toArray, List.set_cons_zero, List.set_cons_succ]
  refine sched_one rfl rfl (fun K hK => ?_)
  go_simp
  refine hK _ _ (fun h => absurd h (by decide)) ?_
  clear hK K
  try simp only [Act.put, List.setIfInBounds_toArray, List.set_cons_zero, List.set_cons_succ]
  refine sched_nil ?_
  have a0' := (hb1.cells _ 0 hlx).trans a0; have a1' := (hb1.cells _ 1 hlx).trans a1; have b0' := (hb1.cells _ 0 hly).trans b0; have b1' := (hb1.cells _ 1 hly).trans b1
  clear hS
  go_wp2
  refine wp_region_sched (fun W => W.cell? ⟨y, 1, none⟩ = some (.slice Bv (dg nb).length cb) ∧ W.cell? ⟨x, 1, none⟩ = some (.slice A (dg na).length ca)) 11 [(0, true), (1, true), (2, true), (3, true), (4, true), (5, true), (6, true), (7, true), (8, true), (9, true), (10, false), (11, false), (12, false)] (by kernel_rfl) (by kernel_rfl) ⟨b1', a1'⟩ ?_
  intro hS
  repeat
    apply sched_firm rfl rfl hS
    · intro wq hq
      have hq0 := hq.1; have hq1 := hq.2
      clear hq
      go_simp
      first | rfl | (trace_state; fail)
    try simp only [Act.put, List.setIfInBounds_toArray, List.set_cons_zero, List.set_cons_succ]
  refine sched_one rfl rfl (fun K hK => ?_)
  go_simp
  refine (Bminus nb na Bv A cb ca (by omega) (by omega) w1.drew (RowAt.drew (HRB.out.of hb1)) (RowAt.drew (HRA.out.of hb1))).mono ?_
  rintro e2 w2 ⟨A', c', rfl, hc', hr', hb'⟩
  have hb2 : Within w w2 := hb1.drew.trans hb'
  have hlA : (dg (nb - na)).length ≤ 1500000 := by first | exact Nat.le_trans (dg_len_mono (Nat.sub_le _ _)) (by omega) | exact dg_add_le ha hb
  refine hK _ _ (fun h => ⟨(hb2.cells _ _ hly).trans b1, (hb2.cells _ _ hlx).trans a1⟩) ?_
  clear hK K
  try simp only [Act.put, List.setIfInBounds_toArray, List.set_cons_zero, List.set_cons_succ]
  refine sched_one rfl rfl (fun K hK => ?_)
  go_simp
  refine (Bput z false (dg (nb - na)) A' c' (words_dg _) hc' (by omega) w2 hr' (HZ.out.of hb2)).mono ?_
  rintro e3 w3 ⟨rfl, hI, hG⟩
  refine hK _ _ (fun h => absurd h (by decide)) ?_
  clear hK K
  try simp only [Act.put, List.setIfInBounds_toArray, List.set_cons_zero, List.set_cons_succ]
  refine sched_one rfl rfl (fun K hK => ?_)
  go_simp
  refine hK _ _ (fun h => absurd h (by decide)) ?_
  clear hK K
  try simp only [Act.put, List.setIfInBounds_toArray, List.set_cons_zero, List.set_cons_succ]
  refine sched_nil ?_
  go_wp2
  go_ret
  rw [wval_dg] at hI
  exact ⟨rfl, hI, grown_trans (grown_within z hb2) hG⟩
theorem PutI_eq {W w' : World} {z : Nat} {v v' : Int} {e : Ending} (h : PutI W z v e w') (k : v = v') : PutI W z v' e w' := k ▸ h
theorem Bsum (z x y : Nat) (a b : Int) (turn : Bool) (ha : (dg a.natAbs).length ≤ 1000000) (hb : (dg b.natAbs).length ≤ 1000000) (w : World) (hz : IntTy w z) (hx : IntB w x a) (hy : IntB w y b) : Calls Tryz.prog 105 #[.pointer (some ⟨z, 0, none⟩), .pointer (some ⟨x, 0, none⟩), .pointer (some ⟨y, 0, none⟩), .bool turn] w (PutI w z (a + (if turn then -b else b))) := by
  obtain ⟨A, ca, a0, a1, hra⟩ := hx.rd
  obtain ⟨Bv, cb, b0, b1, hrb⟩ := hy.rd
  by_cases ha0 : a < 0 <;> by_cases hb0 : b < 0 <;> cases turn
  · have q1 : decide (a < 0) = true := decide_eq_true (by omega)
    have q2 : decide (b < 0) = true := decide_eq_true (by omega)
    rw [q1] at a0; rw [q2] at b0
    exact Calls.mono (Bsum_same110 z x y _ _ A Bv ca cb ha hb w hz a0 a1 hra b0 b1 hrb) (fun _ _ h => PutI_eq h (by unfold sgv; simp; omega))
  · have q1 : decide (a < 0) = true := decide_eq_true (by omega)
    have q2 : decide (b < 0) = true := decide_eq_true (by omega)
    rw [q1] at a0; rw [q2] at b0
    rcases Nat.lt_or_ge a.natAbs b.natAbs with h | h
    · exact Calls.mono (Bsum_lt111 z x y _ _ A Bv ca cb ha hb w hz a0 a1 hra b0 b1 hrb h) (fun _ _ h => PutI_eq h (by unfold sgv; simp; omega))
    · exact Calls.mono (Bsum_ge111 z x y _ _ A Bv ca cb ha hb w hz a0 a1 hra b0 b1 hrb h) (fun _ _ h => PutI_eq h (by unfold sgv; simp; omega))
  · have q1 : decide (a < 0) = true := decide_eq_true (by omega)
    have q2 : decide (b < 0) = false := decide_eq_false (by omega)
    rw [q1] at a0; rw [q2] at b0
    rcases Nat.lt_or_ge a.natAbs b.natAbs with h | h
    · exact Calls.mono (Bsum_lt100 z x y _ _ A Bv ca cb ha hb w hz a0 a1 hra b0 b1 hrb h) (fun _ _ h => PutI_eq h (by unfold sgv; simp; omega))
    · exact Calls.mono (Bsum_ge100 z x y _ _ A Bv ca cb ha hb w hz a0 a1 hra b0 b1 hrb h) (fun _ _ h => PutI_eq h (by unfold sgv; simp; omega))
  · have q1 : decide (a < 0) = true := decide_eq_true (by omega)
    have q2 : decide (b < 0) = false := decide_eq_false (by omega)
    rw [q1] at a0; rw [q2] at b0
    exact Calls.mono (Bsum_same101 z x y _ _ A Bv ca cb ha hb w hz a0 a1 hra b0 b1 hrb) (fun _ _ h => PutI_eq h (by unfold sgv; simp; omega))
  · have q1 : decide (a < 0) = false := decide_eq_false (by omega)
    have q2 : decide (b < 0) = true := decide_eq_true (by omega)
    rw [q1] at a0; rw [q2] at b0
    rcases Nat.lt_or_ge a.natAbs b.natAbs with h | h
    · exact Calls.mono (Bsum_lt010 z x y _ _ A Bv ca cb ha hb w hz a0 a1 hra b0 b1 hrb h) (fun _ _ h => PutI_eq h (by unfold sgv; simp; omega))
    · exact Calls.mono (Bsum_ge010 z x y _ _ A Bv ca cb ha hb w hz a0 a1 hra b0 b1 hrb h) (fun _ _ h => PutI_eq h (by unfold sgv; simp; omega))
  · have q1 : decide (a < 0) = false := decide_eq_false (by omega)
    have q2 : decide (b < 0) = true := decide_eq_true (by omega)
    rw [q1] at a0; rw [q2] at b0
    exact Calls.mono (Bsum_same011 z x y _ _ A Bv ca cb ha hb w hz a0 a1 hra b0 b1 hrb) (fun _ _ h => PutI_eq h (by unfold sgv; simp; omega))
  · have q1 : decide (a < 0) = false := decide_eq_false (by omega)
    have q2 : decide (b < 0) = false := decide_eq_false (by omega)
    rw [q1] at a0; rw [q2] at b0
    exact Calls.mono (Bsum_same000 z x y _ _ A Bv ca cb ha hb w hz a0 a1 hra b0 b1 hrb) (fun _ _ h => PutI_eq h (by unfold sgv; simp; omega))
  · have q1 : decide (a < 0) = false := decide_eq_false (by omega)
    have q2 : decide (b < 0) = false := decide_eq_false (by omega)
    rw [q1] at a0; rw [q2] at b0
    rcases Nat.lt_or_ge a.natAbs b.natAbs with h | h
    · exact Calls.mono (Bsum_lt001 z x y _ _ A Bv ca cb ha hb w hz a0 a1 hra b0 b1 hrb h) (fun _ _ h => PutI_eq h (by unfold sgv; simp; omega))
    · exact Calls.mono (Bsum_ge001 z x y _ _ A Bv ca cb ha hb w hz a0 a1 hra b0 b1 hrb h) (fun _ _ h => PutI_eq h (by unfold sgv; simp; omega))
set_option maxRecDepth 100000 in
set_option maxHeartbeats 600000 in
theorem BAdd (z x y : Nat) (a b : Int) (ha : (dg a.natAbs).length ≤ 1000000) (hb : (dg b.natAbs).length ≤ 1000000) (w : World) (hz : IntTy w z) (hx : IntB w x a) (hy : IntB w y b) : Calls Tryz.prog 93 #[.pointer (some ⟨z, 0, none⟩), .pointer (some ⟨x, 0, none⟩), .pointer (some ⟨y, 0, none⟩)] w (PutI w z (a + b)) := by
  have HS := Lib.hid (Bsum z x y a b false ha hb w hz hx hy)
  clear ha hb hz hx hy
  go_enter Tryz.func93, Tryz.ntmps93
  go_wp2_with fail
  refine HS.out.mono ?_; rintro e1 w1 ⟨rfl, hI, hG⟩
  go_wp2
  go_ret
  exact ⟨rfl, by simpa using hI, hG⟩
set_option maxRecDepth 100000 in
set_option maxHeartbeats 600000 in
theorem BSub (z x y : Nat) (a b : Int) (ha : (dg a.natAbs).length ≤ 1000000) (hb : (dg b.natAbs).length ≤ 1000000) (w : World) (hz : IntTy w z) (hx : IntB w x a) (hy : IntB w y b) : Calls Tryz.prog 64 #[.pointer (some ⟨z, 0, none⟩), .pointer (some ⟨x, 0, none⟩), .pointer (some ⟨y, 0, none⟩)] w (PutI w z (a - b)) := by
  have HS := Lib.hid (Bsum z x y a b true ha hb w hz hx hy)
  clear ha hb hz hx hy
  go_enter Tryz.func64, Tryz.ntmps64
  go_wp2_with fail
  refine HS.out.mono ?_; rintro e1 w1 ⟨rfl, hI, hG⟩
  go_wp2
  go_ret
  exact ⟨rfl, by simpa [Int.sub_eq_add_neg] using hI, hG⟩
end Go.Proofs.YtifgngmebnjfkaaGreatDoor
end

section
namespace Go.Proofs.YtifgngmebnjfkaaGreatDoor
open Go.RowKit
theorem repl_getD (n j : Nat) : (List.replicate n 0).getD j 0 = 0 := by
  rw [List.getD_eq_getElem?_getD, List.getElem?_replicate]
  by_cases h : j < n
  · rw [if_pos h]; rfl
  · rw [if_neg h]; rfl
def LeftRel (W : World) (g : Nat) (la : List Nat) (W0 S0 : Nat) (iv : Value) (wr : World) : Prop :=
  ∃ (k : Nat) (o : List Nat), k ≤ la.length ∧ iv = .int .i64 (k : Int) ∧ o.length = W0 + la.length + 1 ∧ Words o ∧ OwnW wr g o ∧ lo o (W0 + k + 1) = lo la k * 2 ^ S0 * 4294967296 ^ W0 ∧ o.getD (W0 + k) 0 < 2 ^ S0 ∧ (∀ j, W0 + k < j → o.getD j 0 = 0) ∧ Within W wr
theorem low_lt {x S0 z : Nat} (hS : S0 < 32) (hz : z < 2 ^ S0) : z + x * 2 ^ S0 % 4294967296 < 4294967296 := by
  rw [left_low hS]
  have h1 : x % 2 ^ (32 - S0) < 2 ^ (32 - S0) := Nat.mod_lt _ (Nat.two_pow_pos _)
  have h2 : (x % 2 ^ (32 - S0) + 1) * 2 ^ S0 ≤ 2 ^ (32 - S0) * 2 ^ S0 := Nat.mul_le_mul_right _ h1
  rw [← Nat.pow_add, show 32 - S0 + S0 = 32 by omega, Nat.add_mul] at h2
  omega
theorem low_or {x S0 z : Nat} (hS : S0 < 32) (hz : z < 2 ^ S0) : bits .or .u32 (z : Int) ((x * 2 ^ S0 % 4294967296 : Nat) : Int) = ((z + x * 2 ^ S0 % 4294967296 : Nat) : Int) := by
  have h1 := low_lt (x := x) hS hz
  rw [u32_or_nat _ _ (by omega) (by omega), Nat.or_comm, nat_join S0 _ _ (by rw [left_low hS, Nat.mul_mod_left]) hz, Nat.add_comm]
theorem LeftRel.step {W wr : World} {g : Nat} {la o : List Nat} {W0 S0 k x z : Nat} (u v q : Int) (hk : k < la.length) (hS : S0 < 32) (ho : o.length = W0 + la.length + 1) (hwo : Words o) (hown : OwnW wr g o)
    (hval : lo o (W0 + k + 1) = lo la k * 2 ^ S0 * 4294967296 ^ W0) (hlow : z < 2 ^ S0) (hzero : ∀ j, W0 + k < j → o.getD j 0 = 0) (hin : Within W wr)
    (hx : x = la.getD k 0) (hz : z = o.getD (W0 + k) 0) (hx2 : x < 4294967296) (hg : W.heap.size ≤ g) (hu : u = ((z + x * 2 ^ S0 % 4294967296 : Nat) : Int)) (hv : v = ((x * 2 ^ S0 / 4294967296 : Nat) : Int)) (hq : q = ((k + 1 : Nat) : Int)) :
    LeftRel W g la W0 S0 (.int .i64 q) ((wr.setCell ⟨g, W0 + k, none⟩ (.int .u32 u)).setCell ⟨g, W0 + k + 1, none⟩ (.int .u32 v)) := by
  subst hu hv hq
  have hh := left_high (m := x) (s := S0) hx2
  have h32 : 2 ^ S0 ≤ 4294967296 := by rw [show (4294967296 : Nat) = 2 ^ 32 from rfl]; exact Nat.pow_le_pow_right (by decide) (by omega)
  have hl := low_lt (x := x) hS hlow
  generalize hL : x * 2 ^ S0 % 4294967296 = L at *
  generalize hH : x * 2 ^ S0 / 4294967296 = H at *
  have ho1 : (o.set (W0 + k) (z + L)).length = W0 + la.length + 1 := by rw [List.length_set]; exact ho
  refine ⟨k + 1, (o.set (W0 + k) (z + L)).set (W0 + k + 1) H, by omega, rfl, by rw [List.length_set]; exact ho1, (hwo.set _ _ hl).set _ _ (by omega), (hown.set _ _ (by omega)).set _ _ (by omega), ?_, ?_, ?_, (hin.setCell hg _).setCell hg _⟩
  · rw [show W0 + (k + 1) + 1 = W0 + k + 1 + 1 by omega, lo_set_succ _ _ _ (by omega), lo_set_succ _ _ _ (by omega), lo_succ la, ← hx]
    rw [lo_succ, ← hz] at hval
    have := left_step (P := 4294967296 ^ (W0 + k)) (t := x * 2 ^ S0) hval
    rw [hL, hH] at this
    rw [Nat.pow_succ, this, Nat.add_mul, Nat.add_mul, Nat.pow_add]
    congr 1
    rw [Nat.mul_comm (4294967296 ^ W0), Nat.mul_assoc, Nat.mul_assoc, Nat.mul_assoc, Nat.mul_comm (4294967296 ^ W0), Nat.mul_assoc]
  · rw [show W0 + (k + 1) = W0 + k + 1 by omega, getD_set_eq _ _ _ (by omega)]; exact hh
  · intro j hj
    rw [lset_ne _ _ _ _ (by omega), lset_ne _ _ _ _ (by omega)]
    exact hzero j (by omega)
set_option maxRecDepth 100000 in
set_option maxHeartbeats 600000 in
theorem Bleft_pos (la : List Nat) (A : Option Addr) (ca n W0 S0 : Nat) (hwa : Words la) (hla : la.length ≤ 500000) (h0 : 0 < la.length) (hn : n = 32 * W0 + S0) (hS : S0 < 32) (hW : W0 ≤ 500000) (w : World) (hra : RowAt w A la) :
    Calls Tryz.prog 102 #[.slice A la.length ca, .int .u64 (n : Int)] w (RetW w (wval la * 2 ^ n)) := by
  have hmk := run_make_row' (P := Tryz.prog) 89 22 (.int .u32 0) 4 (by kernel_rfl) Tryz.infoU32 rfl .i64 .i64 (W0 + la.length + 1) (by omega) (by omega)
  rw [show ((W0 + la.length + 1 : Nat) : Int) = (W0 : Int) + (la.length : Int) + 1 by omega] at hmk
  have HWA := Lib.hid hwa; have HRA := Lib.hid hra; clear hwa hra
  have hq : (n : Int) / 32 = (W0 : Int) := by omega
  have hr : (n : Int) % 32 = (S0 : Int) := by omega
  have d0 : ((la.length : Int) == 0) = false := beq_eq_false_iff_ne.2 (by omega)
  have HN := Lib.hid hn; clear hn
  have HM := OwnW.made w (W0 + la.length + 1)
  go_enter Tryz.func102, Tryz.ntmps102
  go_wp2
  go_loopw [8] (fun iv wr => LeftRel w w.heap.size la W0 S0 iv wr) (fun iv _ => la.length - (intOf iv).toNat)
  case atStart => exact ⟨0, _, Nat.zero_le _, rfl, by simp, Words.zeros _, HM, by
    rw [lo_zero, lo]
    rw [show (List.replicate (W0 + la.length + 1) 0).take (W0 + 0 + 1) = List.replicate (W0 + 0 + 1) 0 by rw [List.take_replicate]; congr 1; omega, wval_zeros]; simp, by
    rw [repl_getD]; exact Nat.two_pow_pos _, fun j _ => repl_getD _ _, (Within.refl w).alloc _⟩
  case round =>
    obtain ⟨k, o, hk, rfl, ho, hwo, hown, hval, hlow, hzero, hin⟩ := hrel
    have HV := Lib.hid hval; have HO := Lib.hid ho; have HWO := Lib.hid hwo; have HZ := Lib.hid hzero; clear hval ho hwo hzero
    rcases Nat.lt_or_ge k la.length with hlt | hlt
    · obtain ⟨ga, rfl, hga, hca⟩ := (HRA.out.of hin).cell hlt
      obtain ⟨x, hxe⟩ : ∃ x, x = la.getD k 0 := ⟨_, rfl⟩
      have hx : x < 4294967296 := by rw [hxe]; exact HWA.out.getD k
      rw [← hxe] at hca
      have HXE := Lib.hid hxe; clear hxe
      obtain ⟨z, hze⟩ : ∃ z, z = o.getD (W0 + k) 0 := ⟨_, rfl⟩
      have hco := hown.cell (i := W0 + k) (by rw [HO.out]; omega)
      have hfo := hown.frozen (W0 + k)
      have hco1 := hown.cell (i := W0 + k + 1) (by rw [HO.out]; omega)
      have hfo1 := hown.frozen (W0 + k + 1)
      rw [← hze] at hco hlow
      have HZE := Lib.hid hze; clear hze
      have gsh : IntKind.u64.wrap ((x : Int) * 2 ^ S0) = ((x * 2 ^ S0 : Nat) : Int) := by
        have e : (x : Int) * 2 ^ S0 = ((x * 2 ^ S0 : Nat) : Int) := by simp
        have := left_high (m := x) (s := S0) hx
        have h32 : 2 ^ S0 ≤ 4294967296 := by rw [show (4294967296 : Nat) = 2 ^ 32 from rfl]; exact Nat.pow_le_pow_right (by decide) (by omega)
        rw [e, IntKind.wrap_u64]; omega
      have gor := low_or (x := x) hS hlow
      have hH : x * 2 ^ S0 / 4294967296 < 4294967296 := by
        have := left_high (m := x) (s := S0) hx
        have h32 : 2 ^ S0 ≤ 4294967296 := by rw [show (4294967296 : Nat) = 2 ^ 32 from rfl]; exact Nat.pow_le_pow_right (by decide) (by omega)
        omega
      have hstep := fun (u v q : Int) => LeftRel.step (S0 := S0) (x := x) (z := z) u v q hlt hS HO.out HWO.out hown HV.out hlow HZ.out hin HXE.out HZE.out hx (Nat.le_refl _)
      have HST := Lib.hid hstep; clear hstep
      obtain ⟨t, ht⟩ : ∃ t, t = x * 2 ^ S0 := ⟨_, rfl⟩
      rw [← ht] at gsh gor hH
      rw [Int.natCast_emod] at gor
      have HT := Lib.hid ht; clear ht
      have g3 : (t : Int) / 4294967296 % 4294967296 = ((t / 4294967296 : Nat) : Int) := by omega
      go_wp2
      go_roundw
      case rel => exact HST.out _ _ _ (by rw [← HT.out]; first | rfl | exact gor) (by rw [← HT.out]; first | rfl | exact g3) (by omega)
      case measure => simp [intOf]; omega
    · obtain rfl : k = la.length := by omega
      have CT := Lib.hid (Bcut o (some ⟨w.heap.size, 0, none⟩) (W0 + la.length + 1) HWO.out (by rw [HO.out]; exact Nat.le_refl _) (by rw [HO.out]; omega) _ hown.at)
      rw [HO.out] at CT
      go_wp2_with fail
      refine (CT.out).mono ?_; rintro e1 w1 ⟨rfl, rfl⟩
      go_wp2
      go_ret
      refine retW_cut hown.at HWO.out (by rw [HO.out]; exact Nat.le_refl _) hin ?_
      rw [← lo_all o (Nat.le_of_eq HO.out), HV.out, lo_all _ (Nat.le_refl _), HN.out, Nat.mul_assoc, show (4294967296 : Nat) = 2 ^ 32 from rfl, ← Nat.pow_mul, ← Nat.pow_add, Nat.add_comm S0]
set_option maxRecDepth 100000 in
set_option maxHeartbeats 600000 in
theorem Bleft_nil (A : Option Addr) (ca n : Nat) (w : World) : Calls Tryz.prog 102 #[.slice A 0 ca, .int .u64 (n : Int)] w (RetW w 0) := by
  go_enter Tryz.func102, Tryz.ntmps102
  go_wp2
  go_ret
  exact ⟨none, 0, by rw [dg_zero]; rfl, by rw [dg_zero]; exact Nat.le_refl _, by rw [dg_zero]; exact RowAt.nil, Within.refl _⟩
theorem Bleft (a : Nat) (A : Option Addr) (ca n : Nat) (ha : (dg a).length ≤ 500000) (hn : n ≤ 16000000) (w : World) (hra : RowAt w A (dg a)) :
    Calls Tryz.prog 102 #[.slice A (dg a).length ca, .int .u64 (n : Int)] w (RetW w (a * 2 ^ n)) := by
  by_cases h : a = 0
  · subst h
    rw [dg_zero, Nat.zero_mul]
    exact Bleft_nil A ca n w
  · have := Bleft_pos (dg a) A ca n (n / 32) (n % 32) (words_dg a) ha (dg_len_pos h) (by omega) (by omega) (by omega) w hra
    rw [wval_dg] at this
    exact this
end Go.Proofs.YtifgngmebnjfkaaGreatDoor
end

section
namespace Go.Proofs.YtifgngmebnjfkaaGreatDoor
open Go.RowKit
def RightRel (W : World) (g : Nat) (D : List Nat) (S0 : Nat) (iv : Value) (wr : World) : Prop :=
  ∃ (k : Nat) (o : List Nat), k ≤ D.length ∧ iv = .int .i64 (k : Int) ∧ o.length = D.length ∧ Words o ∧ OwnW wr g o ∧ lo o k = wval D / 2 ^ S0 % 4294967296 ^ k ∧ Within W wr
theorem RightRel.step {W wr : World} {g : Nat} {D o : List Nat} {S0 k x y : Nat} (u q : Int) (hk : k < D.length) (hS : S0 < 32) (hD : Words D) (ho : o.length = D.length) (hwo : Words o) (hown : OwnW wr g o)
    (hval : lo o k = wval D / 2 ^ S0 % 4294967296 ^ k) (hin : Within W wr) (hx : x = D.getD k 0) (hy : y = D.getD (k + 1) 0) (hg : W.heap.size ≤ g)
    (hu : u = (((x + 4294967296 * y) / 2 ^ S0 % 4294967296 : Nat) : Int)) (hq : q = ((k + 1 : Nat) : Int)) :
    RightRel W g D S0 (.int .i64 q) (wr.setCell ⟨g, k, none⟩ (.int .u32 u)) := by
  subst hu hq
  refine ⟨k + 1, o.set k ((x + 4294967296 * y) / 2 ^ S0 % 4294967296), by omega, rfl, by rw [List.length_set]; exact ho, hwo.set _ _ (by omega), hown.set _ _ (by omega), ?_, hin.setCell hg _⟩
  rw [lo_set_succ _ _ _ (by omega), mod_succ, hval, right_digit _ S0 k D rfl hD hS, ← hx, ← hy]
theorem drop_getD (l : List Nat) (i k : Nat) : (l.drop i).getD k 0 = l.getD (i + k) 0 := by
  simp [List.getD_eq_getElem?_getD, List.getElem?_drop]
theorem or_high {x y : Nat} (hx : x < 4294967296) (hy : y < 4294967296) : bits .or .u64 (x : Int) ((y * 4294967296 : Nat) : Int) = ((x + 4294967296 * y : Nat) : Int) := by
  rw [u64_or_nat _ _ (by omega) (by omega), Nat.or_comm, nat_join 32 _ _ (by rw [show (2 : Nat) ^ 32 = 4294967296 from rfl]; omega) hx]
  congr 1; omega
set_option maxRecDepth 100000 in
set_option maxHeartbeats 600000 in
theorem Bright_pos (la : List Nat) (A : Option Addr) (ca n W0 S0 : Nat) (hwa : Words la) (hla : la.length ≤ 1500000) (h0 : W0 < la.length) (hn : n = 32 * W0 + S0) (hS : S0 < 32) (w : World) (hra : RowAt w A la) :
    Calls Tryz.prog 124 #[.slice A la.length ca, .int .u64 (n : Int)] w (RetW w (wval la / 2 ^ n)) := by
  obtain ⟨N, hN⟩ : ∃ N, la.length = W0 + N := ⟨la.length - W0, by omega⟩
  have hDl : (la.drop W0).length = N := by rw [List.length_drop]; omega
  have hmk := run_make_row' (P := Tryz.prog) 89 22 (.int .u32 0) 4 (by kernel_rfl) Tryz.infoU32 rfl .i64 .i64 N (by omega) (by omega)
  have hgt : (la.length : Int) - (W0 : Int) = (N : Int) := by omega
  have HWA := Lib.hid hwa; have HRA := Lib.hid hra; have HDL := Lib.hid hDl; clear hwa hra hDl
  have hq : (n : Int) / 32 = (W0 : Int) := by omega
  have hr : (n : Int) % 32 = (S0 : Int) := by omega
  have d0 : decide ((W0 : Int) ≥ la.length) = false := decide_eq_false (by omega)
  have HNN := Lib.hid hN; have HN := Lib.hid hn; clear hn hN
  have HM := OwnW.made w N
  go_enter Tryz.func124, Tryz.ntmps124
  go_wp2
  go_loopw [8] (fun iv wr => RightRel w w.heap.size (la.drop W0) S0 iv wr) (fun iv _ => N - (intOf iv).toNat)
  case atStart => exact ⟨0, _, Nat.zero_le _, rfl, by rw [HDL.out]; simp, Words.zeros _, HM, by rw [lo_zero]; simp [Nat.mod_one], (Within.refl w).alloc _⟩
  case round =>
    obtain ⟨k, o, hk, rfl, ho, hwo, hown, hval, hin⟩ := hrel
    rw [HDL.out] at hk ho
    have HV := Lib.hid hval; have HO := Lib.hid ho; have HWO := Lib.hid hwo; clear hval ho hwo
    rcases Nat.lt_or_ge k N with hlt | hlt
    · obtain ⟨ga, rfl, hga, hca⟩ := (HRA.out.of hin).cell (i := W0 + k) (by rw [HNN.out]; omega)
      obtain ⟨x, hxe⟩ : ∃ x, x = la.getD (W0 + k) 0 := ⟨_, rfl⟩
      have hx : x < 4294967296 := by rw [hxe]; exact HWA.out.getD _
      rw [← hxe] at hca
      have HXE := Lib.hid hxe; clear hxe
      have hco := hown.cell (i := k) (by rw [HO.out]; omega)
      have hfo := hown.frozen k
      have hstep := fun (y : Nat) (u q : Int) => RightRel.step (S0 := S0) (x := x) (y := y) u q (by rw [HDL.out]; exact hlt) hS (HWA.out.drop W0) (by rw [HDL.out]; exact HO.out) HWO.out hown HV.out hin (by rw [drop_getD]; exact HXE.out)
      have HST := Lib.hid hstep; clear hstep
      rcases Nat.lt_or_ge (k + 1) N with hlb | hlb
      · obtain ⟨gb, hgb1, hgb, hcb⟩ := (HRA.out.of hin).cell (i := W0 + k + 1) (by rw [HNN.out]; omega)
        injection hgb1 with hgb1; injection hgb1 with hgb1; subst hgb1
        obtain ⟨y, hye⟩ : ∃ y, y = la.getD (W0 + k + 1) 0 := ⟨_, rfl⟩
        have hy : y < 4294967296 := by rw [hye]; exact HWA.out.getD _
        rw [← hye] at hcb
        have HYE := Lib.hid hye; clear hye
        have gsh : IntKind.u64.wrap ((y : Int) * 4294967296) = ((y * 4294967296 : Nat) : Int) := by rw [IntKind.wrap_u64]; omega
        have gor := or_high hx hy
        have GU := Lib.hid (show bits .or .u64 (x : Int) ((y : Int) * 4294967296) / 2 ^ S0 % 4294967296 = (((x + 4294967296 * y) / 2 ^ S0 % 4294967296 : Nat) : Int) by
          rw [show (y : Int) * 4294967296 = ((y * 4294967296 : Nat) : Int) by omega, gor]; simp)
        clear gor
        have dlt : decide ((W0 : Int) + k + 1 < la.length) = true := decide_eq_true (by have := HNN.out; omega)
        go_wp2
        go_roundw
        case rel => exact HST.out y _ _ (by rw [drop_getD, ← Nat.add_assoc]; exact HYE.out) (Nat.le_refl _) GU.out (by omega)
        case measure => simp [intOf]; omega
      · have dlt : decide ((W0 : Int) + k + 1 < la.length) = false := decide_eq_false (by have := HNN.out; omega)
        go_wp2
        go_roundw
        case rel => exact HST.out 0 _ _ (by rw [drop_getD]; simp [List.getD_eq_getElem?_getD, HNN.out]; rw [List.getElem?_eq_none (by have := HNN.out; omega)]; rfl) (Nat.le_refl _) (by simp) (by omega)
        case measure => simp [intOf]; omega
    · obtain rfl : k = N := by omega
      have CT := Lib.hid (Bcut o (some ⟨w.heap.size, 0, none⟩) k HWO.out (by rw [HO.out]; exact Nat.le_refl _) (by rw [HO.out]; omega) _ hown.at)
      rw [HO.out] at CT
      go_wp2_with fail
      refine (CT.out).mono ?_; rintro e1 w1 ⟨rfl, rfl⟩
      go_wp2
      go_ret
      refine retW_cut hown.at HWO.out (by rw [HO.out]; exact Nat.le_refl _) hin ?_
      have hs := wval_split la W0
      have h1 := lo_lt la HWA.out W0
      have h2 := wval_lt _ (HWA.out.drop W0)
      rw [HDL.out] at h2
      have e : wval (la.drop W0) = wval la / 4294967296 ^ W0 := by
        rw [hs, Nat.add_mul_div_left _ _ (Nat.pow_pos (by decide)), Nat.div_eq_of_lt h1, Nat.zero_add]
      rw [← lo_all o (Nat.le_of_eq HO.out), HV.out, Nat.mod_eq_of_lt (Nat.lt_of_le_of_lt (Nat.div_le_self _ _) h2), e, Nat.div_div_eq_div_mul, HN.out, show (4294967296 : Nat) = 2 ^ 32 from rfl, ← Nat.pow_mul, ← Nat.pow_add]
set_option maxRecDepth 100000 in
set_option maxHeartbeats 600000 in
theorem Bright_nil (m : Nat) (A : Option Addr) (ca n W0 : Nat) (hW : n / 32 = W0) (h : m ≤ W0) (hn : n ≤ 40000000) (w : World) : Calls Tryz.prog 124 #[.slice A m ca, .int .u64 (n : Int)] w (RetW w 0) := by
  have hq : (n : Int) / 32 = (W0 : Int) := by omega
  have hr : (n : Int) % 32 = ((n % 32 : Nat) : Int) := by omega
  have d0 : decide ((W0 : Int) ≥ m) = true := decide_eq_true (by omega)
  clear hW
  go_enter Tryz.func124, Tryz.ntmps124
  go_wp2
  go_ret
  exact ⟨none, 0, by rw [dg_zero]; rfl, by rw [dg_zero]; exact Nat.le_refl _, by rw [dg_zero]; exact RowAt.nil, Within.refl _⟩
theorem Bright (a : Nat) (A : Option Addr) (ca n : Nat) (ha : (dg a).length ≤ 1500000) (hn : n ≤ 40000000) (w : World) (hra : RowAt w A (dg a)) :
    Calls Tryz.prog 124 #[.slice A (dg a).length ca, .int .u64 (n : Int)] w (RetW w (a / 2 ^ n)) := by
  rcases Nat.lt_or_ge (n / 32) (dg a).length with h | h
  · have := Bright_pos (dg a) A ca n (n / 32) (n % 32) (words_dg a) ha h (by omega) (by omega) w hra
    rw [wval_dg] at this
    exact this
  · have e : a / 2 ^ n = 0 := by
      apply Nat.div_eq_of_lt
      have h1 := lt_of_dg a
      have h2 : 4294967296 ^ (dg a).length ≤ 2 ^ n := by
        rw [show (4294967296 : Nat) = 2 ^ 32 from rfl, ← Nat.pow_mul]; exact Nat.pow_le_pow_right (by decide) (by omega)
      omega
    rw [e]
    exact Bright_nil _ A ca n (n / 32) rfl h hn w
end Go.Proofs.YtifgngmebnjfkaaGreatDoor
end

section
namespace Go.Proofs.YtifgngmebnjfkaaGreatDoor
open Go.RowKit
def TimesOut (W : World) (g : Nat) (la lb : List Nat) (iv : Value) (wr : World) : Prop :=
  ∃ (i : Nat) (o : List Nat), i ≤ la.length ∧ iv = .int .i64 (i : Int) ∧ o.length = la.length + lb.length ∧ Words o ∧ OwnW wr g o ∧ lo o (i + lb.length) = lo la i * wval lb ∧ Within W wr
def TimesIn (W : World) (g : Nat) (lb o0 : List Nat) (x i : Nat) (cv kv : Value) (wr : World) : Prop :=
  ∃ (k c : Nat) (o : List Nat), k ≤ lb.length ∧ c < 4294967296 ∧ cv = .int .u64 (c : Int) ∧ kv = .int .i64 (k : Int) ∧ o.length = o0.length ∧ Words o ∧ OwnW wr g o ∧ lo o (i + k) + 4294967296 ^ (i + k) * c = lo o0 (i + k) + 4294967296 ^ i * (x * lo lb k) ∧ (∀ j, i + k ≤ j → o.getD j 0 = o0.getD j 0) ∧ Within W wr
theorem TimesIn.step {W wr : World} {g : Nat} {lb o0 o : List Nat} {x i k c y z n : Nat} (u v q : Int) (hn : i + k < o.length) (hk : k < lb.length) (hc : c < 4294967296) (ho : o.length = o0.length) (hwo : Words o) (hown : OwnW wr g o)
    (hval : lo o (i + k) + 4294967296 ^ (i + k) * c = lo o0 (i + k) + 4294967296 ^ i * (x * lo lb k)) (hrest : ∀ j, i + k ≤ j → o.getD j 0 = o0.getD j 0) (hin : Within W wr) (hg : W.heap.size ≤ g)
    (hx : x < 4294967296) (hy : y = lb.getD k 0) (hy2 : y < 4294967296) (hz : z = o.getD (i + k) 0) (hz2 : z < 4294967296) (n' : Nat)
    (hu : u = (((x * y + z + c) / 4294967296 : Nat) : Int)) (hv : v = (((x * y + z + c) % 4294967296 : Nat) : Int)) (hq : q = ((k + 1 : Nat) : Int)) :
    TimesIn W g lb o0 x i (.int .u64 u) (.int .i64 q) ((wr.drewN n).setCell ⟨g, i + k, none⟩ (.int .u32 v)) := by
  subst hu hv hq
  have hm := word_mul hx hy2
  refine ⟨k + 1, (x * y + z + c) / 4294967296, o.set (i + k) ((x * y + z + c) % 4294967296), by omega, by omega, rfl, rfl, by rw [List.length_set]; exact ho, hwo.set _ _ (by omega), OwnW.set (w := wr.drewN n) hown _ _ hn, ?_, ?_, (hin.drewN n).setCell hg _⟩
  · rw [show i + (k + 1) = i + k + 1 by omega, lo_set_succ _ _ _ hn, lo_succ o0, lo_succ lb, ← hy, ← hrest (i + k) (Nat.le_refl _), ← hz, Nat.pow_succ]
    have := times_step (P := 4294967296 ^ (i + k)) (Q := 4294967296 ^ i * (x * (4294967296 ^ k * y))) (x := x) (y := y) (z := z) hval _ rfl (by rw [Nat.pow_add, Nat.mul_assoc]; congr 1; rw [Nat.mul_left_comm])
    rw [Nat.mul_add x, Nat.mul_add]
    exact this
  · intro j hj
    rw [lset_ne _ _ _ _ (by omega)]
    exact hrest j (by omega)
set_option maxRecDepth 100000 in
set_option maxHeartbeats 600000 in
theorem Btimes0 (la lb : List Nat) (A Bv : Option Addr) (ca cb : Nat) (hwa : Words la) (hwb : Words lb) (hla : la.length ≤ 700000) (hlb : lb.length ≤ 700000) (w : World) (hra : RowAt w A la) (hrb : RowAt w Bv lb) :
    Calls Tryz.prog 133 #[.slice A la.length ca, .slice Bv lb.length cb] w (RetW w (wval la * wval lb)) := by
  have hmk := run_make_row' (P := Tryz.prog) 89 22 (.int .u32 0) 4 (by kernel_rfl) Tryz.infoU32 rfl .i64 .i64 (la.length + lb.length) (by omega) (by omega)
  rw [show ((la.length + lb.length : Nat) : Int) = (la.length : Int) + (lb.length : Int) by omega] at hmk
  have HWA := Lib.hid hwa; have HWB := Lib.hid hwb; have HRA := Lib.hid hra; have HRB := Lib.hid hrb; clear hwa hwb hra hrb
  have HM := OwnW.made w (la.length + lb.length)
  go_enter Tryz.func133, Tryz.ntmps133
  go_wp2
  go_loopw [6] (fun iv wr => TimesOut w w.heap.size la lb iv wr) (fun iv _ => la.length - (intOf iv).toNat)
  case atStart => exact ⟨0, _, Nat.zero_le _, rfl, by simp, Words.zeros _, HM, by
    rw [lo_zero, lo, show (List.replicate (la.length + lb.length) 0).take (0 + lb.length) = List.replicate (0 + lb.length) 0 by rw [List.take_replicate]; congr 1; omega, wval_zeros]; simp, (Within.refl w).alloc _⟩
  case round =>
    obtain ⟨i, o, hi, rfl, ho, hwo, hown, hval, hin⟩ := hrel
    have HV := Lib.hid hval; have HO := Lib.hid ho; have HWO := Lib.hid hwo; clear hval ho hwo
    rcases Nat.lt_or_ge i la.length with hlt | hlt
    · go_wp2
      obtain ⟨wo, rfl⟩ : ∃ wo : World, wo = wr := ⟨_, rfl⟩
      obtain ⟨x, hxe⟩ : ∃ x, x = la.getD i 0 := ⟨_, rfl⟩
      have hx : x < 4294967296 := by rw [hxe]; exact HWA.out.getD _
      have HXE := Lib.hid hxe; clear hxe
      go_loopw [7, 8] (fun cv kv wr => TimesIn w w.heap.size lb o x i cv kv wr) (fun _ kv _ => lb.length - (intOf kv).toNat)
      case atStart => exact ⟨0, 0, o, Nat.zero_le _, by decide, rfl, rfl, rfl, HWO.out, hown, by simp [lo_zero], fun _ _ => rfl, hin⟩
      case round =>
        obtain ⟨k, c, o1, hk, hc, rfl, rfl, ho1, hwo1, hown1, hval1, hrest, hin1⟩ := hrel
        have HV1 := Lib.hid hval1; have HO1 := Lib.hid (ho1.trans HO.out); have HO2 := Lib.hid ho1; have HWO1 := Lib.hid hwo1; have HR := Lib.hid hrest; clear hval1 ho1 hwo1 hrest
        rcases Nat.lt_or_ge k lb.length with hlk | hlk
        · obtain ⟨ga, rfl, hga, hca⟩ := (HRA.out.of hin1).cell hlt
          rw [← HXE.out] at hca
          obtain ⟨gb, rfl, hgb, hcb⟩ := (HRB.out.of hin1).cell hlk
          obtain ⟨y, hye⟩ : ∃ y, y = lb.getD k 0 := ⟨_, rfl⟩
          have hy : y < 4294967296 := by rw [hye]; exact HWB.out.getD _
          rw [← hye] at hcb
          have HYE := Lib.hid hye; clear hye
          have hco := hown1.cell (i := i + k) (by rw [HO1.out]; omega)
          have hfo := hown1.frozen (i + k)
          obtain ⟨z, hze⟩ : ∃ z, z = o1.getD (i + k) 0 := ⟨_, rfl⟩
          have hz : z < 4294967296 := by rw [hze]; exact HWO1.out.getD _
          rw [← hze] at hco
          have HST := Lib.hid (fun (n : Nat) (u v q : Int) => TimesIn.step (x := x) (y := y) (z := z) (n := n) u v q (by rw [HO1.out]; omega) hlk hc HO2.out HWO1.out hown1 HV1.out HR.out hin1 (Nat.le_refl _) hx HYE.out hy hze hz 0)
          clear hze
          have hm := word_mul hx hy
          obtain ⟨p, hp⟩ : ∃ p, p = x * y := ⟨_, rfl⟩
          have e0 : (x : Int) * y = (p : Int) := by rw [hp]; simp
          rw [← hp] at hm HST
          clear hp
          have e1 : IntKind.u64.wrap (p : Int) = p := by rw [IntKind.wrap_u64]; omega
          have e2 : IntKind.u64.wrap ((p : Int) + z) = (p : Int) + z := by rw [IntKind.wrap_u64]; omega
          have e3 : IntKind.u64.wrap ((p : Int) + z + c) = (p : Int) + z + c := by rw [IntKind.wrap_u64]; omega
          have e4 : IntKind.i64.wrap ((i : Int) + k) = (i : Int) + k := IntWalk.i64_in _ (by omega)
          have e5 : ((i : Int) + k).toNat = i + k := by omega
          have HB := Lib.hid (And.intro hm (And.intro hz hc)); clear hm
          go_wp2
          go_quiet (fail)
          go_wp2
          go_roundw
          case rel => exact HST.out _ _ _ _ (by have := HB.out; omega) (by have := HB.out; omega) (by omega)
          case measure => simp [intOf]; omega
        · obtain rfl : k = lb.length := by omega
          have hco := hown1.cell (i := i + lb.length) (by rw [HO1.out]; omega)
          have hfo := hown1.frozen (i + lb.length)
          have HCC := Lib.hid hc
          go_wp2
          go_roundw
          case rel =>
            refine ⟨i + 1, o1.set (i + lb.length) c, by omega, by go_num, by rw [List.length_set]; exact HO1.out, HWO1.out.set _ _ HCC.out, ?_, ?_, hin1.setCell (Nat.le_refl _) _⟩
            · have := hown1.set (i + lb.length) c (by rw [HO1.out]; omega)
              exact this
            · rw [show i + 1 + lb.length = i + lb.length + 1 by omega, lo_set_succ _ _ _ (by rw [HO1.out]; omega), HV1.out, HV.out, lo_succ la, ← HXE.out, lo_all lb (Nat.le_refl _), Nat.add_mul, Nat.mul_assoc]
          case measure => simp [intOf]; omega
    · obtain rfl : i = la.length := by omega
      have CT := Lib.hid (Bcut o (some ⟨w.heap.size, 0, none⟩) (la.length + lb.length) HWO.out (by rw [HO.out]; exact Nat.le_refl _) (by rw [HO.out]; omega) _ hown.at)
      rw [HO.out] at CT
      go_wp2_with fail
      refine (CT.out).mono ?_; rintro e1 w1 ⟨rfl, rfl⟩
      go_wp2
      go_ret
      refine retW_cut hown.at HWO.out (by rw [HO.out]; exact Nat.le_refl _) hin ?_
      rw [← lo_all o (Nat.le_of_eq HO.out), HV.out, lo_all _ (Nat.le_refl _)]
theorem Btimes (a b : Nat) (A Bv : Option Addr) (ca cb : Nat) (ha : (dg a).length ≤ 700000) (hb : (dg b).length ≤ 700000) (w : World) (hra : RowAt w A (dg a)) (hrb : RowAt w Bv (dg b)) :
    Calls Tryz.prog 133 #[.slice A (dg a).length ca, .slice Bv (dg b).length cb] w (RetW w (a * b)) := by
  have := Btimes0 (dg a) (dg b) A Bv ca cb (words_dg a) (words_dg b) ha hb w hra hrb
  rw [wval_dg, wval_dg] at this
  exact this
end Go.Proofs.YtifgngmebnjfkaaGreatDoor
end

section
namespace Go.Proofs.YtifgngmebnjfkaaGreatDoor
open Go.RowKit
theorem dg_mul_len {a b n m : Nat} (ha : (dg a).length ≤ n) (hb : (dg b).length ≤ m) : (dg (a * b)).length ≤ n + m := by
  refine dg_len_le ?_
  have h1 := Nat.lt_of_lt_of_le (lt_of_dg a) (Nat.pow_le_pow_right (by decide) ha)
  have h2 := Nat.lt_of_lt_of_le (lt_of_dg b) (Nat.pow_le_pow_right (by decide) hb)
  rw [Nat.pow_add]
  exact Nat.mul_lt_mul_of_lt_of_le h1 (Nat.le_of_lt h2) (Nat.pow_pos (by decide))
theorem dg_shl_len {a n k : Nat} (ha : (dg a).length ≤ n) : (dg (a * 2 ^ (32 * k))).length ≤ n + k := by
  refine dg_len_le ?_
  have h1 := Nat.lt_of_lt_of_le (lt_of_dg a) (Nat.pow_le_pow_right (by decide) ha)
  rw [Nat.pow_add, Nat.pow_mul]
  exact Nat.mul_lt_mul_of_pos_right h1 (Nat.pow_pos (by decide))
theorem dg_shl_le {a n j k : Nat} (ha : (dg a).length ≤ n) (hj : j ≤ 32 * k) : (dg (a * 2 ^ j)).length ≤ n + k :=
  Nat.le_trans (dg_len_mono (Nat.mul_le_mul_left _ (Nat.pow_le_pow_right (by decide) hj))) (dg_shl_len ha)
set_option maxRecDepth 100000 in
set_option maxHeartbeats 600000 in
theorem Bmul0 (z x y : Nat) (sa sb : Bool) (na nb : Nat) (A Bv : Option Addr) (ca cb : Nat) (ha : (dg na).length ≤ 700000) (hb : (dg nb).length ≤ 700000) (w : World) (hz : IntTy w z) (a0 : w.cell? ⟨x, 0, none⟩ = some (.bool sa)) (a1 : w.cell? ⟨x, 1, none⟩ = some (.slice A (dg na).length ca)) (hra : RowAt w A (dg na)) (b0 : w.cell? ⟨y, 0, none⟩ = some (.bool sb)) (b1 : w.cell? ⟨y, 1, none⟩ = some (.slice Bv (dg nb).length cb)) (hrb : RowAt w Bv (dg nb)) : Calls Tryz.prog 114 #[.pointer (some ⟨z, 0, none⟩), .pointer (some ⟨x, 0, none⟩), .pointer (some ⟨y, 0, none⟩)] w (PutI w z (sgv (!sa == sb) (na * nb))) := by
  have HZ := Lib.hid hz; have HRA := Lib.hid hra; have HRB := Lib.hid hrb; clear hz hra hrb
  have hlx := World.block_lt_of_cell? w _ a0; have hly := World.block_lt_of_cell? w _ b0
  go_enter Tryz.func114, Tryz.ntmps114
  go_wp2
  refine wp_region_sched (fun W => W.cell? ⟨x, 0, none⟩ = some (.bool sa) ∧ W.cell? ⟨y, 0, none⟩ = some (.bool sb) ∧ W.cell? ⟨x, 1, none⟩ = some (.slice A (dg na).length ca) ∧ W.cell? ⟨y, 1, none⟩ = some (.slice Bv (dg nb).length cb)) 19 [(0, true), (1, true), (2, true), (3, true), (4, true), (5, true), (6, true), (7, true), (8, true), (9, true), (10, true), (11, true), (12, true), (13, true), (14, true), (15, true), (16, true), (17, true), (18, false), (19, false), (20, false)] (by kernel_rfl) (by kernel_rfl) ⟨a0, b0, a1, b1⟩ ?_
  intro hS
  repeat
    apply sched_firm rfl rfl hS
    · intro wq hq
      have hq0 := hq.1; have hq1 := hq.2.1; have hq2 := hq.2.2.1; have hq3 := hq.2.2.2
      clear hq
      go_simp
      first | rfl | (trace_state; fail)
    try simp only [Act.put, List.setIfInBounds_toArray, List.set_cons_zero, List.set_cons_succ]
  refine sched_one rfl rfl (fun K hK => ?_)
  go_simp
  refine (Btimes na nb A Bv ca cb ha hb w.drew (RowAt.drew HRA.out) (RowAt.drew HRB.out)).mono ?_
  rintro e2 w2 ⟨A', c', rfl, hc', hr', hb'⟩
  have hb2 : Within w w2 := (Within.refl w).drew.trans hb'
  refine hK _ _ (fun h => ⟨(hb2.cells _ _ hlx).trans a0, (hb2.cells _ _ hly).trans b0, (hb2.cells _ _ hlx).trans a1, (hb2.cells _ _ hly).trans b1⟩) ?_
  clear hK K
  try simp only [Act.put, List.setIfInBounds_toArray, List.set_cons_zero, List.set_cons_succ]
  refine sched_one rfl rfl (fun K hK => ?_)
  go_simp
  refine (Bput z _ (dg (na * nb)) A' c' (words_dg _) hc' (Nat.le_trans (dg_mul_len ha hb) (by decide)) w2 hr' (HZ.out.of hb2)).mono ?_
  rintro e3 w3 ⟨rfl, hI, hG⟩
  refine hK _ _ (fun h => absurd h (by decide)) ?_
  clear hK K
  try simp only [Act.put, List.setIfInBounds_toArray, List.set_cons_zero, List.set_cons_succ]
  refine sched_one rfl rfl (fun K hK => ?_)
  go_simp
  refine hK _ _ (fun h => absurd h (by decide)) ?_
  clear hK K
  try simp only [Act.put, List.setIfInBounds_toArray, List.set_cons_zero, List.set_cons_succ]
  refine sched_nil ?_
  go_wp2
  go_ret
  rw [wval_dg] at hI
  exact ⟨rfl, hI, grown_trans (grown_within z hb2) hG⟩
theorem Bmul (z x y : Nat) (a b : Int) (ha : (dg a.natAbs).length ≤ 700000) (hb : (dg b.natAbs).length ≤ 700000) (w : World) (hz : IntTy w z) (hx : IntB w x a) (hy : IntB w y b) : Calls Tryz.prog 114 #[.pointer (some ⟨z, 0, none⟩), .pointer (some ⟨x, 0, none⟩), .pointer (some ⟨y, 0, none⟩)] w (PutI w z (a * b)) := by
  obtain ⟨A, ca, a0, a1, hra⟩ := hx.rd
  obtain ⟨Bv, cb, b0, b1, hrb⟩ := hy.rd
  refine Calls.mono (Bmul0 z x y _ _ _ _ A Bv ca cb ha hb w hz a0 a1 hra b0 b1 hrb) (fun _ _ h => PutI_eq h ?_)
  unfold sgv
  rw [← Int.natAbs_mul]
  by_cases ha0 : a < 0 <;> by_cases hb0 : b < 0
  · have := Int.mul_pos_of_neg_of_neg ha0 hb0; simp [ha0, hb0]; omega
  · have := Int.mul_nonpos_of_nonpos_of_nonneg (Int.le_of_lt ha0) (Int.not_lt.1 hb0); simp [ha0, hb0]; omega
  · have := Int.mul_nonpos_of_nonneg_of_nonpos (Int.not_lt.1 ha0) (Int.le_of_lt hb0); simp [ha0, hb0]; omega
  · have := Int.mul_nonneg (Int.not_lt.1 ha0) (Int.not_lt.1 hb0); simp [ha0, hb0]; omega
set_option maxRecDepth 100000 in
set_option maxHeartbeats 600000 in
theorem Blsh0 (z x n : Nat) (sa : Bool) (na : Nat) (A : Option Addr) (ca : Nat) (ha : (dg na).length ≤ 400000) (hn : n ≤ 16000000) (w : World) (hz : IntTy w z) (a0 : w.cell? ⟨x, 0, none⟩ = some (.bool sa)) (a1 : w.cell? ⟨x, 1, none⟩ = some (.slice A (dg na).length ca)) (hra : RowAt w A (dg na)) : Calls Tryz.prog 60 #[.pointer (some ⟨z, 0, none⟩), .pointer (some ⟨x, 0, none⟩), .int .u64 (n : Int)] w (PutI w z (sgv sa (na * 2 ^ n))) := by
  have HZ := Lib.hid hz; have HRA := Lib.hid hra; clear hz hra
  have hlx := World.block_lt_of_cell? w _ a0
  go_enter Tryz.func60, Tryz.ntmps60
  go_wp2
  refine wp_region_sched (fun W => W.cell? ⟨x, 0, none⟩ = some (.bool sa) ∧ W.cell? ⟨x, 1, none⟩ = some (.slice A (dg na).length ca)) 11 [(0, true), (1, true), (2, true), (3, true), (4, true), (5, true), (6, true), (7, true), (8, true), (9, true), (10, false), (11, false), (12, false)] (by kernel_rfl) (by kernel_rfl) ⟨a0, a1⟩ ?_
  intro hS
  repeat
    apply sched_firm rfl rfl hS
    · intro wq hq
      have hq0 := hq.1; have hq1 := hq.2
      clear hq
      go_simp
      first | rfl | (trace_state; fail)
    try simp only [Act.put, List.setIfInBounds_toArray, List.set_cons_zero, List.set_cons_succ]
  refine sched_one rfl rfl (fun K hK => ?_)
  go_simp
  refine (Bleft na A ca n (by omega) hn w.drew (RowAt.drew HRA.out)).mono ?_
  rintro e2 w2 ⟨A', c', rfl, hc', hr', hb'⟩
  have hb2 : Within w w2 := (Within.refl w).drew.trans hb'
  refine hK _ _ (fun h => ⟨(hb2.cells _ _ hlx).trans a0, (hb2.cells _ _ hlx).trans a1⟩) ?_
  clear hK K
  try simp only [Act.put, List.setIfInBounds_toArray, List.set_cons_zero, List.set_cons_succ]
  refine sched_one rfl rfl (fun K hK => ?_)
  go_simp
  refine (Bput z _ (dg (na * 2 ^ n)) A' c' (words_dg _) hc' (Nat.le_trans (dg_shl_le (k := 500000) ha (by omega)) (by decide)) w2 hr' (HZ.out.of hb2)).mono ?_
  rintro e3 w3 ⟨rfl, hI, hG⟩
  refine hK _ _ (fun h => absurd h (by decide)) ?_
  clear hK K
  try simp only [Act.put, List.setIfInBounds_toArray, List.set_cons_zero, List.set_cons_succ]
  refine sched_one rfl rfl (fun K hK => ?_)
  go_simp
  refine hK _ _ (fun h => absurd h (by decide)) ?_
  clear hK K
  try simp only [Act.put, List.setIfInBounds_toArray, List.set_cons_zero, List.set_cons_succ]
  refine sched_nil ?_
  go_wp2
  go_ret
  rw [wval_dg] at hI
  exact ⟨rfl, hI, grown_trans (grown_within z hb2) hG⟩
theorem Blsh (z x n : Nat) (a : Int) (ha : (dg a.natAbs).length ≤ 400000) (hn : n ≤ 16000000) (w : World) (hz : IntTy w z) (hx : IntB w x a) : Calls Tryz.prog 60 #[.pointer (some ⟨z, 0, none⟩), .pointer (some ⟨x, 0, none⟩), .int .u64 (n : Int)] w (PutI w z (a * 2 ^ n)) := by
  obtain ⟨A, ca, a0, a1, hra⟩ := hx.rd
  refine Calls.mono (Blsh0 z x n _ _ A ca ha hn w hz a0 a1 hra) (fun _ _ h => PutI_eq h ?_)
  have e : ((a.natAbs * 2 ^ n : Nat) : Int) = (a.natAbs : Int) * 2 ^ n := by simp
  unfold sgv
  by_cases ha0 : a < 0
  · rw [if_pos (decide_eq_true ha0), e, ← Int.neg_mul]; congr 1; omega
  · rw [decide_eq_false ha0, if_neg (by decide), e]; congr 1; omega
set_option maxRecDepth 100000 in
set_option maxHeartbeats 600000 in
theorem Brsh0 (z x n : Nat) (na : Nat) (A : Option Addr) (ca : Nat) (ha : (dg na).length ≤ 1500000) (hn : n ≤ 40000000) (w : World) (hz : IntTy w z) (a0 : w.cell? ⟨x, 0, none⟩ = some (.bool false)) (a1 : w.cell? ⟨x, 1, none⟩ = some (.slice A (dg na).length ca)) (hra : RowAt w A (dg na)) : Calls Tryz.prog 97 #[.pointer (some ⟨z, 0, none⟩), .pointer (some ⟨x, 0, none⟩), .int .u64 (n : Int)] w (PutI w z ((na / 2 ^ n : Nat) : Int)) := by
  have HZ := Lib.hid hz; have HRA := Lib.hid hra; clear hz hra
  go_enter Tryz.func97, Tryz.ntmps97
  go_wp2_with fail
  refine (Bright na A ca n ha hn w HRA.out).mono ?_; rintro e2 w2 ⟨A', c', rfl, hc', hr', hb2⟩
  go_wp2_with fail
  refine (Bput z false (dg (na / 2 ^ n)) A' c' (words_dg _) hc' (Nat.le_trans (dg_len_mono (Nat.div_le_self _ _)) (by omega)) w2 hr' (HZ.out.of hb2)).mono ?_
  rintro e3 w3 ⟨rfl, hI, hG⟩
  go_wp2
  go_ret
  rw [wval_dg, sgv_no] at hI
  exact ⟨rfl, hI, grown_trans (grown_within z hb2) hG⟩
theorem Brsh (z x n : Nat) (a : Nat) (ha : (dg a).length ≤ 1500000) (hn : n ≤ 40000000) (w : World) (hz : IntTy w z) (hx : IntB w x a) : Calls Tryz.prog 97 #[.pointer (some ⟨z, 0, none⟩), .pointer (some ⟨x, 0, none⟩), .int .u64 (n : Int)] w (PutI w z ((a / 2 ^ n : Nat) : Int)) := by
  obtain ⟨A, ca, a0, a1, hra⟩ := hx.rd
  rw [decide_eq_false (by omega)] at a0
  exact Brsh0 z x n a A ca ha hn w hz a0 a1 hra
end Go.Proofs.YtifgngmebnjfkaaGreatDoor
end
