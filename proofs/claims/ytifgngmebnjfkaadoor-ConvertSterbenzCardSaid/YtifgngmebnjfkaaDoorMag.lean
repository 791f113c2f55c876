/- Whole numbers as lists of words of 32 bits, the least ahead: plain. -/
import Derived.Test.YtifgngmebnjfkaaDoorBase
namespace Go.Proofs.YtifgngmebnjfkaaDoor

def wval : List Nat → Nat
  | [] => 0
  | x :: l => x + 4294967296 * wval l
def Words (l : List Nat) : Prop := ∀ x ∈ l, x < 4294967296
/-- what the first k words come to -/
def lo (l : List Nat) (k : Nat) : Nat := wval (l.take k)

theorem wval_append (a b : List Nat) : wval (a ++ b) = wval a + 4294967296 ^ a.length * wval b := by
  induction a with
  | nil => simp [wval]
  | cons x a ih => simp only [List.cons_append, wval, ih, List.length_cons, Nat.pow_succ]; rw [Nat.mul_add, ← Nat.mul_assoc, Nat.mul_comm 4294967296 (4294967296 ^ a.length), Nat.add_assoc]
theorem wval_zeros (n : Nat) : wval (List.replicate n 0) = 0 := by
  induction n with
  | zero => rfl
  | succ n ih => simp [List.replicate_succ, wval, ih]
theorem wval_lt (l : List Nat) (h : Words l) : wval l < 4294967296 ^ l.length := by
  induction l with
  | nil => simp [wval]
  | cons x l ih =>
    have h1 := ih (fun y hy => h y (List.mem_cons_of_mem _ hy))
    have h2 := h x List.mem_cons_self
    simp only [wval, List.length_cons, Nat.pow_succ]
    omega
theorem lo_zero (l : List Nat) : lo l 0 = 0 := by simp [lo, wval]
theorem lo_all (l : List Nat) {k : Nat} (h : l.length ≤ k) : lo l k = wval l := by unfold lo; rw [List.take_of_length_le h]
theorem lo_succ (l : List Nat) (k : Nat) : lo l (k + 1) = lo l k + 4294967296 ^ k * l.getD k 0 := by
  unfold lo
  by_cases h : k < l.length
  · rw [List.take_succ_eq_append_getElem h, wval_append, List.length_take, Nat.min_eq_left (by omega), List.getD_eq_getElem?_getD, List.getElem?_eq_getElem h]
    simp [wval]
  · rw [List.take_of_length_le (by omega), List.take_of_length_le (by omega), List.getD_eq_getElem?_getD, List.getElem?_eq_none (by omega)]
    simp
theorem lo_set_same (l : List Nat) (k x : Nat) : lo (l.set k x) k = lo l k := by
  unfold lo; rw [List.take_set_of_le (Nat.le_refl _)]
theorem lo_set_ge (l : List Nat) (k j x : Nat) (h : k ≤ j) : lo (l.set j x) k = lo l k := by
  unfold lo; rw [List.take_set_of_le h]
theorem getD_set_eq (l : List Nat) (k x : Nat) (h : k < l.length) : (l.set k x).getD k 0 = x := by
  simp [List.getD_eq_getElem?_getD, h]
theorem getD_set_ne (l : List Nat) (k j x : Nat) (h : k ≠ j) : (l.set k x).getD j 0 = l.getD j 0 := by
  simp [List.getD_eq_getElem?_getD, h]
theorem lo_set_succ (l : List Nat) (k x : Nat) (h : k < l.length) : lo (l.set k x) (k + 1) = lo l k + 4294967296 ^ k * x := by
  rw [lo_succ, lo_set_same, getD_set_eq l k x h]
theorem Words.set {l : List Nat} (h : Words l) (k x : Nat) (hx : x < 4294967296) : Words (l.set k x) := by
  intro y hy
  rcases List.mem_or_eq_of_mem_set hy with h1 | h1
  · exact h y h1
  · omega
theorem Words.getD {l : List Nat} (h : Words l) (k : Nat) : l.getD k 0 < 4294967296 := by
  by_cases hk : k < l.length
  · rw [List.getD_eq_getElem?_getD, List.getElem?_eq_getElem hk]; exact h _ (List.getElem_mem hk)
  · rw [List.getD_eq_getElem?_getD, List.getElem?_eq_none (by omega)]; decide
theorem Words.take {l : List Nat} (h : Words l) (k : Nat) : Words (l.take k) := fun y hy => h y (List.mem_of_mem_take hy)
theorem Words.drop {l : List Nat} (h : Words l) (k : Nat) : Words (l.drop k) := fun y hy => h y (List.mem_of_mem_drop hy)
theorem Words.zeros (n : Nat) : Words (List.replicate n 0) := fun y hy => by rw [(List.mem_replicate.1 hy).2]; decide
theorem lo_lt (l : List Nat) (h : Words l) (k : Nat) : lo l k < 4294967296 ^ k := by
  have h1 := wval_lt _ (h.take k)
  refine Nat.lt_of_lt_of_le h1 (Nat.pow_le_pow_right (by decide) ?_)
  rw [List.length_take]; exact Nat.min_le_left _ _
theorem wval_split (l : List Nat) (k : Nat) : wval l = lo l k + 4294967296 ^ k * wval (l.drop k) := by
  by_cases h : k ≤ l.length
  · conv => lhs; rw [← List.take_append_drop k l]
    rw [wval_append, List.length_take, Nat.min_eq_left h]; rfl
  · rw [lo_all l (by omega), List.drop_eq_nil_of_le (by omega)]; simp [wval]

/-! the words of a number -/
def dg (n : Nat) : List Nat := if n = 0 then [] else n % 4294967296 :: dg (n / 4294967296)
termination_by n
decreasing_by omega
theorem dg_zero : dg 0 = [] := by unfold dg; rfl
theorem dg_pos {n : Nat} (h : n ≠ 0) : dg n = n % 4294967296 :: dg (n / 4294967296) := by rw [dg, if_neg h]
theorem wval_dg (n : Nat) : wval (dg n) = n := by
  induction n using Nat.strongRecOn with
  | ind n ih =>
    by_cases h : n = 0
    · subst h; rw [dg_zero]; rfl
    · rw [dg_pos h]; simp only [wval]; rw [ih _ (by omega)]; omega
theorem words_dg (n : Nat) : Words (dg n) := by
  induction n using Nat.strongRecOn with
  | ind n ih =>
    by_cases h : n = 0
    · subst h; rw [dg_zero]; intro x hx; simp at hx
    · rw [dg_pos h]
      intro x hx
      rcases List.mem_cons.1 hx with h1 | h1
      · omega
      · exact ih _ (by omega) x h1
theorem dg_eq_nil {n : Nat} (h : dg n = []) : n = 0 := by have := wval_dg n; rw [h] at this; exact this.symm
theorem dg_len_pos {n : Nat} (h : n ≠ 0) : 0 < (dg n).length := by rw [dg_pos h]; simp
/-- words without a nought at the end are the words of what they come to -/
theorem dg_of (l : List Nat) (hw : Words l) (hl : 0 < l.length → l.getD (l.length - 1) 0 ≠ 0) : l = dg (wval l) := by
  induction l with
  | nil => rw [show wval [] = 0 from rfl, dg_zero]
  | cons x l ih =>
    have hx := hw x List.mem_cons_self
    have hl' : 0 < l.length → l.getD (l.length - 1) 0 ≠ 0 := by
      intro h
      have := hl (by simp)
      simp only [List.length_cons, Nat.add_sub_cancel] at this
      obtain ⟨k, hk⟩ : ∃ k, l.length = k + 1 := ⟨l.length - 1, by omega⟩
      rw [hk] at this ⊢
      simpa using this
    have ih' := ih (fun y hy => hw y (List.mem_cons_of_mem _ hy)) hl'
    have hne : wval (x :: l) ≠ 0 := by
      simp only [wval]
      intro h0
      have hx0 : x = 0 := by omega
      have hv0 : wval l = 0 := by omega
      rw [hv0, dg_zero] at ih'
      subst ih'
      have := hl (by simp)
      simp at this
      exact this hx0
    rw [dg_pos hne]
    simp only [wval]
    rw [show (x + 4294967296 * wval l) % 4294967296 = x by omega, show (x + 4294967296 * wval l) / 4294967296 = wval l by omega, ← ih']
theorem dg_last {n : Nat} (h : n ≠ 0) : (dg n).getD ((dg n).length - 1) 0 ≠ 0 := by
  induction n using Nat.strongRecOn with
  | ind n ih =>
    rw [dg_pos h]
    by_cases h1 : n / 4294967296 = 0
    · rw [h1, dg_zero]; simp; omega
    · have := ih _ (by omega) h1
      obtain ⟨k, hk⟩ : ∃ k, (dg (n / 4294967296)).length = k + 1 := ⟨_, (Nat.succ_pred_eq_of_pos (dg_len_pos h1)).symm⟩
      rw [hk] at this
      simp only [List.length_cons, hk, Nat.add_sub_cancel] at this ⊢
      simpa using this
/-- words, the noughts at the end left out -/
theorem dg_cut (l : List Nat) (hw : Words l) (j : Nat) (hj : j ≤ l.length) (hz : ∀ i, j ≤ i → l.getD i 0 = 0) (hn : 0 < j → l.getD (j - 1) 0 ≠ 0) : l.take j = dg (wval l) := by
  have hd : wval (l.drop j) = 0 := by
    have : ∀ (m : List Nat), (∀ i, m.getD i 0 = 0) → wval m = 0 := by
      intro m
      induction m with
      | nil => intro _; rfl
      | cons x m ih =>
        intro h
        have h0 := h 0
        have h1 := ih (fun i => by have := h (i + 1); simpa using this)
        simp at h0
        simp [wval, h0, h1]
    apply this
    intro i
    have := hz (j + i) (by omega)
    simp only [List.getD_eq_getElem?_getD, List.getElem?_drop] at this ⊢
    exact this
  have e : wval l = wval (l.take j) := by rw [wval_split l j, hd]; simp [lo]
  rw [e]
  apply dg_of _ (hw.take j)
  intro h
  rw [List.length_take, Nat.min_eq_left hj] at h ⊢
  have := hn h
  simp only [List.getD_eq_getElem?_getD, List.getElem?_take] at this ⊢
  rw [if_pos (by omega)]
  exact this
theorem dg_len_le {n k : Nat} (h : n < 4294967296 ^ k) : (dg n).length ≤ k := by
  induction k generalizing n with
  | zero => have : n = 0 := by simpa using h
            subst this; rw [dg_zero]; exact Nat.le_refl _
  | succ k ih =>
    by_cases h0 : n = 0
    · subst h0; rw [dg_zero]; exact Nat.zero_le _
    · rw [dg_pos h0, List.length_cons]
      have : n / 4294967296 < 4294967296 ^ k := by
        rw [Nat.div_lt_iff_lt_mul (by decide), ← Nat.pow_succ]; exact h
      have := ih this
      omega
theorem lt_of_dg (n : Nat) : n < 4294967296 ^ (dg n).length := by have := wval_lt _ (words_dg n); rwa [wval_dg] at this
theorem le_of_dg {n : Nat} (h : n ≠ 0) : 4294967296 ^ ((dg n).length - 1) ≤ n := by
  rcases Nat.lt_or_ge n (4294967296 ^ ((dg n).length - 1)) with h1 | h1
  · have := dg_len_le h1; have := dg_len_pos h; omega
  · exact h1
theorem dg_len_mono {a b : Nat} (h : a ≤ b) : (dg a).length ≤ (dg b).length := dg_len_le (Nat.lt_of_le_of_lt h (lt_of_dg b))
theorem lt_of_len {a b : Nat} (h : (dg a).length < (dg b).length) : a < b := by
  rcases Nat.lt_or_ge a b with h1 | h1
  · exact h1
  · have := dg_len_mono h1; omega
/-- from the top down: equal, then less -/
theorem lt_of_top {a b i : Nat} (hl : (dg a).length = (dg b).length) (he : ∀ j, i < j → (dg a).getD j 0 = (dg b).getD j 0) (hlt : (dg a).getD i 0 < (dg b).getD i 0) : a < b := by
  have hs : ∀ (x y : List Nat), x.length = y.length → (∀ j, i < j → x.getD j 0 = y.getD j 0) → x.drop (i + 1) = y.drop (i + 1) := by
    intro x y hxy hj
    apply List.ext_getElem?
    intro k
    rw [List.getElem?_drop, List.getElem?_drop]
    have := hj (i + 1 + k) (by omega)
    simp only [List.getD_eq_getElem?_getD] at this
    by_cases hk : i + 1 + k < x.length
    · rw [List.getElem?_eq_getElem hk, List.getElem?_eq_getElem (by omega)] at this ⊢
      simpa using this
    · rw [List.getElem?_eq_none (by omega), List.getElem?_eq_none (by omega)]
  have hd := hs _ _ hl he
  have ha := wval_split (dg a) (i + 1)
  have hb := wval_split (dg b) (i + 1)
  rw [wval_dg, lo_succ] at ha hb
  rw [hd] at ha
  have h1 := lo_lt (dg a) (words_dg a) i
  generalize lo (dg a) i = p at *
  generalize lo (dg b) i = q at *
  generalize wval (List.drop (i + 1) (dg b)) = r at *
  generalize (dg a).getD i 0 = x at *
  generalize (dg b).getD i 0 = y at *
  have h2 : 4294967296 ^ i * x + 4294967296 ^ i ≤ 4294967296 ^ i * y := by rw [← Nat.mul_succ]; exact Nat.mul_le_mul_left _ hlt
  generalize 4294967296 ^ i * x = X at *
  generalize 4294967296 ^ i * y = Y at *
  generalize 4294967296 ^ i = Z at *
  generalize 4294967296 ^ (i+1) * r = W at *
  omega
theorem eq_of_all {a b : Nat} (hl : (dg a).length = (dg b).length) (he : ∀ j, (dg a).getD j 0 = (dg b).getD j 0) : a = b := by
  have : dg a = dg b := by
    apply List.ext_getElem hl
    intro i h1 h2
    have := he i
    simpa [List.getD_eq_getElem?_getD, h1, h2] using this
  rw [← wval_dg a, ← wval_dg b, this]

/-! rounds of sums, differences, products, shifts -/
theorem plus_step {P lo0 la lb c a b : Nat} (h : lo0 + P * c = la + lb) : lo0 + P * ((a + c + b) % 4294967296) + P * 4294967296 * ((a + c + b) / 4294967296) = la + P * a + (lb + P * b) := by
  have e : (a + c + b) % 4294967296 + 4294967296 * ((a + c + b) / 4294967296) = a + c + b := Nat.mod_add_div _ _
  have e2 : P * ((a + c + b) % 4294967296) + P * 4294967296 * ((a + c + b) / 4294967296) = P * a + P * c + P * b := by
    rw [Nat.mul_assoc, ← Nat.mul_add, e, Nat.mul_add, Nat.mul_add]
  omega
theorem minus_less {P lo0 la lb br a b : Nat} (h : lo0 + lb = la + P * br) (hb : br + b ≤ 4294967296) : lo0 + P * (a + 4294967296 - (br + b)) + (lb + P * b) = la + P * a + P * 4294967296 * 1 := by
  have e : P * (a + 4294967296 - (br + b)) + (P * br + P * b) = P * a + P * 4294967296 := by
    rw [← Nat.mul_add, ← Nat.mul_add, ← Nat.mul_add]; congr 1; omega
  omega
theorem minus_more {P lo0 la lb br a b : Nat} (h : lo0 + lb = la + P * br) (hge : br + b ≤ a) : lo0 + P * (a - (br + b)) + (lb + P * b) = la + P * a + P * 4294967296 * 0 := by
  have e : P * (a - (br + b)) + (P * br + P * b) = P * a := by
    rw [← Nat.mul_add, ← Nat.mul_add]; congr 1; omega
  omega
theorem minus_end {n o a b br : Nat} (h : o + b = a + 4294967296 ^ n * br) (ho : o < 4294967296 ^ n) (hb : b ≤ a) : br = 0 ∧ o = a - b := by
  generalize 4294967296 ^ n = P at *
  rcases br with _ | br
  · simp at h; omega
  · exfalso
    have : P ≤ P * (br + 1) := Nat.le_mul_of_pos_right _ (by omega)
    omega
theorem word_mul {a b : Nat} (ha : a < 4294967296) (hb : b < 4294967296) : a * b ≤ 18446744065119617025 := Nat.le_trans (Nat.mul_le_mul (Nat.le_of_lt_succ (n := 4294967295) (by omega)) (Nat.le_of_lt_succ (n := 4294967295) (by omega))) (by decide)
theorem times_step {P Q lo1 lo0 c s x y z : Nat} (h : lo1 + P * c = lo0 + s) (t : Nat) (ht : t = x * y + z + c) (hs : Q = P * (x * y)) : lo1 + P * (t % 4294967296) + P * 4294967296 * (t / 4294967296) = lo0 + P * z + (s + Q) := by
  have e : t % 4294967296 + 4294967296 * (t / 4294967296) = t := Nat.mod_add_div _ _
  have e2 : P * (t % 4294967296) + P * 4294967296 * (t / 4294967296) = P * t := by
    rw [Nat.mul_assoc, ← Nat.mul_add, e]
  have e3 : P * t = P * (x * y) + P * z + P * c := by rw [ht, Nat.mul_add, Nat.mul_add]
  omega
theorem left_low {m s : Nat} (hs : s < 32) : (m * 2 ^ s) % 4294967296 = (m % 2 ^ (32 - s)) * 2 ^ s := by
  rw [show (4294967296 : Nat) = 2 ^ (32 - s) * 2 ^ s by rw [← Nat.pow_add, show 32 - s + s = 32 by omega], Nat.mul_mod_mul_right]
theorem left_high {m s : Nat} (hm : m < 4294967296) : (m * 2 ^ s) / 4294967296 < 2 ^ s := by
  rw [Nat.div_lt_iff_lt_mul (by decide), Nat.mul_comm (2 ^ s)]; exact Nat.mul_lt_mul_of_pos_right hm (Nat.two_pow_pos s)
theorem left_step {P lo0 x t A : Nat} (h : lo0 + P * x = A) : lo0 + P * (x + t % 4294967296) + P * 4294967296 * (t / 4294967296) = A + P * t := by
  have e : t % 4294967296 + 4294967296 * (t / 4294967296) = t := Nat.mod_add_div _ _
  have e2 : P * (t % 4294967296) + P * 4294967296 * (t / 4294967296) = P * t := by
    rw [Nat.mul_assoc, ← Nat.mul_add, e]
  rw [Nat.mul_add]; omega
theorem right_digit (D s i : Nat) (l : List Nat) (hl : D = wval l) (hw : Words l) (hs : s < 32) : (D / 2 ^ s) / 4294967296 ^ i % 4294967296 = (l.getD i 0 + 4294967296 * l.getD (i + 1) 0) / 2 ^ s % 4294967296 := by
  have e : D / 4294967296 ^ i = l.getD i 0 + 4294967296 * (l.getD (i + 1) 0 + 4294967296 * wval (l.drop (i + 2))) := by
    have hd : wval (l.drop i) = l.getD i 0 + 4294967296 * wval (l.drop (i + 1)) := by
      by_cases h : i < l.length
      · rw [List.drop_eq_getElem_cons h]; simp [wval, List.getD_eq_getElem?_getD, h]
      · rw [List.drop_eq_nil_of_le (by omega), List.drop_eq_nil_of_le (by omega)]; simp [wval, List.getD_eq_getElem?_getD, h]
    have hd2 : wval (l.drop (i + 1)) = l.getD (i + 1) 0 + 4294967296 * wval (l.drop (i + 2)) := by
      by_cases h : i + 1 < l.length
      · rw [List.drop_eq_getElem_cons h]; simp [wval, List.getD_eq_getElem?_getD, h]
      · rw [List.drop_eq_nil_of_le (by omega), List.drop_eq_nil_of_le (by omega)]; simp [wval, List.getD_eq_getElem?_getD, h]
    rw [hl, wval_split l i, Nat.add_mul_div_left _ _ (Nat.pow_pos (by decide)), Nat.div_eq_of_lt (lo_lt l hw i), hd, hd2]; omega
  rw [Nat.div_div_eq_div_mul, Nat.mul_comm (2 ^ s), ← Nat.div_div_eq_div_mul, e]
  generalize wval (l.drop (i + 2)) = r
  generalize l.getD i 0 = x
  generalize l.getD (i + 1) 0 = y
  have h2 : (4294967296 : Nat) = 2 ^ s * 2 ^ (32 - s) := by rw [← Nat.pow_add, show s + (32 - s) = 32 by omega]
  rw [show x + 4294967296 * (y + 4294967296 * r) = (x + 4294967296 * y) + 2 ^ s * (4294967296 * (2 ^ (32 - s) * r)) by
    rw [Nat.mul_add 4294967296 y, ← Nat.add_assoc]
    congr 1
    rw [Nat.mul_left_comm (2 ^ s), ← Nat.mul_assoc (2 ^ s), ← h2], Nat.add_mul_div_left _ _ (Nat.two_pow_pos s), Nat.add_mul_mod_self_left]
theorem mod_succ (X i : Nat) : X % 4294967296 ^ (i + 1) = X % 4294967296 ^ i + 4294967296 ^ i * (X / 4294967296 ^ i % 4294967296) := by
  rw [Nat.pow_succ, Nat.mod_mul]

/-! how two stand -/
def cmpN (a b : Nat) : Int := if a < b then -1 else if b < a then 1 else 0
theorem cmpN_lt {a b : Nat} (h : a < b) : cmpN a b = -1 := if_pos h
theorem cmpN_gt {a b : Nat} (h : b < a) : cmpN a b = 1 := by unfold cmpN; rw [if_neg (by omega), if_pos h]
theorem cmpN_eq (a : Nat) : cmpN a a = 0 := by unfold cmpN; rw [if_neg (by omega), if_neg (by omega)]
end Go.Proofs.YtifgngmebnjfkaaDoor
