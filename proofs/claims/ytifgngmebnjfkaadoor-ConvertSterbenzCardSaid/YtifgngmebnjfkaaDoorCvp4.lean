/- What Narrow, Whole, Scale, Int, Uint come to rises; Scale, Int, Uint whole. -/
import Derived.Test.YtifgngmebnjfkaaDoorCvp3
namespace Go.Proofs.YtifgngmebnjfkaaDoor

/-! numbers that stand for amounts -/
theorem notnan_canon {c : Nat} (h : c % 9223372036854775808 ≤ 9218868437227405312) : Fp.isNaN64 c = false := decide_eq_false (by omega)
theorem un_lt {x y : Nat} (hx : x % 9223372036854775808 ≤ 9218868437227405312) (hy : y % 9223372036854775808 ≤ 9218868437227405312) : (FloatKind.f64.format.order x y == some .lt) = decide (Fp.un Ieee.double x < Fp.un Ieee.double y) := by
  show (Ieee.double.order x y == some .lt) = _
  rw [Fp.lt64 x y (notnan_canon hx) (notnan_canon hy), ← Fp.key_double, ← Fp.key_double]
  exact decide_eq_decide.2 (Fp.un_lt_iff Ieee.double x y).symm
theorem un_gt {x y : Nat} (hx : x % 9223372036854775808 ≤ 9218868437227405312) (hy : y % 9223372036854775808 ≤ 9218868437227405312) : (FloatKind.f64.format.order x y == some .gt) = decide (Fp.un Ieee.double y < Fp.un Ieee.double x) := by
  show (Ieee.double.order x y == some .gt) = _
  rw [Fp.gt64 x y (notnan_canon hx) (notnan_canon hy), ← Fp.key_double, ← Fp.key_double]
  exact decide_eq_decide.2 (Fp.un_lt_iff Ieee.double y x).symm
theorem un_eq {x y : Nat} (hx : x % 9223372036854775808 ≤ 9218868437227405312) (hy : y % 9223372036854775808 ≤ 9218868437227405312) : (FloatKind.f64.format.order x y == some .eq) = decide (Fp.un Ieee.double x = Fp.un Ieee.double y) := by
  show (Ieee.double.order x y == some .eq) = _
  rw [Fp.eq64 x y (notnan_canon hx) (notnan_canon hy), ← Fp.key_double, ← Fp.key_double]
  exact decide_eq_decide.2 (Fp.un_eq_iff Ieee.double x y).symm
theorem un_le {x y : Nat} (hx : x % 9223372036854775808 ≤ 9218868437227405312) (hy : y % 9223372036854775808 ≤ 9218868437227405312) (h : Fp.un Ieee.double x ≤ Fp.un Ieee.double y) : (FloatKind.f64.format.order x y == some .lt || FloatKind.f64.format.order x y == some .eq) = true := by
  rw [un_lt hx hy, un_eq hx hy, Bool.or_eq_true, decide_eq_true_iff, decide_eq_true_iff]; omega
theorem un_parts {x : Nat} (hx : x < 18446744073709551616) : Fp.un Ieee.double x = if ngD x then -(magD x : Int) else magD x := by
  unfold Fp.un ngD magD
  rw [Fp.sg64, Fp.rg64]
  by_cases h : 9223372036854775808 ≤ x
  · rw [decide_eq_true h, show x / 9223372036854775808 = 1 by omega]; rfl
  · rw [decide_eq_false h, show x / 9223372036854775808 = 0 by omega]; rfl
theorem un_sgn (b : Bool) {r : Nat} (h : r < 9223372036854775808) : Fp.un Ieee.double (r + sgnD b) = if b then -(Fp.mag Ieee.double r : Int) else Fp.mag Ieee.double r := by
  rw [un_parts (by unfold sgnD; split <;> omega)]
  have : ngD (r + sgnD b) = b ∧ magD (r + sgnD b) = Fp.mag Ieee.double r := by
    unfold ngD magD sgnD
    cases b
    · rw [if_neg Bool.false_ne_true, Nat.add_zero, Nat.mod_eq_of_lt h]; exact ⟨decide_eq_false (by omega), rfl⟩
    · rw [if_pos rfl, show (r + 9223372036854775808) % 9223372036854775808 = r by omega]; exact ⟨decide_eq_true (by omega), rfl⟩
  rw [this.1, this.2]
theorem unS_sgn (b : Bool) {r : Nat} (h : r < 2147483648) : Fp.un Ieee.single (r + sgnS b) = if b then -(Fp.mag Ieee.single r : Int) else Fp.mag Ieee.single r := by
  unfold Fp.un sgnS
  rw [Fp.sg32, Fp.rg32]
  cases b
  · rw [if_neg Bool.false_ne_true, Nat.add_zero, Nat.mod_eq_of_lt h, show r / 2147483648 = 0 by omega]; rfl
  · rw [if_pos rfl, show (r + 2147483648) % 2147483648 = r by omega, show (r + 2147483648) / 2147483648 = 1 by omega]; rfl
theorem unS_le {x y : Nat} (hx : x % 2147483648 ≤ 2139095040) (hy : y % 2147483648 ≤ 2139095040) (h : Fp.un Ieee.single x ≤ Fp.un Ieee.single y) : (FloatKind.f32.format.order x y == some .lt || FloatKind.f32.format.order x y == some .eq) = true := by
  show (Ieee.single.order x y == some .lt || Ieee.single.order x y == some .eq) = true
  rw [Fp.order32 x y (decide_eq_false (by omega)) (decide_eq_false (by omega)), ← Fp.key_single, ← Fp.key_single]
  have a := Fp.un_lt_iff Ieee.single x y
  have b := Fp.un_eq_iff Ieee.single x y
  rcases Int.lt_or_eq_of_le h with h1 | h1
  · rw [Fp.cmp_lt (a.1 h1)]; rfl
  · rw [Fp.cmp_eq (b.1 h1)]; rfl

/-- what rises with the rung rises with the number -/
theorem rise {F : Bool → Nat → Int} (h0 : ∀ b, F b 0 = 0) (hp : ∀ b r, 0 ≤ F b r) (hm : ∀ b r r', r ≤ r' → r' ≤ 9218868437227405312 → F b r ≤ F b r') {x y : Nat} (hx : x < 18446744073709551616) (hy : y < 18446744073709551616)
    (nx : x % 9223372036854775808 ≤ 9218868437227405312) (ny : y % 9223372036854775808 ≤ 9218868437227405312) (h : Fp.un Ieee.double x ≤ Fp.un Ieee.double y) :
    (if ngD x then -(F (ngD x) (x % 9223372036854775808)) else F (ngD x) (x % 9223372036854775808)) ≤ (if ngD y then -(F (ngD y) (y % 9223372036854775808)) else F (ngD y) (y % 9223372036854775808)) := by
  rw [un_parts hx, un_parts hy] at h
  have hle : ∀ r r', Fp.mag Ieee.double r ≤ Fp.mag Ieee.double r' → r ≤ r' := fun r r' hr => by
    by_cases hc : r ≤ r'
    · exact hc
    · have := Fp.mag_mono_lt Ieee.double (show r' < r by omega); omega
  unfold magD at h
  have p1 := hp true (x % 9223372036854775808)
  have p2 := hp false (y % 9223372036854775808)
  generalize ngD x = bx at *
  generalize ngD y = bz at *
  cases bx <;> cases bz <;> simp only [if_true, Bool.false_eq_true, if_false] at h ⊢
  · exact hm _ _ _ (hle _ _ (by omega)) ny
  · have z1 : Fp.mag Ieee.double (x % 9223372036854775808) = 0 ∧ Fp.mag Ieee.double (y % 9223372036854775808) = 0 := by omega
    have e1 := hle _ 0 (by rw [z1.1]; exact Nat.zero_le _)
    have e2 := hle _ 0 (by rw [z1.2]; exact Nat.zero_le _)
    rw [show x % 9223372036854775808 = 0 by omega, show y % 9223372036854775808 = 0 by omega, h0, h0]; decide
  · omega
  · have := hm true _ _ (hle (y % 9223372036854775808) (x % 9223372036854775808) (by omega)) nx
    omega
/-- of two rungs, by digits -/
theorem pair_of {r r' : Nat} (h0 : r ≠ 0) (h : r ≤ r') (hf : r' < 9218868437227405312) :
    (Fp.mag Ieee.double r).log2 < (Fp.mag Ieee.double r').log2 ∨ ((Fp.mag Ieee.double r).log2 = (Fp.mag Ieee.double r').log2 ∧ top53 (Fp.mag Ieee.double r) ≤ top53 (Fp.mag Ieee.double r')) := by
  have hm := Fp.mag_mono Ieee.double h
  have hl1 := Fp.le_mag Ieee.double r
  have hl2 := Fp.le_mag Ieee.double r'
  have R1 := Fp.rep_mag Ieee.double Fp.dF (r := r) (by rw [Fp.dI]; omega)
  have R2 := Fp.rep_mag Ieee.double Fp.dF (r := r') (by rw [Fp.dI]; omega)
  generalize Fp.mag Ieee.double r = n at *
  generalize Fp.mag Ieee.double r' = n' at *
  have n0 : n ≠ 0 := by omega
  have n0' : n' ≠ 0 := by omega
  obtain ⟨_, _, _, t1⟩ := top53_bounds n0 R1
  obtain ⟨_, _, _, t2⟩ := top53_bounds n0' R2
  have hlog : n.log2 ≤ n'.log2 := by
    have a := Nat.log2_self_le n0
    have b := Nat.lt_log2_self (n := n')
    have c : 2 ^ n.log2 < 2 ^ (n'.log2 + 1) := by omega
    have := (Nat.pow_lt_pow_iff_right (by decide)).1 c
    omega
  by_cases he : n.log2 = n'.log2
  · refine .inr ⟨he, ?_⟩
    rw [he] at t1
    have hp := Nat.two_pow_pos n'.log2
    have : top53 n * 2 ^ n'.log2 ≤ top53 n' * 2 ^ n'.log2 := by rw [t1, t2]; exact Nat.mul_le_mul_right _ hm
    exact Nat.le_of_mul_le_mul_right this hp
  · exact .inl (by omega)

/-! Narrow -/
def sBase (mode : Int) (b : Bool) (r : Nat) : Nat :=
  if r = 0 then 0 else if 9218868437227405312 ≤ r then 2139095040
  else if rOver 24 (-149) 127 b (top53 (Fp.mag Ieee.double r)) (((Fp.mag Ieee.double r).log2 : Int) - 1126) mode then (if rTop b mode then 2139095039 else 2139095040)
  else Fp.num Ieee.single false (rQ 24 (-149) b (top53 (Fp.mag Ieee.double r)) (((Fp.mag Ieee.double r).log2 : Int) - 1126) mode * 2 ^ (rK 24 (-149) (top53 (Fp.mag Ieee.double r)) (((Fp.mag Ieee.double r).log2 : Int) - 1126) + 149).toNat)
theorem nWord_base {a : Nat} {mode : Int} (hmode : 0 ≤ mode ∧ mode ≤ 4) (hn : a % 9223372036854775808 ≤ 9218868437227405312) : nWord a mode = sBase mode (ngD a) (a % 9223372036854775808) + sgnS (ngD a) := by
  unfold nWord sBase
  rw [if_neg (fun h => h hmode), if_neg (show ¬ 9218868437227405312 < a % 9223372036854775808 by omega)]
  by_cases hz : a % 9223372036854775808 = 0
  · rw [if_pos hz, if_pos hz, Nat.zero_add]
  rw [if_neg hz, if_neg hz]
  by_cases hi : a % 9223372036854775808 = 9218868437227405312
  · rw [if_pos hi, if_pos (by omega)]
  rw [if_neg hi, if_neg (show ¬ 9218868437227405312 ≤ a % 9223372036854775808 by omega)]
  rfl
theorem sBase_le (mode : Int) (b : Bool) (r : Nat) : sBase mode b r ≤ 2139095040 := by
  unfold sBase
  split
  · omega
  split
  · omega
  rename_i h0 h1
  have hm := Fp.le_mag Ieee.double r
  have R := Fp.rep_mag Ieee.double Fp.dF (r := r) (by rw [Fp.dI]; omega)
  obtain ⟨t1, t2, _⟩ := top53_bounds (n := Fp.mag Ieee.double r) (by omega) R
  split
  · split <;> omega
  · rename_i h2
    have := num_ltS (sAmt_rep b (((Fp.mag Ieee.double r).log2 : Int) - 1126) mode (m := top53 (Fp.mag Ieee.double r)) (by omega) (by omega) (by simpa using h2)).1
    omega
theorem sBase_mono (mode : Int) (b : Bool) {r r' : Nat} (h : r ≤ r') : sBase mode b r ≤ sBase mode b r' := by
  by_cases hinf : 9218868437227405312 ≤ r'
  · have : sBase mode b r' = 2139095040 := by unfold sBase; rw [if_neg (by omega), if_pos hinf]
    rw [this]; exact sBase_le mode b r
  by_cases h0 : r = 0
  · have : sBase mode b r = 0 := by unfold sBase; rw [if_pos h0]
    rw [this]; exact Nat.zero_le _
  have hp := pair_of h0 h (by omega)
  have hm := Fp.le_mag Ieee.double r
  have hm' := Fp.le_mag Ieee.double r'
  have R := Fp.rep_mag Ieee.double Fp.dF (r := r) (by rw [Fp.dI]; omega)
  have R' := Fp.rep_mag Ieee.double Fp.dF (r := r') (by rw [Fp.dI]; omega)
  unfold sBase
  rw [if_neg h0, if_neg (show ¬ r' = 0 by omega), if_neg (show ¬ 9218868437227405312 ≤ r by omega), if_neg hinf]
  generalize Fp.mag Ieee.double r = n at *
  generalize Fp.mag Ieee.double r' = n' at *
  obtain ⟨t1, t2, _⟩ := top53_bounds (n := n) (by omega) R
  obtain ⟨t1', t2', _⟩ := top53_bounds (n := n') (by omega) R'
  have hA := rAmt_mono (D := 24) (lo := -149) (by decide) (by decide) (by decide) b (e := (n.log2 : Int) - 1126) (e' := (n'.log2 : Int) - 1126) mode t1 t2 t1' t2' (by omega)
  have o1 := over_iff (D := 24) (lo := -149) (most := 127) b ((n.log2 : Int) - 1126) mode (m := top53 n) (by omega) (by omega) (by decide) (by decide) (by decide) (by decide)
  have o2 := over_iff (D := 24) (lo := -149) (most := 127) b ((n'.log2 : Int) - 1126) mode (m := top53 n') (by omega) (by omega) (by decide) (by decide) (by decide) (by decide)
  have s1 := sAmt_rep b ((n.log2 : Int) - 1126) mode (m := top53 n) (by omega) (by omega)
  have s2 := sAmt_rep b ((n'.log2 : Int) - 1126) mode (m := top53 n') (by omega) (by omega)
  have hA' : rAmt 24 (-149) b (top53 n) ((n.log2 : Int) - 1126) mode ≤ rAmt 24 (-149) b (top53 n') ((n'.log2 : Int) - 1126) mode := hA
  have o1' : rOver 24 (-149) 127 b (top53 n) ((n.log2 : Int) - 1126) mode = true ↔ 2 ^ ((127 : Int) + 1 + 1074).toNat ≤ rAmt 24 (-149) b (top53 n) ((n.log2 : Int) - 1126) mode := o1
  have o2' : rOver 24 (-149) 127 b (top53 n') ((n'.log2 : Int) - 1126) mode = true ↔ 2 ^ ((127 : Int) + 1 + 1074).toNat ≤ rAmt 24 (-149) b (top53 n') ((n'.log2 : Int) - 1126) mode := o2
  clear hA o1 o2
  generalize 2 ^ ((127 : Int) + 1 + 1074).toNat = lim at *
  generalize rAmt 24 (-149) b (top53 n) ((n.log2 : Int) - 1126) mode = A at *
  generalize rAmt 24 (-149) b (top53 n') ((n'.log2 : Int) - 1126) mode = A' at *
  generalize rQ 24 (-149) b (top53 n) ((n.log2 : Int) - 1126) mode * 2 ^ (rK 24 (-149) (top53 n) ((n.log2 : Int) - 1126) + 149).toNat = N at *
  generalize rQ 24 (-149) b (top53 n') ((n'.log2 : Int) - 1126) mode * 2 ^ (rK 24 (-149) (top53 n') ((n'.log2 : Int) - 1126) + 149).toNat = N' at *
  cases v1 : rOver 24 (-149) 127 b (top53 n) ((n.log2 : Int) - 1126) mode <;> cases v2 : rOver 24 (-149) 127 b (top53 n') ((n'.log2 : Int) - 1126) mode
  · rw [if_neg Bool.false_ne_true, if_neg Bool.false_ne_true]
    have hN : N ≤ N' := by
      have hh := hA'
      rw [(s1 v1).2, (s2 v2).2] at hh
      exact Nat.le_of_mul_le_mul_right hh (Nat.two_pow_pos _)
    exact Fp.grid_mono Ieee.single Fp.sF 0 hN
  · rw [if_neg Bool.false_ne_true, if_pos rfl]
    have := num_ltS (s1 v1).1
    split <;> omega
  · have h3 := o1'.1 v1
    have h4 := o2'.2 (Nat.le_trans h3 hA')
    rw [h4] at v2; cases v2
  · rw [if_pos rfl, if_pos rfl]; exact Nat.le_refl _


/-! Whole -/
def hBase (mode : Int) (b : Bool) (r : Nat) : Nat :=
  if r = 0 ∨ r = 9218868437227405312 then r
  else if 1126 ≤ (Fp.mag Ieee.double r).log2 then r
  else Fp.num Ieee.double false (cutQ (top53 (Fp.mag Ieee.double r)) (1126 - (Fp.mag Ieee.double r).log2) b mode * 2 ^ Fp.deep Ieee.double)
theorem hWord_base {a : Nat} {mode : Int} (ha : a < 18446744073709551616) (hmode : 0 ≤ mode ∧ mode ≤ 4) (hn : a % 9223372036854775808 ≤ 9218868437227405312) : hWord a mode = hBase mode (ngD a) (a % 9223372036854775808) + sgnD (ngD a) := by
  have hsp := sgn_split ha
  unfold hWord hBase dLow magD
  rw [if_neg (fun h => h hmode), if_neg (show ¬ 9218868437227405312 < a % 9223372036854775808 by omega)]
  by_cases hz : a % 9223372036854775808 = 0 ∨ a % 9223372036854775808 = 9218868437227405312
  · rw [if_pos hz, if_pos hz]; exact hsp
  rw [if_neg hz, if_neg hz]
  by_cases hb : 1126 ≤ (Fp.mag Ieee.double (a % 9223372036854775808)).log2
  · rw [if_pos hb, if_pos hb]; exact hsp
  rw [if_neg hb, if_neg hb]
/-- the amount that it comes to -/
theorem hBase_amt (mode : Int) (b : Bool) {r : Nat} (h : r < 9218868437227405312) : ∃ Q, Fp.mag Ieee.double (hBase mode b r) = Q * 2 ^ Fp.deep Ieee.double ∧ Q = cutQ (Fp.mag Ieee.double r) (Fp.deep Ieee.double) b mode ∧ hBase mode b r < 9218868437227405312 := by
  unfold hBase
  have hd := Fp.dD
  by_cases h0 : r = 0
  · subst h0
    rw [if_pos (.inl rfl), Fp.mag_zero]
    refine ⟨0, (Nat.zero_mul _).symm, ?_, h⟩
    unfold cutQ goes
    rw [if_pos (Nat.zero_mod _), Nat.zero_div]; rfl
  rw [if_neg (show ¬ (r = 0 ∨ r = 9218868437227405312) by omega)]
  have hm := Fp.le_mag Ieee.double r
  have R := Fp.rep_mag Ieee.double Fp.dF (r := r) (by rw [Fp.dI]; omega)
  have hrm : ∀ n, Fp.mag Ieee.double r = n → Fp.mag Ieee.double r = n := fun _ h => h
  by_cases hb : 1126 ≤ (Fp.mag Ieee.double r).log2
  · rw [if_pos hb]
    obtain ⟨t1, t2, t3, t4⟩ := top53_bounds (n := Fp.mag Ieee.double r) (by omega) R
    generalize Fp.mag Ieee.double r = n at *
    generalize Fp.deep Ieee.double = J at *
    have e : n = top53 n * 2 ^ (n.log2 - 1126) * 2 ^ J := by
      have e1 : n * 2 ^ 52 = top53 n * 2 ^ (n.log2 - 1126) * 2 ^ J * 2 ^ 52 := by
        rw [← t4, Nat.mul_assoc, Nat.mul_assoc, ← Nat.pow_add, ← Nat.pow_add]; congr 2; omega
      exact Nat.eq_of_mul_eq_mul_right (by decide) e1
    refine ⟨_, e, ?_, h⟩
    have := cutQ_scale (top53 n * 2 ^ (n.log2 - 1126)) 0 J b mode
    rw [cutQ_zero, Nat.zero_add, ← e] at this
    exact this.symm
  · rw [if_neg hb]
    obtain ⟨t1, t2, t3, t4⟩ := top53_bounds (n := Fp.mag Ieee.double r) (by omega) R
    generalize Fp.mag Ieee.double r = n at *
    have hq := cutQ_le b mode t2 (show 1 ≤ 1126 - n.log2 by omega)
    have hfi := (float_int (q := cutQ (top53 n) (1126 - n.log2) b mode) (by omega)).2
    refine ⟨_, (rep_lt hfi).2, ?_, num_lt hfi⟩
    have e1 := cutQ_scale (top53 n) (1126 - n.log2) n.log2 b mode
    have e2 := cutQ_scale n (Fp.deep Ieee.double) 52 b mode
    rw [t4, show 1126 - n.log2 + n.log2 = Fp.deep Ieee.double + 52 by omega] at e1
    rw [← e1, e2]
theorem hBase_mono (mode : Int) (b : Bool) {r r' : Nat} (h : r ≤ r') (h' : r' ≤ 9218868437227405312) : hBase mode b r ≤ hBase mode b r' := by
  by_cases hi : r = 9218868437227405312
  · have : r = r' := by omega
    rw [this]; exact Nat.le_refl _
  obtain ⟨Q, q1, q2, q3⟩ := hBase_amt mode b (r := r) (by omega)
  by_cases hi' : r' = 9218868437227405312
  · have : hBase mode b r' = 9218868437227405312 := by unfold hBase; rw [if_pos (.inr hi')]; exact hi'
    omega
  obtain ⟨Q', q1', q2', q3'⟩ := hBase_amt mode b (r := r') (by omega)
  have hQ : Q ≤ Q' := by rw [q2, q2']; exact cutQ_mono _ b mode (Fp.mag_mono Ieee.double h)
  have hA : Fp.mag Ieee.double (hBase mode b r) ≤ Fp.mag Ieee.double (hBase mode b r') := by rw [q1, q1']; exact Nat.mul_le_mul_right _ hQ
  by_cases hc : hBase mode b r ≤ hBase mode b r'
  · exact hc
  · have := Fp.mag_mono_lt Ieee.double (show hBase mode b r' < hBase mode b r by omega); omega

/-! Scale -/
def tBase (k mode : Int) (b : Bool) (r : Nat) : Nat :=
  if r = 0 ∨ 9218868437227405312 ≤ r then (if r = 0 then 0 else 9218868437227405312)
  else if rOver 53 (-1074) 1023 b (top53 (Fp.mag Ieee.double r)) (((Fp.mag Ieee.double r).log2 : Int) - 1126 + k) mode then (if rTop b mode then 9218868437227405311 else 9218868437227405312)
  else Fp.num Ieee.double false (rAmt 53 (-1074) b (top53 (Fp.mag Ieee.double r)) (((Fp.mag Ieee.double r).log2 : Int) - 1126 + k) mode)
theorem tBase_le (k mode : Int) (b : Bool) (r : Nat) : tBase k mode b r ≤ 9218868437227405312 := by
  unfold tBase
  split
  · split <;> omega
  rename_i h0
  have hm := Fp.le_mag Ieee.double r
  have R := Fp.rep_mag Ieee.double Fp.dF (r := r) (by rw [Fp.dI]; omega)
  obtain ⟨t1, t2, _⟩ := top53_bounds (n := Fp.mag Ieee.double r) (by omega) R
  split
  · split <;> omega
  · rename_i h2
    have := num_lt (rAmt_rep (D := 53) (lo := -1074) (most := 1023) b (((Fp.mag Ieee.double r).log2 : Int) - 1126 + k) mode (m := top53 (Fp.mag Ieee.double r)) (by omega) (by omega) (by decide) (by decide) (by decide) (by simpa using h2))
    exact Nat.le_of_lt this
theorem tBase_mono (k mode : Int) (b : Bool) {r r' : Nat} (h : r ≤ r') : tBase k mode b r ≤ tBase k mode b r' := by
  by_cases hinf : 9218868437227405312 ≤ r'
  · have : tBase k mode b r' = 9218868437227405312 := by unfold tBase; rw [if_pos (.inr hinf), if_neg (by omega)]
    rw [this]; exact tBase_le k mode b r
  by_cases h0 : r = 0
  · have : tBase k mode b r = 0 := by unfold tBase; rw [if_pos (.inl h0), if_pos h0]
    rw [this]; exact Nat.zero_le _
  have hp := pair_of h0 h (by omega)
  have hm := Fp.le_mag Ieee.double r
  have hm' := Fp.le_mag Ieee.double r'
  have R := Fp.rep_mag Ieee.double Fp.dF (r := r) (by rw [Fp.dI]; omega)
  have R' := Fp.rep_mag Ieee.double Fp.dF (r := r') (by rw [Fp.dI]; omega)
  unfold tBase
  rw [if_neg (show ¬ (r = 0 ∨ 9218868437227405312 ≤ r) by omega), if_neg (show ¬ (r' = 0 ∨ 9218868437227405312 ≤ r') by omega)]
  generalize Fp.mag Ieee.double r = n at *
  generalize Fp.mag Ieee.double r' = n' at *
  obtain ⟨t1, t2, _⟩ := top53_bounds (n := n) (by omega) R
  obtain ⟨t1', t2', _⟩ := top53_bounds (n := n') (by omega) R'
  have hA : rAmt 53 (-1074) b (top53 n) ((n.log2 : Int) - 1126 + k) mode ≤ rAmt 53 (-1074) b (top53 n') ((n'.log2 : Int) - 1126 + k) mode := rAmt_mono (D := 53) (lo := -1074) (by decide) (by decide) (by decide) b (e := (n.log2 : Int) - 1126 + k) (e' := (n'.log2 : Int) - 1126 + k) mode t1 t2 t1' t2' (by omega)
  have o1 : rOver 53 (-1074) 1023 b (top53 n) ((n.log2 : Int) - 1126 + k) mode = true ↔ 2 ^ ((1023 : Int) + 1 + 1074).toNat ≤ rAmt 53 (-1074) b (top53 n) ((n.log2 : Int) - 1126 + k) mode := over_iff (D := 53) (lo := -1074) (most := 1023) b ((n.log2 : Int) - 1126 + k) mode (m := top53 n) (by omega) (by omega) (by decide) (by decide) (by decide) (by decide)
  have o2 : rOver 53 (-1074) 1023 b (top53 n') ((n'.log2 : Int) - 1126 + k) mode = true ↔ 2 ^ ((1023 : Int) + 1 + 1074).toNat ≤ rAmt 53 (-1074) b (top53 n') ((n'.log2 : Int) - 1126 + k) mode := over_iff (D := 53) (lo := -1074) (most := 1023) b ((n'.log2 : Int) - 1126 + k) mode (m := top53 n') (by omega) (by omega) (by decide) (by decide) (by decide) (by decide)
  have s1 : rOver 53 (-1074) 1023 b (top53 n) ((n.log2 : Int) - 1126 + k) mode = false → Fp.Rep Ieee.double (rAmt 53 (-1074) b (top53 n) ((n.log2 : Int) - 1126 + k) mode) := rAmt_rep (D := 53) (lo := -1074) (most := 1023) b ((n.log2 : Int) - 1126 + k) mode (m := top53 n) (by omega) (by omega) (by decide) (by decide) (by decide)
  generalize 2 ^ ((1023 : Int) + 1 + 1074).toNat = lim at *
  generalize rAmt 53 (-1074) b (top53 n) ((n.log2 : Int) - 1126 + k) mode = A at *
  generalize rAmt 53 (-1074) b (top53 n') ((n'.log2 : Int) - 1126 + k) mode = A' at *
  cases v1 : rOver 53 (-1074) 1023 b (top53 n) ((n.log2 : Int) - 1126 + k) mode <;> cases v2 : rOver 53 (-1074) 1023 b (top53 n') ((n'.log2 : Int) - 1126 + k) mode
  · rw [if_neg Bool.false_ne_true, if_neg Bool.false_ne_true]
    exact Fp.grid_mono Ieee.double Fp.dF 0 hA
  · rw [if_neg Bool.false_ne_true, if_pos rfl]
    have := num_lt (s1 v1)
    split <;> omega
  · have h4 := o2.2 (Nat.le_trans (o1.1 v1) hA)
    rw [h4] at v2; cases v2
  · rw [if_pos rfl, if_pos rfl]; exact Nat.le_refl _

end Go.Proofs.YtifgngmebnjfkaaDoor
