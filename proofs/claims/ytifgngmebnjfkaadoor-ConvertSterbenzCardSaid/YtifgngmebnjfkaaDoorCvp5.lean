/- Scale, Int, Uint whole, of a known mode and a number that is none of the NaNs. -/
import Derived.Test.YtifgngmebnjfkaaDoorCvp4
namespace Go.Proofs.YtifgngmebnjfkaaDoor

theorem scale_known (a : Nat) (k mode : Int) (ha : a < 18446744073709551616) (hn : a % 9223372036854775808 ≤ 9218868437227405312) (hmode : 0 ≤ mode ∧ mode ≤ 4) :
    ∃ fl : Int, ∀ w, FmD w → Calls Tryd.prog 34 #[.float .f64 a, .int .i64 k, .int .i64 mode] w fun e' w' => e' = .returned (.tuple #[.float .f64 (tBase (max (-10000) (min k 10000)) mode (ngD a) (a % 9223372036854775808) + sgnD (ngD a)), .int .i64 fl, .int .i64 0]) ∧ Within w w' := by
  have KN := Lib.hid (fun w => known_any mode w)
  rw [decide_eq_true hmode] at KN
  have hx := ne_self (a := a)
  rw [decide_eq_false (show ¬ 9218868437227405312 < a % 9223372036854775808 by omega)] at hx
  have PL := Lib.hid (fun w => plain_any a ha hn w)
  have hsp := sgn_split ha
  by_cases hz : a % 9223372036854775808 = 0 ∨ a % 9223372036854775808 = 9218868437227405312
  · rw [decide_eq_true hz] at PL
    refine ⟨0, fun w _ => ?_⟩
    have : tBase (max (-10000) (min k 10000)) mode (ngD a) (a % 9223372036854775808) = a % 9223372036854775808 := by
      unfold tBase
      rw [if_pos (by omega)]
      split <;> omega
    rw [this, ← hsp]
    exact scale_plain a k mode KN hx PL w
  rw [decide_eq_false hz] at PL
  have h0 : magD a ≠ 0 := fun h => hz (.inl (magD_zero.1 h))
  obtain ⟨t1, t2, t3, _⟩ := top53_bounds h0 (magD_rep (by omega))
  have TK := Lib.hid (fun w => take_any a (magD a) ha h0 (by omega) rfl w)
  have RN := Lib.hid (fun w => round_D (ngD a) (top53 (magD a)) (((magD a).log2 : Int) - 1126 + max (-10000) (min k 10000)) mode (by omega) (by omega) (by omega) (by omega) hmode w)
  refine ⟨rFlags 53 (-1074) 1023 (ngD a) (top53 (magD a)) (((magD a).log2 : Int) - 1126 + max (-10000) (min k 10000)) mode, fun w h => ?_⟩
  have hw : rWord 53 (-1074) 1023 9218868437227405311 (ngD a) (top53 (magD a)) (((magD a).log2 : Int) - 1126 + max (-10000) (min k 10000)) mode = tBase (max (-10000) (min k 10000)) mode (ngD a) (a % 9223372036854775808) + sgnD (ngD a) := by
    unfold rWord tBase magD
    rw [if_neg (show ¬ (a % 9223372036854775808 = 0 ∨ 9218868437227405312 ≤ a % 9223372036854775808) by omega)]
    rfl
  rw [hw] at RN
  exact scale_main a _ _ _ _ _ k _ mode _ KN hx PL TK rfl rfl (by omega) (by omega) RN w h

theorem hWord_fin {a : Nat} {mode : Int} (ha : a < 18446744073709551616) (hmode : 0 ≤ mode ∧ mode ≤ 4) (hn : a % 9223372036854775808 ≤ 9218868437227405312) :
    hWord a mode < 18446744073709551616 ∧ hWord a mode % 9223372036854775808 ≤ 9218868437227405312 ∧ Fp.un Ieee.double (hWord a mode) = (if ngD a then -(Fp.mag Ieee.double (hBase mode (ngD a) (a % 9223372036854775808)) : Int) else Fp.mag Ieee.double (hBase mode (ngD a) (a % 9223372036854775808))) ∧
    (hWord a mode % 9223372036854775808 < 9218868437227405312 → ∃ Q s, Fp.Is Ieee.double (hWord a mode) s (Q * 2 ^ Fp.deep Ieee.double) ∧ Fp.un Ieee.double (hWord a mode) = Fp.val s Q * ((2 ^ Fp.deep Ieee.double : Nat) : Int)) := by
  rw [hWord_base ha hmode hn]
  have hl : hBase mode (ngD a) (a % 9223372036854775808) ≤ 9218868437227405312 := by
    by_cases hi : a % 9223372036854775808 = 9218868437227405312
    · unfold hBase; rw [if_pos (.inr hi)]; omega
    · obtain ⟨_, _, _, h⟩ := hBase_amt mode (ngD a) (r := a % 9223372036854775808) (by omega); omega
  have hu := un_sgn (ngD a) (show hBase mode (ngD a) (a % 9223372036854775808) < 9223372036854775808 by omega)
  have hmod : (hBase mode (ngD a) (a % 9223372036854775808) + sgnD (ngD a)) % 9223372036854775808 = hBase mode (ngD a) (a % 9223372036854775808) := by unfold sgnD; split <;> omega
  refine ⟨by unfold sgnD; split <;> omega, by rw [hmod]; exact hl, hu, fun hf => ?_⟩
  rw [hmod] at hf
  by_cases hi : a % 9223372036854775808 = 9218868437227405312
  · exfalso; unfold hBase at hf; rw [if_pos (.inr hi)] at hf; omega
  obtain ⟨Q, q1, _, _⟩ := hBase_amt mode (ngD a) (r := a % 9223372036854775808) (by omega)
  have R := Fp.rep_mag Ieee.double Fp.dF (r := hBase mode (ngD a) (a % 9223372036854775808)) (by rw [Fp.dI]; exact hf)
  have hI := Fp.Rep.is R (ngD a)
  have e : Fp.num Ieee.double (ngD a) (Fp.mag Ieee.double (hBase mode (ngD a) (a % 9223372036854775808))) = hBase mode (ngD a) (a % 9223372036854775808) + sgnD (ngD a) := by rw [num_sgn, pos_rung rfl]
  rw [e, q1] at hI
  refine ⟨Q, ngD a, hI, ?_⟩
  rw [hu, q1]
  unfold Fp.val
  split
  · rw [Int.neg_mul, Int.natCast_mul]
  · rw [Int.natCast_mul]
/-- an amount far below the greatest is finite -/
theorem fin_of_un {c W : Nat} (hc : c < 18446744073709551616) (hW : W ≤ 64) (hn : c % 9223372036854775808 ≤ 9218868437227405312) (h1 : -((2 ^ W * 2 ^ Fp.deep Ieee.double : Nat) : Int) ≤ Fp.un Ieee.double c) (h2 : Fp.un Ieee.double c ≤ ((2 ^ W * 2 ^ Fp.deep Ieee.double : Nat) : Int)) : c % 9223372036854775808 < 9218868437227405312 := by
  by_cases hi : c % 9223372036854775808 = 9218868437227405312
  · exfalso
    rw [un_parts hc] at h1 h2
    unfold magD at h1 h2
    rw [hi] at h1 h2
    have e : Fp.mag Ieee.double 9218868437227405312 = 2 ^ Fp.dtop := by have := Fp.mag_infD; rwa [Fp.dI] at this
    rw [e] at h1 h2
    have hlt : 2 ^ W * 2 ^ Fp.deep Ieee.double < 2 ^ Fp.dtop := by
      rw [← Nat.pow_add]
      exact Nat.pow_lt_pow_right (by decide) (by rw [Fp.dD, Fp.dtop_eq]; omega)
    generalize 2 ^ W * 2 ^ Fp.deep Ieee.double = A at *
    generalize 2 ^ Fp.dtop = T at *
    clear e
    cases hb : ngD c <;> rw [hb] at h1 h2 <;> simp at h1 h2 <;> omega
  · omega
/-- what Int comes to -/
def iOf (W : Nat) (u : Int) : Int := if u < -((2 ^ (W - 1) * 2 ^ Fp.deep Ieee.double : Nat) : Int) then -((2 ^ (W - 1) : Nat) : Int) else if ((2 ^ (W - 1) * 2 ^ Fp.deep Ieee.double : Nat) : Int) ≤ u then ((2 ^ (W - 1) : Nat) : Int) - 1 else u / ((2 ^ Fp.deep Ieee.double : Nat) : Int)
def uOf (W : Nat) (u : Int) : Int := if u < 0 then 0 else if ((2 ^ W * 2 ^ Fp.deep Ieee.double : Nat) : Int) ≤ u then ((2 ^ W : Nat) : Int) - 1 else u / ((2 ^ Fp.deep Ieee.double : Nat) : Int)
theorem iOf_mono (W : Nat) {u v : Int} (h : u ≤ v) : iOf W u ≤ iOf W v := by
  have hJ := Nat.two_pow_pos (Fp.deep Ieee.double)
  have hA := Nat.two_pow_pos (W - 1)
  unfold iOf
  have hd := Int.ediv_le_ediv (c := ((2 ^ Fp.deep Ieee.double : Nat) : Int)) (by omega) h
  rw [Int.natCast_mul]
  have hJ' : (0 : Int) < ((2 ^ Fp.deep Ieee.double : Nat) : Int) := Int.natCast_pos.2 hJ
  have hA' : (0 : Int) < ((2 ^ (W - 1) : Nat) : Int) := Int.natCast_pos.2 hA
  clear hJ hA
  generalize ((2 ^ Fp.deep Ieee.double : Nat) : Int) = J at *
  generalize ((2 ^ (W - 1) : Nat) : Int) = A at *
  have lo : ∀ u : Int, ¬ u < -(A * J) → -A ≤ u / J := fun u hu => by rw [Int.le_ediv_iff_mul_le hJ', Int.neg_mul]; omega
  have hi : ∀ u : Int, ¬ A * J ≤ u → u / J ≤ A - 1 := fun u hu => by
    have : u / J < A := Int.ediv_lt_of_lt_mul hJ' (by omega)
    omega
  by_cases a1 : u < -(A * J)
  · rw [if_pos a1]
    by_cases b1 : v < -(A * J)
    · rw [if_pos b1]; exact Int.le_refl _
    rw [if_neg b1]
    by_cases b2 : A * J ≤ v
    · rw [if_pos b2]; omega
    · rw [if_neg b2]; exact lo v b1
  rw [if_neg a1, if_neg (show ¬ v < -(A * J) by omega)]
  by_cases b2 : A * J ≤ v
  · rw [if_pos b2]
    by_cases a2 : A * J ≤ u
    · rw [if_pos a2]; exact Int.le_refl _
    · rw [if_neg a2]; exact hi u a2
  · rw [if_neg b2, if_neg (show ¬ A * J ≤ u by omega)]; exact hd
theorem uOf_mono (W : Nat) {u v : Int} (h : u ≤ v) : uOf W u ≤ uOf W v := by
  have hJ := Nat.two_pow_pos (Fp.deep Ieee.double)
  have hA := Nat.two_pow_pos W
  unfold uOf
  have hd := Int.ediv_le_ediv (c := ((2 ^ Fp.deep Ieee.double : Nat) : Int)) (by omega) h
  rw [Int.natCast_mul]
  have hJ' : (0 : Int) < ((2 ^ Fp.deep Ieee.double : Nat) : Int) := Int.natCast_pos.2 hJ
  have hA' : (0 : Int) < ((2 ^ W : Nat) : Int) := Int.natCast_pos.2 hA
  clear hJ hA
  generalize ((2 ^ Fp.deep Ieee.double : Nat) : Int) = J at *
  generalize ((2 ^ W : Nat) : Int) = A at *
  have hi : ∀ u : Int, ¬ A * J ≤ u → u / J ≤ A - 1 := fun u hu => by
    have : u / J < A := Int.ediv_lt_of_lt_mul hJ' (by omega)
    omega
  by_cases a1 : u < 0
  · rw [if_pos a1]
    by_cases b1 : v < 0
    · rw [if_pos b1]; exact Int.le_refl _
    rw [if_neg b1]
    split
    · omega
    · exact Int.ediv_nonneg (by omega) (by omega)
  rw [if_neg a1, if_neg (show ¬ v < 0 by omega)]
  by_cases b2 : A * J ≤ v
  · rw [if_pos b2]
    by_cases a2 : A * J ≤ u
    · rw [if_pos a2]; exact Int.le_refl _
    · rw [if_neg a2]; exact hi u a2
  · rw [if_neg b2, if_neg (show ¬ A * J ≤ u by omega)]; exact hd
theorem zero_un : Fp.un Ieee.double 0 = 0 := by decide +kernel
theorem self_ne {c : Nat} (h : c % 9223372036854775808 ≤ 9218868437227405312) : (FloatKind.f64.format.order c c != some .eq) = false := by
  rw [ne_self, decide_eq_false (by omega)]
theorem ge_un {x y : Nat} (hx : x % 9223372036854775808 ≤ 9218868437227405312) (hy : y % 9223372036854775808 ≤ 9218868437227405312) : (FloatKind.f64.format.order x y == some .gt || FloatKind.f64.format.order x y == some .eq) = decide (Fp.un Ieee.double y ≤ Fp.un Ieee.double x) := by
  rw [un_gt hx hy, un_eq hx hy, Bool.eq_iff_iff, Bool.or_eq_true, decide_eq_true_iff, decide_eq_true_iff, decide_eq_true_iff]; omega

theorem end_Int8 : Fp.un Ieee.double 4638707616191610880 = ((2 ^ 7 * 2 ^ Fp.deep Ieee.double : Nat) : Int) ∧ Fp.un Ieee.double 13862079653046386688 = -((2 ^ 7 * 2 ^ Fp.deep Ieee.double : Nat) : Int) := by decide +kernel
theorem Int_8_known (a : Nat) (mode : Int) (ha : a < 18446744073709551616) (hn : a % 9223372036854775808 ≤ 9218868437227405312) (hmode : 0 ≤ mode ∧ mode ≤ 4) : ∃ fl : Int, ∀ w, Calls Tryd.prog 33 #[.float .f64 a, .int .i64 8, .int .i64 mode] w fun e' w' => e' = .returned (.tuple #[.int .i64 (iOf 8 (Fp.un Ieee.double (hWord a mode))), .int .i64 fl, .int .i64 0]) ∧ Within w w' := by
  obtain ⟨h1, h2, _, h4⟩ := hWord_fin ha hmode hn
  have WH := Lib.hid (fun w => Whole_any a mode ha w)
  rw [show nErr mode = 0 from if_pos hmode] at WH
  have hx := self_ne h2
  have hl := un_lt (x := hWord a mode) (y := 13862079653046386688) h2 (by decide)
  have hg := ge_un (x := hWord a mode) (y := 4638707616191610880) h2 (by decide)
  rw [end_Int8.2] at hl
  rw [end_Int8.1] at hg
  unfold iOf
  generalize hu : Fp.un Ieee.double (hWord a mode) = u at *
  by_cases c1 : u < -((2 ^ 7 * 2 ^ Fp.deep Ieee.double : Nat) : Int)
  · rw [decide_eq_true c1] at hl
    rw [if_pos c1]
    exact ⟨8, fun w => Int_8_low a _ mode _ WH hx hl w⟩
  rw [decide_eq_false c1] at hl
  rw [if_neg c1]
  by_cases c2 : ((2 ^ 7 * 2 ^ Fp.deep Ieee.double : Nat) : Int) ≤ u
  · rw [decide_eq_true c2] at hg
    rw [if_pos c2]
    exact ⟨8, fun w => Int_8_high a _ mode _ WH hx hl hg w⟩
  rw [decide_eq_false c2] at hg
  rw [if_neg c2]
  refine ⟨_, fun w => Int_8_in a _ mode _ WH _ hx hl hg ?_ w⟩
  obtain ⟨Q, s, hI, hv⟩ := h4 (fin_of_un (W := 7) h1 (by decide) h2 (by rw [hu]; omega) (by rw [hu]; omega))
  have hJ := Nat.two_pow_pos (Fp.deep Ieee.double)
  have hq : u / ((2 ^ Fp.deep Ieee.double : Nat) : Int) = Fp.val s Q := by rw [hv]; exact Int.mul_ediv_cancel _ (Int.ne_of_gt (Int.natCast_pos.2 hJ))
  unfold floatToIntVal
  show (match (Ieee.double.read _).toInt .zero with | some n => if IntKind.i64.min ≤ n ∧ n ≤ IntKind.i64.max then some n else none | none => none) = _
  rw [int_of_is hI, hq]
  show (if (-9223372036854775808 : Int) ≤ Fp.val s Q ∧ Fp.val s Q ≤ 9223372036854775807 then some (Fp.val s Q) else none) = _
  rw [if_pos]
  rw [hv, Int.natCast_mul] at c1
  rw [hv, Int.natCast_mul] at c2
  have hJ' : (0 : Int) < ((2 ^ Fp.deep Ieee.double : Nat) : Int) := Int.natCast_pos.2 hJ
  clear hJ
  generalize ((2 ^ Fp.deep Ieee.double : Nat) : Int) = J at *
  constructor
  · have : ¬ Fp.val s Q < -128 := by
      intro h
      refine c1 ?_
      have e : ((2 ^ 7 : Nat) : Int) = 128 := by decide
      rw [e, ← Int.neg_mul]; exact Int.mul_lt_mul_of_pos_right h hJ'
    omega
  · have : Fp.val s Q < ((2 ^ 7 : Nat) : Int) := Int.lt_of_mul_lt_mul_right (by omega : Fp.val s Q * J < ((2 ^ 7 : Nat) : Int) * J) (Int.le_of_lt hJ')
    have e : ((2 ^ 7 : Nat) : Int) = 128 := by decide
    omega

theorem end_Int16 : Fp.un Ieee.double 4674736413210574848 = ((2 ^ 15 * 2 ^ Fp.deep Ieee.double : Nat) : Int) ∧ Fp.un Ieee.double 13898108450065350656 = -((2 ^ 15 * 2 ^ Fp.deep Ieee.double : Nat) : Int) := by decide +kernel
theorem Int_16_known (a : Nat) (mode : Int) (ha : a < 18446744073709551616) (hn : a % 9223372036854775808 ≤ 9218868437227405312) (hmode : 0 ≤ mode ∧ mode ≤ 4) : ∃ fl : Int, ∀ w, Calls Tryd.prog 33 #[.float .f64 a, .int .i64 16, .int .i64 mode] w fun e' w' => e' = .returned (.tuple #[.int .i64 (iOf 16 (Fp.un Ieee.double (hWord a mode))), .int .i64 fl, .int .i64 0]) ∧ Within w w' := by
  obtain ⟨h1, h2, _, h4⟩ := hWord_fin ha hmode hn
  have WH := Lib.hid (fun w => Whole_any a mode ha w)
  rw [show nErr mode = 0 from if_pos hmode] at WH
  have hx := self_ne h2
  have hl := un_lt (x := hWord a mode) (y := 13898108450065350656) h2 (by decide)
  have hg := ge_un (x := hWord a mode) (y := 4674736413210574848) h2 (by decide)
  rw [end_Int16.2] at hl
  rw [end_Int16.1] at hg
  unfold iOf
  generalize hu : Fp.un Ieee.double (hWord a mode) = u at *
  by_cases c1 : u < -((2 ^ 15 * 2 ^ Fp.deep Ieee.double : Nat) : Int)
  · rw [decide_eq_true c1] at hl
    rw [if_pos c1]
    exact ⟨8, fun w => Int_16_low a _ mode _ WH hx hl w⟩
  rw [decide_eq_false c1] at hl
  rw [if_neg c1]
  by_cases c2 : ((2 ^ 15 * 2 ^ Fp.deep Ieee.double : Nat) : Int) ≤ u
  · rw [decide_eq_true c2] at hg
    rw [if_pos c2]
    exact ⟨8, fun w => Int_16_high a _ mode _ WH hx hl hg w⟩
  rw [decide_eq_false c2] at hg
  rw [if_neg c2]
  refine ⟨_, fun w => Int_16_in a _ mode _ WH _ hx hl hg ?_ w⟩
  obtain ⟨Q, s, hI, hv⟩ := h4 (fin_of_un (W := 15) h1 (by decide) h2 (by rw [hu]; omega) (by rw [hu]; omega))
  have hJ := Nat.two_pow_pos (Fp.deep Ieee.double)
  have hq : u / ((2 ^ Fp.deep Ieee.double : Nat) : Int) = Fp.val s Q := by rw [hv]; exact Int.mul_ediv_cancel _ (Int.ne_of_gt (Int.natCast_pos.2 hJ))
  unfold floatToIntVal
  show (match (Ieee.double.read _).toInt .zero with | some n => if IntKind.i64.min ≤ n ∧ n ≤ IntKind.i64.max then some n else none | none => none) = _
  rw [int_of_is hI, hq]
  show (if (-9223372036854775808 : Int) ≤ Fp.val s Q ∧ Fp.val s Q ≤ 9223372036854775807 then some (Fp.val s Q) else none) = _
  rw [if_pos]
  rw [hv, Int.natCast_mul] at c1
  rw [hv, Int.natCast_mul] at c2
  have hJ' : (0 : Int) < ((2 ^ Fp.deep Ieee.double : Nat) : Int) := Int.natCast_pos.2 hJ
  clear hJ
  generalize ((2 ^ Fp.deep Ieee.double : Nat) : Int) = J at *
  constructor
  · have : ¬ Fp.val s Q < -32768 := by
      intro h
      refine c1 ?_
      have e : ((2 ^ 15 : Nat) : Int) = 32768 := by decide
      rw [e, ← Int.neg_mul]; exact Int.mul_lt_mul_of_pos_right h hJ'
    omega
  · have : Fp.val s Q < ((2 ^ 15 : Nat) : Int) := Int.lt_of_mul_lt_mul_right (by omega : Fp.val s Q * J < ((2 ^ 15 : Nat) : Int) * J) (Int.le_of_lt hJ')
    have e : ((2 ^ 15 : Nat) : Int) = 32768 := by decide
    omega

theorem end_Int32 : Fp.un Ieee.double 4746794007248502784 = ((2 ^ 31 * 2 ^ Fp.deep Ieee.double : Nat) : Int) ∧ Fp.un Ieee.double 13970166044103278592 = -((2 ^ 31 * 2 ^ Fp.deep Ieee.double : Nat) : Int) := by decide +kernel
theorem Int_32_known (a : Nat) (mode : Int) (ha : a < 18446744073709551616) (hn : a % 9223372036854775808 ≤ 9218868437227405312) (hmode : 0 ≤ mode ∧ mode ≤ 4) : ∃ fl : Int, ∀ w, Calls Tryd.prog 33 #[.float .f64 a, .int .i64 32, .int .i64 mode] w fun e' w' => e' = .returned (.tuple #[.int .i64 (iOf 32 (Fp.un Ieee.double (hWord a mode))), .int .i64 fl, .int .i64 0]) ∧ Within w w' := by
  obtain ⟨h1, h2, _, h4⟩ := hWord_fin ha hmode hn
  have WH := Lib.hid (fun w => Whole_any a mode ha w)
  rw [show nErr mode = 0 from if_pos hmode] at WH
  have hx := self_ne h2
  have hl := un_lt (x := hWord a mode) (y := 13970166044103278592) h2 (by decide)
  have hg := ge_un (x := hWord a mode) (y := 4746794007248502784) h2 (by decide)
  rw [end_Int32.2] at hl
  rw [end_Int32.1] at hg
  unfold iOf
  generalize hu : Fp.un Ieee.double (hWord a mode) = u at *
  by_cases c1 : u < -((2 ^ 31 * 2 ^ Fp.deep Ieee.double : Nat) : Int)
  · rw [decide_eq_true c1] at hl
    rw [if_pos c1]
    exact ⟨8, fun w => Int_32_low a _ mode _ WH hx hl w⟩
  rw [decide_eq_false c1] at hl
  rw [if_neg c1]
  by_cases c2 : ((2 ^ 31 * 2 ^ Fp.deep Ieee.double : Nat) : Int) ≤ u
  · rw [decide_eq_true c2] at hg
    rw [if_pos c2]
    exact ⟨8, fun w => Int_32_high a _ mode _ WH hx hl hg w⟩
  rw [decide_eq_false c2] at hg
  rw [if_neg c2]
  refine ⟨_, fun w => Int_32_in a _ mode _ WH _ hx hl hg ?_ w⟩
  obtain ⟨Q, s, hI, hv⟩ := h4 (fin_of_un (W := 31) h1 (by decide) h2 (by rw [hu]; omega) (by rw [hu]; omega))
  have hJ := Nat.two_pow_pos (Fp.deep Ieee.double)
  have hq : u / ((2 ^ Fp.deep Ieee.double : Nat) : Int) = Fp.val s Q := by rw [hv]; exact Int.mul_ediv_cancel _ (Int.ne_of_gt (Int.natCast_pos.2 hJ))
  unfold floatToIntVal
  show (match (Ieee.double.read _).toInt .zero with | some n => if IntKind.i64.min ≤ n ∧ n ≤ IntKind.i64.max then some n else none | none => none) = _
  rw [int_of_is hI, hq]
  show (if (-9223372036854775808 : Int) ≤ Fp.val s Q ∧ Fp.val s Q ≤ 9223372036854775807 then some (Fp.val s Q) else none) = _
  rw [if_pos]
  rw [hv, Int.natCast_mul] at c1
  rw [hv, Int.natCast_mul] at c2
  have hJ' : (0 : Int) < ((2 ^ Fp.deep Ieee.double : Nat) : Int) := Int.natCast_pos.2 hJ
  clear hJ
  generalize ((2 ^ Fp.deep Ieee.double : Nat) : Int) = J at *
  constructor
  · have : ¬ Fp.val s Q < -2147483648 := by
      intro h
      refine c1 ?_
      have e : ((2 ^ 31 : Nat) : Int) = 2147483648 := by decide
      rw [e, ← Int.neg_mul]; exact Int.mul_lt_mul_of_pos_right h hJ'
    omega
  · have : Fp.val s Q < ((2 ^ 31 : Nat) : Int) := Int.lt_of_mul_lt_mul_right (by omega : Fp.val s Q * J < ((2 ^ 31 : Nat) : Int) * J) (Int.le_of_lt hJ')
    have e : ((2 ^ 31 : Nat) : Int) = 2147483648 := by decide
    omega

theorem end_Int64 : Fp.un Ieee.double 4890909195324358656 = ((2 ^ 63 * 2 ^ Fp.deep Ieee.double : Nat) : Int) ∧ Fp.un Ieee.double 14114281232179134464 = -((2 ^ 63 * 2 ^ Fp.deep Ieee.double : Nat) : Int) := by decide +kernel
theorem Int_64_known (a : Nat) (mode : Int) (ha : a < 18446744073709551616) (hn : a % 9223372036854775808 ≤ 9218868437227405312) (hmode : 0 ≤ mode ∧ mode ≤ 4) : ∃ fl : Int, ∀ w, Calls Tryd.prog 33 #[.float .f64 a, .int .i64 64, .int .i64 mode] w fun e' w' => e' = .returned (.tuple #[.int .i64 (iOf 64 (Fp.un Ieee.double (hWord a mode))), .int .i64 fl, .int .i64 0]) ∧ Within w w' := by
  obtain ⟨h1, h2, _, h4⟩ := hWord_fin ha hmode hn
  have WH := Lib.hid (fun w => Whole_any a mode ha w)
  rw [show nErr mode = 0 from if_pos hmode] at WH
  have hx := self_ne h2
  have hl := un_lt (x := hWord a mode) (y := 14114281232179134464) h2 (by decide)
  have hg := ge_un (x := hWord a mode) (y := 4890909195324358656) h2 (by decide)
  rw [end_Int64.2] at hl
  rw [end_Int64.1] at hg
  unfold iOf
  generalize hu : Fp.un Ieee.double (hWord a mode) = u at *
  by_cases c1 : u < -((2 ^ 63 * 2 ^ Fp.deep Ieee.double : Nat) : Int)
  · rw [decide_eq_true c1] at hl
    rw [if_pos c1]
    exact ⟨8, fun w => Int_64_low a _ mode _ WH hx hl w⟩
  rw [decide_eq_false c1] at hl
  rw [if_neg c1]
  by_cases c2 : ((2 ^ 63 * 2 ^ Fp.deep Ieee.double : Nat) : Int) ≤ u
  · rw [decide_eq_true c2] at hg
    rw [if_pos c2]
    exact ⟨8, fun w => Int_64_high a _ mode _ WH hx hl hg w⟩
  rw [decide_eq_false c2] at hg
  rw [if_neg c2]
  refine ⟨_, fun w => Int_64_in a _ mode _ WH _ hx hl hg ?_ w⟩
  obtain ⟨Q, s, hI, hv⟩ := h4 (fin_of_un (W := 63) h1 (by decide) h2 (by rw [hu]; omega) (by rw [hu]; omega))
  have hJ := Nat.two_pow_pos (Fp.deep Ieee.double)
  have hq : u / ((2 ^ Fp.deep Ieee.double : Nat) : Int) = Fp.val s Q := by rw [hv]; exact Int.mul_ediv_cancel _ (Int.ne_of_gt (Int.natCast_pos.2 hJ))
  unfold floatToIntVal
  show (match (Ieee.double.read _).toInt .zero with | some n => if IntKind.i64.min ≤ n ∧ n ≤ IntKind.i64.max then some n else none | none => none) = _
  rw [int_of_is hI, hq]
  show (if (-9223372036854775808 : Int) ≤ Fp.val s Q ∧ Fp.val s Q ≤ 9223372036854775807 then some (Fp.val s Q) else none) = _
  rw [if_pos]
  rw [hv, Int.natCast_mul] at c1
  rw [hv, Int.natCast_mul] at c2
  have hJ' : (0 : Int) < ((2 ^ Fp.deep Ieee.double : Nat) : Int) := Int.natCast_pos.2 hJ
  clear hJ
  generalize ((2 ^ Fp.deep Ieee.double : Nat) : Int) = J at *
  constructor
  · have : ¬ Fp.val s Q < -9223372036854775808 := by
      intro h
      refine c1 ?_
      have e : ((2 ^ 63 : Nat) : Int) = 9223372036854775808 := by decide
      rw [e, ← Int.neg_mul]; exact Int.mul_lt_mul_of_pos_right h hJ'
    omega
  · have : Fp.val s Q < ((2 ^ 63 : Nat) : Int) := Int.lt_of_mul_lt_mul_right (by omega : Fp.val s Q * J < ((2 ^ 63 : Nat) : Int) * J) (Int.le_of_lt hJ')
    have e : ((2 ^ 63 : Nat) : Int) = 9223372036854775808 := by decide
    omega

theorem end_Uint8 : Fp.un Ieee.double 4643211215818981376 = ((2 ^ 8 * 2 ^ Fp.deep Ieee.double : Nat) : Int) := by decide +kernel
theorem Uint_8_known (a : Nat) (mode : Int) (ha : a < 18446744073709551616) (hn : a % 9223372036854775808 ≤ 9218868437227405312) (hmode : 0 ≤ mode ∧ mode ≤ 4) : ∃ fl : Int, ∀ w, Calls Tryd.prog 38 #[.float .f64 a, .int .i64 8, .int .i64 mode] w fun e' w' => e' = .returned (.tuple #[.int .u64 (uOf 8 (Fp.un Ieee.double (hWord a mode))), .int .i64 fl, .int .i64 0]) ∧ Within w w' := by
  obtain ⟨h1, h2, _, h4⟩ := hWord_fin ha hmode hn
  have WH := Lib.hid (fun w => Whole_any a mode ha w)
  rw [show nErr mode = 0 from if_pos hmode] at WH
  have hx := self_ne h2
  have hl := un_lt (x := hWord a mode) (y := 0) h2 (by decide)
  have hg := ge_un (x := hWord a mode) (y := 4643211215818981376) h2 (by decide)
  rw [zero_un] at hl
  rw [end_Uint8] at hg
  unfold uOf
  generalize hu : Fp.un Ieee.double (hWord a mode) = u at *
  by_cases c1 : u < 0
  · rw [decide_eq_true c1] at hl
    rw [if_pos c1]
    exact ⟨8, fun w => Uint_8_low a _ mode _ WH hx hl w⟩
  rw [decide_eq_false c1] at hl
  rw [if_neg c1]
  by_cases c2 : ((2 ^ 8 * 2 ^ Fp.deep Ieee.double : Nat) : Int) ≤ u
  · rw [decide_eq_true c2] at hg
    rw [if_pos c2]
    exact ⟨8, fun w => Uint_8_high a _ mode _ WH hx hl hg w⟩
  rw [decide_eq_false c2] at hg
  rw [if_neg c2]
  refine ⟨_, fun w => Uint_8_in a _ mode _ WH _ hx hl hg ?_ w⟩
  obtain ⟨Q, s, hI, hv⟩ := h4 (fin_of_un (W := 8) h1 (by decide) h2 (by rw [hu]; omega) (by rw [hu]; omega))
  have hJ := Nat.two_pow_pos (Fp.deep Ieee.double)
  have hq : u / ((2 ^ Fp.deep Ieee.double : Nat) : Int) = Fp.val s Q := by rw [hv]; exact Int.mul_ediv_cancel _ (Int.ne_of_gt (Int.natCast_pos.2 hJ))
  unfold floatToIntVal
  show (match (Ieee.double.read _).toInt .zero with | some n => if IntKind.u64.min ≤ n ∧ n ≤ IntKind.u64.max then some n else none | none => none) = _
  rw [int_of_is hI, hq]
  show (if (0 : Int) ≤ Fp.val s Q ∧ Fp.val s Q ≤ 18446744073709551615 then some (Fp.val s Q) else none) = _
  rw [if_pos]
  rw [hv] at c1
  rw [hv, Int.natCast_mul] at c2
  have hJ' : (0 : Int) < ((2 ^ Fp.deep Ieee.double : Nat) : Int) := Int.natCast_pos.2 hJ
  clear hJ
  generalize ((2 ^ Fp.deep Ieee.double : Nat) : Int) = J at *
  constructor
  · have : ¬ Fp.val s Q < 0 := by
      intro h
      refine c1 ?_
      exact Int.mul_neg_of_neg_of_pos h hJ'
    omega
  · have : Fp.val s Q < ((2 ^ 8 : Nat) : Int) := Int.lt_of_mul_lt_mul_right (by omega : Fp.val s Q * J < ((2 ^ 8 : Nat) : Int) * J) (Int.le_of_lt hJ')
    have e : ((2 ^ 8 : Nat) : Int) = 256 := by decide
    omega

theorem end_Uint16 : Fp.un Ieee.double 4679240012837945344 = ((2 ^ 16 * 2 ^ Fp.deep Ieee.double : Nat) : Int) := by decide +kernel
theorem Uint_16_known (a : Nat) (mode : Int) (ha : a < 18446744073709551616) (hn : a % 9223372036854775808 ≤ 9218868437227405312) (hmode : 0 ≤ mode ∧ mode ≤ 4) : ∃ fl : Int, ∀ w, Calls Tryd.prog 38 #[.float .f64 a, .int .i64 16, .int .i64 mode] w fun e' w' => e' = .returned (.tuple #[.int .u64 (uOf 16 (Fp.un Ieee.double (hWord a mode))), .int .i64 fl, .int .i64 0]) ∧ Within w w' := by
  obtain ⟨h1, h2, _, h4⟩ := hWord_fin ha hmode hn
  have WH := Lib.hid (fun w => Whole_any a mode ha w)
  rw [show nErr mode = 0 from if_pos hmode] at WH
  have hx := self_ne h2
  have hl := un_lt (x := hWord a mode) (y := 0) h2 (by decide)
  have hg := ge_un (x := hWord a mode) (y := 4679240012837945344) h2 (by decide)
  rw [zero_un] at hl
  rw [end_Uint16] at hg
  unfold uOf
  generalize hu : Fp.un Ieee.double (hWord a mode) = u at *
  by_cases c1 : u < 0
  · rw [decide_eq_true c1] at hl
    rw [if_pos c1]
    exact ⟨8, fun w => Uint_16_low a _ mode _ WH hx hl w⟩
  rw [decide_eq_false c1] at hl
  rw [if_neg c1]
  by_cases c2 : ((2 ^ 16 * 2 ^ Fp.deep Ieee.double : Nat) : Int) ≤ u
  · rw [decide_eq_true c2] at hg
    rw [if_pos c2]
    exact ⟨8, fun w => Uint_16_high a _ mode _ WH hx hl hg w⟩
  rw [decide_eq_false c2] at hg
  rw [if_neg c2]
  refine ⟨_, fun w => Uint_16_in a _ mode _ WH _ hx hl hg ?_ w⟩
  obtain ⟨Q, s, hI, hv⟩ := h4 (fin_of_un (W := 16) h1 (by decide) h2 (by rw [hu]; omega) (by rw [hu]; omega))
  have hJ := Nat.two_pow_pos (Fp.deep Ieee.double)
  have hq : u / ((2 ^ Fp.deep Ieee.double : Nat) : Int) = Fp.val s Q := by rw [hv]; exact Int.mul_ediv_cancel _ (Int.ne_of_gt (Int.natCast_pos.2 hJ))
  unfold floatToIntVal
  show (match (Ieee.double.read _).toInt .zero with | some n => if IntKind.u64.min ≤ n ∧ n ≤ IntKind.u64.max then some n else none | none => none) = _
  rw [int_of_is hI, hq]
  show (if (0 : Int) ≤ Fp.val s Q ∧ Fp.val s Q ≤ 18446744073709551615 then some (Fp.val s Q) else none) = _
  rw [if_pos]
  rw [hv] at c1
  rw [hv, Int.natCast_mul] at c2
  have hJ' : (0 : Int) < ((2 ^ Fp.deep Ieee.double : Nat) : Int) := Int.natCast_pos.2 hJ
  clear hJ
  generalize ((2 ^ Fp.deep Ieee.double : Nat) : Int) = J at *
  constructor
  · have : ¬ Fp.val s Q < 0 := by
      intro h
      refine c1 ?_
      exact Int.mul_neg_of_neg_of_pos h hJ'
    omega
  · have : Fp.val s Q < ((2 ^ 16 : Nat) : Int) := Int.lt_of_mul_lt_mul_right (by omega : Fp.val s Q * J < ((2 ^ 16 : Nat) : Int) * J) (Int.le_of_lt hJ')
    have e : ((2 ^ 16 : Nat) : Int) = 65536 := by decide
    omega

theorem end_Uint32 : Fp.un Ieee.double 4751297606875873280 = ((2 ^ 32 * 2 ^ Fp.deep Ieee.double : Nat) : Int) := by decide +kernel
theorem Uint_32_known (a : Nat) (mode : Int) (ha : a < 18446744073709551616) (hn : a % 9223372036854775808 ≤ 9218868437227405312) (hmode : 0 ≤ mode ∧ mode ≤ 4) : ∃ fl : Int, ∀ w, Calls Tryd.prog 38 #[.float .f64 a, .int .i64 32, .int .i64 mode] w fun e' w' => e' = .returned (.tuple #[.int .u64 (uOf 32 (Fp.un Ieee.double (hWord a mode))), .int .i64 fl, .int .i64 0]) ∧ Within w w' := by
  obtain ⟨h1, h2, _, h4⟩ := hWord_fin ha hmode hn
  have WH := Lib.hid (fun w => Whole_any a mode ha w)
  rw [show nErr mode = 0 from if_pos hmode] at WH
  have hx := self_ne h2
  have hl := un_lt (x := hWord a mode) (y := 0) h2 (by decide)
  have hg := ge_un (x := hWord a mode) (y := 4751297606875873280) h2 (by decide)
  rw [zero_un] at hl
  rw [end_Uint32] at hg
  unfold uOf
  generalize hu : Fp.un Ieee.double (hWord a mode) = u at *
  by_cases c1 : u < 0
  · rw [decide_eq_true c1] at hl
    rw [if_pos c1]
    exact ⟨8, fun w => Uint_32_low a _ mode _ WH hx hl w⟩
  rw [decide_eq_false c1] at hl
  rw [if_neg c1]
  by_cases c2 : ((2 ^ 32 * 2 ^ Fp.deep Ieee.double : Nat) : Int) ≤ u
  · rw [decide_eq_true c2] at hg
    rw [if_pos c2]
    exact ⟨8, fun w => Uint_32_high a _ mode _ WH hx hl hg w⟩
  rw [decide_eq_false c2] at hg
  rw [if_neg c2]
  refine ⟨_, fun w => Uint_32_in a _ mode _ WH _ hx hl hg ?_ w⟩
  obtain ⟨Q, s, hI, hv⟩ := h4 (fin_of_un (W := 32) h1 (by decide) h2 (by rw [hu]; omega) (by rw [hu]; omega))
  have hJ := Nat.two_pow_pos (Fp.deep Ieee.double)
  have hq : u / ((2 ^ Fp.deep Ieee.double : Nat) : Int) = Fp.val s Q := by rw [hv]; exact Int.mul_ediv_cancel _ (Int.ne_of_gt (Int.natCast_pos.2 hJ))
  unfold floatToIntVal
  show (match (Ieee.double.read _).toInt .zero with | some n => if IntKind.u64.min ≤ n ∧ n ≤ IntKind.u64.max then some n else none | none => none) = _
  rw [int_of_is hI, hq]
  show (if (0 : Int) ≤ Fp.val s Q ∧ Fp.val s Q ≤ 18446744073709551615 then some (Fp.val s Q) else none) = _
  rw [if_pos]
  rw [hv] at c1
  rw [hv, Int.natCast_mul] at c2
  have hJ' : (0 : Int) < ((2 ^ Fp.deep Ieee.double : Nat) : Int) := Int.natCast_pos.2 hJ
  clear hJ
  generalize ((2 ^ Fp.deep Ieee.double : Nat) : Int) = J at *
  constructor
  · have : ¬ Fp.val s Q < 0 := by
      intro h
      refine c1 ?_
      exact Int.mul_neg_of_neg_of_pos h hJ'
    omega
  · have : Fp.val s Q < ((2 ^ 32 : Nat) : Int) := Int.lt_of_mul_lt_mul_right (by omega : Fp.val s Q * J < ((2 ^ 32 : Nat) : Int) * J) (Int.le_of_lt hJ')
    have e : ((2 ^ 32 : Nat) : Int) = 4294967296 := by decide
    omega

theorem end_Uint64 : Fp.un Ieee.double 4895412794951729152 = ((2 ^ 64 * 2 ^ Fp.deep Ieee.double : Nat) : Int) := by decide +kernel
theorem Uint_64_known (a : Nat) (mode : Int) (ha : a < 18446744073709551616) (hn : a % 9223372036854775808 ≤ 9218868437227405312) (hmode : 0 ≤ mode ∧ mode ≤ 4) : ∃ fl : Int, ∀ w, Calls Tryd.prog 38 #[.float .f64 a, .int .i64 64, .int .i64 mode] w fun e' w' => e' = .returned (.tuple #[.int .u64 (uOf 64 (Fp.un Ieee.double (hWord a mode))), .int .i64 fl, .int .i64 0]) ∧ Within w w' := by
  obtain ⟨h1, h2, _, h4⟩ := hWord_fin ha hmode hn
  have WH := Lib.hid (fun w => Whole_any a mode ha w)
  rw [show nErr mode = 0 from if_pos hmode] at WH
  have hx := self_ne h2
  have hl := un_lt (x := hWord a mode) (y := 0) h2 (by decide)
  have hg := ge_un (x := hWord a mode) (y := 4895412794951729152) h2 (by decide)
  rw [zero_un] at hl
  rw [end_Uint64] at hg
  unfold uOf
  generalize hu : Fp.un Ieee.double (hWord a mode) = u at *
  by_cases c1 : u < 0
  · rw [decide_eq_true c1] at hl
    rw [if_pos c1]
    exact ⟨8, fun w => Uint_64_low a _ mode _ WH hx hl w⟩
  rw [decide_eq_false c1] at hl
  rw [if_neg c1]
  by_cases c2 : ((2 ^ 64 * 2 ^ Fp.deep Ieee.double : Nat) : Int) ≤ u
  · rw [decide_eq_true c2] at hg
    rw [if_pos c2]
    exact ⟨8, fun w => Uint_64_high a _ mode _ WH hx hl hg w⟩
  rw [decide_eq_false c2] at hg
  rw [if_neg c2]
  refine ⟨_, fun w => Uint_64_in a _ mode _ WH _ hx hl hg ?_ w⟩
  obtain ⟨Q, s, hI, hv⟩ := h4 (fin_of_un (W := 64) h1 (by decide) h2 (by rw [hu]; omega) (by rw [hu]; omega))
  have hJ := Nat.two_pow_pos (Fp.deep Ieee.double)
  have hq : u / ((2 ^ Fp.deep Ieee.double : Nat) : Int) = Fp.val s Q := by rw [hv]; exact Int.mul_ediv_cancel _ (Int.ne_of_gt (Int.natCast_pos.2 hJ))
  unfold floatToIntVal
  show (match (Ieee.double.read _).toInt .zero with | some n => if IntKind.u64.min ≤ n ∧ n ≤ IntKind.u64.max then some n else none | none => none) = _
  rw [int_of_is hI, hq]
  show (if (0 : Int) ≤ Fp.val s Q ∧ Fp.val s Q ≤ 18446744073709551615 then some (Fp.val s Q) else none) = _
  rw [if_pos]
  rw [hv] at c1
  rw [hv, Int.natCast_mul] at c2
  have hJ' : (0 : Int) < ((2 ^ Fp.deep Ieee.double : Nat) : Int) := Int.natCast_pos.2 hJ
  clear hJ
  generalize ((2 ^ Fp.deep Ieee.double : Nat) : Int) = J at *
  constructor
  · have : ¬ Fp.val s Q < 0 := by
      intro h
      refine c1 ?_
      exact Int.mul_neg_of_neg_of_pos h hJ'
    omega
  · have : Fp.val s Q < ((2 ^ 64 : Nat) : Int) := Int.lt_of_mul_lt_mul_right (by omega : Fp.val s Q * J < ((2 ^ 64 : Nat) : Int) * J) (Int.le_of_lt hJ')
    have e : ((2 ^ 64 : Nat) : Int) = 18446744073709551616 := by decide
    omega

end Go.Proofs.YtifgngmebnjfkaaDoor
