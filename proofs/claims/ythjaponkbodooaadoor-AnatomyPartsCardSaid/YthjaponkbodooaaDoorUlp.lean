/- The step of a number, as the difference of two neighbours (no program in sight). -/
import Derived.Test.YthjaponkbodooaaDoorAna5
import Derived.Test.YthjaponkbodooaaDoorIeee
import Derived.Laws.FloatArith
namespace Go.Proofs.YthjaponkbodooaaDoor

def stepRD (m : Nat) : Nat := if m / 4503599627370496 ≤ 52 then 2 ^ (m / 4503599627370496 - 1) else (m / 4503599627370496 - 52) * 4503599627370496

theorem mag_stepRD (m : Nat) : Fp.mag Ieee.double (stepRD m) = Fp.step Ieee.double m := by
  unfold Fp.mag Fp.step stepRD
  rw [Fp.dB]
  generalize m / 4503599627370496 = q
  by_cases h : q ≤ 52
  · have hlt : 2 ^ (q - 1) < 4503599627370496 := by
      rw [show 4503599627370496 = 2 ^ 52 from rfl]
      exact Nat.pow_lt_pow_right (by decide) (by omega)
    rw [if_pos h, if_pos hlt]
  · rw [if_neg h]
    obtain ⟨j, rfl⟩ : ∃ j, q = j + 53 := ⟨q - 53, by omega⟩
    rw [show j + 53 - 52 = j + 1 by omega, if_neg (by omega), show (j + 1) * 4503599627370496 % 4503599627370496 = 0 by omega, show (j + 1) * 4503599627370496 / 4503599627370496 = j + 1 by omega, show j + 1 - 1 = j by omega, show j + 53 - 1 = 52 + j by omega, Nat.pow_add]

theorem stepRD_le (m : Nat) (h : m < 9218868437227405312) : stepRD m < 9218868437227405312 := by
  unfold stepRD
  have hq : m / 4503599627370496 < 2047 := by omega
  generalize m / 4503599627370496 = q at *
  by_cases h : q ≤ 52
  · have hlt : 2 ^ (q - 1) < 4503599627370496 := by
      rw [show 4503599627370496 = 2 ^ 52 from rfl]
      exact Nat.pow_lt_pow_right (by decide) (by omega)
    rw [if_pos h]; omega
  · rw [if_neg h]; omega

/-- the difference of two neighbours -/
theorem sub_nextD (m : Nat) (h : m + 1 < 9218868437227405312) : Ieee.double.sub (m + 1) m = some (stepRD m) := by
  have e1 : Fp.rg Ieee.double (m + 1) = m + 1 := by rw [Fp.rg64]; omega
  have e2 : Fp.rg Ieee.double m = m := by rw [Fp.rg64]; omega
  have s1 : Fp.sg Ieee.double (m + 1) = false := by rw [Fp.sg64, show (m + 1) / 9223372036854775808 = 0 by omega]; rfl
  have s2 : Fp.sg Ieee.double m = false := by rw [Fp.sg64, show m / 9223372036854775808 = 0 by omega]; rfl
  rw [Fp.sub_fin Ieee.double (m + 1) m (by rw [e1, Fp.dI]; exact h) (by rw [e2, Fp.dI]; omega)]
  have u : Fp.un Ieee.double (m + 1) - Fp.un Ieee.double m = (Fp.mag Ieee.double (stepRD m) : Nat) := by
    unfold Fp.un
    rw [s1, s2, e1, e2, mag_stepRD, Fp.mag_succ]
    simp only [Bool.false_eq_true, if_false]
    omega
  have hp : 0 < Fp.mag Ieee.double (stepRD m) := by rw [mag_stepRD]; exact Fp.step_pos Ieee.double m
  have hle := stepRD_le m (by omega)
  rw [u, if_neg (by omega), decide_eq_false (by omega), Int.natAbs_natCast, Fp.rung_mag Ieee.double Fp.dF _ (by rw [Fp.dI]; omega)]
  rfl

theorem ulp_finD (b : Nat) (hb : b < 18446744073709551616) (hm : b % 9223372036854775808 < 9218868437227405312) : ulpD b = stepRD (b % 9223372036854775808) := by
  have hn : nanD b = false := by unfold nanD; exact decide_eq_false (by omega)
  have hc : canonD b = b := by unfold canonD; rw [hn]; rfl
  have he : expD b = b % 9223372036854775808 / 4503599627370496 := by unfold expD; rw [hc]; omega
  unfold ulpD stepRD
  rw [he]
  have hq : b % 9223372036854775808 / 4503599627370496 < 2047 := by omega
  generalize b % 9223372036854775808 / 4503599627370496 = q at *
  rw [if_neg (by omega)]
  obtain ⟨j, hj⟩ : ∃ j : Nat, (if q = 0 then 1 else q) = j + 1 := ⟨(if q = 0 then 1 else q) - 1, by split <;> omega⟩
  have hjq : j = q - 1 := by split at hj <;> omega
  rw [hj]
  have o1 : oddM 1 = 1 := by decide +kernel
  have o2 : ∀ e, oddE 1 e = e := fun e => by unfold oddE; rw [show Lib.ctz 64 1 = 0 by decide +kernel]; omega
  have o3 : Lib.bitLen 1 = 1 := by decide +kernel
  have hb0 : badD 1 (((j + 1 : Nat) : Int) - 1075) = false := by
    unfold badD; rw [o1, o2, o3]
    simp only [Bool.or_eq_false_iff, decide_eq_false_iff_not]
    omega
  have hd : downD 1 (((j + 1 : Nat) : Int) - 1075) = min 52 j := by
    unfold downD; rw [o1, o2, o3]; omega
  have ht : topD 1 (((j + 1 : Nat) : Int) - 1075) = 2 ^ min 52 j := by
    unfold topD; rw [hd, o1, Nat.one_mul]
  unfold madeD
  rw [if_neg (by decide), hb0]
  simp only [Bool.false_eq_true, if_false]
  unfold fieldD
  rw [ht, hd, o2]
  by_cases h : q ≤ 52
  · have hlt : 2 ^ (q - 1) < 4503599627370496 := by
      rw [show 4503599627370496 = 2 ^ 52 from rfl]
      exact Nat.pow_lt_pow_right (by decide) (by omega)
    rw [if_pos h, show min 52 j = q - 1 by omega, if_pos hlt, if_neg (by omega), Nat.mod_eq_of_lt hlt]
    generalize 2 ^ (q - 1) = t at *
    unfold joinD
    rw [if_neg (by omega)]
    unfold bitsOfD canonD
    rw [if_neg (by unfold nanD; simp; omega)]
    simp
  · rw [if_neg h, show min 52 j = 52 by omega, if_neg (show ¬ 2 ^ 52 < 4503599627370496 by decide), if_neg (by omega), show 2 ^ 52 % 4503599627370496 = 0 by decide]
    unfold joinD
    rw [if_neg (by omega)]
    unfold bitsOfD
    rw [show (((j + 1 : Nat) : Int) - 1075 - ((52 : Nat) : Int) + 1075).toNat = q - 52 by omega]
    unfold canonD
    rw [if_neg (by unfold nanD; simp; omega)]
    simp

theorem run_sub64 {x y r : Nat} (h : Ieee.double.sub x y = some r) (t : TypeId) (P : Program) (w : World) : (binOp .sub t (.float .f64 x) (.float .f64 y)).run P w = .ok (.float .f64 r) w :=
  run_float_arith w _ _ _ _ _ _ h

def stepRS (m : Nat) : Nat := if m / 8388608 ≤ 23 then 2 ^ (m / 8388608 - 1) else (m / 8388608 - 23) * 8388608

theorem mag_stepRS (m : Nat) : Fp.mag Ieee.single (stepRS m) = Fp.step Ieee.single m := by
  unfold Fp.mag Fp.step stepRS
  rw [Fp.sB]
  generalize m / 8388608 = q
  by_cases h : q ≤ 23
  · have hlt : 2 ^ (q - 1) < 8388608 := by
      rw [show 8388608 = 2 ^ 23 from rfl]
      exact Nat.pow_lt_pow_right (by decide) (by omega)
    rw [if_pos h, if_pos hlt]
  · rw [if_neg h]
    obtain ⟨j, rfl⟩ : ∃ j, q = j + 24 := ⟨q - 24, by omega⟩
    rw [show j + 24 - 23 = j + 1 by omega, if_neg (by omega), show (j + 1) * 8388608 % 8388608 = 0 by omega, show (j + 1) * 8388608 / 8388608 = j + 1 by omega, show j + 1 - 1 = j by omega, show j + 24 - 1 = 23 + j by omega, Nat.pow_add]

theorem stepRS_le (m : Nat) (h : m < 2139095040) : stepRS m < 2139095040 := by
  unfold stepRS
  have hq : m / 8388608 < 255 := by omega
  generalize m / 8388608 = q at *
  by_cases h : q ≤ 23
  · have hlt : 2 ^ (q - 1) < 8388608 := by
      rw [show 8388608 = 2 ^ 23 from rfl]
      exact Nat.pow_lt_pow_right (by decide) (by omega)
    rw [if_pos h]; omega
  · rw [if_neg h]; omega

/-- the difference of two neighbours -/
theorem sub_nextS (m : Nat) (h : m + 1 < 2139095040) : Ieee.single.sub (m + 1) m = some (stepRS m) := by
  have e1 : Fp.rg Ieee.single (m + 1) = m + 1 := by rw [Fp.rg32]; omega
  have e2 : Fp.rg Ieee.single m = m := by rw [Fp.rg32]; omega
  have s1 : Fp.sg Ieee.single (m + 1) = false := by rw [Fp.sg32, show (m + 1) / 2147483648 = 0 by omega]; rfl
  have s2 : Fp.sg Ieee.single m = false := by rw [Fp.sg32, show m / 2147483648 = 0 by omega]; rfl
  rw [Fp.sub_fin Ieee.single (m + 1) m (by rw [e1, Fp.sI]; exact h) (by rw [e2, Fp.sI]; omega)]
  have u : Fp.un Ieee.single (m + 1) - Fp.un Ieee.single m = (Fp.mag Ieee.single (stepRS m) : Nat) := by
    unfold Fp.un
    rw [s1, s2, e1, e2, mag_stepRS, Fp.mag_succ]
    simp only [Bool.false_eq_true, if_false]
    omega
  have hp : 0 < Fp.mag Ieee.single (stepRS m) := by rw [mag_stepRS]; exact Fp.step_pos Ieee.single m
  have hle := stepRS_le m (by omega)
  rw [u, if_neg (by omega), decide_eq_false (by omega), Int.natAbs_natCast, Fp.rung_mag Ieee.single Fp.sF _ (by rw [Fp.sI]; omega)]
  rfl

theorem ulp_finS (b : Nat) (hb : b < 4294967296) (hm : b % 2147483648 < 2139095040) : ulpS b = stepRS (b % 2147483648) := by
  have hn : nanS b = false := by unfold nanS; exact decide_eq_false (by omega)
  have hc : canonS b = b := by unfold canonS; rw [hn]; rfl
  have he : expS b = b % 2147483648 / 8388608 := by unfold expS; rw [hc]; omega
  unfold ulpS stepRS
  rw [he]
  have hq : b % 2147483648 / 8388608 < 255 := by omega
  generalize b % 2147483648 / 8388608 = q at *
  rw [if_neg (by omega)]
  obtain ⟨j, hj⟩ : ∃ j : Nat, (if q = 0 then 1 else q) = j + 1 := ⟨(if q = 0 then 1 else q) - 1, by split <;> omega⟩
  have hjq : j = q - 1 := by split at hj <;> omega
  rw [hj]
  have o1 : oddM 1 = 1 := by decide +kernel
  have o2 : ∀ e, oddE 1 e = e := fun e => by unfold oddE; rw [show Lib.ctz 64 1 = 0 by decide +kernel]; omega
  have o3 : Lib.bitLen 1 = 1 := by decide +kernel
  have hb0 : badS 1 (((j + 1 : Nat) : Int) - 150) = false := by
    unfold badS; rw [o1, o2, o3]
    simp only [Bool.or_eq_false_iff, decide_eq_false_iff_not]
    omega
  have hd : downS 1 (((j + 1 : Nat) : Int) - 150) = min 23 j := by
    unfold downS; rw [o1, o2, o3]; omega
  have ht : topS 1 (((j + 1 : Nat) : Int) - 150) = 2 ^ min 23 j := by
    unfold topS; rw [hd, o1, Nat.one_mul]
  unfold madeS
  rw [if_neg (by decide), hb0]
  simp only [Bool.false_eq_true, if_false]
  unfold fieldS
  rw [ht, hd, o2]
  by_cases h : q ≤ 23
  · have hlt : 2 ^ (q - 1) < 8388608 := by
      rw [show 8388608 = 2 ^ 23 from rfl]
      exact Nat.pow_lt_pow_right (by decide) (by omega)
    rw [if_pos h, show min 23 j = q - 1 by omega, if_pos hlt, if_neg (by omega), Nat.mod_eq_of_lt hlt]
    generalize 2 ^ (q - 1) = t at *
    unfold joinS
    rw [if_neg (by omega)]
    unfold bitsOfS canonS
    rw [if_neg (by unfold nanS; simp; omega)]
    simp
  · rw [if_neg h, show min 23 j = 23 by omega, if_neg (show ¬ 2 ^ 23 < 8388608 by decide), if_neg (by omega), show 2 ^ 23 % 8388608 = 0 by decide]
    unfold joinS
    rw [if_neg (by omega)]
    unfold bitsOfS
    rw [show (((j + 1 : Nat) : Int) - 150 - ((23 : Nat) : Int) + 150).toNat = q - 23 by omega]
    unfold canonS
    rw [if_neg (by unfold nanS; simp; omega)]
    simp

theorem run_sub32 {x y r : Nat} (h : Ieee.single.sub x y = some r) (t : TypeId) (P : Program) (w : World) : (binOp .sub t (.float .f32 x) (.float .f32 y)).run P w = .ok (.float .f32 r) w :=
  run_float_arith w _ _ _ _ _ _ h

end Go.Proofs.YthjaponkbodooaaDoor
