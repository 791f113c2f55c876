/- AnatomyParts: any number's parts, and the numbers that parts make: the walk. -/
import Derived.Test.YthjaponkbodooaaDoorRef9
import Derived.Test.YthjaponkbodooaaDoorAwake
namespace Go.Proofs.YthjaponkbodooaaDoor
open Go.RowKit

theorem narrow_bits {x s : Nat} (hx : x % 9223372036854775808 < 9218868437227405312) (hs : s % 2147483648 < 2139095040) (hw : Ieee.single.write (Ieee.double.read x) = s) : floatToFloatBits .f64 x .f32 = some s := by
  obtain ⟨m, e, r1, _⟩ := Fp.read_fin Ieee.double x (by rw [Fp.rg64, Fp.dI]; exact hx)
  obtain ⟨n, k, r2, _⟩ := Fp.read_fin Ieee.single s (by rw [Fp.rg32, Fp.sI]; exact hs)
  unfold floatToFloatBits
  rw [if_neg (by decide)]
  show (match Ieee.double.read x with | .nan _ _ => none | .infinity s => some (Ieee.single.write (.infinity s)) | .number s m e => if (Ieee.single.read (Ieee.single.write (.number s m e))).isInfinity then none else some (Ieee.single.write (.number s m e))) = some s
  rw [r1] at hw ⊢
  show (if (Ieee.single.read (Ieee.single.write _)).isInfinity then none else some (Ieee.single.write _)) = some s
  rw [hw, r2]; exact if_neg Bool.false_ne_true
theorem widen_bits {x s : Nat} (hx : x % 2147483648 < 2139095040) (hs : s % 9223372036854775808 < 9218868437227405312) (hw : Ieee.double.write (Ieee.single.read x) = s) : floatToFloatBits .f32 x .f64 = some s := by
  obtain ⟨m, e, r1, _⟩ := Fp.read_fin Ieee.single x (by rw [Fp.rg32, Fp.sI]; exact hx)
  obtain ⟨n, k, r2, _⟩ := Fp.read_fin Ieee.double s (by rw [Fp.rg64, Fp.dI]; exact hs)
  unfold floatToFloatBits
  rw [if_neg (by decide)]
  show (match Ieee.single.read x with | .nan _ _ => none | .infinity s => some (Ieee.double.write (.infinity s)) | .number s m e => if (Ieee.double.read (Ieee.double.write (.number s m e))).isInfinity then none else some (Ieee.double.write (.number s m e))) = some s
  rw [r1] at hw ⊢
  show (if (Ieee.double.read (Ieee.double.write _)).isInfinity then none else some (Ieee.double.write _)) = some s
  rw [hw, r2]; exact if_neg Bool.false_ne_true
theorem self_subS {y : Nat} (h : y % 2147483648 < 2139095040) : Ieee.single.sub y y = some 0 := by
  rw [Fp.sub_fin Ieee.single y y (by rw [Fp.rg32, Fp.sI]; exact h) (by rw [Fp.rg32, Fp.sI]; exact h), Int.sub_self, if_pos rfl]
  have : (Fp.sg Ieee.single y && !Fp.sg Ieee.single y) = false := by cases Fp.sg Ieee.single y <;> rfl
  rw [this]; decide +kernel
theorem self_subInfS {y : Nat} (h : y % 2147483648 = 2139095040) : Ieee.single.sub y y = none := by
  unfold Ieee.Format.sub
  rw [Fp.read_inf Ieee.single y (by rw [Fp.rg32, Fp.sI]; exact h) Fp.sBI]
  cases Fp.sg Ieee.single y <;> rfl
theorem nan_zeroS (t y : Nat) : (FloatKind.f32.format.order ((Question.nanBits .f32 y y).cut t) 0 != some .eq) = true := by
  have e : (Question.nanBits .f32 y y).cut t = (t % 2) * 2 ^ 31 + 0x7f800000 + 1 + (t / 2) % (2 ^ 23 - 1) := rfl
  have hn : Fp.isNaN32 ((Question.nanBits .f32 y y).cut t) = true := decide_eq_true (by
    rw [e]
    have h1 : t / 2 % (2 ^ 23 - 1) < 8388607 := Nat.mod_lt _ (by decide)
    generalize t / 2 % (2 ^ 23 - 1) = r at *
    rcases Nat.mod_two_eq_zero_or_one t with h | h <;> rw [h] <;> omega)
  show (Ieee.single.order _ 0 != some .eq) = true
  rw [Fp.order32_nan _ 0 (.inl hn)]; rfl
theorem nan_partsS {a : Nat} (h : pErrS a ≠ 0) : pNegS a = false ∧ pMantS a = 0 ∧ pExpS a = 0 ∧ pErrS a = 4 := by
  have h7 : expS a = 255 := by unfold pErrS at h; split at h <;> first | assumption | exact absurd rfl h
  unfold pNegS pMantS pExpS pErrS
  rw [if_pos h7, if_pos h7, if_pos (.inl h7), if_pos h7]
  exact ⟨rfl, rfl, rfl, rfl⟩
theorem inf_exp {y : Nat} (h : 2139095040 ≤ y % 2147483648) : pErrS y ≠ 0 := by
  have : expS y = 255 := by
    unfold expS canonS
    cases hn : nanS y
    · have := nanS_false hn
      rw [if_neg (by simp)]; omega
    · rw [if_pos rfl]
  unfold pErrS; rw [if_pos this]; decide
theorem Rparts32_any (y : Nat) (hy : y < 4294967296) (w : World) : Calls Tryd.prog 18 #[.float .f32 y] w fun e w' => e = .returned (.tuple #[.agg #[.bool (pNegS y), .int .u64 (pMantS y), .int .i64 (pExpS y)], .int .i64 (pErrS y)]) ∧ Within w w' := by
  by_cases hn : nanS y = true
  · have h : 2139095040 ≤ y % 2147483648 := by unfold nanS at hn; simp at hn; omega
    obtain ⟨p1, p2, p3, p4⟩ := nan_partsS (inf_exp h)
    rw [p1, p2, p3, p4]
    exact Rparts32_nan y w (by rw [ne_self32, hn])
  have hn' : nanS y = false := by simpa using hn
  have hr := nanS_false hn'
  have hx : (FloatKind.f32.format.order y y != some .eq) = false := by rw [ne_self32, hn']
  by_cases hi : y % 2147483648 = 2139095040
  · obtain ⟨p1, p2, p3, p4⟩ := nan_partsS (inf_exp (Nat.le_of_eq hi.symm))
    rw [p1, p2, p3, p4]
    exact Rparts32_inf y w hx (fun t w => run_float_nan .sub t .f32 y y _ w (.inl rfl) (self_subInfS hi)) (fun t => nan_zeroS t y)
  have hf : y % 2147483648 < 2139095040 := by omega
  obtain ⟨w1, w2, w3, w4, w5, w6, w7, w8⟩ := wide_fin hy hf
  have PA := Lib.hid (fun w => Rparts_D (wideS y) w1 w)
  rw [w5, w6, w7, w8] at PA
  have h0 : pErrS y = 0 := (magS_parts hf).2.1
  rw [h0]
  exact Rparts32_fin y _ _ _ _ w hx (fun t P w => run_float_arith w _ _ _ _ _ _ (self_subS hf)) (by decide) (fun w => run_convert_float_float w _ _ _ _ _ _ (by kernel_rfl) Tryd.underlying29 (widen_bits hf w2 (widen_fin hy hf))) PA

theorem Rof32_any (ng : Bool) (mant : Nat) (e : Int) (hm : mant < 18446744073709551616) (hlo : -9223372036854775808 ≤ e) (w : World) : Calls Tryd.prog 23 #[.agg #[.bool ng, .int .u64 mant, .int .i64 e]] w fun e' w' => e' = .returned (.tuple #[.float .f32 (madeS ng mant e), .int .i64 (madeES mant e)]) ∧ Within w w' := by
  have OF := Lib.hid (fun w => Rof_any ng mant e hm hlo w)
  by_cases h0 : mant = 0
  · subst h0
    have Z := zero_parts ng
    rw [(made_zero ng e).1, (made_zero ng e).2] at OF
    rw [(made_zeroS ng e).1, (made_zeroS ng e).2]
    have PA := Lib.hid (fun w => Rparts_D (if ng then 9223372036854775808 else 0) (by split <;> decide) w)
    rw [Z.1, Z.2.1, Z.2.2.1, Z.2.2.2] at PA
    refine Rof32_zero ng 0 e w _ _ (fun w => run_convert_float_float w _ _ _ _ _ _ (by kernel_rfl) Tryd.underlying35 ?_) OF PA
    cases ng <;> decide +kernel
  cases hb : mayD (oddM mant) (oddE mant e)
  · have hbS : mayS (oddM mant) (oddE mant e) = false := by
      cases h : mayS (oddM mant) (oddE mant e)
      · rfl
      · rw [may_wide h] at hb; exact hb
    rw [(made_bad ng h0 hm hb).1, (made_bad ng h0 hm hb).2] at OF
    rw [(made_badS ng h0 hm hbS).1, (made_badS ng h0 hm hbS).2]
    exact Rof32_err ng mant e w OF
  obtain ⟨b1, b2⟩ := made_odd ng h0 hm hb
  obtain ⟨m, ho, _⟩ := odd_split h0 hm
  have hol := oddM_lt64 hm
  obtain ⟨w1, w2, w3, _, w5, w6, w7, w8, w9, w10⟩ := word_parts ng (by omega) hol hb
  rw [← b1] at w1 w2 w3 w5 w7 w8 w9 w10
  rw [b2] at OF
  have PA := Lib.hid (fun w => Rparts_D (madeD ng mant e) w1 w)
  rw [w7, w8, w9, w10] at PA
  have MY := Lib.hid (fun w => Rmay_S (oddM mant) (oddE mant e) (by omega) hol w)
  have hM : ((oddM mant : Int) != 0) = true := by rw [bne_iff_ne]; omega
  cases hbS : mayS (oddM mant) (oddE mant e)
  · rw [hbS] at MY
    rw [(made_badS ng h0 hm hbS).1, (made_badS ng h0 hm hbS).2]
    exact Rof32_false ng mant e w _ _ _ hM OF PA MY
  · rw [hbS] at MY
    obtain ⟨s1, s2, s3, s4, s5, s6⟩ := made_oddS ng h0 hm hbS
    rw [s1]
    refine Rof32_true ng mant e w _ _ _ _ (fun w => run_convert_float_float w _ _ _ _ _ _ (by kernel_rfl) Tryd.underlying35 (narrow_bits w2 s3 (narrow_fin w1 w2 s2 s3 (by rw [s4, w3]) ?_))) hM OF PA MY
    have hg := Fp.sgap_eq
    rw [w5, s5, Nat.mul_assoc, ← Nat.pow_add]
    congr 2; omega

end Go.Proofs.YthjaponkbodooaaDoor
