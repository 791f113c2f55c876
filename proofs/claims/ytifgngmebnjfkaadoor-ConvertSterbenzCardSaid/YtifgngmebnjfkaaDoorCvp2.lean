/- When a number fits a single; whole numbers there and back (no program in sight, but Int's walk). -/
import Derived.Test.YtifgngmebnjfkaaDoorCvp1
namespace Go.Proofs.YtifgngmebnjfkaaDoor

theorem wide_sgn (b : Bool) : wWord (sgnS b) = sgnD b ∧ wWord (2139095040 + sgnS b) = 9218868437227405312 + sgnD b := by cases b <;> decide +kernel
theorem num_eq {x n : Nat} {b : Bool} (hr : Fp.Rep Ieee.double n) (h : Fp.num Ieee.double b n = x) : magD x = n ∧ x % 9223372036854775808 < 9218868437227405312 := by
  have hl := num_lt hr
  have e : x % 9223372036854775808 = Fp.num Ieee.double false n := by
    rw [← h, num_sgn]; unfold sgnD; split <;> omega
  unfold magD
  rw [e]
  exact ⟨(rep_lt hr).2, hl⟩
theorem num_mag {x : Nat} (hx : x < 18446744073709551616) (hf : x % 9223372036854775808 < 9218868437227405312) : x = Fp.num Ieee.double (ngD x) (magD x) := by
  have h := sgn_split hx
  have e := pos_rung (r := x % 9223372036854775808) (n := magD x) rfl
  rw [num_sgn, e]; exact h

/-- a number fits a single just where the nearest single is that number -/
theorem fits_iff {x : Nat} (hx : x < 18446744073709551616) (hn : ¬ 9218868437227405312 < x % 9223372036854775808) : nFlags x 0 = 0 ↔ wWord (nWord x 0) = x := by
  have hm' : ¬¬((0 : Int) ≤ 0 ∧ (0 : Int) ≤ 4) := by decide
  have hsp := sgn_split hx
  unfold nWord nFlags
  rw [if_neg hm', if_neg hm', if_neg hn, if_neg hn]
  by_cases hz : x % 9223372036854775808 = 0
  · rw [if_pos hz, if_pos hz, (wide_sgn _).1]
    rw [hz, Nat.zero_add] at hsp
    exact ⟨fun _ => hsp.symm, fun _ => rfl⟩
  rw [if_neg hz, if_neg hz]
  by_cases hi : x % 9223372036854775808 = 9218868437227405312
  · rw [if_pos hi, if_pos hi, (wide_sgn _).2]
    rw [hi] at hsp
    exact ⟨fun _ => hsp.symm, fun _ => rfl⟩
  rw [if_neg hi, if_neg hi]
  have hf : x % 9223372036854775808 < 9218868437227405312 := by omega
  have h0 : magD x ≠ 0 := fun h => hz (magD_zero.1 h)
  have hR := magD_rep hf
  have hxn := num_mag hx hf
  obtain ⟨t1, t2, _⟩ := top53_bounds h0 hR
  have hLI := lost_iff h0 hR 24 (-149) (by decide) (ngD x) 0
  have hA := fun h => sAmt_rep (ngD x) (((magD x).log2 : Int) - 1126) 0 (m := top53 (magD x)) (by omega) (by omega) h
  have hRA : rOver 24 (-149) 127 (ngD x) (top53 (magD x)) (((magD x).log2 : Int) - 1126) 0 = false → Fp.Rep Ieee.double (rAmt 24 (-149) (ngD x) (top53 (magD x)) (((magD x).log2 : Int) - 1126) 0) := fun h => rAmt_rep (D := 24) (lo := -149) (most := 127) (ngD x) (((magD x).log2 : Int) - 1126) 0 (m := top53 (magD x)) (by omega) (by omega) (by decide) (by decide) (by decide) h
  have hamt : rAmt 24 (-149) (ngD x) (top53 (magD x)) (((magD x).log2 : Int) - 1126) 0 = rQ 24 (-149) (ngD x) (top53 (magD x)) (((magD x).log2 : Int) - 1126) 0 * 2 ^ (rK 24 (-149) (top53 (magD x)) (((magD x).log2 : Int) - 1126) + 1074).toNat := rfl
  rw [flags_zero]
  unfold sWord
  generalize rQ 24 (-149) (ngD x) (top53 (magD x)) (((magD x).log2 : Int) - 1126) 0 = q at *
  generalize rAmt 24 (-149) (ngD x) (top53 (magD x)) (((magD x).log2 : Int) - 1126) 0 = amt at *
  generalize rLost 24 (-149) (top53 (magD x)) (((magD x).log2 : Int) - 1126) = lo at *
  cases hov : rOver 24 (-149) 127 (ngD x) (top53 (magD x)) (((magD x).log2 : Int) - 1126) 0
  · rw [if_neg Bool.false_ne_true]
    obtain ⟨r1, r2⟩ := hA hov
    rw [← num_sgnS, wide_num _ r1, ← r2]
    constructor
    · rintro ⟨_, h⟩
      rw [hLI.1 h]; exact hxn.symm
    · intro h
      have e := (num_eq (hRA hov) h).1
      refine ⟨rfl, (hLI.2 q ?_).1⟩
      rw [← hamt]; exact e
  · have ht : rTop (ngD x) 0 = false := by unfold rTop; cases ngD x <;> decide
    rw [if_pos rfl, ht, if_neg Bool.false_ne_true, (wide_sgn _).2]
    constructor
    · rintro ⟨h, _⟩; cases h
    · intro h
      exfalso
      have : x % 9223372036854775808 = 9218868437227405312 := by rw [← h]; unfold sgnD; split <;> omega
      omega

/-- a whole number of at most 53 digits is rounded to itself -/
theorem int_exact {m : Nat} (b : Bool) (mode : Int) (hmode : 0 ≤ mode ∧ mode ≤ 4) (h0 : m ≠ 0) (hm : m ≤ 9007199254740992) :
    fWordD m b mode = Fp.num Ieee.double b (m * 2 ^ Fp.deep Ieee.double) ∧ fFlagsD m b mode = 0 := by
  have hm' : ¬¬(0 ≤ mode ∧ mode ≤ 4) := fun h => h hmode
  obtain ⟨b1, b2, b3, b4⟩ := bl_bounds h0 (show m < 18446744073709551616 by omega)
  have hL : Lib.bitLen m ≤ 54 := bl_le (by omega) (k := 53) hm
  have hk : rK 53 (-1074) m 0 = (Lib.bitLen m : Nat) - 53 := by unfold rK; omega
  have hqle := (rQ_le (D := 53) (lo := -1074) b 0 mode h0 (show m < 18446744073709551616 by omega) (by decide)).1
  have hlq : Lib.bitLen (rQ 53 (-1074) b m 0 mode) ≤ 54 := bl_le (k := 53) (Nat.lt_of_le_of_lt hqle (by decide)) hqle
  have hov : rOver 53 (-1074) 1023 b m 0 mode = false := by unfold rOver; rw [hk]; exact decide_eq_false (by omega)
  have hdeep : (2 : Nat) ^ Fp.deep Ieee.double = 2 ^ Fp.deep Ieee.double := rfl
  have key : rLost 53 (-1074) m 0 = false ∧ rAmt 53 (-1074) b m 0 mode = m * 2 ^ Fp.deep Ieee.double := by
    unfold rAmt rLost rQ
    rw [hk]
    have hd := Fp.dD
    generalize Fp.deep Ieee.double = J at *
    by_cases hs : Lib.bitLen m ≤ 53
    · rw [if_pos (show ((Lib.bitLen m : Nat) : Int) - 53 - 0 ≤ 0 by omega), if_pos (show ((Lib.bitLen m : Nat) : Int) - 53 - 0 ≤ 0 by omega)]
      refine ⟨rfl, ?_⟩
      rw [Nat.mul_assoc, ← Nat.pow_add]; congr 2; omega
    · have hL54 : Lib.bitLen m = 54 := by omega
      have hme : m = 9007199254740992 := by
        rw [hL54] at b1
        have : (2 : Nat) ^ (54 - 1) = 9007199254740992 := rfl
        omega
      rw [if_neg (show ¬ ((Lib.bitLen m : Nat) : Int) - 53 - 0 ≤ 0 by omega), if_neg (show ¬ ((Lib.bitLen m : Nat) : Int) - 53 - 0 ≤ 0 by omega), hL54]
      have e1 : (((54 : Nat) : Int) - 53 - 0).toNat = 1 := by decide
      rw [e1]
      have h2 : m % 2 ^ 1 = 0 := by rw [hme]
      refine ⟨by rw [h2]; rfl, ?_⟩
      unfold cutQ goes
      have e6 : 2 ^ (J + 1) = 2 * 2 ^ J := by rw [Nat.pow_succ, Nat.mul_comm]
      rw [if_pos h2, show (((54 : Nat) : Int) - 53 + 1074).toNat = J + 1 by omega, hme, e6, ← Nat.mul_assoc]
      congr 1
  unfold fWordD fFlagsD
  rw [if_neg hm', if_neg hm', if_neg h0, if_neg h0]
  refine ⟨?_, flags_zero.2 ⟨hov, key.1⟩⟩
  unfold rWord
  rw [hov, if_neg Bool.false_ne_true, key.2]; exact (num_sgn b _).symm

/-- a whole number is whole -/
theorem whole_exact {m : Nat} (b : Bool) (mode : Int) (hmode : 0 ≤ mode ∧ mode ≤ 4) (h0 : m ≠ 0) (hm : m ≤ 9007199254740992) :
    hWord (Fp.num Ieee.double b (m * 2 ^ Fp.deep Ieee.double)) mode = Fp.num Ieee.double b (m * 2 ^ Fp.deep Ieee.double) ∧ hFlags (Fp.num Ieee.double b (m * 2 ^ Fp.deep Ieee.double)) mode = 0 := by
  have hm' : ¬¬(0 ≤ mode ∧ mode ≤ 4) := fun h => h hmode
  have hR := (float_int hm).2
  have hn0 : m * 2 ^ Fp.deep Ieee.double ≠ 0 := Nat.mul_ne_zero h0 (Nat.ne_of_gt (Nat.two_pow_pos _))
  have hlog := Fp.log2_mul_pow m (Fp.deep Ieee.double) h0
  have hd := Fp.dD
  have hml : m.log2 ≤ 53 := by have := (Nat.log2_lt h0 (k := 54)).2 (Nat.lt_of_le_of_lt hm (by decide)); omega
  obtain ⟨t1, t2, t3, t4⟩ := top53_bounds hn0 hR
  have hI := Fp.Rep.is hR b
  generalize hc : Fp.num Ieee.double b (m * 2 ^ Fp.deep Ieee.double) = c at *
  obtain ⟨e1, e2⟩ := num_eq hR hc
  have hz : ¬ (c % 9223372036854775808 = 0 ∨ c % 9223372036854775808 = 9218868437227405312) := by
    rintro (h | h)
    · exact hn0 (by rw [← e1]; exact magD_zero.2 h)
    · omega
  unfold hWord hFlags
  rw [if_neg hm', if_neg hm', if_neg (show ¬ 9218868437227405312 < c % 9223372036854775808 by omega), if_neg (show ¬ 9218868437227405312 < c % 9223372036854775808 by omega), if_neg hz, if_neg hz, e1]
  by_cases hb : 1126 ≤ (m * 2 ^ Fp.deep Ieee.double).log2
  · rw [if_pos hb, if_pos hb]; exact ⟨rfl, rfl⟩
  rw [if_neg hb, if_neg hb]
  have hs : dLow c + m.log2 = 52 := by unfold dLow; rw [e1]; omega
  have ht : top53 (m * 2 ^ Fp.deep Ieee.double) = m * 2 ^ dLow c := by
    rw [hlog] at t4
    have e3 : top53 (m * 2 ^ Fp.deep Ieee.double) * 2 ^ (m.log2 + Fp.deep Ieee.double) = m * 2 ^ dLow c * 2 ^ (m.log2 + Fp.deep Ieee.double) := by
      rw [t4, Nat.mul_assoc, Nat.mul_assoc, ← Nat.pow_add, ← Nat.pow_add, show Fp.deep Ieee.double + 52 = dLow c + (m.log2 + Fp.deep Ieee.double) by omega]
    exact Nat.eq_of_mul_eq_mul_right (Nat.two_pow_pos _) e3
  rw [ht]
  have h1 : m * 2 ^ dLow c % 2 ^ dLow c = 0 := Nat.mul_mod_left _ _
  have hcb : ngD c = b := by
    have hlt := num_lt hR
    rw [← hc, num_sgn]
    generalize Fp.num Ieee.double false (m * 2 ^ Fp.deep Ieee.double) = x at *
    clear hc t4 ht h1 hlog e1
    unfold ngD sgnD
    cases b
    · rw [if_neg Bool.false_ne_true]; exact decide_eq_false (by omega)
    · rw [if_pos rfl]; exact decide_eq_true (by omega)
  refine ⟨?_, if_neg (fun h => h h1)⟩
  unfold cutQ goes
  rw [if_pos h1, Nat.mul_div_cancel _ (Nat.two_pow_pos _), hcb]
  simp only [Bool.toNat_false, Nat.add_zero]
  exact (num_sgn b _).symm.trans hc

theorem val_lt {A B : Nat} (b : Bool) (h : A < B) : Fp.val true B < Fp.val b A ∧ Fp.val b A < Fp.val false B := by
  unfold Fp.val
  cases b <;> simp <;> omega
theorem end_is : Fp.mag Ieee.double 4890909195324358656 = 2 ^ 63 * 2 ^ Fp.deep Ieee.double := by decide +kernel
/-- an integer made a number and an integer again -/
theorem int_back (n mode : Int) (hmode : 0 ≤ mode ∧ mode ≤ 4) (h1 : -9007199254740992 ≤ n) (h2 : n ≤ 9007199254740992) (w : World) :
    ∃ c : Nat, fWordD n.natAbs (decide (n < 0)) mode = c ∧ fFlagsD n.natAbs (decide (n < 0)) mode = 0 ∧ ∀ w, Calls Tryd.prog 33 #[.float .f64 c, .int .i64 64, .int .i64 mode] w fun e w' => e = .returned (.tuple #[.int .i64 n, .int .i64 0, .int .i64 0]) ∧ Within w w' := by
  have hm' : ¬¬(0 ≤ mode ∧ mode ≤ 4) := fun h => h hmode
  by_cases h0 : n = 0
  · subst h0
    have e1 : fWordD (0 : Int).natAbs (decide ((0 : Int) < 0)) mode = 0 := by unfold fWordD; rw [if_neg hm']; rfl
    have e2 : fFlagsD (0 : Int).natAbs (decide ((0 : Int) < 0)) mode = 0 := by unfold fFlagsD; rw [if_neg hm']; rfl
    refine ⟨0, e1, e2, fun w => ?_⟩
    have WH := Lib.hid (fun w => Whole_any 0 mode (by decide) w)
    have e3 : hWord 0 mode = 0 := by unfold hWord; rw [if_neg hm']; rfl
    have e4 : hFlags 0 mode = 0 := by unfold hFlags; rw [if_neg hm']; rfl
    have e5 : nErr mode = 0 := if_pos hmode
    rw [e3, e4, e5] at WH
    exact Int_64_in 0 0 mode 0 WH 0 (by decide +kernel) (by decide +kernel) (by decide +kernel) (by decide +kernel) w
  · have hm0 : n.natAbs ≠ 0 := by omega
    have hml : n.natAbs ≤ 9007199254740992 := by omega
    obtain ⟨e1, e2⟩ := int_exact (decide (n < 0)) mode hmode hm0 hml
    obtain ⟨e3, e4⟩ := whole_exact (decide (n < 0)) mode hmode hm0 hml
    have hR := (float_int hml).2
    have hI := Fp.Rep.is hR (decide (n < 0))
    refine ⟨_, e1, e2, fun w => ?_⟩
    have hval : Fp.val (decide (n < 0)) n.natAbs = n := by
      unfold Fp.val
      by_cases hn : n < 0
      · rw [decide_eq_true hn, if_pos rfl]; omega
      · rw [decide_eq_false hn, if_neg Bool.false_ne_true]; omega
    generalize decide (n < 0) = b at *
    have WH := Lib.hid (fun w => Whole_any (Fp.num Ieee.double b (n.natAbs * 2 ^ Fp.deep Ieee.double)) mode hI.1 w)
    have e5 : nErr mode = 0 := if_pos hmode
    rw [e3, e4, e5] at WH
    have hJ := Nat.two_pow_pos (Fp.deep Ieee.double)
    have he := is_pos (r := 4890909195324358656) (by decide) end_is
    have hneg : Fp.Is Ieee.double 14114281232179134464 true (2 ^ 63 * 2 ^ Fp.deep Ieee.double) := by
      have h5 := Fp.Rep.is (he.rep Fp.dF) true
      have h6 : Fp.num Ieee.double true (2 ^ 63 * 2 ^ Fp.deep Ieee.double) = 14114281232179134464 := by
        rw [num_sgn, ← he.eq Fp.dF]; rfl
      rwa [h6] at h5
    have hself : (FloatKind.f64.format.order (Fp.num Ieee.double b (n.natAbs * 2 ^ Fp.deep Ieee.double)) (Fp.num Ieee.double b (n.natAbs * 2 ^ Fp.deep Ieee.double)) != some .eq) = false := by
      show (Ieee.double.order _ _ != some .eq) = false
      rw [Fp.order_is Ieee.double hI hI, Fp.cmp_eq rfl]; rfl
    have hb1 : n.natAbs * 2 ^ Fp.deep Ieee.double < 2 ^ 63 * 2 ^ Fp.deep Ieee.double := Nat.mul_lt_mul_of_pos_right (by have : (2:Nat) ^ 63 = 9223372036854775808 := rfl; omega) hJ
    have hlow : (FloatKind.f64.format.order (Fp.num Ieee.double b (n.natAbs * 2 ^ Fp.deep Ieee.double)) 14114281232179134464 == some .lt) = false := by
      show (Ieee.double.order _ _ == some .lt) = false
      rw [Fp.order_is Ieee.double hI hneg, Fp.cmp_gt (val_lt b hb1).1]; rfl
    have hhigh : (FloatKind.f64.format.order (Fp.num Ieee.double b (n.natAbs * 2 ^ Fp.deep Ieee.double)) 4890909195324358656 == some .gt || FloatKind.f64.format.order (Fp.num Ieee.double b (n.natAbs * 2 ^ Fp.deep Ieee.double)) 4890909195324358656 == some .eq) = false := by
      show (Ieee.double.order _ _ == some .gt || Ieee.double.order _ _ == some .eq) = false
      rw [Fp.order_is Ieee.double hI he, Fp.cmp_lt (val_lt b hb1).2]; rfl
    refine Int_64_in _ _ mode 0 WH n hself hlow hhigh ?_ w
    unfold floatToIntVal
    show (match (Ieee.double.read _).toInt .zero with | some n => if IntKind.i64.min ≤ n ∧ n ≤ IntKind.i64.max then some n else none | none => none) = _
    rw [int_of_is hI, hval]
    show (if (-9223372036854775808 : Int) ≤ n ∧ n ≤ 9223372036854775807 then some n else none) = _
    rw [if_pos (by omega)]
end Go.Proofs.YtifgngmebnjfkaaDoor
