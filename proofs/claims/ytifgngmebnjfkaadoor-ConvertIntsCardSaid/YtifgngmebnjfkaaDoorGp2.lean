/- Narrow and Widen: the reference's answers are the program's (no program in sight). -/
import Derived.Test.YtifgngmebnjfkaaDoorGp1
namespace Go.Proofs.YtifgngmebnjfkaaDoor

theorem grid_of_num (f : Ieee.Format) (n : Nat) : Fp.num f false n = Fp.grid f n 0 := by
  unfold Fp.num Ieee.Format.word; simp
/-- a double's amount, out of its digits and its exponent -/
theorem mD_mag {x : Nat} (hf : x % 9223372036854775808 < 9218868437227405312) : magD x = mD x * 2 ^ (eD x + 1074).toNat ∧ kD x = 0 ∧ nD x = ngD x ∧ (mD x = 0 ↔ x % 9223372036854775808 = 0) := by
  have hfd : ¬ x / 4503599627370496 % 2048 = 2047 := by omega
  refine ⟨?_, by unfold kD tK; rw [if_neg hfd], by unfold nD tN ngD; rw [if_neg (fun h => hfd h.1)], ?_⟩
  · unfold magD Fp.mag
    rw [Fp.dB]
    unfold mD eD tM tE
    rw [if_neg hfd, if_neg hfd]
    by_cases h0 : x / 4503599627370496 % 2048 = 0
    · rw [if_pos h0, if_pos h0, if_pos (by omega), show ((-1074 : Int) + 1074).toNat = 0 from rfl, Nat.pow_zero, Nat.mul_one]; omega
    · rw [if_neg h0, if_neg h0, if_neg (by omega)]
      congr 1
      · omega
      · congr 1; omega
  · unfold mD tM
    rw [if_neg hfd]
    by_cases h0 : x / 4503599627370496 % 2048 = 0
    · rw [if_pos h0]; omega
    · rw [if_neg h0]; omega
theorem mS_mag {x : Nat} (hf : x % 2147483648 < 2139095040) : Fp.mag Ieee.single (x % 2147483648) = mS x * 2 ^ (eS x + 149).toNat ∧ kS x = 0 ∧ nS x = decide (2147483648 ≤ x) ∧ (mS x = 0 ↔ x % 2147483648 = 0) := by
  have hfd : ¬ x / 8388608 % 256 = 255 := by omega
  refine ⟨?_, by unfold kS tK; rw [if_neg hfd], by unfold nS tN; rw [if_neg (fun h => hfd h.1)], ?_⟩
  · unfold Fp.mag
    rw [Fp.sB]
    unfold mS eS tM tE
    rw [if_neg hfd, if_neg hfd]
    by_cases h0 : x / 8388608 % 256 = 0
    · rw [if_pos h0, if_pos h0, if_pos (by omega), show ((-149 : Int) + 149).toNat = 0 from rfl, Nat.pow_zero, Nat.mul_one]; omega
    · rw [if_neg h0, if_neg h0, if_neg (by omega)]
      congr 1
      · omega
      · congr 1; omega
  · unfold mS tM
    rw [if_neg hfd]
    by_cases h0 : x / 8388608 % 256 = 0
    · rw [if_pos h0]; omega
    · rw [if_neg h0]; omega
theorem eD_lo (x : Nat) (h : kD x = 0) : -1074 ≤ eD x := by
  unfold kD tK at h
  unfold eD tE
  split at h
  · split at h <;> omega
  · rename_i h1; rw [if_neg h1]; split <;> omega
theorem eS_lo (x : Nat) (h : kS x = 0) : -149 ≤ eS x := by
  unfold kS tK at h
  unfold eS tE
  split at h
  · split at h <;> omega
  · rename_i h1; rw [if_neg h1]; split <;> omega
/-- the digits that the program takes stand for the same amount -/
theorem top_value {n M : Nat} {E : Int} (J : Nat) (hJ : 1200 ≤ J) (h0 : n ≠ 0) (hr : Fp.Rep Ieee.double n) (hE : -1074 ≤ E) (h : n = M * 2 ^ (E + 1074).toNat) :
    top53 n * 2 ^ ((n.log2 : Int) - 1126 + J).toNat = M * 2 ^ (E + J).toNat := by
  obtain ⟨t1, t2, t3, t4⟩ := top53_bounds h0 hr
  have e1 : ((n.log2 : Int) - 1126 + J).toNat = n.log2 + (J - 1126) := by omega
  have e2 : (E + J).toNat = (E + 1074).toNat + (J - 1126) + 52 := by omega
  rw [e1, e2, Nat.pow_add, Nat.pow_add, Nat.pow_add, ← Nat.mul_assoc, ← Nat.mul_assoc, ← Nat.mul_assoc, ← h, t4]
  rw [Nat.mul_right_comm]
theorem narrow_word {x : Nat} {mode : Int} (hmode : 0 ≤ mode ∧ mode ≤ 4) : sWS (kD x) (nD x) (mD x) (eD x) mode = nWord x mode ∧ sFS (kD x) (nD x) (mD x) (eD x) mode = nFlags x mode := by
  have hm : ¬¬(0 ≤ mode ∧ mode ≤ 4) := fun h => h hmode
  unfold nWord nFlags
  rw [if_neg hm, if_neg hm]
  by_cases hn : 9218868437227405312 < x % 9223372036854775808
  · rw [if_pos hn, if_pos hn]
    have hk : kD x = 2 := by unfold kD tK; rw [if_pos (by omega), if_neg (by omega)]
    rw [hk, sWS_nan, sFS_nan]; exact ⟨rfl, rfl⟩
  rw [if_neg hn, if_neg hn]
  by_cases hi : x % 9223372036854775808 = 9218868437227405312
  · have hk : kD x = 1 := by unfold kD tK; rw [if_pos (by omega), if_pos (by omega)]
    have hng : nD x = ngD x := by unfold nD tN ngD; rw [if_neg (by omega)]
    have hz : ¬ x % 9223372036854775808 = 0 := by omega
    rw [if_neg hz, if_neg hz, if_pos hi, if_pos hi, hk, sWS_inf, sFS_inf, hng]; exact ⟨rfl, rfl⟩
  obtain ⟨g1, g2, g3, g4⟩ := mD_mag (x := x) (by omega)
  by_cases hz : x % 9223372036854775808 = 0
  · rw [if_pos hz, if_pos hz, g2, g3, g4.2 hz, sWS_zero, sFS_zero]; exact ⟨rfl, rfl⟩
  rw [if_neg hz, if_neg hz, if_neg hi, if_neg hi, g2, g3, sWS_main _ (fun h => hz (g4.1 h)), sFS_main _ (fun h => hz (g4.1 h))]
  have h0 : magD x ≠ 0 := fun h => hz (magD_zero.1 h)
  have hr := magD_rep (a := x) (by omega)
  obtain ⟨t1, t2, t3, t4⟩ := top53_bounds h0 hr
  have hE := eD_lo x g2
  have hv := top_value 1200 (Nat.le_refl _) h0 hr hE g1
  obtain ⟨k1, k2, k3, k4, _⟩ := g_is_r (D := 24) (lo := -149) (ng := ngD x) (mode := mode) 1200 (by omega) (by omega) (by omega) (by omega) (by omega) hv
  have hq := (rQ_le (D := 24) (lo := -149) (ngD x) (((magD x).log2 : Int) - 1126) mode (m := top53 (magD x)) (by omega) (by omega) (by decide)).1
  obtain ⟨f1, f2⟩ := gFlags_is (D := 24) (lo := -149) (most := 127) (ng := ngD x) (mode := mode) 1200 (by omega) (by omega) (by omega) (by omega) (by omega) hv (by
    have : rQ 24 (-149) (ngD x) (top53 (magD x)) (((magD x).log2 : Int) - 1126) mode ≤ 2 ^ 24 := hq
    omega)
  refine ⟨?_, f1⟩
  unfold gWord sWord
  rw [f2, topR_is, grid_of_num]
  have hfull := fun h => gQ_full (D := 24) (lo := -149) (ngD x) (M := mD x) (e := eD x) false mode (fun h => hz (g4.1 h)) (by decide) h
  have hg : Fp.grid Ieee.single (rQ 24 (-149) (ngD x) (top53 (magD x)) (((magD x).log2 : Int) - 1126) mode * 2 ^ (rK 24 (-149) (top53 (magD x)) (((magD x).log2 : Int) - 1126) + 149).toNat) 0 = (gK 24 (-149) (mD x) (eD x) - -149).toNat * 8388608 + gQ 24 (-149) (ngD x) (mD x) (eD x) false mode := by
    have hlo : (-149 : Int) ≤ gK 24 (-149) (mD x) (eD x) := Int.le_max_right _ _
    have := grid_rung Ieee.single 23 (rQ 24 (-149) (ngD x) (top53 (magD x)) (((magD x).log2 : Int) - 1126) mode) (rK 24 (-149) (top53 (magD x)) (((magD x).log2 : Int) - 1126) + 149).toNat rfl hq (by
      rcases Int.lt_or_le (-149) (gK 24 (-149) (mD x) (eD x)) with h | h
      · left; have := hfull h; rw [← k2]; exact this
      · right; rw [← k1]; omega)
    rw [this, k2, ← k1, show (gK 24 (-149) (mD x) (eD x) - -149) = (gK 24 (-149) (mD x) (eD x) + 149) by omega]
  rw [hg]
  rfl
theorem widen_word {b : Nat} (_hb : b < 4294967296) : sWD (kS b) (nS b) (mS b) (eS b) 0 = wWord b := by
  unfold wWord
  by_cases hn : 2139095040 < b % 2147483648
  · rw [if_pos hn]
    have hk : kS b = 2 := by unfold kS tK; rw [if_pos (by omega), if_neg (by omega)]
    rw [hk, sWD_nan]
  rw [if_neg hn]
  by_cases hi : b % 2147483648 = 2139095040
  · have hk : kS b = 1 := by unfold kS tK; rw [if_pos (by omega), if_pos (by omega)]
    have hng : nS b = decide (2147483648 ≤ b) := by unfold nS tN; rw [if_neg (by omega)]
    rw [if_pos hi, hk, sWD_inf, hng]; rfl
  rw [if_neg hi]
  obtain ⟨g1, g2, g3, g4⟩ := mS_mag (x := b) (by omega)
  rw [g2, g3, g1, num_sgn]
  by_cases hz : mS b = 0
  · rw [hz, sWD_zero, Nat.zero_mul, Nat.zero_mul, grid_of_num, Fp.grid_zero, Nat.zero_add]; rfl
  rw [sWD_main _ hz]
  have hE := eS_lo b g2
  have hM := mS_lt b
  have hbl : blen (mS b) ≤ 24 := blen_le (by omega)
  have hE2 : eS b ≤ 104 := by
    have hfd : ¬ b / 8388608 % 256 = 255 := by omega
    unfold eS tE
    rw [if_neg hfd]
    split <;> omega
  have hK : gK 53 (-1074) (mS b) (eS b) = max (eS b + (blen (mS b) : Nat) - 53) (-1074) := rfl
  have hKe : gK 53 (-1074) (mS b) (eS b) ≤ eS b := by omega
  have hQ : gQ 53 (-1074) (decide (2147483648 ≤ b)) (mS b) (eS b) false 0 = mS b * 2 ^ (eS b - gK 53 (-1074) (mS b) (eS b)).toNat := by
    unfold gQ gq gc
    rw [if_pos hKe, if_pos hKe, if_neg Bool.false_ne_true, upB_exact]; rfl
  have hql := gQ_le 53 (-1074) (decide (2147483648 ≤ b)) (mS b) (eS b) false 0
  have hfull := fun h => gQ_full (D := 53) (lo := -1074) (decide (2147483648 ≤ b)) (M := mS b) (e := eS b) false 0 hz (by decide) h
  have hO : gOver 53 (-1074) 1023 (decide (2147483648 ≤ b)) (mS b) (eS b) false 0 = false := by
    unfold gOver
    rw [hQ, blen_mul _ _ hz]
    exact decide_eq_false (by omega)
  unfold gWord
  rw [hO, if_neg Bool.false_ne_true, grid_of_num]
  refine congrArg (fun a => a + sgnD (decide (2147483648 ≤ b))) ?_
  have hv : mS b * 2 ^ (eS b + 149).toNat * 2 ^ Fp.sgap = gQ 53 (-1074) (decide (2147483648 ≤ b)) (mS b) (eS b) false 0 * 2 ^ (gK 53 (-1074) (mS b) (eS b) + 1074).toNat := by
    obtain ⟨sg, hsg⟩ : ∃ sg, sg = Fp.sgap := ⟨_, rfl⟩
    have hs9 : sg = 925 := hsg.trans Fp.sgap_eq
    rw [← hsg, hQ, Nat.mul_assoc, Nat.mul_assoc, ← Nat.pow_add, ← Nat.pow_add]
    clear hsg
    congr 2
    omega
  have hr := grid_rung Ieee.double 52 (gQ 53 (-1074) (decide (2147483648 ≤ b)) (mS b) (eS b) false 0) (gK 53 (-1074) (mS b) (eS b) + 1074).toNat rfl hql (by
    rcases Int.lt_or_le (-1074) (gK 53 (-1074) (mS b) (eS b)) with h | h
    · left; exact hfull h
    · right; omega)
  rw [hv, hr, show (gK 53 (-1074) (mS b) (eS b) - -1074) = (gK 53 (-1074) (mS b) (eS b) + 1074) by omega]
end Go.Proofs.YtifgngmebnjfkaaDoor
