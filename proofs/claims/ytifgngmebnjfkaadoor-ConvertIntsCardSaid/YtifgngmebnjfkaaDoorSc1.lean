/- Scale: what the program answers; the reference's answer is the same. -/
import Derived.Test.YtifgngmebnjfkaaDoorGp2
import Derived.Test.YtifgngmebnjfkaaDoorRf7
import Derived.Test.YtifgngmebnjfkaaDoorCv10
namespace Go.Proofs.YtifgngmebnjfkaaDoor
open Go.RowKit

/-- the same word, of doubles -/
theorem gWordD_is {ng : Bool} {m M : Nat} {e E mode : Int} (J : Nat) (h1 : 0 ≤ e + J) (h2 : 0 ≤ E + J) (h3 : 1074 ≤ J) (hm0 : m ≠ 0) (hm : m < 18446744073709551616) (hv : m * 2 ^ (e + J).toNat = M * 2 ^ (E + J).toNat) :
    gWord 53 (-1074) 1023 9218868437227405311 9218868437227405312 4503599627370496 9223372036854775808 ng M E false mode = rWord 53 (-1074) 1023 9218868437227405311 ng m e mode ∧
    gFlags 53 (-1074) 1023 ng M E false mode = rFlags 53 (-1074) 1023 ng m e mode := by
  obtain ⟨k1, k2, k3, k4, hM0⟩ := g_is_r (D := 53) (lo := -1074) (ng := ng) (mode := mode) J h1 h2 (by omega) hm0 hm hv
  have hq := (rQ_le (D := 53) (lo := -1074) ng e mode hm0 hm (by decide)).1
  obtain ⟨f1, f2⟩ := gFlags_is (D := 53) (lo := -1074) (most := 1023) (ng := ng) (mode := mode) J h1 h2 (by omega) hm0 hm hv (by
    have : rQ 53 (-1074) ng m e mode ≤ 2 ^ 53 := hq
    omega)
  refine ⟨?_, f1⟩
  unfold gWord rWord rAmt
  rw [f2, topR_is, grid_of_num]
  have hfull := fun h => gQ_full (D := 53) (lo := -1074) ng (M := M) (e := E) false mode hM0 (by decide) h
  have hg : Fp.grid Ieee.double (rQ 53 (-1074) ng m e mode * 2 ^ (rK 53 (-1074) m e + 1074).toNat) 0 = (gK 53 (-1074) M E - -1074).toNat * 4503599627370496 + gQ 53 (-1074) ng M E false mode := by
    have := grid_rung Ieee.double 52 (rQ 53 (-1074) ng m e mode) (rK 53 (-1074) m e + 1074).toNat rfl hq (by
      rcases Int.lt_or_le (-1074) (gK 53 (-1074) M E) with h | h
      · left; have := hfull h; rw [← k2]; exact this
      · right; rw [← k1]; omega)
    rw [this, k2, ← k1, show (gK 53 (-1074) M E - -1074) = (gK 53 (-1074) M E + 1074) by omega]
  rw [hg]

/-- far above every number -/
theorem r_high {ng : Bool} {m : Nat} {e mode : Int} (h1 : 4503599627370496 ≤ m) (h2 : m < 9007199254740992) (he : 2000 ≤ e) : rOver 53 (-1074) 1023 ng m e mode = true := by
  have hb : Lib.bitLen m = 53 := bitLen_of 52 m (by decide) h1 h2
  have hk : rK 53 (-1074) m e = e := by unfold rK; rw [hb]; omega
  unfold rOver rQ
  rw [hk, if_pos (by omega), show (-(e - e)).toNat = 0 by omega, Nat.pow_zero, Nat.mul_one, hb]
  exact decide_eq_true (by omega)
/-- far below every number -/
theorem r_low {ng : Bool} {m : Nat} {e mode : Int} (h1 : 4503599627370496 ≤ m) (h2 : m < 9007199254740992) (he : e ≤ -3000) :
    rK 53 (-1074) m e = -1074 ∧ rQ 53 (-1074) ng m e mode = (if mode = 3 then !ng else if mode = 4 then ng else false).toNat ∧ rLost 53 (-1074) m e = true := by
  have hb : Lib.bitLen m = 53 := bitLen_of 52 m (by decide) h1 h2
  have hk : rK 53 (-1074) m e = -1074 := by unfold rK; rw [hb]; omega
  obtain ⟨s, hs⟩ : ∃ s : Nat, s = (-1074 - e).toNat := ⟨_, rfl⟩
  have hs2 : 54 ≤ s := by omega
  have hp : 2 ^ 54 ≤ 2 ^ s := Nat.pow_le_pow_right (by decide) hs2
  rw [show (2 : Nat) ^ 54 = 18014398509481984 from rfl] at hp
  have hd : m / 2 ^ s = 0 := Nat.div_eq_of_lt (by omega)
  have hmod : m % 2 ^ s = m := Nat.mod_eq_of_lt (by omega)
  refine ⟨hk, ?_, ?_⟩
  · unfold rQ
    rw [hk, if_neg (by omega), ← hs]
    unfold cutQ goes
    rw [hd, hmod, if_neg (by omega), Nat.zero_add]
    generalize 2 ^ s = Z at *
    by_cases m0 : mode = 0
    · subst m0
      rw [if_pos rfl, decide_eq_false (by omega), decide_eq_false (by omega)]; rfl
    rw [if_neg m0]
    by_cases m1 : mode = 1
    · subst m1
      rw [if_pos rfl, decide_eq_false (by omega)]; rfl
    rw [if_neg m1]
  · unfold rLost
    rw [hk, if_neg (by omega), ← hs, hmod]
    exact decide_eq_true (by omega)

def pScW (a : Nat) (k mode : Int) : Nat :=
  if ¬ (0 ≤ mode ∧ mode ≤ 4) then 0
  else if 9218868437227405312 < a % 9223372036854775808 then canonD a
  else if a % 9223372036854775808 = 0 ∨ a % 9223372036854775808 = 9218868437227405312 then a
  else rWord 53 (-1074) 1023 9218868437227405311 (ngD a) (top53 (magD a)) (((magD a).log2 : Int) - 1126 + max (-10000) (min k 10000)) mode
def pScF (a : Nat) (k mode : Int) : Int :=
  if ¬ (0 ≤ mode ∧ mode ≤ 4) then 0
  else if 9218868437227405312 < a % 9223372036854775808 then 0
  else if a % 9223372036854775808 = 0 ∨ a % 9223372036854775808 = 9218868437227405312 then 0
  else rFlags 53 (-1074) 1023 (ngD a) (top53 (magD a)) (((magD a).log2 : Int) - 1126 + max (-10000) (min k 10000)) mode
theorem Scale_any (a : Nat) (k mode : Int) (ha : a < 18446744073709551616) (w : World) (hT : FmD w) :
    Calls Tryd.prog 34 #[.float .f64 a, .int .i64 k, .int .i64 mode] w fun e' w' => e' = .returned (.tuple #[.float .f64 (pScW a k mode), .int .i64 (pScF a k mode), .int .i64 (nErr mode)]) ∧ Within w w' := by
  have KN := Lib.hid (fun w => known_any mode w)
  unfold pScW pScF nErr
  by_cases hmode : 0 ≤ mode ∧ mode ≤ 4
  · rw [decide_eq_true hmode] at KN
    have hm' : ¬¬(0 ≤ mode ∧ mode ≤ 4) := fun h => h hmode
    rw [if_neg hm', if_neg hm', if_pos hmode]
    have hx := ne_self (a := a)
    by_cases hn : 9218868437227405312 < a % 9223372036854775808
    · rw [decide_eq_true hn] at hx
      rw [if_pos hn, if_pos hn]
      exact scale_nan a _ k mode KN hx (Lib.hid fun w => Canon_D a ha w) w
    rw [decide_eq_false hn] at hx
    rw [if_neg hn, if_neg hn]
    have PL := Lib.hid (fun w => plain_any a ha (by omega) w)
    by_cases hz : a % 9223372036854775808 = 0 ∨ a % 9223372036854775808 = 9218868437227405312
    · rw [decide_eq_true hz] at PL
      rw [if_pos hz, if_pos hz]
      exact scale_plain a k mode KN hx PL w
    rw [decide_eq_false hz] at PL
    rw [if_neg hz, if_neg hz]
    have h0 : magD a ≠ 0 := fun h => hz (.inl (magD_zero.1 h))
    obtain ⟨t1, t2, t3, _⟩ := top53_bounds h0 (magD_rep (by omega))
    have TK := Lib.hid (fun w => take_any a (magD a) ha h0 (by omega) rfl w)
    have RN := Lib.hid (fun w => round_D (ngD a) (top53 (magD a)) (((magD a).log2 : Int) - 1126 + max (-10000) (min k 10000)) mode (by omega) (by omega) (by omega) (by omega) hmode w)
    exact scale_main a _ _ _ _ _ k _ mode _ KN hx PL TK rfl rfl (by omega) (by omega) RN w hT
  · rw [decide_eq_false hmode] at KN
    rw [if_pos hmode, if_pos hmode, if_neg hmode]
    exact scale_bad a k mode KN w

theorem scale_word {a : Nat} {k mode : Int} (ha : a < 18446744073709551616) (hmode : 0 ≤ mode ∧ mode ≤ 4) : sWD (kD a) (nD a) (mD a) (scE a k) mode = pScW a k mode ∧ sFD (kD a) (nD a) (mD a) (scE a k) mode = pScF a k mode := by
  have hm : ¬¬(0 ≤ mode ∧ mode ≤ 4) := fun h => h hmode
  unfold pScW pScF
  rw [if_neg hm, if_neg hm]
  by_cases hn : 9218868437227405312 < a % 9223372036854775808
  · rw [if_pos hn, if_pos hn]
    have hk : kD a = 2 := by unfold kD tK; rw [if_pos (by omega), if_neg (by omega)]
    have hc : canonD a = 9221120237041090561 := by unfold canonD nanD; rw [if_pos (decide_eq_true hn)]
    rw [hk, sWD_nan, sFD_nan, hc]; exact ⟨rfl, rfl⟩
  rw [if_neg hn, if_neg hn]
  have hsp := sgn_split ha
  by_cases hi : a % 9223372036854775808 = 9218868437227405312
  · have hk : kD a = 1 := by unfold kD tK; rw [if_pos (by omega), if_pos (by omega)]
    have hng : nD a = ngD a := by unfold nD tN ngD; rw [if_neg (by omega)]
    rw [if_pos (.inr hi), if_pos (.inr hi), hk, sWD_inf, sFD_inf, hng]
    rw [hi] at hsp
    have hs2 : (if ngD a then 9223372036854775808 else 0) = sgnD (ngD a) := rfl
    rw [hs2, ← hsp]; exact ⟨rfl, rfl⟩
  obtain ⟨g1, g2, g3, g4⟩ := mD_mag (x := a) (by omega)
  by_cases hz : a % 9223372036854775808 = 0
  · rw [if_pos (.inl hz), if_pos (.inl hz), g2, g3, g4.2 hz, sWD_zero, sFD_zero]
    rw [hz, Nat.zero_add] at hsp
    have hs2 : (if ngD a then 9223372036854775808 else 0) = sgnD (ngD a) := rfl
    rw [hs2, ← hsp]; exact ⟨rfl, rfl⟩
  have hzz : ¬ (a % 9223372036854775808 = 0 ∨ a % 9223372036854775808 = 9218868437227405312) := by omega
  rw [if_neg hzz, if_neg hzz, g2, g3, sWD_main _ (fun h => hz (g4.1 h)), sFD_main _ (fun h => hz (g4.1 h))]
  unfold scE
  rw [if_pos g2]
  have h0 : magD a ≠ 0 := fun h => hz (magD_zero.1 h)
  have hr := magD_rep (a := a) (by omega)
  obtain ⟨t1, t2, t3, t4⟩ := top53_bounds h0 hr
  have hE := eD_lo a g2
  obtain ⟨kr, hkr⟩ : ∃ kr, kr = max (-5000) (min k 5000) := ⟨_, rfl⟩
  obtain ⟨kp, hkp⟩ : ∃ kp, kp = max (-10000) (min k 10000) := ⟨_, rfl⟩
  rw [← hkr, ← hkp]
  obtain ⟨j, hj⟩ : ∃ j : Nat, (12000 : Int) + kr = j := ⟨(12000 + kr).toNat, by omega⟩
  have hv := top_value j (by omega) h0 hr hE g1
  rw [show ((magD a).log2 : Int) - 1126 + (j : Int) = ((magD a).log2 : Int) - 1126 + kr + ((12000 : Nat) : Int) by omega, show eD a + (j : Int) = eD a + kr + ((12000 : Nat) : Int) by omega] at hv
  obtain ⟨w1, w2⟩ := gWordD_is (ng := ngD a) (mode := mode) 12000 (by omega) (by omega) (by omega) (by omega) (by omega) hv
  rw [w1, w2]
  by_cases hhi : 5000 < k
  · have o1 := r_high (ng := ngD a) (mode := mode) (m := top53 (magD a)) (e := ((magD a).log2 : Int) - 1126 + kr) t1 t2 (by omega)
    have o2 := r_high (ng := ngD a) (mode := mode) (m := top53 (magD a)) (e := ((magD a).log2 : Int) - 1126 + kp) t1 t2 (by omega)
    unfold rWord rFlags
    simp only [o1, o2, if_true, eq_self, and_self]
  by_cases hlo : k < -5000
  · obtain ⟨a1, a2, a3⟩ := r_low (ng := ngD a) (mode := mode) (m := top53 (magD a)) (e := ((magD a).log2 : Int) - 1126 + kr) t1 t2 (by omega)
    obtain ⟨b1, b2, b3⟩ := r_low (ng := ngD a) (mode := mode) (m := top53 (magD a)) (e := ((magD a).log2 : Int) - 1126 + kp) t1 t2 (by omega)
    have hb : Lib.bitLen (top53 (magD a)) = 53 := bl_top53 h0 hr
    have hO : rOver 53 (-1074) 1023 (ngD a) (top53 (magD a)) (((magD a).log2 : Int) - 1126 + kr) mode = rOver 53 (-1074) 1023 (ngD a) (top53 (magD a)) (((magD a).log2 : Int) - 1126 + kp) mode := by unfold rOver; rw [a1, a2, b1, b2]
    unfold rWord rFlags rAmt
    rw [hO, a1, a2, a3, b1, b2, b3, hb, if_pos (show ((magD a).log2 : Int) - 1126 + kr + ((53 : Nat) : Int) - 1 < -1074 + 53 - 1 by omega), if_pos (show ((magD a).log2 : Int) - 1126 + kp + ((53 : Nat) : Int) - 1 < -1074 + 53 - 1 by omega)]
    exact ⟨rfl, rfl⟩
  · have : kr = kp := by omega
    rw [this]; exact ⟨rfl, rfl⟩
end Go.Proofs.YtifgngmebnjfkaaDoor
