/- 'round' of package convert to a single. -/
import Derived.Test.YtmpcnhiklpahnaaDoorCv3S
import Derived.Test.YtmpcnhiklpahnaaDoorCv4
namespace Go.Proofs.YtmpcnhiklpahnaaDoor
open Go.RowKit

theorem signed_any (neg : Bool) {a : Nat} (ha : a < 9223372036854775808) (w : World) : Calls Tryd.prog 74 #[.float .f64 a, .bool neg] w fun e w' => e = .returned (.float .f64 (a + (if neg then 9223372036854775808 else 0))) ∧ w = w' := by
  cases neg
  · exact signed_false a w
  · exact signed_true a ha w

/-- the greatest single, as a double -/
def topS : Nat := 5183643170566569984

theorem top_numS : Fp.Rep Ieee.double (16777215 * 2 ^ ((104 : Int) + 1074).toNat) ∧ Fp.num Ieee.double false (16777215 * 2 ^ ((104 : Int) + 1074).toNat) = topS := by
  obtain ⟨j, hj⟩ : ∃ j : Nat, j = ((104 : Int) + 1074).toNat := ⟨_, rfl⟩
  have hj' : j = 1178 := by rw [hj]; rfl
  rw [← hj]
  have hm : Fp.mag Ieee.double topS = 16777215 * 2 ^ j := by
    have e1 := rung_high (r := topS) (by decide)
    have e2 : 4503599627370496 + topS % 4503599627370496 = 16777215 * 2 ^ 29 := by decide
    have e3 : topS / 4503599627370496 - 1 = j - 29 := by first | omega | (rw [hj']; rfl)
    have e4 : 29 + (j - 29) = j := by omega
    clear hj hj'
    rw [e2, e3, Nat.mul_assoc, ← Nat.pow_add, e4] at e1
    exact e1
  exact ⟨hm ▸ Fp.rep_mag Ieee.double Fp.dF (by decide), pos_rung hm⟩

theorem round_S (neg : Bool) (m : Nat) (e mode : Int) (h0 : m ≠ 0) (hm : m < 18446744073709551616) (h1 : -20000 ≤ e) (h2 : e ≤ 20000) (hmode : 0 ≤ mode ∧ mode ≤ 4) (w : World) : Calls Tryd.prog 58 #[.agg #[.bool neg, .int .u64 m, .int .i64 e], .agg #[.int .i64 24, .int .i64 (-126), .int .i64 127], .int .i64 mode] w fun e' w' => e' = .returned (.tuple #[.float .f64 (rWord 24 (-149) 127 topS neg m e mode), .int .i64 (rFlags 24 (-149) 127 neg m e mode)]) ∧ Within w w' := by
  have hb := bl_bounds h0 hm
  have hq := rQ_le (D := 24) (lo := -149) neg e mode h0 hm (by decide)
  have hk : max (e + ((Lib.bitLen m : Nat) : Int) - 24) (-149) = rK 24 (-149) m e := rfl
  have hq53 : rQ 24 (-149) neg m e mode ≤ 9007199254740992 := Nat.le_trans hq.1 (by decide)
  have hlq : Lib.bitLen (rQ 24 (-149) neg m e mode) ≤ 64 := Nat.le_trans (bl_le (by omega) hq.1) (by decide)
  have LM := Lib.hid (fun w => bits_len64 m hm w)
  have LQ := Lib.hid (fun w => bits_len64 (rQ 24 (-149) neg m e mode) (by omega) w)
  have DR := Lib.hid (fun w => show Calls Tryd.prog 73 #[.agg #[.bool neg, .int .u64 m, .int .i64 e], .int .i64 (rK 24 (-149) m e - e), .int .i64 mode] w fun e' w' => e' = .returned (.tuple #[.int .u64 (rQ 24 (-149) neg m e mode), .bool (rLost 24 (-149) m e)]) ∧ Within w w' from by
    have hdef : rQ 24 (-149) neg m e mode = if rK 24 (-149) m e - e ≤ 0 then m * 2 ^ (-(rK 24 (-149) m e - e)).toNat else cutQ m (rK 24 (-149) m e - e).toNat neg mode := rfl
    have hl : rLost 24 (-149) m e = if rK 24 (-149) m e - e ≤ 0 then false else decide (m % 2 ^ (rK 24 (-149) m e - e).toNat ≠ 0) := rfl
    generalize rQ 24 (-149) neg m e mode = q at *
    generalize rK 24 (-149) m e = k at *
    generalize rLost 24 (-149) m e = l at *
    by_cases hs : k - e ≤ 0
    · rw [if_pos hs] at hdef hl
      subst hl
      have := drop_up neg m (-(k - e)).toNat e mode (hq.2 hs) (by omega) w
      rw [← hdef] at this
      rwa [show -((-(k - e)).toNat : Int) = k - e by omega] at this
    · rw [if_neg hs] at hdef hl
      subst hl
      have := drop_down neg m (k - e).toNat e mode hm h0 (by omega) hmode w
      rw [← hdef] at this
      rwa [show (((k - e).toNat : Nat) : Int) = k - e by omega] at this)
  have hover : rOver 24 (-149) 127 neg m e mode = decide ((127 : Int) + 1 < rK 24 (-149) m e + (Lib.bitLen (rQ 24 (-149) neg m e mode) : Nat)) := rfl
  have hrep := rAmt_rep (D := 24) (lo := -149) (most := 127) neg e mode h0 hm (by decide) (by decide) (by decide)
  have hlo : -149 ≤ rK 24 (-149) m e := by unfold rK; omega
  have LD := fun (h : Fp.Rep Ieee.double (rQ 24 (-149) neg m e mode * 2 ^ (rK 24 (-149) m e + 1074).toNat)) => Lib.hid (fun w => ldexp_int hq53 (k := rK 24 (-149) m e) (by omega) h w)
  have CV := (float_int hq53).1
  have TL := Lib.hid (fun w => ldexp_int (q := 16777215) (k := 104) (by decide) (by decide) top_numS.1 w)
  rw [top_numS.2] at TL
  have TC := (float_int (q := 16777215) (by decide)).1
  unfold rWord rFlags
  unfold rAmt at hrep ⊢
  generalize hQ : rQ 24 (-149) neg m e mode = q at *
  generalize hKK : rK 24 (-149) m e = k at *
  generalize hLL : Lib.bitLen m = L at *
  generalize hLQ : Lib.bitLen q = Lq at *
  cases hov : rOver 24 (-149) 127 neg m e mode
  · rw [hov] at hover
    have hin : k + (Lq : Int) ≤ 127 + 1 := by have := of_decide_eq_false hover.symm; omega
    rw [if_neg Bool.false_ne_true, if_neg Bool.false_ne_true]
    have SG := Lib.hid (fun w => signed_any neg (Nat.lt_trans (num_lt (hrep hov)) (by decide)) w)
    cases hl : rLost 24 (-149) m e
    · rw [hl] at DR
      rw [if_neg Bool.false_ne_true]
      exact round_S_in0 neg m L q Lq e k mode h1 h2 hb.2.2.2 hlq hk LM DR LQ _ _ _ hin CV (LD (hrep hov)) SG w
    · rw [hl] at DR
      rw [if_pos rfl]
      by_cases hu : e + (L : Int) - 1 < -126
      · rw [if_pos (show e + (L : Int) - 1 < (-149) + 24 - 1 by omega)]
        exact round_S_in3 neg m L q Lq e k mode h1 h2 hb.2.2.2 hlq hk LM DR LQ _ _ _ hin CV (LD (hrep hov)) SG (decide_eq_true hu) w
      · rw [if_neg (show ¬ e + (L : Int) - 1 < (-149) + 24 - 1 by omega)]
        exact round_S_in1 neg m L q Lq e k mode h1 h2 hb.2.2.2 hlq hk LM DR LQ _ _ _ hin CV (LD (hrep hov)) SG (decide_eq_false hu) w
  · rw [hov] at hover
    have hin : (127 : Int) + 1 < k + (Lq : Int) := of_decide_eq_true hover.symm
    have hlq' : Lq ≤ 24 + 1 := by rw [← hLQ]; exact bl_le (by omega) hq.1
    have hu : ¬ e + (L : Int) - 1 < -126 := by omega
    have IN := Lib.hid m_inf1
    rw [if_pos rfl, if_pos rfl]
    have hmod : mode = 0 ∨ mode = 1 ∨ mode = 2 ∨ mode = 3 ∨ mode = 4 := by omega
    have SGi := fun n => Lib.hid (fun w => signed_any n (show 9218868437227405312 < 9223372036854775808 by decide) w)
    have SGt := fun n => Lib.hid (fun w => signed_any n (show topS < 9223372036854775808 by decide) w)
    unfold rTop
    cases hl : rLost 24 (-149) m e
    · rw [hl] at DR
      rcases hmod with rfl | rfl | rfl | rfl | rfl
      · exact round_S_inf0 neg m L q Lq e k 0 h1 h2 hb.2.2.2 hlq hk LM DR LQ _ _ _ _ hin TC TL IN (SGi neg) (by decide) (by decide) (by decide) w
      · exact round_S_inf0 neg m L q Lq e k 1 h1 h2 hb.2.2.2 hlq hk LM DR LQ _ _ _ _ hin TC TL IN (SGi neg) (by decide) (by decide) (by decide) w
      · exact round_S_top0_2 neg m L q Lq e k h1 h2 hb.2.2.2 hlq hk LM DR LQ _ _ _ hin TC TL (SGt neg) w
      · cases neg
        · exact round_S_inf0_3 m L q Lq e k h1 h2 hb.2.2.2 hlq hk LM DR LQ _ _ _ _ hin TC TL IN (SGi false) w
        · exact round_S_top0_3 m L q Lq e k h1 h2 hb.2.2.2 hlq hk LM DR LQ _ _ _ hin TC TL (SGt true) w
      · cases neg
        · exact round_S_top0_4 m L q Lq e k h1 h2 hb.2.2.2 hlq hk LM DR LQ _ _ _ hin TC TL (SGt false) w
        · exact round_S_inf0_4 m L q Lq e k h1 h2 hb.2.2.2 hlq hk LM DR LQ _ _ _ _ hin TC TL IN (SGi true) w
    · rw [hl] at DR
      have hs := decide_eq_false hu
      rcases hmod with rfl | rfl | rfl | rfl | rfl
      · exact round_S_inf1 neg m L q Lq e k 0 h1 h2 hb.2.2.2 hlq hk LM DR LQ _ _ _ _ hin TC TL IN (SGi neg) (by decide) (by decide) (by decide) hs w
      · exact round_S_inf1 neg m L q Lq e k 1 h1 h2 hb.2.2.2 hlq hk LM DR LQ _ _ _ _ hin TC TL IN (SGi neg) (by decide) (by decide) (by decide) hs w
      · exact round_S_top1_2 neg m L q Lq e k h1 h2 hb.2.2.2 hlq hk LM DR LQ _ _ _ hin TC TL (SGt neg) hs w
      · cases neg
        · exact round_S_inf1_3 m L q Lq e k h1 h2 hb.2.2.2 hlq hk LM DR LQ _ _ _ _ hin TC TL IN (SGi false) hs w
        · exact round_S_top1_3 m L q Lq e k h1 h2 hb.2.2.2 hlq hk LM DR LQ _ _ _ hin TC TL (SGt true) hs w
      · cases neg
        · exact round_S_top1_4 m L q Lq e k h1 h2 hb.2.2.2 hlq hk LM DR LQ _ _ _ hin TC TL (SGt false) hs w
        · exact round_S_inf1_4 m L q Lq e k h1 h2 hb.2.2.2 hlq hk LM DR LQ _ _ _ _ hin TC TL IN (SGi true) hs w

end Go.Proofs.YtmpcnhiklpahnaaDoor
