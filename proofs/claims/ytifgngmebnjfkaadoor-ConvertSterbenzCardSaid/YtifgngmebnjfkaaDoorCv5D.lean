/- 'round' of package convert to a double. -/
import Derived.Test.YtifgngmebnjfkaaDoorCv3D
import Derived.Test.YtifgngmebnjfkaaDoorCv4
import Derived.Test.YtifgngmebnjfkaaDoorCv5S
namespace Go.Proofs.YtifgngmebnjfkaaDoor
open Go.RowKit

theorem top_numD : Fp.Rep Ieee.double (9007199254740991 * 2 ^ ((971 : Int) + 1074).toNat) ∧ Fp.num Ieee.double false (9007199254740991 * 2 ^ ((971 : Int) + 1074).toNat) = 9218868437227405311 := by
  obtain ⟨j, hj⟩ : ∃ j : Nat, j = ((971 : Int) + 1074).toNat := ⟨_, rfl⟩
  have hj' : j = 2045 := by rw [hj]; rfl
  rw [← hj]
  have hm : Fp.mag Ieee.double 9218868437227405311 = 9007199254740991 * 2 ^ j := by
    have e1 := rung_high (r := 9218868437227405311) (by decide)
    have e2 : 4503599627370496 + 9218868437227405311 % 4503599627370496 = 9007199254740991 * 2 ^ 0 := by decide
    have e3 : 9218868437227405311 / 4503599627370496 - 1 = j - 0 := by first | omega | (rw [hj']; rfl)
    have e4 : 0 + (j - 0) = j := by omega
    clear hj hj'
    rw [e2, e3, Nat.mul_assoc, ← Nat.pow_add, e4] at e1
    exact e1
  exact ⟨hm ▸ Fp.rep_mag Ieee.double Fp.dF (by decide), pos_rung hm⟩

theorem round_D (neg : Bool) (m : Nat) (e mode : Int) (h0 : m ≠ 0) (hm : m < 18446744073709551616) (h1 : -20000 ≤ e) (h2 : e ≤ 20000) (hmode : 0 ≤ mode ∧ mode ≤ 4) (w : World) : Calls Tryd.prog 70 #[.agg #[.bool neg, .int .u64 m, .int .i64 e], .agg #[.int .i64 53, .int .i64 (-1022), .int .i64 1023], .int .i64 mode] w fun e' w' => e' = .returned (.tuple #[.float .f64 (rWord 53 (-1074) 1023 9218868437227405311 neg m e mode), .int .i64 (rFlags 53 (-1074) 1023 neg m e mode)]) ∧ Within w w' := by
  have hb := bl_bounds h0 hm
  have hq := rQ_le (D := 53) (lo := -1074) neg e mode h0 hm (by decide)
  have hk : max (e + ((Lib.bitLen m : Nat) : Int) - 53) (-1074) = rK 53 (-1074) m e := rfl
  have hq53 : rQ 53 (-1074) neg m e mode ≤ 9007199254740992 := Nat.le_trans hq.1 (by decide)
  have hlq : Lib.bitLen (rQ 53 (-1074) neg m e mode) ≤ 64 := Nat.le_trans (bl_le (by omega) hq.1) (by decide)
  have LM := Lib.hid (fun w => bits_len64 m hm w)
  have LQ := Lib.hid (fun w => bits_len64 (rQ 53 (-1074) neg m e mode) (by omega) w)
  have DR := Lib.hid (fun w => show Calls Tryd.prog 80 #[.agg #[.bool neg, .int .u64 m, .int .i64 e], .int .i64 (rK 53 (-1074) m e - e), .int .i64 mode] w fun e' w' => e' = .returned (.tuple #[.int .u64 (rQ 53 (-1074) neg m e mode), .bool (rLost 53 (-1074) m e)]) ∧ Within w w' from by
    have hdef : rQ 53 (-1074) neg m e mode = if rK 53 (-1074) m e - e ≤ 0 then m * 2 ^ (-(rK 53 (-1074) m e - e)).toNat else cutQ m (rK 53 (-1074) m e - e).toNat neg mode := rfl
    have hl : rLost 53 (-1074) m e = if rK 53 (-1074) m e - e ≤ 0 then false else decide (m % 2 ^ (rK 53 (-1074) m e - e).toNat ≠ 0) := rfl
    generalize rQ 53 (-1074) neg m e mode = q at *
    generalize rK 53 (-1074) m e = k at *
    generalize rLost 53 (-1074) m e = l at *
    by_cases hs : k - e ≤ 0
    · rw [if_pos hs] at hdef hl
      subst hl
      have := drop_up neg m (-(k - e)).toNat e mode (hq.2 hs) (by omega) w
      rw [← hdef] at this
      rwa [show -((-(k - e)).toNat : Int) = k - e by omega] at this
    · rw [if_neg hs] at hdef hl
      subst hl
      have := drop_down neg m (k - e).toNat e mode hm h0 (by omega) hmode w
      rw [← hdef] at this
      rwa [show (((k - e).toNat : Nat) : Int) = k - e by omega] at this)
  have hover : rOver 53 (-1074) 1023 neg m e mode = decide ((1023 : Int) + 1 < rK 53 (-1074) m e + (Lib.bitLen (rQ 53 (-1074) neg m e mode) : Nat)) := rfl
  have hrep := rAmt_rep (D := 53) (lo := -1074) (most := 1023) neg e mode h0 hm (by decide) (by decide) (by decide)
  have hlo : -1074 ≤ rK 53 (-1074) m e := by unfold rK; omega
  have LD := fun (h : Fp.Rep Ieee.double (rQ 53 (-1074) neg m e mode * 2 ^ (rK 53 (-1074) m e + 1074).toNat)) => Lib.hid (fun w => ldexp_int hq53 (k := rK 53 (-1074) m e) (by omega) h w)
  have CV := (float_int hq53).1
  have TL := Lib.hid (fun w => ldexp_int (q := 9007199254740991) (k := 971) (by decide) (by decide) top_numD.1 w)
  rw [top_numD.2] at TL
  have TC := (float_int (q := 9007199254740991) (by decide)).1
  unfold rWord rFlags
  unfold rAmt at hrep ⊢
  generalize hQ : rQ 53 (-1074) neg m e mode = q at *
  generalize hKK : rK 53 (-1074) m e = k at *
  generalize hLL : Lib.bitLen m = L at *
  generalize hLQ : Lib.bitLen q = Lq at *
  cases hov : rOver 53 (-1074) 1023 neg m e mode
  · rw [hov] at hover
    have hin : k + (Lq : Int) ≤ 1023 + 1 := by have := of_decide_eq_false hover.symm; omega
    rw [if_neg Bool.false_ne_true, if_neg Bool.false_ne_true]
    have SG := Lib.hid (fun w => signed_any neg (Nat.lt_trans (num_lt (hrep hov)) (by decide)) w)
    cases hl : rLost 53 (-1074) m e
    · rw [hl] at DR
      rw [if_neg Bool.false_ne_true]
      exact round_D_in0 neg m L q Lq e k mode h1 h2 hb.2.2.2 hlq hk LM DR LQ _ _ _ hin CV (LD (hrep hov)) SG w
    · rw [hl] at DR
      rw [if_pos rfl]
      by_cases hu : e + (L : Int) - 1 < -1022
      · rw [if_pos (show e + (L : Int) - 1 < (-1074) + 53 - 1 by omega)]
        exact round_D_in3 neg m L q Lq e k mode h1 h2 hb.2.2.2 hlq hk LM DR LQ _ _ _ hin CV (LD (hrep hov)) SG (decide_eq_true hu) w
      · rw [if_neg (show ¬ e + (L : Int) - 1 < (-1074) + 53 - 1 by omega)]
        exact round_D_in1 neg m L q Lq e k mode h1 h2 hb.2.2.2 hlq hk LM DR LQ _ _ _ hin CV (LD (hrep hov)) SG (decide_eq_false hu) w
  · rw [hov] at hover
    have hin : (1023 : Int) + 1 < k + (Lq : Int) := of_decide_eq_true hover.symm
    have hlq' : Lq ≤ 53 + 1 := by rw [← hLQ]; exact bl_le (by omega) hq.1
    have hu : ¬ e + (L : Int) - 1 < -1022 := by omega
    have IN := Lib.hid m_inf1
    rw [if_pos rfl, if_pos rfl]
    have hmod : mode = 0 ∨ mode = 1 ∨ mode = 2 ∨ mode = 3 ∨ mode = 4 := by omega
    have SGi := fun n => Lib.hid (fun w => signed_any n (show 9218868437227405312 < 9223372036854775808 by decide) w)
    have SGt := fun n => Lib.hid (fun w => signed_any n (show 9218868437227405311 < 9223372036854775808 by decide) w)
    unfold rTop
    cases hl : rLost 53 (-1074) m e
    · rw [hl] at DR
      rcases hmod with rfl | rfl | rfl | rfl | rfl
      · exact round_D_inf0 neg m L q Lq e k 0 h1 h2 hb.2.2.2 hlq hk LM DR LQ _ _ _ _ hin TC TL IN (SGi neg) (by decide) (by decide) (by decide) w
      · exact round_D_inf0 neg m L q Lq e k 1 h1 h2 hb.2.2.2 hlq hk LM DR LQ _ _ _ _ hin TC TL IN (SGi neg) (by decide) (by decide) (by decide) w
      · exact round_D_top0_2 neg m L q Lq e k h1 h2 hb.2.2.2 hlq hk LM DR LQ _ _ _ hin TC TL (SGt neg) w
      · cases neg
        · exact round_D_inf0_3 m L q Lq e k h1 h2 hb.2.2.2 hlq hk LM DR LQ _ _ _ _ hin TC TL IN (SGi false) w
        · exact round_D_top0_3 m L q Lq e k h1 h2 hb.2.2.2 hlq hk LM DR LQ _ _ _ hin TC TL (SGt true) w
      · cases neg
        · exact round_D_top0_4 m L q Lq e k h1 h2 hb.2.2.2 hlq hk LM DR LQ _ _ _ hin TC TL (SGt false) w
        · exact round_D_inf0_4 m L q Lq e k h1 h2 hb.2.2.2 hlq hk LM DR LQ _ _ _ _ hin TC TL IN (SGi true) w
    · rw [hl] at DR
      have hs := decide_eq_false hu
      rcases hmod with rfl | rfl | rfl | rfl | rfl
      · exact round_D_inf1 neg m L q Lq e k 0 h1 h2 hb.2.2.2 hlq hk LM DR LQ _ _ _ _ hin TC TL IN (SGi neg) (by decide) (by decide) (by decide) hs w
      · exact round_D_inf1 neg m L q Lq e k 1 h1 h2 hb.2.2.2 hlq hk LM DR LQ _ _ _ _ hin TC TL IN (SGi neg) (by decide) (by decide) (by decide) hs w
      · exact round_D_top1_2 neg m L q Lq e k h1 h2 hb.2.2.2 hlq hk LM DR LQ _ _ _ hin TC TL (SGt neg) hs w
      · cases neg
        · exact round_D_inf1_3 m L q Lq e k h1 h2 hb.2.2.2 hlq hk LM DR LQ _ _ _ _ hin TC TL IN (SGi false) hs w
        · exact round_D_top1_3 m L q Lq e k h1 h2 hb.2.2.2 hlq hk LM DR LQ _ _ _ hin TC TL (SGt true) hs w
      · cases neg
        · exact round_D_top1_4 m L q Lq e k h1 h2 hb.2.2.2 hlq hk LM DR LQ _ _ _ hin TC TL (SGt false) hs w
        · exact round_D_inf1_4 m L q Lq e k h1 h2 hb.2.2.2 hlq hk LM DR LQ _ _ _ _ hin TC TL IN (SGi true) hs w

end Go.Proofs.YtifgngmebnjfkaaDoor
