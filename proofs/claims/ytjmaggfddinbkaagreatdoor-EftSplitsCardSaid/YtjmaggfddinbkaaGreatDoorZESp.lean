/- The card of EftSplits: whatever the input, the call returns true and the input reads as it did; the de Bruijn table holds what the program's text lays. -/
import Derived.Test.YtjmaggfddinbkaaGreatDoorRows
import Derived.WalkKit
import Derived.WalkSpells
import Derived.WalkLawsBesides
import Derived.BigQuiet
import Derived.Lib.Hide
import Derived.Deep.OwnRows
import Derived.OwnWalk
import Derived.LoopTactic
import Derived.Outline
import Derived.IntWalk
import Derived.OrdersHeld
import Derived.StillTail
import Derived.Deep.RegionHeld3
import Derived.Maps.AppendAt
import Derived.Deep.QuietTactic
import Derived.Deep.DeepCutAuto
import Derived.Shelf.Bits.Mul64
import Derived.Laws.Externs
import Derived.Deep.RegionWith
import Ieee.Arith
import Derived.Lib.TrailingZeros
import Derived.Lib.BitFns
import Derived.Lib.Strings
import Derived.Lib.Slices
import Derived.Lib.Small
import Derived.Lib.Walk
import Derived.Deep.AppendLies
import Derived.Deep.Draws
import Derived.Laws.OwnMore
import Derived.Test.YtjmaggfddinbkaaGreatDoorCards
import Derived.Test.YtjmaggfddinbkaaGreatDoorTie
import Derived.ProofKit
import Derived.OpenShut
import Derived.ShutString
import Derived.ChangeOld
import Derived.Below
import Derived.Deep.DeepHandedRow
import Derived.Lib.LaidTab
import Derived.Test.YtjmaggfddinbkaaGreatDoorZESp3
set_option linter.unusedVariables false
set_option linter.unusedSimpArgs false
section
namespace Go.Proofs.YtjmaggfddinbkaaGreatDoor
open Go.RowKit
theorem fz_self {x : Nat} (h : x % 9223372036854775808 < 9218868437227405312) : Fz (fv x) (Fp.un Ieee.double x) := fz_of h
theorem cmp_same' {z1 z2 : Int} (h : z1 = z2) : (z1 - z2).sign = 0 := by rw [h, Int.sub_self]; rfl
theorem below_is {x k : Nat} (h : belowB x k = true) : x % 9223372036854775808 < 9218868437227405312 ∧ (Fp.un Ieee.double x).natAbs ≤ 2 ^ (k + 1074) := by
  unfold belowB at h
  rw [Bool.and_eq_true] at h
  exact ⟨of_decide_eq_true h.1, of_decide_eq_true h.2⟩
theorem whole_add_len (a b : Nat) : (dg (P64.wholeI a + P64.wholeI b).natAbs).length ≤ 81 := by
  refine dg_len_le ?_
  have h1 := Nat.lt_of_lt_of_le (lt_of_dg (P64.wholeI a).natAbs) (Nat.pow_le_pow_right (by decide) (whole_len a))
  have h2 := Nat.lt_of_lt_of_le (lt_of_dg (P64.wholeI b).natAbs) (Nat.pow_le_pow_right (by decide) (whole_len b))
  rw [Nat.pow_succ]
  generalize 4294967296 ^ 80 = X at *
  omega
theorem odd_le {M c x y : Nat} (hM : M % 2 = 1) (h : M * 2 ^ x = c * 2 ^ y) : M ≤ c := by
  rcases Nat.lt_or_ge x y with g | g
  · exfalso
    obtain ⟨d, rfl⟩ : ∃ d, y = x + d + 1 := ⟨y - x - 1, by omega⟩
    rw [Nat.pow_succ, Nat.pow_add] at h
    have e : M * 2 ^ x = (c * 2 ^ d * 2) * 2 ^ x := by rw [h]; ac_rfl
    have := Nat.eq_of_mul_eq_mul_right (Nat.two_pow_pos x) e
    omega
  · obtain ⟨d, rfl⟩ : ∃ d, x = y + d := ⟨x - y, by omega⟩
    rw [Nat.pow_add] at h
    have e : (M * 2 ^ d) * 2 ^ y = c * 2 ^ y := by rw [← h]; ac_rfl
    have := Nat.eq_of_mul_eq_mul_right (Nat.two_pow_pos y) e
    rw [← this]
    exact Nat.le_mul_of_pos_right _ (Nat.two_pow_pos d)
theorem spl_digits {A : Int} (h : RepZ A) (h0 : A ≠ 0) : ∃ (ch cl : Int) (j yh yl : Nat), splH A * 2 ^ j = ch * 2 ^ yh ∧ splL A * 2 ^ j = cl * 2 ^ yl ∧ ch.natAbs ≤ 67108864 ∧ cl.natAbs ≤ 67108864 := by
  obtain ⟨a, j, u, ha, a1, a2⟩ := norm_of h h0
  obtain ⟨hh, l, e1, e2, _, ⟨c, hc⟩, n1, n2⟩ := spl_norm a1 a2
  obtain ⟨s1, s2⟩ := spl_shift A j
  obtain ⟨t1, t2⟩ := spl_shift a u
  rw [ha, t1, e1] at s1
  rw [ha, t2, e2] at s2
  refine ⟨c, l, j, 27 + u, u, ?_, s2.symm, ?_, n2⟩
  · rw [← s1, hc, Int.pow_add, Int.mul_assoc]
  · rw [hc, natAbs_mul_pow] at n1
    have : (2 : Nat) ^ 27 = 134217728 := by decide
    rw [this] at n1
    omega
theorem digits_of {x : Nat} {c : Int} {j y : Nat} (fx : x % 9223372036854775808 < 9218868437227405312) (h0 : Fp.un Ieee.double x ≠ 0) (h : Fp.un Ieee.double x * 2 ^ j = c * 2 ^ y) (hc : c.natAbs ≤ 67108864) : pMantD x < 67108864 := by
  obtain ⟨m, hm⟩ := pMant_odd fx h0
  have h1 : pMantD x * 2 ^ ((pExpD x + 1074).toNat + j) = c.natAbs * 2 ^ y := by
    rw [Nat.pow_add, ← Nat.mul_assoc, ← abs_parts fx, ← natAbs_mul_pow, h, natAbs_mul_pow]
  have := odd_le (M := pMantD x) (by omega) h1
  omega
theorem exp_of {x : Nat} {i : Nat} (fx : x % 9223372036854775808 < 9218868437227405312) (h0 : Fp.un Ieee.double x ≠ 0) (h : Mu i (Fp.un Ieee.double x)) : i ≤ (pExpD x + 1074).toNat := by
  obtain ⟨m, hm⟩ := pMant_odd fx h0
  obtain ⟨c, hc⟩ := h.abs
  rw [abs_parts fx, hm] at hc
  rcases Nat.lt_or_ge (pExpD x + 1074).toNat i with g | g
  · exfalso
    obtain ⟨d, rfl⟩ : ∃ d, i = (pExpD x + 1074).toNat + d + 1 := ⟨i - (pExpD x + 1074).toNat - 1, by omega⟩
    rw [Nat.pow_succ, Nat.pow_add] at hc
    have e : (2 * m + 1) * 2 ^ (pExpD x + 1074).toNat = (c * 2 ^ d * 2) * 2 ^ (pExpD x + 1074).toNat := by rw [hc]; ac_rfl
    have := Nat.eq_of_mul_eq_mul_right (Nat.two_pow_pos _) e
    omega
  · exact g
theorem ofN_abs (b : Nat) : (ofN b).natAbs = pMantD b := by
  unfold ofN
  rw [sgv_abs]
theorem ofN_zero {b : Nat} (fx : b % 9223372036854775808 < 9218868437227405312) : ofN b = 0 ↔ b % 9223372036854775808 = 0 := by
  have h1 := abs_parts fx
  have h2 := ofN_abs b
  constructor
  · intro h
    rw [h] at h2
    rw [← h2] at h1
    refine un_zero.1 ?_
    have : (Fp.un Ieee.double b).natAbs = 0 := by rw [h1]; exact Nat.zero_mul _
    omega
  · intro h
    rw [un_zero.2 h] at h1
    have hp := Nat.two_pow_pos (pExpD b + 1074).toNat
    have : pMantD b = 0 := by
      rcases Nat.eq_zero_or_pos (pMantD b) with g | g
      · exact g
      · have := Nat.mul_pos g hp
        have h3 : (0 : Int).natAbs = 0 := rfl
        omega
    omega
theorem odd_same {n r : Int} {t m : Nat} (h : n = r * 2 ^ t) (hr : r.natAbs = 2 * m + 1) (ho : n.natAbs % 2 = 1) : t = 0 ∧ r = n := by
  rcases Nat.eq_zero_or_pos t with g | g
  · subst g
    refine ⟨rfl, by rw [h]; simp⟩
  · exfalso
    obtain ⟨d, rfl⟩ : ∃ d, t = d + 1 := ⟨t - 1, by omega⟩
    have e : n.natAbs = 2 * (r.natAbs * 2 ^ d) := by rw [h, natAbs_mul_pow, Nat.pow_succ]; ac_rfl
    omega
theorem dg_ofN (b : Nat) : (dg (ofN b).natAbs).length ≤ 2 := by
  rw [ofN_abs]
  exact dg_len_le (Nat.lt_of_lt_of_le (P64.pMantD_lt b) (by decide))
theorem blen_le {n : Nat} (h : n < 67108864) : ((blen n : Nat) : Int) ≤ 26 := by
  unfold blen
  split
  · decide
  · rename_i h0
    have : n.log2 < 26 := (Nat.log2_lt h0).2 h
    omega
@[go_sem] theorem run_field_ex1 (a b : Value) (w : World) : (Instr.field 53 (.agg #[a, b]) 1).run Tryz.prog w = .ok b w := by
  kernel_rfl
theorem XoddOf (b : Nat) (fx : b % 9223372036854775808 < 9218868437227405312) (n0 : b % 9223372036854775808 ≠ 0) (g : Nat) (w : World) (hT : Tab32 w) (hI : IntB w g (ofN b)) : Calls Tryz.prog 45 #[.agg #[.pointer (some ⟨g, 0, none⟩), .int .i64 (pExpD b)]] w (ExR w (ofN b) (pExpD b)) := by
  have h0 : ofN b ≠ 0 := fun h => n0 ((ofN_zero fx).1 h)
  have hr := P64.pExpD_range b
  refine (Xodd (ofN b) (pExpD b) g h0 (Nat.le_trans (dg_ofN b) (by decide)) ⟨by omega, by omega⟩ w hT hI).mono fun e w' ⟨t, m, r, h1, h2, h3⟩ => ?_
  obtain ⟨k, hk⟩ := pMant_odd fx (fun h => n0 (un_zero.1 h))
  obtain ⟨rfl, rfl⟩ := odd_same h1 h2 (by rw [ofN_abs]; omega)
  simpa using h3
set_option maxRecDepth 100000 in
set_option maxHeartbeats 600000 in
theorem digits_zero (x : Nat) (l : Int) (h : x % 9223372036854775808 = 0) (w : World) : Calls Tryz.prog 46 #[.float .f64 x, .int .i64 l] w fun e w' => e = .returned (.bool true) ∧ Within w w' := by
  have hz : (FloatKind.f64.format.order x 0 == some .eq) = true := by rw [c_zero, decide_eq_true h]
  clear h
  go_enter Tryz.func46, Tryz.ntmps46
  go_wp2
  go_ret
  exact ⟨rfl, (by repeat (first | with_reducible exact Within.refl _ | with_reducible assumption | with_reducible refine arW_within ?_ _ _ _ | with_reducible refine Within.alloc ?_ _ | with_reducible refine Within.drew ?_ | with_reducible refine Within.trans ?_ (by assumption)))⟩
set_option maxRecDepth 100000 in
set_option maxHeartbeats 600000 in
theorem digits_num (x : Nat) (l : Int) (hx : x < 18446744073709551616) (fx : x % 9223372036854775808 < 9218868437227405312) (h : x % 9223372036854775808 ≠ 0) (hl : l ≤ pExpD x) (hm : pMantD x < 67108864) (w : World) (hT : Tab32 w) : Calls Tryz.prog 46 #[.float .f64 x, .int .i64 l] w fun e w' => e = .returned (.bool true) ∧ Within w w' := by
  have hz : (FloatKind.f64.format.order x 0 == some .eq) = false := by rw [c_zero, decide_eq_false h]
  have CO := Lib.hid (fun w => Xof x hx w)
  have CD := Lib.hid (fun g w hT hI => XoddOf x fx h g w hT hI)
  have CB := Lib.hid (fun g w hI => Bbitlen g (ofN x) (Nat.le_trans (dg_ofN x) (by decide)) w hI)
  have d1 : decide (pExpD x ≥ l) = true := decide_eq_true hl
  have d2 : decide (((blen (ofN x).natAbs : Nat) : Int) ≤ 26) = true := decide_eq_true (by rw [ofN_abs]; exact blen_le hm)
  obtain ⟨n, hn⟩ : ∃ n, n = ofN x := ⟨_, rfl⟩
  obtain ⟨p, hp⟩ : ∃ p, p = pExpD x := ⟨_, rfl⟩
  rw [← hn] at CO CD CB d2
  rw [← hp] at CO CD d1
  have HT := Lib.hid hT; clear hn hp hl hm hx fx h hT
  go_enter Tryz.func46, Tryz.ntmps46
  go_wp2_with fail
  refine (CO.out _).mono ?_; rintro e1 w1 ⟨g1, rfl, hI1, _, hb1⟩
  go_wp2_with fail
  refine (CD.out g1 _ (HT.out.of (by repeat (first | with_reducible exact Within.refl _ | with_reducible assumption | with_reducible refine arW_within ?_ _ _ _ | with_reducible refine Within.alloc ?_ _ | with_reducible refine Within.drew ?_ | with_reducible refine Within.trans ?_ (by assumption)))) hI1).mono ?_; rintro e2 w2 ⟨g2, rfl, hI2, _, hb2⟩
  have p0 : (w2.alloc (.cells #[.pointer (some ⟨g2, 0, none⟩), .int .i64 p] 53)).cell? ⟨w2.heap.size, 0, none⟩ = some (.pointer (some ⟨g2, 0, none⟩)) := by go_simp
  have hJ := hI2.of ((Within.refl w2).alloc (.cells #[.pointer (some ⟨g2, 0, none⟩), .int .i64 p] 53))
  go_wp2_with fail
  refine (CB.out g2 _ hJ).mono ?_; rintro e3 w3 ⟨rfl, hb3⟩
  go_wp2
  go_ret
  exact ⟨rfl, (by repeat (first | with_reducible exact Within.refl _ | with_reducible assumption | with_reducible refine arW_within ?_ _ _ _ | with_reducible refine Within.alloc ?_ _ | with_reducible refine Within.drew ?_ | with_reducible refine Within.trans ?_ (by assumption)))⟩
set_option maxRecDepth 100000 in
set_option maxHeartbeats 600000 in
theorem splits_out (x : Nat) (hx : x < 18446744073709551616) (h : belowB x 995 = false) (w : World) (hT : Tab w ∧ Tab32 w) : Calls Tryz.prog 7 #[.int .u64 (x : Int)] w fun e w' => e = .returned (.bool true) ∧ Within w w' := by
  have AW := Lib.hid (awake_true w hT.1)
  have HT := Lib.hid hT
  have BX := Lib.hid (fun w => below_any x 995 hx (by decide) w)
  rw [h] at BX
  clear hx h hT
  go_enter Tryz.func7, Tryz.ntmps7
  go_wp2_with fail
  refine AW.out.mono ?_; rintro e1 w1 ⟨rfl, hb1⟩
  go_wp2_with fail
  refine (ef_any x _).mono ?_; rintro e0 w0 ⟨rfl, rfl⟩
  go_wp2_with fail
  refine (BX.out _).mono ?_; rintro e2 w2 ⟨rfl, hb2⟩
  go_wp2
  go_ret
  exact ⟨rfl, (by repeat (first | with_reducible exact Within.refl _ | with_reducible assumption | with_reducible refine arW_within ?_ _ _ _ | with_reducible refine Within.alloc ?_ _ | with_reducible refine Within.drew ?_ | with_reducible refine Within.trans ?_ (by assumption)))⟩
set_option maxRecDepth 100000 in
set_option maxHeartbeats 600000 in
theorem splits_zero (x : Nat) (hx : x < 18446744073709551616) (h : belowB x 995 = true) (h0 : x % 9223372036854775808 = 0) (w : World) (hT : Tab w ∧ Tab32 w) : Calls Tryz.prog 7 #[.int .u64 (x : Int)] w fun e w' => e = .returned (.bool true) ∧ Within w w' := by
  have z0 : Fp.un Ieee.double x = 0 := un_zero.2 h0
  have hn : ofN x = 0 := (ofN_zero (below_is h).1).2 h0
  have hzx : (FloatKind.f64.format.order x 0 == some .eq) = true := by rw [c_zero, decide_eq_true h0]
  have AW := Lib.hid (awake_true w hT.1)
  have HT := Lib.hid hT
  have BX := Lib.hid (fun w => below_any x 995 hx (by decide) w)
  obtain ⟨fx, bx⟩ := below_is h
  rw [h] at BX
  have RX := (fz_self fx).rep
  have lim : 995 + 1074 + 29 ≤ Fp.dtop := by unfold Fp.dtop; decide
  obtain ⟨FH, FL⟩ := hal_fwd (fz_self fx) lim bx
  have SUM := (spl_bound RX).2.2
  have TW := Lib.hid (fun w => Esplit_any x hx w)
  have OX := Lib.hid (fun w => XofW x hx w)
  have OX2 := Lib.hid (fun w => Xof x hx w)
  have HFH := Lib.hid FH; have HFL := Lib.hid FL; have HS := Lib.hid SUM; have HRX := Lib.hid RX; have FX := Lib.hid fx; have HXX := Lib.hid hx; clear FH FL SUM RX bx lim h hT
  rw [hn] at OX2
  have Z0 := Lib.hid z0; clear z0 hn h0 hx
  go_enter Tryz.func7, Tryz.ntmps7
  go_wp2_with fail
  refine AW.out.mono ?_; rintro e1 w1 ⟨rfl, hb1⟩
  go_wp2_with fail
  refine (ef_any x _).mono ?_; rintro e0 w0 ⟨rfl, rfl⟩
  go_wp2_with fail
  refine (BX.out _).mono ?_; rintro e2 w2 ⟨rfl, hb2⟩
  go_wp2_with fail
  refine (TW.out _).mono ?_; rintro e3 w3 ⟨s, l, rfl, hs, hl, vs, vl, hb3⟩
  have vs2 := HFH.out; rw [← vs] at vs2; have vl2 := HFL.out; rw [← vl] at vl2
  obtain ⟨fs, us⟩ := Fz.fv vs2; obtain ⟨fl, ul⟩ := Fz.fv vl2
  rw [fin_canon fs, fin_canon fl]
  clear vs vl vs2 vl2
  have CS := Lib.hid (fun w => rfin4 s hs w)
  have CL := Lib.hid (fun w => rfin4 l hl w)
  rw [show finW s = true from decide_eq_true fs] at CS
  rw [show finW l = true from decide_eq_true fl] at CL
  have SS := Lib.hid (fun w => Xsum s l hs hl w)
  have hsum : P64.wholeI s + P64.wholeI l = P64.wholeI x := by rw [whole_un hs fs, whole_un hl fl, whole_un HXX.out FX.out, us, ul]; exact HS.out
  have HSUM := Lib.hid hsum; clear hsum
  have zs : (FloatKind.f64.format.order s 0 == some .eq) = true := by rw [c_zero, decide_eq_true (un_zero.1 (by rw [us, Z0.out, spl_zero.1]))]
  have zl : (FloatKind.f64.format.order l 0 == some .eq) = true := by rw [c_zero, decide_eq_true (un_zero.1 (by rw [ul, Z0.out, spl_zero.2]))]
  clear us ul fs fl
  go_wp2_with fail
  refine (CS.out _).mono ?_; rintro e5 w5 ⟨rfl, hb5⟩
  go_wp2_with fail
  refine (CL.out _).mono ?_; rintro e6 w6 ⟨rfl, hb6⟩
  go_wp2_with fail
  refine (SS.out _).mono ?_; rintro e7 w7 ⟨g7, n7, E7, rfl, hI7, a7, b7, hv7, hb7⟩
  have l7 : (dg n7.natAbs).length ≤ 900 := Nat.le_trans (val_len n7 E7 1074) (by rw [hv7]; exact Nat.le_trans (whole_add_len _ _) (by decide))
  have HV7 := Lib.hid hv7; clear hv7
  go_wp2_with fail
  refine (OX.out _).mono ?_; rintro e8 w8 ⟨g8, n8, E8, rfl, hI8, a8, b8, hv8, hb8⟩
  have l8 : (dg n8.natAbs).length ≤ 900 := Nat.le_trans (val_len n8 E8 1074) (by rw [hv8]; exact Nat.le_trans (whole_len x) (by decide))
  have HV8 := Lib.hid hv8; clear hv8
  have CM := Lib.hid (fun w k1 k2 => Xcmp n7 n8 E7 E8 g7 g8 1074 1100 (by decide) (by decide) a7 b7 a8 b8 l7 l8 w k1 k2)
  rw [HV7.out, HV8.out, cmp_same' HSUM.out] at CM
  go_wp2_with fail
  refine (CM.out _ (hI7.of hb8) hI8).mono ?_; rintro e9 w9 ⟨rfl, hb9⟩
  clear hI7 hI8 a7 b7 a8 b8 l7 l8 HV7 HV8 CM
  go_wp2_with fail
  refine (OX2.out _).mono ?_; rintro e10 w10 ⟨g10, rfl, hI10, _, hb10⟩
  go_wp2_with fail
  refine (Xodd_zero _ g10 _ hI10).mono ?_; rintro e11 w11 ⟨g11, rfl, hI11, _, hb11⟩
  go_wp2
  go_ret
  exact ⟨rfl, (by repeat (first | with_reducible exact Within.refl _ | with_reducible assumption | with_reducible refine arW_within ?_ _ _ _ | with_reducible refine Within.alloc ?_ _ | with_reducible refine Within.drew ?_ | with_reducible refine Within.trans ?_ (by assumption)))⟩
set_option maxRecDepth 100000 in
set_option maxHeartbeats 600000 in
theorem splits_num (x : Nat) (hx : x < 18446744073709551616) (h : belowB x 995 = true) (h0 : x % 9223372036854775808 ≠ 0) (w : World) (hT : Tab w ∧ Tab32 w) : Calls Tryz.prog 7 #[.int .u64 (x : Int)] w fun e w' => e = .returned (.bool true) ∧ Within w w' := by
  have hzx : (FloatKind.f64.format.order x 0 == some .eq) = false := by rw [c_zero, decide_eq_false h0]
  have CD := Lib.hid (fun g w hT hI => XoddOf x (below_is h).1 h0 g w hT hI)
  have AW := Lib.hid (awake_true w hT.1)
  have HT := Lib.hid hT
  have BX := Lib.hid (fun w => below_any x 995 hx (by decide) w)
  obtain ⟨fx, bx⟩ := below_is h
  rw [h] at BX
  have RX := (fz_self fx).rep
  have lim : 995 + 1074 + 29 ≤ Fp.dtop := by unfold Fp.dtop; decide
  obtain ⟨FH, FL⟩ := hal_fwd (fz_self fx) lim bx
  have SUM := (spl_bound RX).2.2
  have TW := Lib.hid (fun w => Esplit_any x hx w)
  have OX := Lib.hid (fun w => XofW x hx w)
  have OX2 := Lib.hid (fun w => Xof x hx w)
  have HFH := Lib.hid FH; have HFL := Lib.hid FL; have HS := Lib.hid SUM; have HRX := Lib.hid RX; have FX := Lib.hid fx; have HXX := Lib.hid hx; clear FH FL SUM RX bx lim h hT
  have H0 := Lib.hid h0; clear h0 hx
  go_enter Tryz.func7, Tryz.ntmps7
  go_wp2_with fail
  refine AW.out.mono ?_; rintro e1 w1 ⟨rfl, hb1⟩
  go_wp2_with fail
  refine (ef_any x _).mono ?_; rintro e0 w0 ⟨rfl, rfl⟩
  go_wp2_with fail
  refine (BX.out _).mono ?_; rintro e2 w2 ⟨rfl, hb2⟩
  go_wp2_with fail
  refine (TW.out _).mono ?_; rintro e3 w3 ⟨s, l, rfl, hs, hl, vs, vl, hb3⟩
  have vs2 := HFH.out; rw [← vs] at vs2; have vl2 := HFL.out; rw [← vl] at vl2
  obtain ⟨fs, us⟩ := Fz.fv vs2; obtain ⟨fl, ul⟩ := Fz.fv vl2
  rw [fin_canon fs, fin_canon fl]
  clear vs vl vs2 vl2
  have CS := Lib.hid (fun w => rfin4 s hs w)
  have CL := Lib.hid (fun w => rfin4 l hl w)
  rw [show finW s = true from decide_eq_true fs] at CS
  rw [show finW l = true from decide_eq_true fl] at CL
  have SS := Lib.hid (fun w => Xsum s l hs hl w)
  have hsum : P64.wholeI s + P64.wholeI l = P64.wholeI x := by rw [whole_un hs fs, whole_un hl fl, whole_un HXX.out FX.out, us, ul]; exact HS.out
  have HSUM := Lib.hid hsum; clear hsum
  obtain ⟨ch, cl, j, yh, yl, d1, d2, d3, d4⟩ := spl_digits HRX.out (fun h => H0.out (un_zero.1 h))
  have hmx : Mu (pExpD x + 1074).toNat (Fp.un Ieee.double x) := mu_nat (abs_parts FX.out)
  obtain ⟨m1, m2⟩ := spl_mu hmx
  rw [← us] at d1 m1
  rw [← ul] at d2 m2
  have r1 := P64.pExpD_range x; have r2 := P64.pExpD_range s; have r3 := P64.pExpD_range l
  have DS : Hid (∀ w, Tab32 w → Calls Tryz.prog 46 #[.float .f64 s, .int .i64 (pExpD x)] w fun e w' => e = .returned (.bool true) ∧ Within w w') := Lib.hid (fun w hT => by
    by_cases z : s % 9223372036854775808 = 0
    · exact digits_zero s _ z w
    · exact digits_num s _ hs fs z (by have := exp_of fs (fun h => z (un_zero.1 h)) m1; omega) (digits_of fs (fun h => z (un_zero.1 h)) d1 d3) w hT)
  have DL : Hid (∀ w, Tab32 w → Calls Tryz.prog 46 #[.float .f64 l, .int .i64 (pExpD x)] w fun e w' => e = .returned (.bool true) ∧ Within w w') := Lib.hid (fun w hT => by
    by_cases z : l % 9223372036854775808 = 0
    · exact digits_zero l _ z w
    · exact digits_num l _ hl fl z (by have := exp_of fl (fun h => z (un_zero.1 h)) m2; omega) (digits_of fl (fun h => z (un_zero.1 h)) d2 d4) w hT)
  obtain ⟨p, hp⟩ : ∃ p, p = pExpD x := ⟨_, rfl⟩
  rw [← hp] at DS DL OX2 CD
  clear d1 d2 d3 d4 m1 m2 hmx r1 r2 r3 us ul fs fl hp
  go_wp2_with fail
  refine (CS.out _).mono ?_; rintro e5 w5 ⟨rfl, hb5⟩
  go_wp2_with fail
  refine (CL.out _).mono ?_; rintro e6 w6 ⟨rfl, hb6⟩
  go_wp2_with fail
  refine (SS.out _).mono ?_; rintro e7 w7 ⟨g7, n7, E7, rfl, hI7, a7, b7, hv7, hb7⟩
  have l7 : (dg n7.natAbs).length ≤ 900 := Nat.le_trans (val_len n7 E7 1074) (by rw [hv7]; exact Nat.le_trans (whole_add_len _ _) (by decide))
  have HV7 := Lib.hid hv7; clear hv7
  go_wp2_with fail
  refine (OX.out _).mono ?_; rintro e8 w8 ⟨g8, n8, E8, rfl, hI8, a8, b8, hv8, hb8⟩
  have l8 : (dg n8.natAbs).length ≤ 900 := Nat.le_trans (val_len n8 E8 1074) (by rw [hv8]; exact Nat.le_trans (whole_len x) (by decide))
  have HV8 := Lib.hid hv8; clear hv8
  have CM := Lib.hid (fun w k1 k2 => Xcmp n7 n8 E7 E8 g7 g8 1074 1100 (by decide) (by decide) a7 b7 a8 b8 l7 l8 w k1 k2)
  rw [HV7.out, HV8.out, cmp_same' HSUM.out] at CM
  go_wp2_with fail
  refine (CM.out _ (hI7.of hb8) hI8).mono ?_; rintro e9 w9 ⟨rfl, hb9⟩
  clear hI7 hI8 a7 b7 a8 b8 l7 l8 HV7 HV8 CM
  go_wp2_with fail
  refine (OX2.out _).mono ?_; rintro e10 w10 ⟨g10, rfl, hI10, _, hb10⟩
  go_wp2_with fail
  refine (CD.out g10 _ (HT.out.2.of (by repeat (first | with_reducible exact Within.refl _ | with_reducible assumption | with_reducible refine arW_within ?_ _ _ _ | with_reducible refine Within.alloc ?_ _ | with_reducible refine Within.drew ?_ | with_reducible refine Within.trans ?_ (by assumption)))) hI10).mono ?_; rintro e11 w11 ⟨g11, rfl, hI11, _, hb11⟩
  go_wp2_with fail
  refine (DS.out _ (HT.out.2.of (by repeat (first | with_reducible exact Within.refl _ | with_reducible assumption | with_reducible refine arW_within ?_ _ _ _ | with_reducible refine Within.alloc ?_ _ | with_reducible refine Within.drew ?_ | with_reducible refine Within.trans ?_ (by assumption))))).mono ?_; rintro e12 w12 ⟨rfl, hb12⟩
  go_wp2_with fail
  refine (DL.out _ (HT.out.2.of (by repeat (first | with_reducible exact Within.refl _ | with_reducible assumption | with_reducible refine arW_within ?_ _ _ _ | with_reducible refine Within.alloc ?_ _ | with_reducible refine Within.drew ?_ | with_reducible refine Within.trans ?_ (by assumption))))).mono ?_; rintro e13 w13 ⟨rfl, hb13⟩
  go_wp2
  go_ret
  exact ⟨rfl, (by repeat (first | with_reducible exact Within.refl _ | with_reducible assumption | with_reducible refine arW_within ?_ _ _ _ | with_reducible refine Within.alloc ?_ _ | with_reducible refine Within.drew ?_ | with_reducible refine Within.trans ?_ (by assumption)))⟩
theorem splits_law (x : Nat) (hx : x < 18446744073709551616) (w : World) (hT : Tab w ∧ Tab32 w) : Calls Tryz.prog 7 #[.int .u64 (x : Int)] w fun e w' => e = .returned (.bool true) ∧ Within w w' := by
  cases h : belowB x 995
  · exact splits_out x hx h w hT
  · by_cases h0 : x % 9223372036854775808 = 0
    · exact splits_zero x hx h h0 w hT
    · exact splits_num x hx h h0 w hT
end Go.Proofs.YtjmaggfddinbkaaGreatDoor
end

section
namespace Go.Proofs.YtjmaggfddinbkaaGreatDoor.Base
open Go.ChangeShapes Go.WideShapes Go.ChangeAt Go.RowKit
theorem own : ownKnob Tryz.prog.godebug = none := by kernel_rfl
theorem gTab : Tryz.prog.globalNamed "math/bits.deBruijn64tab" = some 2 := by kernel_rfl
theorem gTabType : (Tryz.prog.globals[2]?).map (·.type) = some 174 := by kernel_rfl
theorem cellsT : Tryz.prog.cellsOf 174 = 64 := by kernel_rfl
theorem cellsB : Tryz.prog.cellsOf 5 = 1 := by kernel_rfl
theorem tab {W : World} (h : laidMetH Tryz.prog [("math/bits.deBruijn64tab", Rows.laid_math_bits_deBruijn64tab)] W) : Tab W := fun j hj => by
  have e := (Lib.tabIs_of_head (zs := Lib.deBruijn64tab.map Int.ofNat) (rest := []) gTab gTabType Tryz.underlying174 Tryz.underlying5 cellsB cellsT h).cell gTab j (by simpa [Lib.deBruijn64tab] using hj)
  rw [e]
  congr 2
  have hl : j < Lib.deBruijn64tab.length := hj
  simp [List.getD, List.getElem?_map, List.getElem?_eq_getElem hl]
theorem nat_of_u64 {n : Int} (h : (Lit.int .u64 n).wf = true) : ∃ a : Nat, n = a ∧ a < 18446744073709551616 := by
  simp only [Lit.wf, Bool.and_eq_true, decide_eq_true_eq] at h
  have h1 : (0 : Int) ≤ n := h.1
  have h2 : n ≤ 18446744073709551615 := h.2
  exact ⟨n.toNat, by omega, by omega⟩
noncomputable def laidWorld (os : Os) : World :=
  { World.holding Tryz.prog os ⟨#[], #[], []⟩ with heap := (World.holding Tryz.prog os ⟨#[], #[], []⟩).heap.modify 2 fun
      | .cells _ t frozen => .cells #[.int .u8 0, .int .u8 1, .int .u8 56, .int .u8 2, .int .u8 57, .int .u8 49, .int .u8 28, .int .u8 3, .int .u8 61, .int .u8 58, .int .u8 42, .int .u8 50, .int .u8 38, .int .u8 29, .int .u8 17, .int .u8 4, .int .u8 62, .int .u8 47, .int .u8 59, .int .u8 36, .int .u8 45, .int .u8 43, .int .u8 51, .int .u8 22, .int .u8 53, .int .u8 39, .int .u8 33, .int .u8 30, .int .u8 24, .int .u8 18, .int .u8 12, .int .u8 5, .int .u8 63, .int .u8 55, .int .u8 48, .int .u8 27, .int .u8 60, .int .u8 41, .int .u8 37, .int .u8 16, .int .u8 46, .int .u8 35, .int .u8 44, .int .u8 21, .int .u8 52, .int .u8 32, .int .u8 23, .int .u8 11, .int .u8 54, .int .u8 26, .int .u8 40, .int .u8 15, .int .u8 34, .int .u8 20, .int .u8 31, .int .u8 10, .int .u8 25, .int .u8 14, .int .u8 19, .int .u8 9, .int .u8 13, .int .u8 8, .int .u8 7, .int .u8 6] t frozen
      | o => o }
end Go.Proofs.YtjmaggfddinbkaaGreatDoor.Base
end

section
namespace Go.Proofs.YtjmaggfddinbkaaGreatDoor.Base
open Go.ChangeShapes Go.WideShapes Go.ChangeAt Go.RowKit
theorem gTab32 : Tryz.prog.globalNamed "math/bits.deBruijn32tab" = some 1 := by kernel_rfl
theorem gTab32Type : (Tryz.prog.globals[1]?).map (·.type) = some 160 := by kernel_rfl
theorem cells32 : Tryz.prog.cellsOf 160 = 32 := by kernel_rfl
theorem laid_tail {P : Program} {x : String × DataW Unit} {r : List (String × DataW Unit)} {w : World} (h : laidMet P (x :: r) w) : laidMet P r w := by
  obtain ⟨ps, hv, hnd, hrows⟩ := h
  obtain ⟨n, d⟩ := x
  obtain ⟨g, t, cs, fuel, p, q, _, _, _, _, hq, rfl⟩ := hv
  exact ⟨q, hq, List.Nodup.sublist (List.sublist_append_right _ _) hnd, fun b off hm => hrows b off (List.mem_append_right _ hm)⟩
theorem tab2 {W : World} (h : laidMetH Tryz.prog [("math/bits.deBruijn32tab", Rows.laid_math_bits_deBruijn32tab), ("math/bits.deBruijn64tab", Rows.laid_math_bits_deBruijn64tab)] W) : Tab W ∧ Tab32 W := by
  refine ⟨tab (laid_tail h), fun j hj => ?_⟩
  have e := (Lib.tabIs_of_head (zs := Lib.deBruijn32tab.map Int.ofNat) gTab32 gTab32Type Tryz.underlying160 Tryz.underlying5 cellsB cells32 h).cell gTab32 j (by simpa [Lib.deBruijn32tab] using hj)
  rw [e]
  congr 2
  have hl : j < Lib.deBruijn32tab.length := hj
  simp [List.getD, List.getElem?_map, List.getElem?_eq_getElem hl]
noncomputable def laidWorld2 (os : Os) : World :=
  { laidWorld os with heap := (laidWorld os).heap.modify 1 fun
      | .cells _ t frozen => .cells #[.int .u8 0, .int .u8 1, .int .u8 28, .int .u8 2, .int .u8 29, .int .u8 14, .int .u8 24, .int .u8 3, .int .u8 30, .int .u8 22, .int .u8 20, .int .u8 15, .int .u8 25, .int .u8 17, .int .u8 4, .int .u8 8, .int .u8 31, .int .u8 27, .int .u8 13, .int .u8 23, .int .u8 21, .int .u8 19, .int .u8 16, .int .u8 7, .int .u8 26, .int .u8 12, .int .u8 18, .int .u8 6, .int .u8 11, .int .u8 5, .int .u8 10, .int .u8 9] t frozen
      | o => o }
end Go.Proofs.YtjmaggfddinbkaaGreatDoor.Base
end

section
namespace Go.Proofs.YtjmaggfddinbkaaGreatDoor.eftSplits
open Go.ChangeShapes Go.WideShapes Go.ChangeAt Go.RowKit
set_option maxRecDepth 100000 in
theorem contract (H : Type) (enc : TypeId × Value → H) (W : World) (base : Nat) (args : Array Value) (ds gs : List (DataW H)) (before : List MemPlace)
    (hval : ∀ (j : Nat) t v, Tryz.f7.params[j]? = some t → args[j]? = some v → Value.okWide Tryz.prog W .any base t v)
    (hW : DataW.Whole enc Tryz.prog Tryz.f7.params.toList Rows.eftSplitsSpec.vars false W args.toList ds gs before) (hL : laidMetH Tryz.prog Rows.eftSplitsRow.laid W) :
    Calls Tryz.prog 7 args W fun e W' => ∃ v, e = .returned v ∧ Rows.eftSplitsSpec.post enc Tryz.prog Tryz.f7 false true false false W args v W' := by
  have hW' := hW
  obtain ⟨p, q, hA0, hV, rfl, hfz, hnd⟩ := hW
  have hA : DataW.TrodAll enc Tryz.prog W 0 (fun _ => true) true Tryz.f7.params.toList args.toList ds p := hA0
  rw [Tryz.params7] at hA hval
  obtain ⟨v0, vs0, d0, ds0, p0, q0, hargs, rfl, rfl, h0, r0⟩ := trodAll_cons hA
  obtain ⟨rfl, rfl, rfl⟩ := trodAll_nil r0
  obtain rfl : args = #[v0] := by cases args; simp_all
  obtain ⟨rfl, rfl⟩ := trodVars_none hV
  obtain ⟨n0, rfl, rfl, rfl, w0⟩ := open_int Tryz.underlying23 (hval 0 23 v0 rfl rfl) h0
  obtain ⟨a0, rfl, ha0⟩ := Base.nat_of_u64 w0
  clear hA0
  simp only [List.append_nil] at hW'
  refine (splits_law a0 ha0 W (Base.tab2 hL)).mono fun e W' ⟨he, bel⟩ => ?_
  subst he
  exact ⟨_, rfl, _, _, _, [], _, [], hW', trodAll_mk1 (shut_bool Tryz.underlying4 _), (trodAll_cons_mk (shut_int Tryz.underlying23 w0) trodAll_mk0), rfl, Below.frame bel _, fun h => by cases h⟩
theorem laid_met (os : Os) : laidMet Tryz.prog Rows.eftSplitsRow.laid ((Base.laidWorld2 os).forCall (fun _ _ => 0) ⟨#[], #[Value.int .u64 0], []⟩).memory :=
  laidMet_of_run' 8 (by kernel_rfl) (by kernel_rfl)
theorem reads (os : Os) {H : Type} (enc : TypeId × Value → H) : ∃ places, DataW.whole enc Tryz.prog ((Base.laidWorld2 os).forCall (fun _ _ => 0) ⟨#[], #[Value.int .u64 0], []⟩).memory Tryz.f7.params.toList Rows.eftSplitsSpec.vars false (#[Value.int .u64 0] : Array Value).toList 8 = some ([.lit (.int .u64 0)], [], places) :=
  ⟨[], by kernel_rfl⟩
set_option maxRecDepth 100000 in
theorem lifted (os : Os) (started : os.Started) (H : Type) (enc : TypeId × Value → H) (F : Stop.Interp) :
    ReturnsInHanded {} Tryz.checked os 7 .any ((OpenSpec.ofChange Rows.eftSplitsSpec).preRow enc Tryz.prog Tryz.f7 Rows.eftSplitsRow.domain false Rows.eftSplitsRow.laid) (((OpenSpec.ofChange Rows.eftSplitsSpec).at F).post enc Tryz.prog Tryz.f7 false true false false) := by
  obtain ⟨places, hx⟩ := reads os enc
  refine returnsInHanded_of_row (C := Tryz.checked) (s := OpenSpec.ofChange Rows.eftSplitsSpec) Base.own started (by kernel_rfl) Tryz.func7
    (witness_row_at (enc := enc) (C := Tryz.checked) false (Base.laidWorld2 os) #[Value.int .u64 0] rfl (by kernel_rfl) (by kernel_rfl) (by kernel_rfl)
      (OpenSpec.preRow_of_cond 8 hx (by kernel_rfl) (fun k hk => by cases hk) (by kernel_rfl) (laid_met os))) ?_
  intro W base args ds gs before hval hW _ _ _ hL _ _
  exact contract H enc W base args ds gs before hval hW hL
theorem said : Rows.EftSplitsSaid :=
  OpenClaim.holds_of_cond 7 Tryz.f7 rfl rfl rfl rfl rfl rfl rfl ⟨rfl, rfl, rfl, rfl, rfl⟩ rfl rfl rfl rfl rfl (by kernel_rfl) Tryz.func7 (by kernel_rfl)
    (of_decide_eq_true (by kernel_rfl)) (by unfold Func.isWrapper; first | (rw [if_pos (by decide +kernel)]; kernel_rfl) | (rw [if_neg (by decide +kernel)]; exact ⟨rfl, rfl⟩))
    (fun os started H enc _ F => by rw [OpenClaim.pre_eq_preRow]; exact lifted os started H enc F)
theorem plain (f : FuncId) (fn : Func) (hf : Tryz.pinned.checked.prog.funcNamed "binnacle/binnaclelaw04.EftSplits" = some f) (hfn : Tryz.pinned.checked.prog.funcs[f]? = some fn) :
    false = Tryz.pinned.checked.prog.looks [] ∧ ∀ (j : Nat) t, fn.params[j]? = some t → Tryz.pinned.checked.prog.wantsStandIn t = false := by
  obtain rfl : f = 7 := Option.some.inj ((show Tryz.prog.funcNamed "binnacle/binnaclelaw04.EftSplits" = some 7 by kernel_rfl).symm.trans hf) |>.symm
  obtain rfl : fn = Tryz.f7 := (Option.some.inj (Tryz.func7.symm.trans hfn)).symm
  refine ⟨by kernel_rfl, fun j t ht => ?_⟩
  rw [Tryz.params7] at ht
  have hm := Array.mem_of_getElem? ht
  have hm' : t = 23 := by simpa using hm
  subst hm'
  exact (show Tryz.prog.wantsStandIn 23 = false by kernel_rfl)
theorem card : Rows.EftSplitsCardSaid :=
  Claim7.holds_tied_plain_at .later [] _ _ _ _ said (fun _ h => by cases h) (by kernel_rfl) (fun _ h => by cases h) eftSplits_row_tie rfl ⟨rfl, rfl⟩ (by kernel_rfl) rfl plain (by kernel_rfl)
#print axioms card
end Go.Proofs.YtjmaggfddinbkaaGreatDoor.eftSplits
end
