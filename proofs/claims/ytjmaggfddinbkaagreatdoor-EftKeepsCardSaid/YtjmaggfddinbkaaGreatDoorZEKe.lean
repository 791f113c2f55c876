/- The card of EftKeeps: whatever the input, the call returns true and the input reads as it did; the format holds what the program's text lays. -/
import Derived.Test.YtjmaggfddinbkaaGreatDoorRows
import Derived.WalkKit
import Derived.WalkSpells
import Derived.WalkLawsBesides
import Derived.BigQuiet
import Derived.Lib.Hide
import Derived.Deep.OwnRows
import Derived.OwnWalk
import Derived.LoopTactic
import Derived.Outline
import Derived.IntWalk
import Derived.OrdersHeld
import Derived.StillTail
import Derived.Deep.RegionHeld3
import Derived.Maps.AppendAt
import Derived.Deep.QuietTactic
import Derived.Deep.DeepCutAuto
import Derived.Shelf.Bits.Mul64
import Derived.Laws.Externs
import Derived.Deep.RegionWith
import Ieee.Arith
import Derived.Lib.TrailingZeros
import Derived.Lib.BitFns
import Derived.Lib.Strings
import Derived.Lib.Slices
import Derived.Lib.Small
import Derived.Lib.Walk
import Derived.Deep.AppendLies
import Derived.Deep.Draws
import Derived.Laws.OwnMore
import Derived.Test.YtjmaggfddinbkaaGreatDoorCards
import Derived.Test.YtjmaggfddinbkaaGreatDoorTie
import Derived.ProofKit
import Derived.OpenShut
import Derived.ShutString
import Derived.ChangeOld
import Derived.Below
import Derived.Deep.DeepHandedRow
import Derived.Lib.LaidTab
import Derived.ChangeSlices
import Derived.Carry
import Derived.SizedLaws
import Derived.Deep.Strs
import Derived.Lib.SmallJoins
import Derived.Test.YtjmaggfddinbkaaGreatDoorZEKe4
set_option linter.unusedVariables false
set_option linter.unusedSimpArgs false
section
namespace Go.Proofs.YtjmaggfddinbkaaGreatDoor
open Go.RowKit
theorem val_more {n E : Int} {L : Nat} (M : Nat) (h : -(L : Int) ≤ E) : valE n E (L + M) = valE n E L * 2 ^ M := by
  unfold valE
  rw [show (E + ((L + M : Nat) : Int)).toNat = (E + L).toNat + M by omega, Int.pow_add, Int.mul_assoc]
theorem sum_len' {es : List Nat} (hw : Words64 es) (hf : ∀ x ∈ es, x % 9223372036854775808 < 9218868437227405312) (hl : es.length ≤ 64) : (dg ((unL es).sum).natAbs).length ≤ 80 := by
  have := sum_len hw hf hl es.length
  rwa [List.take_of_length_le (by rw [unL_len]; exact Nat.le_refl _)] at this
theorem cmp_same' {z1 z2 : Int} (h : z1 = z2) : (z1 - z2).sign = 0 := by rw [h, Int.sub_self]; rfl
set_option maxRecDepth 100000 in
set_option maxHeartbeats 600000 in
theorem keeps_out1 (A : Option Addr) (c : Nat) (x : List Nat) (hwx : Words64 x) (hlx : x.length * 8 ≤ 140737488355328) (B : Option Addr) (d : Nat) (y : List Nat) (hwy : Words64 y) (hly : y.length * 8 ≤ 140737488355328) (z : Nat) (hz : z < 18446744073709551616) (h1 : isB x = false) (w : World) (hT : Tab w) (hrx : SlAt w A (u64v x)) (hry : SlAt w B (u64v y)) : Calls Tryz.prog 8 #[.slice A x.length c, .slice B y.length d, .int .u64 (z : Int)] w fun e w' => e = .returned (.bool true) ∧ Within w w' := by
  have RX := Lib.hid hrx; have RY := Lib.hid hry; have WX := Lib.hid hwx; have WY := Lib.hid hwy; have HT := Lib.hid hT; have HZ := Lib.hid hz; clear hrx hry hwx hwy hT hz
  have hlx2 : x.length ≤ 1152921504606846976 := by omega
  have hly2 : y.length ≤ 1152921504606846976 := by omega
  have AW := Lib.hid (fun w hT => awake_true w hT)
  have IX := Lib.hid (fun A c w hT hr => eis_any A c x WX.out hlx2 w hT hr)
  have IY := Lib.hid (fun A c w hT hr => eis_any A c y WY.out hly2 w hT hr)
  have FZ := Lib.hid (fun w => rfin4 z HZ.out w)
  rw [h1] at IX
  clear h1
  go_enter Tryz.func8, Tryz.ntmps8
  go_wp2_with fail
  refine (AW.out _ HT.out).mono ?_; rintro e0 w0' ⟨rfl, hb0⟩
  have L1 := Lib.hid (fun w hr => l_any A c x WX.out (by assumption) w hr)
  go_wp2_with fail
  refine (L1.out _ (RX.out.of (by repeat (first | with_reducible exact Within.refl _ | with_reducible assumption | with_reducible refine arW_within ?_ _ _ _ | with_reducible refine Within.alloc ?_ _ | with_reducible refine Within.drew ?_ | with_reducible refine Within.trans ?_ (by assumption))))).mono ?_; rintro e1 w1 ⟨v1, rfl, hO1, hb1⟩
  obtain ⟨A1, c1, rfl, _, hs1, _⟩ := hO1.form
  have HS1 := Lib.hid hs1; clear hs1 hO1 L1
  have L2 := Lib.hid (fun w hr => l_any B d y WY.out (by assumption) w hr)
  go_wp2_with fail
  refine (L2.out _ (RY.out.of (by repeat (first | with_reducible exact Within.refl _ | with_reducible assumption | with_reducible refine arW_within ?_ _ _ _ | with_reducible refine Within.alloc ?_ _ | with_reducible refine Within.drew ?_ | with_reducible refine Within.trans ?_ (by assumption))))).mono ?_; rintro e2 w2 ⟨v2, rfl, hO2, hb2⟩
  obtain ⟨A2, c2, rfl, _, hs2, _⟩ := hO2.form
  have HS2 := Lib.hid hs2; clear hs2 hO2 L2
  go_wp2_with fail
  refine (IX.out A1 c1 _ (HT.out.of (by repeat (first | with_reducible exact Within.refl _ | with_reducible assumption | with_reducible refine arW_within ?_ _ _ _ | with_reducible refine Within.alloc ?_ _ | with_reducible refine Within.drew ?_ | with_reducible refine Within.trans ?_ (by assumption)))) (HS1.out.of (by repeat (first | with_reducible exact Within.refl _ | with_reducible assumption | with_reducible refine arW_within ?_ _ _ _ | with_reducible refine Within.alloc ?_ _ | with_reducible refine Within.drew ?_ | with_reducible refine Within.trans ?_ (by assumption))))).mono ?_; rintro e3 w3 ⟨rfl, hb3⟩
  go_wp2
  go_ret
  exact ⟨rfl, (by repeat (first | with_reducible exact Within.refl _ | with_reducible assumption | with_reducible refine arW_within ?_ _ _ _ | with_reducible refine Within.alloc ?_ _ | with_reducible refine Within.drew ?_ | with_reducible refine Within.trans ?_ (by assumption)))⟩
set_option maxRecDepth 100000 in
set_option maxHeartbeats 600000 in
theorem keeps_out2 (A : Option Addr) (c : Nat) (x : List Nat) (hwx : Words64 x) (hlx : x.length * 8 ≤ 140737488355328) (B : Option Addr) (d : Nat) (y : List Nat) (hwy : Words64 y) (hly : y.length * 8 ≤ 140737488355328) (z : Nat) (hz : z < 18446744073709551616) (h1 : isB x = true) (h2 : isB y = false) (w : World) (hT : Tab w) (hrx : SlAt w A (u64v x)) (hry : SlAt w B (u64v y)) : Calls Tryz.prog 8 #[.slice A x.length c, .slice B y.length d, .int .u64 (z : Int)] w fun e w' => e = .returned (.bool true) ∧ Within w w' := by
  have RX := Lib.hid hrx; have RY := Lib.hid hry; have WX := Lib.hid hwx; have WY := Lib.hid hwy; have HT := Lib.hid hT; have HZ := Lib.hid hz; clear hrx hry hwx hwy hT hz
  have hlx2 : x.length ≤ 1152921504606846976 := by omega
  have hly2 : y.length ≤ 1152921504606846976 := by omega
  have AW := Lib.hid (fun w hT => awake_true w hT)
  have IX := Lib.hid (fun A c w hT hr => eis_any A c x WX.out hlx2 w hT hr)
  have IY := Lib.hid (fun A c w hT hr => eis_any A c y WY.out hly2 w hT hr)
  have FZ := Lib.hid (fun w => rfin4 z HZ.out w)
  rw [h1] at IX
  rw [h2] at IY
  clear h1 h2
  go_enter Tryz.func8, Tryz.ntmps8
  go_wp2_with fail
  refine (AW.out _ HT.out).mono ?_; rintro e0 w0' ⟨rfl, hb0⟩
  have L1 := Lib.hid (fun w hr => l_any A c x WX.out (by assumption) w hr)
  go_wp2_with fail
  refine (L1.out _ (RX.out.of (by repeat (first | with_reducible exact Within.refl _ | with_reducible assumption | with_reducible refine arW_within ?_ _ _ _ | with_reducible refine Within.alloc ?_ _ | with_reducible refine Within.drew ?_ | with_reducible refine Within.trans ?_ (by assumption))))).mono ?_; rintro e1 w1 ⟨v1, rfl, hO1, hb1⟩
  obtain ⟨A1, c1, rfl, _, hs1, _⟩ := hO1.form
  have HS1 := Lib.hid hs1; clear hs1 hO1 L1
  have L2 := Lib.hid (fun w hr => l_any B d y WY.out (by assumption) w hr)
  go_wp2_with fail
  refine (L2.out _ (RY.out.of (by repeat (first | with_reducible exact Within.refl _ | with_reducible assumption | with_reducible refine arW_within ?_ _ _ _ | with_reducible refine Within.alloc ?_ _ | with_reducible refine Within.drew ?_ | with_reducible refine Within.trans ?_ (by assumption))))).mono ?_; rintro e2 w2 ⟨v2, rfl, hO2, hb2⟩
  obtain ⟨A2, c2, rfl, _, hs2, _⟩ := hO2.form
  have HS2 := Lib.hid hs2; clear hs2 hO2 L2
  go_wp2_with fail
  refine (IX.out A1 c1 _ (HT.out.of (by repeat (first | with_reducible exact Within.refl _ | with_reducible assumption | with_reducible refine arW_within ?_ _ _ _ | with_reducible refine Within.alloc ?_ _ | with_reducible refine Within.drew ?_ | with_reducible refine Within.trans ?_ (by assumption)))) (HS1.out.of (by repeat (first | with_reducible exact Within.refl _ | with_reducible assumption | with_reducible refine arW_within ?_ _ _ _ | with_reducible refine Within.alloc ?_ _ | with_reducible refine Within.drew ?_ | with_reducible refine Within.trans ?_ (by assumption))))).mono ?_; rintro e3 w3 ⟨rfl, hb3⟩
  go_wp2_with fail
  refine (IY.out A2 c2 _ (HT.out.of (by repeat (first | with_reducible exact Within.refl _ | with_reducible assumption | with_reducible refine arW_within ?_ _ _ _ | with_reducible refine Within.alloc ?_ _ | with_reducible refine Within.drew ?_ | with_reducible refine Within.trans ?_ (by assumption)))) (HS2.out.of (by repeat (first | with_reducible exact Within.refl _ | with_reducible assumption | with_reducible refine arW_within ?_ _ _ _ | with_reducible refine Within.alloc ?_ _ | with_reducible refine Within.drew ?_ | with_reducible refine Within.trans ?_ (by assumption))))).mono ?_; rintro e4 w4 ⟨rfl, hb4⟩
  go_wp2
  go_ret
  exact ⟨rfl, (by repeat (first | with_reducible exact Within.refl _ | with_reducible assumption | with_reducible refine arW_within ?_ _ _ _ | with_reducible refine Within.alloc ?_ _ | with_reducible refine Within.drew ?_ | with_reducible refine Within.trans ?_ (by assumption)))⟩
set_option maxRecDepth 100000 in
set_option maxHeartbeats 600000 in
theorem keeps_out3 (A : Option Addr) (c : Nat) (x : List Nat) (hwx : Words64 x) (hlx : x.length * 8 ≤ 140737488355328) (B : Option Addr) (d : Nat) (y : List Nat) (hwy : Words64 y) (hly : y.length * 8 ≤ 140737488355328) (z : Nat) (hz : z < 18446744073709551616) (h1 : isB x = true) (h2 : isB y = true) (h3 : finW z = false) (w : World) (hT : Tab w) (hrx : SlAt w A (u64v x)) (hry : SlAt w B (u64v y)) : Calls Tryz.prog 8 #[.slice A x.length c, .slice B y.length d, .int .u64 (z : Int)] w fun e w' => e = .returned (.bool true) ∧ Within w w' := by
  have RX := Lib.hid hrx; have RY := Lib.hid hry; have WX := Lib.hid hwx; have WY := Lib.hid hwy; have HT := Lib.hid hT; have HZ := Lib.hid hz; clear hrx hry hwx hwy hT hz
  have hlx2 : x.length ≤ 1152921504606846976 := by omega
  have hly2 : y.length ≤ 1152921504606846976 := by omega
  have AW := Lib.hid (fun w hT => awake_true w hT)
  have IX := Lib.hid (fun A c w hT hr => eis_any A c x WX.out hlx2 w hT hr)
  have IY := Lib.hid (fun A c w hT hr => eis_any A c y WY.out hly2 w hT hr)
  have FZ := Lib.hid (fun w => rfin4 z HZ.out w)
  rw [h1] at IX
  rw [h2] at IY
  rw [h3] at FZ
  clear h1 h2 h3
  go_enter Tryz.func8, Tryz.ntmps8
  go_wp2_with fail
  refine (AW.out _ HT.out).mono ?_; rintro e0 w0' ⟨rfl, hb0⟩
  have L1 := Lib.hid (fun w hr => l_any A c x WX.out (by assumption) w hr)
  go_wp2_with fail
  refine (L1.out _ (RX.out.of (by repeat (first | with_reducible exact Within.refl _ | with_reducible assumption | with_reducible refine arW_within ?_ _ _ _ | with_reducible refine Within.alloc ?_ _ | with_reducible refine Within.drew ?_ | with_reducible refine Within.trans ?_ (by assumption))))).mono ?_; rintro e1 w1 ⟨v1, rfl, hO1, hb1⟩
  obtain ⟨A1, c1, rfl, _, hs1, _⟩ := hO1.form
  have HS1 := Lib.hid hs1; clear hs1 hO1 L1
  have L2 := Lib.hid (fun w hr => l_any B d y WY.out (by assumption) w hr)
  go_wp2_with fail
  refine (L2.out _ (RY.out.of (by repeat (first | with_reducible exact Within.refl _ | with_reducible assumption | with_reducible refine arW_within ?_ _ _ _ | with_reducible refine Within.alloc ?_ _ | with_reducible refine Within.drew ?_ | with_reducible refine Within.trans ?_ (by assumption))))).mono ?_; rintro e2 w2 ⟨v2, rfl, hO2, hb2⟩
  obtain ⟨A2, c2, rfl, _, hs2, _⟩ := hO2.form
  have HS2 := Lib.hid hs2; clear hs2 hO2 L2
  go_wp2_with fail
  refine (IX.out A1 c1 _ (HT.out.of (by repeat (first | with_reducible exact Within.refl _ | with_reducible assumption | with_reducible refine arW_within ?_ _ _ _ | with_reducible refine Within.alloc ?_ _ | with_reducible refine Within.drew ?_ | with_reducible refine Within.trans ?_ (by assumption)))) (HS1.out.of (by repeat (first | with_reducible exact Within.refl _ | with_reducible assumption | with_reducible refine arW_within ?_ _ _ _ | with_reducible refine Within.alloc ?_ _ | with_reducible refine Within.drew ?_ | with_reducible refine Within.trans ?_ (by assumption))))).mono ?_; rintro e3 w3 ⟨rfl, hb3⟩
  go_wp2_with fail
  refine (IY.out A2 c2 _ (HT.out.of (by repeat (first | with_reducible exact Within.refl _ | with_reducible assumption | with_reducible refine arW_within ?_ _ _ _ | with_reducible refine Within.alloc ?_ _ | with_reducible refine Within.drew ?_ | with_reducible refine Within.trans ?_ (by assumption)))) (HS2.out.of (by repeat (first | with_reducible exact Within.refl _ | with_reducible assumption | with_reducible refine arW_within ?_ _ _ _ | with_reducible refine Within.alloc ?_ _ | with_reducible refine Within.drew ?_ | with_reducible refine Within.trans ?_ (by assumption))))).mono ?_; rintro e4 w4 ⟨rfl, hb4⟩
  go_wp2_with fail
  refine (ef_any z _).mono ?_; rintro e00 w00 ⟨rfl, rfl⟩
  go_wp2_with fail
  refine (FZ.out _).mono ?_; rintro e5 w5 ⟨rfl, hb5⟩
  go_wp2
  go_ret
  exact ⟨rfl, (by repeat (first | with_reducible exact Within.refl _ | with_reducible assumption | with_reducible refine arW_within ?_ _ _ _ | with_reducible refine Within.alloc ?_ _ | with_reducible refine Within.drew ?_ | with_reducible refine Within.trans ?_ (by assumption)))⟩
set_option maxRecDepth 100000 in
set_option maxHeartbeats 4000000 in
theorem keeps_main (A : Option Addr) (c : Nat) (x : List Nat) (hwx : Words64 x) (hlx : x.length * 8 ≤ 140737488355328) (B : Option Addr) (d : Nat) (y : List Nat) (hwy : Words64 y) (hly : y.length * 8 ≤ 140737488355328) (z : Nat) (hz : z < 18446744073709551616) (h1 : isB x = true) (h2 : isB y = true) (h3 : finW z = true) (w : World) (hT : Tab w) (hrx : SlAt w A (u64v x)) (hry : SlAt w B (u64v y)) : Calls Tryz.prog 8 #[.slice A x.length c, .slice B y.length d, .int .u64 (z : Int)] w fun e w' => e = .returned (.bool true) ∧ Within w w' := by
  have RX := Lib.hid hrx; have RY := Lib.hid hry; have WX := Lib.hid hwx; have WY := Lib.hid hwy; have HT := Lib.hid hT; have HZ := Lib.hid hz; clear hrx hry hwx hwy hT hz
  have hlx2 : x.length ≤ 1152921504606846976 := by omega
  have hly2 : y.length ≤ 1152921504606846976 := by omega
  have AW := Lib.hid (fun w hT => awake_true w hT)
  have IX := Lib.hid (fun A c w hT hr => eis_any A c x WX.out hlx2 w hT hr)
  have IY := Lib.hid (fun A c w hT hr => eis_any A c y WY.out hly2 w hT hr)
  have FZ := Lib.hid (fun w => rfin4 z HZ.out w)
  have EX := Lib.hid h1; have EY := Lib.hid h2; have EZ := Lib.hid (of_decide_eq_true h3 : z % 9223372036854775808 < 9218868437227405312)
  obtain ⟨gr, hgr⟩ : ∃ gr, gr = growEr x z := ⟨_, rfl⟩
  obtain ⟨ar, har⟩ : ∃ ar, ar = (addR x y).2 := ⟨_, rfl⟩
  obtain ⟨sr, hsr⟩ : ∃ sr, sr = (scaleR x z).2 := ⟨_, rfl⟩
  obtain ⟨cr, hcr⟩ : ∃ cr, cr = (compR x).2 := ⟨_, rfl⟩
  have GR := Lib.hid (fun (h : gr = 0) (ls : List Nat) (hw : Words64 ls) (hm : ls.map fv = growL x z) => (show isB ls = true ∧ (unL ls).sum = (unL x).sum + P64.wholeI z from by obtain ⟨_, r1, r2⟩ := grow_res WX.out (hgr ▸ h) hw hm; exact ⟨r1, by rw [r2, grow_sum, whole_un HZ.out EZ.out]⟩))
  have AR := Lib.hid (fun (h : ar = 0) (ls : List Nat) (hw : Words64 ls) (hm : ls.map fv = (addR x y).1) => (show isB ls = true ∧ (unL ls).sum = (unL x).sum + (unL y).sum from by obtain ⟨r1, _, r2⟩ := addR_res WX.out WY.out (har ▸ h) hw hm; exact ⟨r1, r2⟩))
  have SR := Lib.hid (fun (h : sr = 0) (ls : List Nat) (hw : Words64 ls) (hm : ls.map fv = (scaleR x z).1) => (show isB ls = true ∧ (unL ls).sum * 2 ^ 1074 = (unL x).sum * P64.wholeI z from by obtain ⟨_, _, r1, r2⟩ := scale_res WX.out (hsr ▸ h) hw hm; exact ⟨r1, by rw [whole_un HZ.out EZ.out, ← r2, upl_is]⟩))
  have CR := Lib.hid (fun (h : cr = 0) (ls : List Nat) (hw : Words64 ls) (hm : ls.map fv = (compR x).1) => (show isB ls = true ∧ (unL ls).sum = (unL x).sum from by obtain ⟨_, r1, r2, _⟩ := comp_res WX.out (hcr ▸ h) hw hm; exact ⟨r1, r2⟩))
  have GX := Lib.hid (fun A c w hT hr => eGrow_any A c x WX.out hlx2 z HZ.out w hT hr)
  have AX := Lib.hid (fun A B c d w hT hr hr2 => eAdd_any A B c d x y WX.out WY.out hlx hly w hT hr hr2)
  have SC := Lib.hid (fun A c w hT hr => eScale_any A c x WX.out hlx2 z HZ.out w hT hr)
  have CX := Lib.hid (fun A c w hT hr => eComp_any A c x WX.out hlx2 w hT hr)
  rw [← hgr] at GX
  rw [← har] at AX
  rw [← hsr] at SC
  rw [← hcr] at CX
  clear hgr har hsr hcr
  rw [h1] at IX
  rw [h2] at IY
  rw [h3] at FZ
  clear h1 h2 h3
  have SX := Lib.hid (fun A c w hr => Xsuml A c x WX.out (isB_fins WX.out EX.out) (isB_len EX.out) w hr)
  have SY := Lib.hid (fun A c w hr => Xsuml A c y WY.out (isB_fins WY.out EY.out) (isB_len EY.out) w hr)
  have LX := Lib.hid (sum_len' WX.out (isB_fins WX.out EX.out) (isB_len EX.out))
  have LY := Lib.hid (sum_len' WY.out (isB_fins WY.out EY.out) (isB_len EY.out))
  have OZ := Lib.hid (fun w => XofW z HZ.out w)
  go_enter Tryz.func8, Tryz.ntmps8
  go_wp2_with fail
  refine (AW.out _ HT.out).mono ?_; rintro e0 w0' ⟨rfl, hb0⟩
  have L1 := Lib.hid (fun w hr => l_any A c x WX.out (by assumption) w hr)
  go_wp2_with fail
  refine (L1.out _ (RX.out.of (by repeat (first | with_reducible exact Within.refl _ | with_reducible assumption | with_reducible refine arW_within ?_ _ _ _ | with_reducible refine Within.alloc ?_ _ | with_reducible refine Within.drew ?_ | with_reducible refine Within.trans ?_ (by assumption))))).mono ?_; rintro e1 w1 ⟨v1, rfl, hO1, hb1⟩
  obtain ⟨A1, c1, rfl, _, hs1, _⟩ := hO1.form
  have HS1 := Lib.hid hs1; clear hs1 hO1 L1
  have L2 := Lib.hid (fun w hr => l_any B d y WY.out (by assumption) w hr)
  go_wp2_with fail
  refine (L2.out _ (RY.out.of (by repeat (first | with_reducible exact Within.refl _ | with_reducible assumption | with_reducible refine arW_within ?_ _ _ _ | with_reducible refine Within.alloc ?_ _ | with_reducible refine Within.drew ?_ | with_reducible refine Within.trans ?_ (by assumption))))).mono ?_; rintro e2 w2 ⟨v2, rfl, hO2, hb2⟩
  obtain ⟨A2, c2, rfl, _, hs2, _⟩ := hO2.form
  have HS2 := Lib.hid hs2; clear hs2 hO2 L2
  go_wp2_with fail
  refine (IX.out A1 c1 _ (HT.out.of (by repeat (first | with_reducible exact Within.refl _ | with_reducible assumption | with_reducible refine arW_within ?_ _ _ _ | with_reducible refine Within.alloc ?_ _ | with_reducible refine Within.drew ?_ | with_reducible refine Within.trans ?_ (by assumption)))) (HS1.out.of (by repeat (first | with_reducible exact Within.refl _ | with_reducible assumption | with_reducible refine arW_within ?_ _ _ _ | with_reducible refine Within.alloc ?_ _ | with_reducible refine Within.drew ?_ | with_reducible refine Within.trans ?_ (by assumption))))).mono ?_; rintro e3 w3 ⟨rfl, hb3⟩
  go_wp2_with fail
  refine (IY.out A2 c2 _ (HT.out.of (by repeat (first | with_reducible exact Within.refl _ | with_reducible assumption | with_reducible refine arW_within ?_ _ _ _ | with_reducible refine Within.alloc ?_ _ | with_reducible refine Within.drew ?_ | with_reducible refine Within.trans ?_ (by assumption)))) (HS2.out.of (by repeat (first | with_reducible exact Within.refl _ | with_reducible assumption | with_reducible refine arW_within ?_ _ _ _ | with_reducible refine Within.alloc ?_ _ | with_reducible refine Within.drew ?_ | with_reducible refine Within.trans ?_ (by assumption))))).mono ?_; rintro e4 w4 ⟨rfl, hb4⟩
  go_wp2_with fail
  refine (ef_any z _).mono ?_; rintro e00 w00 ⟨rfl, rfl⟩
  go_wp2_with fail
  refine (FZ.out _).mono ?_; rintro e5 w5 ⟨rfl, hb5⟩
  go_wp2_with fail
  refine (SX.out A1 c1 _ (HS1.out.of (by repeat (first | with_reducible exact Within.refl _ | with_reducible assumption | with_reducible refine arW_within ?_ _ _ _ | with_reducible refine Within.alloc ?_ _ | with_reducible refine Within.drew ?_ | with_reducible refine Within.trans ?_ (by assumption))))).mono ?_; rintro e6 w6 ⟨gp, np, Ep, rfl, hIp, ap, bp, hvp, hb6⟩
  go_wp2_with fail
  refine (SY.out A2 c2 _ (HS2.out.of (by repeat (first | with_reducible exact Within.refl _ | with_reducible assumption | with_reducible refine arW_within ?_ _ _ _ | with_reducible refine Within.alloc ?_ _ | with_reducible refine Within.drew ?_ | with_reducible refine Within.trans ?_ (by assumption))))).mono ?_; rintro e7 w7 ⟨gq, nq, Eq, rfl, hIq, aq, bq, hvq, hb7⟩
  have lp : (dg np.natAbs).length ≤ 80 := Nat.le_trans (val_len np Ep 1074) (by rw [hvp]; exact LX.out)
  have lq : (dg nq.natAbs).length ≤ 80 := Nat.le_trans (val_len nq Eq 1074) (by rw [hvq]; exact LY.out)
  have HVP := Lib.hid hvp; have HVQ := Lib.hid hvq; have LP := Lib.hid lp; have LQ := Lib.hid lq; have BP := Lib.hid (And.intro ap bp); have BQ := Lib.hid (And.intro aq bq); clear hvp hvq lp lq ap bp aq bq
  obtain ⟨V, hV⟩ : ∃ V, V = ((w7.alloc (.cells #[.pointer (some ⟨gp, 0, none⟩), .int .i64 Ep] 53)).alloc (.cells #[.pointer (some ⟨gq, 0, none⟩), .int .i64 Eq] 53)) := ⟨_, rfl⟩
  have hVw : Within w V := by rw [hV]; exact Within.alloc (Within.alloc (by repeat (first | with_reducible exact Within.refl _ | with_reducible assumption | with_reducible refine arW_within ?_ _ _ _ | with_reducible refine Within.alloc ?_ _ | with_reducible refine Within.drew ?_ | with_reducible refine Within.trans ?_ (by assumption))) _) _
  have p0 : V.cell? ⟨w7.heap.size, 0, none⟩ = some (.pointer (some ⟨gp, 0, none⟩)) := by rw [hV]; go_simp
  have p1 : V.cell? ⟨w7.heap.size, 1, none⟩ = some (.int .i64 Ep) := by rw [hV]; go_simp
  have q0 : V.cell? ⟨w7.heap.size + 1, 0, none⟩ = some (.pointer (some ⟨gq, 0, none⟩)) := by rw [hV]; go_simp
  have q1 : V.cell? ⟨w7.heap.size + 1, 1, none⟩ = some (.int .i64 Eq) := by rw [hV]; go_simp
  have h7V : Within w7 V := by rw [hV]; exact ((Within.refl w7).alloc _).alloc _
  have hJp : IntB V gp np := (hIp.of hb7).of h7V
  have hJq : IntB V gq nq := hIq.of h7V
  have hS1 : SlAt V A1 (f64v x) := (HS1.out.of (by repeat (first | with_reducible exact Within.refl _ | with_reducible assumption | with_reducible refine arW_within ?_ _ _ _ | with_reducible refine Within.alloc ?_ _ | with_reducible refine Within.drew ?_ | with_reducible refine Within.trans ?_ (by assumption)))).of h7V
  have hS2 : SlAt V A2 (f64v y) := (HS2.out.of (by repeat (first | with_reducible exact Within.refl _ | with_reducible assumption | with_reducible refine arW_within ?_ _ _ _ | with_reducible refine Within.alloc ?_ _ | with_reducible refine Within.drew ?_ | with_reducible refine Within.trans ?_ (by assumption)))).of h7V
  have hTV : Tab V := HT.out.of hVw
  have HP := Lib.hid (And.intro p0 (And.intro p1 (And.intro q0 q1))); have HJP := Lib.hid hJp; have HJQ := Lib.hid hJq; have HS1V := Lib.hid hS1; have HS2V := Lib.hid hS2; have HTV := Lib.hid hTV; have HVW := Lib.hid hVw; have HVV := Lib.hid hV
  clear p0 p1 q0 q1 hJp hJq hS1 hS2 hTV hVw hV h7V hIp hIq hb7 hb6 hb5 hb4 hb3 hb2 hb1 hb0 HS1 HS2 RX RY HT IX IY FZ AW SX SY LX LY
  go_wp2_with fail
  rw [← HVV.out]
  clear HVV
  refine (ef_any z _).mono ?_; rintro e00 w00 ⟨rfl, rfl⟩
  go_wp2_with fail
  refine (GX.out A1 c1 _ HTV.out HS1V.out).mono ?_; rintro e8 w8 ⟨v8, l8, rfl, hO8, hw8, hm8, hb8⟩
  obtain ⟨A8, c8, rfl, _, hs8, _⟩ := hO8.form
  have HS8 := Lib.hid hs8; have HM8 := Lib.hid hm8; have HW8 := Lib.hid hw8; clear hs8 hO8 hm8 hw8
  have hV : Within V w8 := (by repeat (first | with_reducible exact Within.refl _ | with_reducible assumption | with_reducible refine arW_within ?_ _ _ _ | with_reducible refine Within.alloc ?_ _ | with_reducible refine Within.drew ?_ | with_reducible refine Within.trans ?_ (by assumption)))
  have hVWk : Within w w8 := HVW.out.trans hV
  go_upto_region 8 with fail
  go_cut [61] (fun sx wx => sx = .bool false ∧ Within w8 wx)
  case first =>
    by_cases h0 : gr = 0
    · obtain ⟨r1, r2⟩ := GR.out h0 l8 HW8.out HM8.out
      have hfl := isB_fins HW8.out r1
      have hll := isB_len r1
      have IL := Lib.hid (fun w hT hr => eis_any A8 c8 l8 HW8.out (Nat.le_trans hll (by decide)) w hT hr)
      rw [r1] at IL
      have SL := Lib.hid (fun w hr => Xsuml A8 c8 l8 HW8.out hfl hll w hr)
      have LL := Lib.hid (sum_len' HW8.out hfl hll)
      have R2 := Lib.hid r2
      have g0 : (gr == 0) = true := by rw [h0]; rfl
      clear r1 r2 hfl hll h0
      have lv0 := World.block_lt_of_cell? _ _ HP.out.1; have lv1 := World.block_lt_of_cell? _ _ HP.out.2.2.1
      have p0 := (hV.cells _ 0 lv0).trans HP.out.1
      have p1 := (hV.cells _ 1 lv0).trans HP.out.2.1
      have q0 := (hV.cells _ 0 lv1).trans HP.out.2.2.1
      have q1 := (hV.cells _ 1 lv1).trans HP.out.2.2.2
      have lb0 := Nat.lt_of_lt_of_le lv0 hV.sizes; have lb1 := Nat.lt_of_lt_of_le lv1 hV.sizes
      have hJp := HJP.out.of hV; have hJq := HJQ.out.of hV
      have hTk := HTV.out.of hV
      clear hV lv0 lv1
      refine wp_region_schG (fun W => W.cell? ⟨w7.heap.size, 0, none⟩ = some (.pointer (some ⟨gp, 0, none⟩)) ∧ W.cell? ⟨w7.heap.size, 1, none⟩ = some (.int .i64 Ep) ∧ W.cell? ⟨w7.heap.size + 1, 0, none⟩ = some (.pointer (some ⟨gq, 0, none⟩)) ∧ W.cell? ⟨w7.heap.size + 1, 1, none⟩ = some (.int .i64 Eq) ∧ w7.heap.size < W.heap.size ∧ w7.heap.size + 1 < W.heap.size ∧ IntB W gp np ∧ IntB W gq nq ∧ SlAt W A8 (f64v l8) ∧ Tab W ∧ Within w8 W) 17 (.firm 0 (.firm 1 (.firm 2 (.firm 3 (.one 4 (.firm 5 (.firm 6 (.firm 7 (.firm 9 (.firm 10 (.one 8 (.one 11 (.one 12 (.one 13 (.one 14 (.firm 15 (.firm 16 (.one 17 .nil)))))))))))))))))) (by kernel_rfl) (by kernel_rfl) ⟨p0, p1, q0, q1, lb0, lb1, hJp, hJq, HS8.out, hTk, Within.refl _⟩ ?_
      rintro w0 ⟨c0, c1, d0, d1, lb0, lb1, hJp, hJq, hSl, hTw, hw0⟩
      try simp only [Act.put, List.setIfInBounds_toArray, List.set_cons_zero, List.set_cons_succ]
      apply sch_firm rfl rfl (by repeat (first | with_reducible exact Within.refl _ | with_reducible assumption | with_reducible refine Within.alloc ?_ _ | with_reducible refine Within.drew ?_ | with_reducible refine Within.drewN ?_ _ | with_reducible refine Within.setCell ?_ (by first | (simp; done) | (simp; omega)) _ | with_reducible refine Within.trans ?_ (by assumption)))
      · intro wq hq
        have hcq := hq.cells
        clear hq
        go_simp
        first | rfl | (trace_state; fail)
      try simp only [Act.put, List.setIfInBounds_toArray, List.set_cons_zero, List.set_cons_succ]
      apply sch_firm rfl rfl (by repeat (first | with_reducible exact Within.refl _ | with_reducible assumption | with_reducible refine Within.alloc ?_ _ | with_reducible refine Within.drew ?_ | with_reducible refine Within.drewN ?_ _ | with_reducible refine Within.setCell ?_ (by first | (simp; done) | (simp; omega)) _ | with_reducible refine Within.trans ?_ (by assumption)))
      · intro wq hq
        have hcq := hq.cells
        clear hq
        go_simp
        first | rfl | (trace_state; fail)
      try simp only [Act.put, List.setIfInBounds_toArray, List.set_cons_zero, List.set_cons_succ]
      apply sch_firm rfl rfl (by repeat (first | with_reducible exact Within.refl _ | with_reducible assumption | with_reducible refine Within.alloc ?_ _ | with_reducible refine Within.drew ?_ | with_reducible refine Within.drewN ?_ _ | with_reducible refine Within.setCell ?_ (by first | (simp; done) | (simp; omega)) _ | with_reducible refine Within.trans ?_ (by assumption)))
      · intro wq hq
        have hcq := hq.cells
        clear hq
        go_simp
        first | rfl | (trace_state; fail)
      try simp only [Act.put, List.setIfInBounds_toArray, List.set_cons_zero, List.set_cons_succ]
      apply sch_want rfl (by first | rfl | decide | (simp [Region.wanted, yielded]; done) | (simp [Region.wanted, yielded]; assumption)) (by repeat (first | with_reducible exact Within.refl _ | with_reducible assumption | with_reducible refine Within.alloc ?_ _ | with_reducible refine Within.drew ?_ | with_reducible refine Within.drewN ?_ _ | with_reducible refine Within.setCell ?_ (by first | (simp; done) | (simp; omega)) _ | with_reducible refine Within.trans ?_ (by assumption)))
      · intro wq hq
        have hcq := hq.cells
        clear hq
        go_simp
        first | rfl | (trace_state; fail)
      try simp only [Act.put, List.setIfInBounds_toArray, List.set_cons_zero, List.set_cons_succ]
      refine sch_one_want rfl (by first | rfl | decide | (simp [Region.wanted, yielded]; done) | (simp [Region.wanted, yielded]; assumption)) (fun K hK => ?_)
      go_simp
      refine (IL.out _ (hTw.of (by repeat (first | with_reducible exact Within.refl _ | with_reducible assumption | with_reducible refine Within.alloc ?_ _ | with_reducible refine Within.drew ?_ | with_reducible refine Within.drewN ?_ _ | with_reducible refine Within.setCell ?_ (by first | (simp; done) | (simp; omega)) _ | with_reducible refine Within.trans ?_ (by assumption)))) (hSl.of (by repeat (first | with_reducible exact Within.refl _ | with_reducible assumption | with_reducible refine Within.alloc ?_ _ | with_reducible refine Within.drew ?_ | with_reducible refine Within.drewN ?_ _ | with_reducible refine Within.setCell ?_ (by first | (simp; done) | (simp; omega)) _ | with_reducible refine Within.trans ?_ (by assumption))))).mono ?_; rintro f1 u1 ⟨rfl, jb1⟩
      refine hK _ _ (fun _ => (by repeat (first | with_reducible exact Within.refl _ | with_reducible assumption | with_reducible refine Within.alloc ?_ _ | with_reducible refine Within.drew ?_ | with_reducible refine Within.drewN ?_ _ | with_reducible refine Within.setCell ?_ (by first | (simp; done) | (simp; omega)) _ | with_reducible refine Within.trans ?_ (by assumption)))) ?_
      clear hK K
      try simp only [Act.put, List.setIfInBounds_toArray, List.set_cons_zero, List.set_cons_succ]
      apply sch_want rfl (by first | rfl | decide | (simp [Region.wanted, yielded]; done) | (simp [Region.wanted, yielded]; assumption)) (by repeat (first | with_reducible exact Within.refl _ | with_reducible assumption | with_reducible refine Within.alloc ?_ _ | with_reducible refine Within.drew ?_ | with_reducible refine Within.drewN ?_ _ | with_reducible refine Within.setCell ?_ (by first | (simp; done) | (simp; omega)) _ | with_reducible refine Within.trans ?_ (by assumption)))
      · intro wq hq
        have hcq := hq.cells
        clear hq
        go_simp
        first | rfl | (trace_state; fail)
      try simp only [Act.put, List.setIfInBounds_toArray, List.set_cons_zero, List.set_cons_succ]
      apply sch_want rfl (by first | rfl | decide | (simp [Region.wanted, yielded]; done) | (simp [Region.wanted, yielded]; assumption)) (by repeat (first | with_reducible exact Within.refl _ | with_reducible assumption | with_reducible refine Within.alloc ?_ _ | with_reducible refine Within.drew ?_ | with_reducible refine Within.drewN ?_ _ | with_reducible refine Within.setCell ?_ (by first | (simp; done) | (simp; omega)) _ | with_reducible refine Within.trans ?_ (by assumption)))
      · intro wq hq
        have hcq := hq.cells
        clear hq
        go_simp
        first | rfl | (trace_state; fail)
      try simp only [Act.put, List.setIfInBounds_toArray, List.set_cons_zero, List.set_cons_succ]
      apply sch_want rfl (by first | rfl | decide | (simp [Region.wanted, yielded]; done) | (simp [Region.wanted, yielded]; assumption)) (by repeat (first | with_reducible exact Within.refl _ | with_reducible assumption | with_reducible refine Within.alloc ?_ _ | with_reducible refine Within.drew ?_ | with_reducible refine Within.drewN ?_ _ | with_reducible refine Within.setCell ?_ (by first | (simp; done) | (simp; omega)) _ | with_reducible refine Within.trans ?_ (by assumption)))
      · intro wq hq
        have hcq := hq.cells
        clear hq
        go_simp
        first | rfl | (trace_state; fail)
      try simp only [Act.put, List.setIfInBounds_toArray, List.set_cons_zero, List.set_cons_succ]
      apply sch_want rfl (by first | rfl | decide | (simp [Region.wanted, yielded]; done) | (simp [Region.wanted, yielded]; assumption)) (by repeat (first | with_reducible exact Within.refl _ | with_reducible assumption | with_reducible refine Within.alloc ?_ _ | with_reducible refine Within.drew ?_ | with_reducible refine Within.drewN ?_ _ | with_reducible refine Within.setCell ?_ (by first | (simp; done) | (simp; omega)) _ | with_reducible refine Within.trans ?_ (by assumption)))
      · intro wq hq
        have hcq := hq.cells
        clear hq
        go_simp
        first | rfl | (trace_state; fail)
      try simp only [Act.put, List.setIfInBounds_toArray, List.set_cons_zero, List.set_cons_succ]
      apply sch_want rfl (by first | rfl | decide | (simp [Region.wanted, yielded]; done) | (simp [Region.wanted, yielded]; assumption)) (by repeat (first | with_reducible exact Within.refl _ | with_reducible assumption | with_reducible refine Within.alloc ?_ _ | with_reducible refine Within.drew ?_ | with_reducible refine Within.drewN ?_ _ | with_reducible refine Within.setCell ?_ (by first | (simp; done) | (simp; omega)) _ | with_reducible refine Within.trans ?_ (by assumption)))
      · intro wq hq
        have hcq := hq.cells
        clear hq
        go_simp
        first | rfl | (trace_state; fail)
      try simp only [Act.put, List.setIfInBounds_toArray, List.set_cons_zero, List.set_cons_succ]
      refine sch_one_want rfl (by first | rfl | decide | (simp [Region.wanted, yielded]; done) | (simp [Region.wanted, yielded]; assumption)) (fun K hK => ?_)
      go_simp
      refine (SL.out _ (hSl.of (by repeat (first | with_reducible exact Within.refl _ | with_reducible assumption | with_reducible refine Within.alloc ?_ _ | with_reducible refine Within.drew ?_ | with_reducible refine Within.drewN ?_ _ | with_reducible refine Within.setCell ?_ (by first | (simp; done) | (simp; omega)) _ | with_reducible refine Within.trans ?_ (by assumption))))).mono ?_; rintro f2 u2 ⟨g2, n2, E2, rfl, hI2, a2, b2, hv2, jb2⟩
      have l2 : (dg n2.natAbs).length ≤ 80 := Nat.le_trans (val_len n2 E2 1074) (by rw [hv2]; exact LL.out)
      have HV2 := Lib.hid hv2; clear hv2
      refine hK _ _ (fun _ => (by repeat (first | with_reducible exact Within.refl _ | with_reducible assumption | with_reducible refine Within.alloc ?_ _ | with_reducible refine Within.drew ?_ | with_reducible refine Within.drewN ?_ _ | with_reducible refine Within.setCell ?_ (by first | (simp; done) | (simp; omega)) _ | with_reducible refine Within.trans ?_ (by assumption)))) ?_
      clear hK K
      try simp only [Act.put, List.setIfInBounds_toArray, List.set_cons_zero, List.set_cons_succ]
      refine sch_one_want rfl (by first | rfl | decide | (simp [Region.wanted, yielded]; done) | (simp [Region.wanted, yielded]; assumption)) (fun K hK => ?_)
      go_simp
      refine (ef_any z _).mono ?_; rintro f3 u3 ⟨rfl, rfl⟩
      refine hK _ _ (fun _ => (by repeat (first | with_reducible exact Within.refl _ | with_reducible assumption | with_reducible refine Within.alloc ?_ _ | with_reducible refine Within.drew ?_ | with_reducible refine Within.drewN ?_ _ | with_reducible refine Within.setCell ?_ (by first | (simp; done) | (simp; omega)) _ | with_reducible refine Within.trans ?_ (by assumption)))) ?_
      clear hK K
      try simp only [Act.put, List.setIfInBounds_toArray, List.set_cons_zero, List.set_cons_succ]
      refine sch_one_want rfl (by first | rfl | decide | (simp [Region.wanted, yielded]; done) | (simp [Region.wanted, yielded]; assumption)) (fun K hK => ?_)
      go_simp
      refine (OZ.out _).mono ?_; rintro f4 u4 ⟨g4, n4, E4, rfl, hI4, a4, b4, hv4, jb4⟩
      have l4 : (dg n4.natAbs).length ≤ 80 := Nat.le_trans (val_len n4 E4 1074) (by rw [hv4]; exact whole_len z)
      have HV4 := Lib.hid hv4; clear hv4
      refine hK _ _ (fun _ => (by repeat (first | with_reducible exact Within.refl _ | with_reducible assumption | with_reducible refine Within.alloc ?_ _ | with_reducible refine Within.drew ?_ | with_reducible refine Within.drewN ?_ _ | with_reducible refine Within.setCell ?_ (by first | (simp; done) | (simp; omega)) _ | with_reducible refine Within.trans ?_ (by assumption)))) ?_
      clear hK K
      try simp only [Act.put, List.setIfInBounds_toArray, List.set_cons_zero, List.set_cons_succ]
      refine sch_one_want rfl (by first | rfl | decide | (simp [Region.wanted, yielded]; done) | (simp [Region.wanted, yielded]; assumption)) (fun K hK => ?_)
      go_simp
      refine (Xadd np n4 Ep E4 gp g4 1074 1100 (by decide) (by decide) BP.out.1 BP.out.2 a4 b4 (Nat.le_trans LP.out (by decide)) (Nat.le_trans l4 (by decide)) _ (IntB.of hJp (by repeat (first | with_reducible exact Within.refl _ | with_reducible assumption | with_reducible refine Within.alloc ?_ _ | with_reducible refine Within.drew ?_ | with_reducible refine Within.drewN ?_ _ | with_reducible refine Within.setCell ?_ (by first | (simp; done) | (simp; omega)) _ | with_reducible refine Within.trans ?_ (by assumption)))) (IntB.of hI4 (by repeat (first | with_reducible exact Within.refl _ | with_reducible assumption | with_reducible refine Within.alloc ?_ _ | with_reducible refine Within.drew ?_ | with_reducible refine Within.drewN ?_ _ | with_reducible refine Within.setCell ?_ (by first | (simp; done) | (simp; omega)) _ | with_reducible refine Within.trans ?_ (by assumption))))).mono ?_; rintro f5 u5 ⟨g5, n5, E5, rfl, hI5, a5, b5, hv5, jb5⟩
      have l5 : (dg n5.natAbs).length ≤ 80 := Nat.le_trans (val_len n5 E5 1074) (by rw [hv5, HV4.out, HVP.out, ← R2.out]; exact LL.out)
      have HV5 := Lib.hid hv5; clear hv5
      refine hK _ _ (fun _ => (by repeat (first | with_reducible exact Within.refl _ | with_reducible assumption | with_reducible refine Within.alloc ?_ _ | with_reducible refine Within.drew ?_ | with_reducible refine Within.drewN ?_ _ | with_reducible refine Within.setCell ?_ (by first | (simp; done) | (simp; omega)) _ | with_reducible refine Within.trans ?_ (by assumption)))) ?_
      clear hK K
      try simp only [Act.put, List.setIfInBounds_toArray, List.set_cons_zero, List.set_cons_succ]
      refine sch_one_want rfl (by first | rfl | decide | (simp [Region.wanted, yielded]; done) | (simp [Region.wanted, yielded]; assumption)) (fun K hK => ?_)
      go_simp
      have CM := Lib.hid (fun w k1 k2 => Xcmp n2 n5 E2 E5 g2 g5 1074 1100 (by decide) (by decide) a2 b2 a5 b5 (Nat.le_trans l2 (by decide)) (Nat.le_trans l5 (by decide)) w k1 k2)
      rw [HV2.out, HV5.out, HV4.out, HVP.out, R2.out, cmp_same' rfl] at CM
      refine (CM.out _ (IntB.of hI2 (by repeat (first | with_reducible exact Within.refl _ | with_reducible assumption | with_reducible refine Within.alloc ?_ _ | with_reducible refine Within.drew ?_ | with_reducible refine Within.drewN ?_ _ | with_reducible refine Within.setCell ?_ (by first | (simp; done) | (simp; omega)) _ | with_reducible refine Within.trans ?_ (by assumption)))) (IntB.of hI5 (by repeat (first | with_reducible exact Within.refl _ | with_reducible assumption | with_reducible refine Within.alloc ?_ _ | with_reducible refine Within.drew ?_ | with_reducible refine Within.drewN ?_ _ | with_reducible refine Within.setCell ?_ (by first | (simp; done) | (simp; omega)) _ | with_reducible refine Within.trans ?_ (by assumption))))).mono ?_; rintro f6 u6 ⟨rfl, jb6⟩
      refine hK _ _ (fun _ => (by repeat (first | with_reducible exact Within.refl _ | with_reducible assumption | with_reducible refine Within.alloc ?_ _ | with_reducible refine Within.drew ?_ | with_reducible refine Within.drewN ?_ _ | with_reducible refine Within.setCell ?_ (by first | (simp; done) | (simp; omega)) _ | with_reducible refine Within.trans ?_ (by assumption)))) ?_
      clear hK K
      try simp only [Act.put, List.setIfInBounds_toArray, List.set_cons_zero, List.set_cons_succ]
      apply sch_want rfl (by first | rfl | decide | (simp [Region.wanted, yielded]; done) | (simp [Region.wanted, yielded]; assumption)) (by repeat (first | with_reducible exact Within.refl _ | with_reducible assumption | with_reducible refine Within.alloc ?_ _ | with_reducible refine Within.drew ?_ | with_reducible refine Within.drewN ?_ _ | with_reducible refine Within.setCell ?_ (by first | (simp; done) | (simp; omega)) _ | with_reducible refine Within.trans ?_ (by assumption)))
      · intro wq hq
        have hcq := hq.cells
        clear hq
        go_simp
        first | rfl | (trace_state; fail)
      try simp only [Act.put, List.setIfInBounds_toArray, List.set_cons_zero, List.set_cons_succ]
      apply sch_want rfl (by first | rfl | decide | (simp [Region.wanted, yielded]; done) | (simp [Region.wanted, yielded]; assumption)) (by repeat (first | with_reducible exact Within.refl _ | with_reducible assumption | with_reducible refine Within.alloc ?_ _ | with_reducible refine Within.drew ?_ | with_reducible refine Within.drewN ?_ _ | with_reducible refine Within.setCell ?_ (by first | (simp; done) | (simp; omega)) _ | with_reducible refine Within.trans ?_ (by assumption)))
      · intro wq hq
        have hcq := hq.cells
        clear hq
        go_simp
        first | rfl | (trace_state; fail)
      try simp only [Act.put, List.setIfInBounds_toArray, List.set_cons_zero, List.set_cons_succ]
      refine sch_one rfl rfl (fun K hK => ?_)
      go_simp
      refine hK _ _ (fun h => absurd h (by decide)) ?_
      clear hK K
      try simp only [Act.put, List.setIfInBounds_toArray, List.set_cons_zero, List.set_cons_succ]
      refine sch_nil ?_
      go_wp2_with fail
      go_meet
      exact ⟨rfl, Within.trans hw0 (by repeat (first | with_reducible exact Within.refl _ | with_reducible assumption | with_reducible refine Within.alloc ?_ _ | with_reducible refine Within.drew ?_ | with_reducible refine Within.drewN ?_ _ | with_reducible refine Within.setCell ?_ (by first | (simp; done) | (simp; omega)) _ | with_reducible refine Within.trans ?_ (by assumption)))⟩
    · have g0 : (gr == 0) = false := by rw [beq_eq_false_iff_ne]; exact h0
      clear h0
      have lv0 := World.block_lt_of_cell? _ _ HP.out.1; have lv1 := World.block_lt_of_cell? _ _ HP.out.2.2.1
      have p0 := (hV.cells _ 0 lv0).trans HP.out.1
      have p1 := (hV.cells _ 1 lv0).trans HP.out.2.1
      have q0 := (hV.cells _ 0 lv1).trans HP.out.2.2.1
      have q1 := (hV.cells _ 1 lv1).trans HP.out.2.2.2
      have lb0 := Nat.lt_of_lt_of_le lv0 hV.sizes; have lb1 := Nat.lt_of_lt_of_le lv1 hV.sizes
      have hJp := HJP.out.of hV; have hJq := HJQ.out.of hV
      have hTk := HTV.out.of hV
      clear hV lv0 lv1
      refine wp_region_schG (fun W => W.cell? ⟨w7.heap.size, 0, none⟩ = some (.pointer (some ⟨gp, 0, none⟩)) ∧ W.cell? ⟨w7.heap.size, 1, none⟩ = some (.int .i64 Ep) ∧ W.cell? ⟨w7.heap.size + 1, 0, none⟩ = some (.pointer (some ⟨gq, 0, none⟩)) ∧ W.cell? ⟨w7.heap.size + 1, 1, none⟩ = some (.int .i64 Eq) ∧ w7.heap.size < W.heap.size ∧ w7.heap.size + 1 < W.heap.size ∧ IntB W gp np ∧ IntB W gq nq ∧ SlAt W A8 (f64v l8) ∧ Tab W ∧ Within w8 W) 17 (.firm 0 (.firm 1 (.firm 2 (.firm 3 (.one 4 (.firm 5 (.firm 6 (.firm 7 (.firm 9 (.firm 10 (.one 8 (.one 11 (.one 12 (.one 13 (.one 14 (.firm 15 (.firm 16 (.one 17 .nil)))))))))))))))))) (by kernel_rfl) (by kernel_rfl) ⟨p0, p1, q0, q1, lb0, lb1, hJp, hJq, HS8.out, hTk, Within.refl _⟩ ?_
      rintro w0 ⟨c0, c1, d0, d1, lb0, lb1, hJp, hJq, hSl, hTw, hw0⟩
      try simp only [Act.put, List.setIfInBounds_toArray, List.set_cons_zero, List.set_cons_succ]
      apply sch_firm rfl rfl (by repeat (first | with_reducible exact Within.refl _ | with_reducible assumption | with_reducible refine Within.alloc ?_ _ | with_reducible refine Within.drew ?_ | with_reducible refine Within.drewN ?_ _ | with_reducible refine Within.setCell ?_ (by first | (simp; done) | (simp; omega)) _ | with_reducible refine Within.trans ?_ (by assumption)))
      · intro wq hq
        have hcq := hq.cells
        clear hq
        go_simp
        first | rfl | (trace_state; fail)
      try simp only [Act.put, List.setIfInBounds_toArray, List.set_cons_zero, List.set_cons_succ]
      apply sch_firm rfl rfl (by repeat (first | with_reducible exact Within.refl _ | with_reducible assumption | with_reducible refine Within.alloc ?_ _ | with_reducible refine Within.drew ?_ | with_reducible refine Within.drewN ?_ _ | with_reducible refine Within.setCell ?_ (by first | (simp; done) | (simp; omega)) _ | with_reducible refine Within.trans ?_ (by assumption)))
      · intro wq hq
        have hcq := hq.cells
        clear hq
        go_simp
        first | rfl | (trace_state; fail)
      try simp only [Act.put, List.setIfInBounds_toArray, List.set_cons_zero, List.set_cons_succ]
      apply sch_firm rfl rfl (by repeat (first | with_reducible exact Within.refl _ | with_reducible assumption | with_reducible refine Within.alloc ?_ _ | with_reducible refine Within.drew ?_ | with_reducible refine Within.drewN ?_ _ | with_reducible refine Within.setCell ?_ (by first | (simp; done) | (simp; omega)) _ | with_reducible refine Within.trans ?_ (by assumption)))
      · intro wq hq
        have hcq := hq.cells
        clear hq
        go_simp
        first | rfl | (trace_state; fail)
      try simp only [Act.put, List.setIfInBounds_toArray, List.set_cons_zero, List.set_cons_succ]
      refine sch_skip rfl (by first | rfl | decide | (simp [Region.wanted, yielded]; done) | (simp [Region.wanted, yielded]; assumption)) (by repeat (first | with_reducible exact Within.refl _ | with_reducible assumption | with_reducible refine Within.alloc ?_ _ | with_reducible refine Within.drew ?_ | with_reducible refine Within.drewN ?_ _ | with_reducible refine Within.setCell ?_ (by first | (simp; done) | (simp; omega)) _ | with_reducible refine Within.trans ?_ (by assumption))) ?_
      try simp only [Act.put, List.setIfInBounds_toArray, List.set_cons_zero, List.set_cons_succ]
      refine sch_one_skip rfl (by first | rfl | decide | (simp [Region.wanted, yielded]; done) | (simp [Region.wanted, yielded]; assumption)) (by repeat (first | with_reducible exact Within.refl _ | with_reducible assumption | with_reducible refine Within.alloc ?_ _ | with_reducible refine Within.drew ?_ | with_reducible refine Within.drewN ?_ _ | with_reducible refine Within.setCell ?_ (by first | (simp; done) | (simp; omega)) _ | with_reducible refine Within.trans ?_ (by assumption))) ?_
      try simp only [Act.put, List.setIfInBounds_toArray, List.set_cons_zero, List.set_cons_succ]
      refine sch_skip rfl (by first | rfl | decide | (simp [Region.wanted, yielded]; done) | (simp [Region.wanted, yielded]; assumption)) (by repeat (first | with_reducible exact Within.refl _ | with_reducible assumption | with_reducible refine Within.alloc ?_ _ | with_reducible refine Within.drew ?_ | with_reducible refine Within.drewN ?_ _ | with_reducible refine Within.setCell ?_ (by first | (simp; done) | (simp; omega)) _ | with_reducible refine Within.trans ?_ (by assumption))) ?_
      try simp only [Act.put, List.setIfInBounds_toArray, List.set_cons_zero, List.set_cons_succ]
      refine sch_skip rfl (by first | rfl | decide | (simp [Region.wanted, yielded]; done) | (simp [Region.wanted, yielded]; assumption)) (by repeat (first | with_reducible exact Within.refl _ | with_reducible assumption | with_reducible refine Within.alloc ?_ _ | with_reducible refine Within.drew ?_ | with_reducible refine Within.drewN ?_ _ | with_reducible refine Within.setCell ?_ (by first | (simp; done) | (simp; omega)) _ | with_reducible refine Within.trans ?_ (by assumption))) ?_
      try simp only [Act.put, List.setIfInBounds_toArray, List.set_cons_zero, List.set_cons_succ]
      refine sch_skip rfl (by first | rfl | decide | (simp [Region.wanted, yielded]; done) | (simp [Region.wanted, yielded]; assumption)) (by repeat (first | with_reducible exact Within.refl _ | with_reducible assumption | with_reducible refine Within.alloc ?_ _ | with_reducible refine Within.drew ?_ | with_reducible refine Within.drewN ?_ _ | with_reducible refine Within.setCell ?_ (by first | (simp; done) | (simp; omega)) _ | with_reducible refine Within.trans ?_ (by assumption))) ?_
      try simp only [Act.put, List.setIfInBounds_toArray, List.set_cons_zero, List.set_cons_succ]
      refine sch_skip rfl (by first | rfl | decide | (simp [Region.wanted, yielded]; done) | (simp [Region.wanted, yielded]; assumption)) (by repeat (first | with_reducible exact Within.refl _ | with_reducible assumption | with_reducible refine Within.alloc ?_ _ | with_reducible refine Within.drew ?_ | with_reducible refine Within.drewN ?_ _ | with_reducible refine Within.setCell ?_ (by first | (simp; done) | (simp; omega)) _ | with_reducible refine Within.trans ?_ (by assumption))) ?_
      try simp only [Act.put, List.setIfInBounds_toArray, List.set_cons_zero, List.set_cons_succ]
      refine sch_skip rfl (by first | rfl | decide | (simp [Region.wanted, yielded]; done) | (simp [Region.wanted, yielded]; assumption)) (by repeat (first | with_reducible exact Within.refl _ | with_reducible assumption | with_reducible refine Within.alloc ?_ _ | with_reducible refine Within.drew ?_ | with_reducible refine Within.drewN ?_ _ | with_reducible refine Within.setCell ?_ (by first | (simp; done) | (simp; omega)) _ | with_reducible refine Within.trans ?_ (by assumption))) ?_
      try simp only [Act.put, List.setIfInBounds_toArray, List.set_cons_zero, List.set_cons_succ]
      refine sch_one_skip rfl (by first | rfl | decide | (simp [Region.wanted, yielded]; done) | (simp [Region.wanted, yielded]; assumption)) (by repeat (first | with_reducible exact Within.refl _ | with_reducible assumption | with_reducible refine Within.alloc ?_ _ | with_reducible refine Within.drew ?_ | with_reducible refine Within.drewN ?_ _ | with_reducible refine Within.setCell ?_ (by first | (simp; done) | (simp; omega)) _ | with_reducible refine Within.trans ?_ (by assumption))) ?_
      try simp only [Act.put, List.setIfInBounds_toArray, List.set_cons_zero, List.set_cons_succ]
      refine sch_one_skip rfl (by first | rfl | decide | (simp [Region.wanted, yielded]; done) | (simp [Region.wanted, yielded]; assumption)) (by repeat (first | with_reducible exact Within.refl _ | with_reducible assumption | with_reducible refine Within.alloc ?_ _ | with_reducible refine Within.drew ?_ | with_reducible refine Within.drewN ?_ _ | with_reducible refine Within.setCell ?_ (by first | (simp; done) | (simp; omega)) _ | with_reducible refine Within.trans ?_ (by assumption))) ?_
      try simp only [Act.put, List.setIfInBounds_toArray, List.set_cons_zero, List.set_cons_succ]
      refine sch_one_skip rfl (by first | rfl | decide | (simp [Region.wanted, yielded]; done) | (simp [Region.wanted, yielded]; assumption)) (by repeat (first | with_reducible exact Within.refl _ | with_reducible assumption | with_reducible refine Within.alloc ?_ _ | with_reducible refine Within.drew ?_ | with_reducible refine Within.drewN ?_ _ | with_reducible refine Within.setCell ?_ (by first | (simp; done) | (simp; omega)) _ | with_reducible refine Within.trans ?_ (by assumption))) ?_
      try simp only [Act.put, List.setIfInBounds_toArray, List.set_cons_zero, List.set_cons_succ]
      refine sch_one_skip rfl (by first | rfl | decide | (simp [Region.wanted, yielded]; done) | (simp [Region.wanted, yielded]; assumption)) (by repeat (first | with_reducible exact Within.refl _ | with_reducible assumption | with_reducible refine Within.alloc ?_ _ | with_reducible refine Within.drew ?_ | with_reducible refine Within.drewN ?_ _ | with_reducible refine Within.setCell ?_ (by first | (simp; done) | (simp; omega)) _ | with_reducible refine Within.trans ?_ (by assumption))) ?_
      try simp only [Act.put, List.setIfInBounds_toArray, List.set_cons_zero, List.set_cons_succ]
      refine sch_one_skip rfl (by first | rfl | decide | (simp [Region.wanted, yielded]; done) | (simp [Region.wanted, yielded]; assumption)) (by repeat (first | with_reducible exact Within.refl _ | with_reducible assumption | with_reducible refine Within.alloc ?_ _ | with_reducible refine Within.drew ?_ | with_reducible refine Within.drewN ?_ _ | with_reducible refine Within.setCell ?_ (by first | (simp; done) | (simp; omega)) _ | with_reducible refine Within.trans ?_ (by assumption))) ?_
      try simp only [Act.put, List.setIfInBounds_toArray, List.set_cons_zero, List.set_cons_succ]
      refine sch_skip rfl (by first | rfl | decide | (simp [Region.wanted, yielded]; done) | (simp [Region.wanted, yielded]; assumption)) (by repeat (first | with_reducible exact Within.refl _ | with_reducible assumption | with_reducible refine Within.alloc ?_ _ | with_reducible refine Within.drew ?_ | with_reducible refine Within.drewN ?_ _ | with_reducible refine Within.setCell ?_ (by first | (simp; done) | (simp; omega)) _ | with_reducible refine Within.trans ?_ (by assumption))) ?_
      try simp only [Act.put, List.setIfInBounds_toArray, List.set_cons_zero, List.set_cons_succ]
      refine sch_skip rfl (by first | rfl | decide | (simp [Region.wanted, yielded]; done) | (simp [Region.wanted, yielded]; assumption)) (by repeat (first | with_reducible exact Within.refl _ | with_reducible assumption | with_reducible refine Within.alloc ?_ _ | with_reducible refine Within.drew ?_ | with_reducible refine Within.drewN ?_ _ | with_reducible refine Within.setCell ?_ (by first | (simp; done) | (simp; omega)) _ | with_reducible refine Within.trans ?_ (by assumption))) ?_
      try simp only [Act.put, List.setIfInBounds_toArray, List.set_cons_zero, List.set_cons_succ]
      refine sch_one rfl rfl (fun K hK => ?_)
      go_simp
      refine hK _ _ (fun h => absurd h (by decide)) ?_
      clear hK K
      try simp only [Act.put, List.setIfInBounds_toArray, List.set_cons_zero, List.set_cons_succ]
      refine sch_nil ?_
      go_wp2_with fail
      go_meet
      exact ⟨rfl, Within.trans hw0 (by repeat (first | with_reducible exact Within.refl _ | with_reducible assumption | with_reducible refine Within.alloc ?_ _ | with_reducible refine Within.drew ?_ | with_reducible refine Within.drewN ?_ _ | with_reducible refine Within.setCell ?_ (by first | (simp; done) | (simp; omega)) _ | with_reducible refine Within.trans ?_ (by assumption)))⟩
  case rest =>
    obtain ⟨rfl, hcut⟩ := hcut
    have hVc : Within V wc := hV.trans hcut
    clear hcut hV hVWk
    go_wp2_with fail
    refine (AX.out A1 A2 c1 c2 _ (HTV.out.of hVc) (HS1V.out.of hVc) (HS2V.out.of hVc)).mono ?_; rintro e9 w9 ⟨v9, l9, rfl, hO9, hw9, hm9, hb9⟩
    obtain ⟨A9, c9, rfl, _, hs9, _⟩ := hO9.form
    have HS9 := Lib.hid hs9; have HM9 := Lib.hid hm9; have HW9 := Lib.hid hw9; clear hs9 hO9 hm9 hw9
    have hV : Within V w9 := (by repeat (first | with_reducible exact Within.refl _ | with_reducible assumption | with_reducible refine arW_within ?_ _ _ _ | with_reducible refine Within.alloc ?_ _ | with_reducible refine Within.drew ?_ | with_reducible refine Within.trans ?_ (by assumption)))
    have hVWk : Within w w9 := HVW.out.trans hV
    go_upto_region 11 with fail
    go_cut [83] (fun sx wx => sx = .bool false ∧ Within w9 wx)
    case first =>
      by_cases h0 : ar = 0
      · obtain ⟨r1, r2⟩ := AR.out h0 l9 HW9.out HM9.out
        have hfl := isB_fins HW9.out r1
        have hll := isB_len r1
        have IL := Lib.hid (fun w hT hr => eis_any A9 c9 l9 HW9.out (Nat.le_trans hll (by decide)) w hT hr)
        rw [r1] at IL
        have SL := Lib.hid (fun w hr => Xsuml A9 c9 l9 HW9.out hfl hll w hr)
        have LL := Lib.hid (sum_len' HW9.out hfl hll)
        have R2 := Lib.hid r2
        have g0 : (ar == 0) = true := by rw [h0]; rfl
        clear r1 r2 hfl hll h0
        have lv0 := World.block_lt_of_cell? _ _ HP.out.1; have lv1 := World.block_lt_of_cell? _ _ HP.out.2.2.1
        have p0 := (hV.cells _ 0 lv0).trans HP.out.1
        have p1 := (hV.cells _ 1 lv0).trans HP.out.2.1
        have q0 := (hV.cells _ 0 lv1).trans HP.out.2.2.1
        have q1 := (hV.cells _ 1 lv1).trans HP.out.2.2.2
        have lb0 := Nat.lt_of_lt_of_le lv0 hV.sizes; have lb1 := Nat.lt_of_lt_of_le lv1 hV.sizes
        have hJp := HJP.out.of hV; have hJq := HJQ.out.of hV
        have hTk := HTV.out.of hV
        clear hV lv0 lv1
        refine wp_region_schG (fun W => W.cell? ⟨w7.heap.size, 0, none⟩ = some (.pointer (some ⟨gp, 0, none⟩)) ∧ W.cell? ⟨w7.heap.size, 1, none⟩ = some (.int .i64 Ep) ∧ W.cell? ⟨w7.heap.size + 1, 0, none⟩ = some (.pointer (some ⟨gq, 0, none⟩)) ∧ W.cell? ⟨w7.heap.size + 1, 1, none⟩ = some (.int .i64 Eq) ∧ w7.heap.size < W.heap.size ∧ w7.heap.size + 1 < W.heap.size ∧ IntB W gp np ∧ IntB W gq nq ∧ SlAt W A9 (f64v l9) ∧ Tab W ∧ Within w9 W) 15 (.firm 0 (.firm 1 (.firm 2 (.firm 3 (.one 4 (.firm 5 (.firm 6 (.firm 7 (.firm 9 (.firm 10 (.one 8 (.one 11 (.one 12 (.firm 13 (.firm 14 (.one 15 .nil)))))))))))))))) (by kernel_rfl) (by kernel_rfl) ⟨p0, p1, q0, q1, lb0, lb1, hJp, hJq, HS9.out, hTk, Within.refl _⟩ ?_
        rintro w0 ⟨c0, c1, d0, d1, lb0, lb1, hJp, hJq, hSl, hTw, hw0⟩
        try simp only [Act.put, List.setIfInBounds_toArray, List.set_cons_zero, List.set_cons_succ]
        apply sch_firm rfl rfl (by repeat (first | with_reducible exact Within.refl _ | with_reducible assumption | with_reducible refine Within.alloc ?_ _ | with_reducible refine Within.drew ?_ | with_reducible refine Within.drewN ?_ _ | with_reducible refine Within.setCell ?_ (by first | (simp; done) | (simp; omega)) _ | with_reducible refine Within.trans ?_ (by assumption)))
        · intro wq hq
          have hcq := hq.cells
          clear hq
          go_simp
          first | rfl | (trace_state; fail)
        try simp only [Act.put, List.setIfInBounds_toArray, List.set_cons_zero, List.set_cons_succ]
        apply sch_firm rfl rfl (by repeat (first | with_reducible exact Within.refl _ | with_reducible assumption | with_reducible refine Within.alloc ?_ _ | with_reducible refine Within.drew ?_ | with_reducible refine Within.drewN ?_ _ | with_reducible refine Within.setCell ?_ (by first | (simp; done) | (simp; omega)) _ | with_reducible refine Within.trans ?_ (by assumption)))
        · intro wq hq
          have hcq := hq.cells
          clear hq
          go_simp
          first | rfl | (trace_state; fail)
        try simp only [Act.put, List.setIfInBounds_toArray, List.set_cons_zero, List.set_cons_succ]
        apply sch_firm rfl rfl (by repeat (first | with_reducible exact Within.refl _ | with_reducible assumption | with_reducible refine Within.alloc ?_ _ | with_reducible refine Within.drew ?_ | with_reducible refine Within.drewN ?_ _ | with_reducible refine Within.setCell ?_ (by first | (simp; done) | (simp; omega)) _ | with_reducible refine Within.trans ?_ (by assumption)))
        · intro wq hq
          have hcq := hq.cells
          clear hq
          go_simp
          first | rfl | (trace_state; fail)
        try simp only [Act.put, List.setIfInBounds_toArray, List.set_cons_zero, List.set_cons_succ]
        apply sch_want rfl (by first | rfl | decide | (simp [Region.wanted, yielded]; done) | (simp [Region.wanted, yielded]; assumption)) (by repeat (first | with_reducible exact Within.refl _ | with_reducible assumption | with_reducible refine Within.alloc ?_ _ | with_reducible refine Within.drew ?_ | with_reducible refine Within.drewN ?_ _ | with_reducible refine Within.setCell ?_ (by first | (simp; done) | (simp; omega)) _ | with_reducible refine Within.trans ?_ (by assumption)))
        · intro wq hq
          have hcq := hq.cells
          clear hq
          go_simp
          first | rfl | (trace_state; fail)
        try simp only [Act.put, List.setIfInBounds_toArray, List.set_cons_zero, List.set_cons_succ]
        refine sch_one_want rfl (by first | rfl | decide | (simp [Region.wanted, yielded]; done) | (simp [Region.wanted, yielded]; assumption)) (fun K hK => ?_)
        go_simp
        refine (IL.out _ (hTw.of (by repeat (first | with_reducible exact Within.refl _ | with_reducible assumption | with_reducible refine Within.alloc ?_ _ | with_reducible refine Within.drew ?_ | with_reducible refine Within.drewN ?_ _ | with_reducible refine Within.setCell ?_ (by first | (simp; done) | (simp; omega)) _ | with_reducible refine Within.trans ?_ (by assumption)))) (hSl.of (by repeat (first | with_reducible exact Within.refl _ | with_reducible assumption | with_reducible refine Within.alloc ?_ _ | with_reducible refine Within.drew ?_ | with_reducible refine Within.drewN ?_ _ | with_reducible refine Within.setCell ?_ (by first | (simp; done) | (simp; omega)) _ | with_reducible refine Within.trans ?_ (by assumption))))).mono ?_; rintro f1 u1 ⟨rfl, jb1⟩
        refine hK _ _ (fun _ => (by repeat (first | with_reducible exact Within.refl _ | with_reducible assumption | with_reducible refine Within.alloc ?_ _ | with_reducible refine Within.drew ?_ | with_reducible refine Within.drewN ?_ _ | with_reducible refine Within.setCell ?_ (by first | (simp; done) | (simp; omega)) _ | with_reducible refine Within.trans ?_ (by assumption)))) ?_
        clear hK K
        try simp only [Act.put, List.setIfInBounds_toArray, List.set_cons_zero, List.set_cons_succ]
        apply sch_want rfl (by first | rfl | decide | (simp [Region.wanted, yielded]; done) | (simp [Region.wanted, yielded]; assumption)) (by repeat (first | with_reducible exact Within.refl _ | with_reducible assumption | with_reducible refine Within.alloc ?_ _ | with_reducible refine Within.drew ?_ | with_reducible refine Within.drewN ?_ _ | with_reducible refine Within.setCell ?_ (by first | (simp; done) | (simp; omega)) _ | with_reducible refine Within.trans ?_ (by assumption)))
        · intro wq hq
          have hcq := hq.cells
          clear hq
          go_simp
          first | rfl | (trace_state; fail)
        try simp only [Act.put, List.setIfInBounds_toArray, List.set_cons_zero, List.set_cons_succ]
        apply sch_want rfl (by first | rfl | decide | (simp [Region.wanted, yielded]; done) | (simp [Region.wanted, yielded]; assumption)) (by repeat (first | with_reducible exact Within.refl _ | with_reducible assumption | with_reducible refine Within.alloc ?_ _ | with_reducible refine Within.drew ?_ | with_reducible refine Within.drewN ?_ _ | with_reducible refine Within.setCell ?_ (by first | (simp; done) | (simp; omega)) _ | with_reducible refine Within.trans ?_ (by assumption)))
        · intro wq hq
          have hcq := hq.cells
          clear hq
          go_simp
          first | rfl | (trace_state; fail)
        try simp only [Act.put, List.setIfInBounds_toArray, List.set_cons_zero, List.set_cons_succ]
        apply sch_want rfl (by first | rfl | decide | (simp [Region.wanted, yielded]; done) | (simp [Region.wanted, yielded]; assumption)) (by repeat (first | with_reducible exact Within.refl _ | with_reducible assumption | with_reducible refine Within.alloc ?_ _ | with_reducible refine Within.drew ?_ | with_reducible refine Within.drewN ?_ _ | with_reducible refine Within.setCell ?_ (by first | (simp; done) | (simp; omega)) _ | with_reducible refine Within.trans ?_ (by assumption)))
        · intro wq hq
          have hcq := hq.cells
          clear hq
          go_simp
          first | rfl | (trace_state; fail)
        try simp only [Act.put, List.setIfInBounds_toArray, List.set_cons_zero, List.set_cons_succ]
        apply sch_want rfl (by first | rfl | decide | (simp [Region.wanted, yielded]; done) | (simp [Region.wanted, yielded]; assumption)) (by repeat (first | with_reducible exact Within.refl _ | with_reducible assumption | with_reducible refine Within.alloc ?_ _ | with_reducible refine Within.drew ?_ | with_reducible refine Within.drewN ?_ _ | with_reducible refine Within.setCell ?_ (by first | (simp; done) | (simp; omega)) _ | with_reducible refine Within.trans ?_ (by assumption)))
        · intro wq hq
          have hcq := hq.cells
          clear hq
          go_simp
          first | rfl | (trace_state; fail)
        try simp only [Act.put, List.setIfInBounds_toArray, List.set_cons_zero, List.set_cons_succ]
        apply sch_want rfl (by first | rfl | decide | (simp [Region.wanted, yielded]; done) | (simp [Region.wanted, yielded]; assumption)) (by repeat (first | with_reducible exact Within.refl _ | with_reducible assumption | with_reducible refine Within.alloc ?_ _ | with_reducible refine Within.drew ?_ | with_reducible refine Within.drewN ?_ _ | with_reducible refine Within.setCell ?_ (by first | (simp; done) | (simp; omega)) _ | with_reducible refine Within.trans ?_ (by assumption)))
        · intro wq hq
          have hcq := hq.cells
          clear hq
          go_simp
          first | rfl | (trace_state; fail)
        try simp only [Act.put, List.setIfInBounds_toArray, List.set_cons_zero, List.set_cons_succ]
        refine sch_one_want rfl (by first | rfl | decide | (simp [Region.wanted, yielded]; done) | (simp [Region.wanted, yielded]; assumption)) (fun K hK => ?_)
        go_simp
        refine (SL.out _ (hSl.of (by repeat (first | with_reducible exact Within.refl _ | with_reducible assumption | with_reducible refine Within.alloc ?_ _ | with_reducible refine Within.drew ?_ | with_reducible refine Within.drewN ?_ _ | with_reducible refine Within.setCell ?_ (by first | (simp; done) | (simp; omega)) _ | with_reducible refine Within.trans ?_ (by assumption))))).mono ?_; rintro f2 u2 ⟨g2, n2, E2, rfl, hI2, a2, b2, hv2, jb2⟩
        have l2 : (dg n2.natAbs).length ≤ 80 := Nat.le_trans (val_len n2 E2 1074) (by rw [hv2]; exact LL.out)
        have HV2 := Lib.hid hv2; clear hv2
        refine hK _ _ (fun _ => (by repeat (first | with_reducible exact Within.refl _ | with_reducible assumption | with_reducible refine Within.alloc ?_ _ | with_reducible refine Within.drew ?_ | with_reducible refine Within.drewN ?_ _ | with_reducible refine Within.setCell ?_ (by first | (simp; done) | (simp; omega)) _ | with_reducible refine Within.trans ?_ (by assumption)))) ?_
        clear hK K
        try simp only [Act.put, List.setIfInBounds_toArray, List.set_cons_zero, List.set_cons_succ]
        refine sch_one_want rfl (by first | rfl | decide | (simp [Region.wanted, yielded]; done) | (simp [Region.wanted, yielded]; assumption)) (fun K hK => ?_)
        go_simp
        refine (Xadd np nq Ep Eq gp gq 1074 1100 (by decide) (by decide) BP.out.1 BP.out.2 BQ.out.1 BQ.out.2 (Nat.le_trans LP.out (by decide)) (Nat.le_trans LQ.out (by decide)) _ (IntB.of hJp (by repeat (first | with_reducible exact Within.refl _ | with_reducible assumption | with_reducible refine Within.alloc ?_ _ | with_reducible refine Within.drew ?_ | with_reducible refine Within.drewN ?_ _ | with_reducible refine Within.setCell ?_ (by first | (simp; done) | (simp; omega)) _ | with_reducible refine Within.trans ?_ (by assumption)))) (IntB.of hJq (by repeat (first | with_reducible exact Within.refl _ | with_reducible assumption | with_reducible refine Within.alloc ?_ _ | with_reducible refine Within.drew ?_ | with_reducible refine Within.drewN ?_ _ | with_reducible refine Within.setCell ?_ (by first | (simp; done) | (simp; omega)) _ | with_reducible refine Within.trans ?_ (by assumption))))).mono ?_; rintro f5 u5 ⟨g5, n5, E5, rfl, hI5, a5, b5, hv5, jb5⟩
        have l5 : (dg n5.natAbs).length ≤ 80 := Nat.le_trans (val_len n5 E5 1074) (by rw [hv5, HVQ.out, HVP.out, ← R2.out]; exact LL.out)
        have HV5 := Lib.hid hv5; clear hv5
        refine hK _ _ (fun _ => (by repeat (first | with_reducible exact Within.refl _ | with_reducible assumption | with_reducible refine Within.alloc ?_ _ | with_reducible refine Within.drew ?_ | with_reducible refine Within.drewN ?_ _ | with_reducible refine Within.setCell ?_ (by first | (simp; done) | (simp; omega)) _ | with_reducible refine Within.trans ?_ (by assumption)))) ?_
        clear hK K
        try simp only [Act.put, List.setIfInBounds_toArray, List.set_cons_zero, List.set_cons_succ]
        refine sch_one_want rfl (by first | rfl | decide | (simp [Region.wanted, yielded]; done) | (simp [Region.wanted, yielded]; assumption)) (fun K hK => ?_)
        go_simp
        have CM := Lib.hid (fun w k1 k2 => Xcmp n2 n5 E2 E5 g2 g5 1074 1100 (by decide) (by decide) a2 b2 a5 b5 (Nat.le_trans l2 (by decide)) (Nat.le_trans l5 (by decide)) w k1 k2)
        rw [HV2.out, HV5.out, HVQ.out, HVP.out, R2.out, cmp_same' rfl] at CM
        refine (CM.out _ (IntB.of hI2 (by repeat (first | with_reducible exact Within.refl _ | with_reducible assumption | with_reducible refine Within.alloc ?_ _ | with_reducible refine Within.drew ?_ | with_reducible refine Within.drewN ?_ _ | with_reducible refine Within.setCell ?_ (by first | (simp; done) | (simp; omega)) _ | with_reducible refine Within.trans ?_ (by assumption)))) (IntB.of hI5 (by repeat (first | with_reducible exact Within.refl _ | with_reducible assumption | with_reducible refine Within.alloc ?_ _ | with_reducible refine Within.drew ?_ | with_reducible refine Within.drewN ?_ _ | with_reducible refine Within.setCell ?_ (by first | (simp; done) | (simp; omega)) _ | with_reducible refine Within.trans ?_ (by assumption))))).mono ?_; rintro f6 u6 ⟨rfl, jb6⟩
        refine hK _ _ (fun _ => (by repeat (first | with_reducible exact Within.refl _ | with_reducible assumption | with_reducible refine Within.alloc ?_ _ | with_reducible refine Within.drew ?_ | with_reducible refine Within.drewN ?_ _ | with_reducible refine Within.setCell ?_ (by first | (simp; done) | (simp; omega)) _ | with_reducible refine Within.trans ?_ (by assumption)))) ?_
        clear hK K
        try simp only [Act.put, List.setIfInBounds_toArray, List.set_cons_zero, List.set_cons_succ]
        apply sch_want rfl (by first | rfl | decide | (simp [Region.wanted, yielded]; done) | (simp [Region.wanted, yielded]; assumption)) (by repeat (first | with_reducible exact Within.refl _ | with_reducible assumption | with_reducible refine Within.alloc ?_ _ | with_reducible refine Within.drew ?_ | with_reducible refine Within.drewN ?_ _ | with_reducible refine Within.setCell ?_ (by first | (simp; done) | (simp; omega)) _ | with_reducible refine Within.trans ?_ (by assumption)))
        · intro wq hq
          have hcq := hq.cells
          clear hq
          go_simp
          first | rfl | (trace_state; fail)
        try simp only [Act.put, List.setIfInBounds_toArray, List.set_cons_zero, List.set_cons_succ]
        apply sch_want rfl (by first | rfl | decide | (simp [Region.wanted, yielded]; done) | (simp [Region.wanted, yielded]; assumption)) (by repeat (first | with_reducible exact Within.refl _ | with_reducible assumption | with_reducible refine Within.alloc ?_ _ | with_reducible refine Within.drew ?_ | with_reducible refine Within.drewN ?_ _ | with_reducible refine Within.setCell ?_ (by first | (simp; done) | (simp; omega)) _ | with_reducible refine Within.trans ?_ (by assumption)))
        · intro wq hq
          have hcq := hq.cells
          clear hq
          go_simp
          first | rfl | (trace_state; fail)
        try simp only [Act.put, List.setIfInBounds_toArray, List.set_cons_zero, List.set_cons_succ]
        refine sch_one rfl rfl (fun K hK => ?_)
        go_simp
        refine hK _ _ (fun h => absurd h (by decide)) ?_
        clear hK K
        try simp only [Act.put, List.setIfInBounds_toArray, List.set_cons_zero, List.set_cons_succ]
        refine sch_nil ?_
        go_wp2_with fail
        go_meet
        exact ⟨rfl, Within.trans hw0 (by repeat (first | with_reducible exact Within.refl _ | with_reducible assumption | with_reducible refine Within.alloc ?_ _ | with_reducible refine Within.drew ?_ | with_reducible refine Within.drewN ?_ _ | with_reducible refine Within.setCell ?_ (by first | (simp; done) | (simp; omega)) _ | with_reducible refine Within.trans ?_ (by assumption)))⟩
      · have g0 : (ar == 0) = false := by rw [beq_eq_false_iff_ne]; exact h0
        clear h0
        have lv0 := World.block_lt_of_cell? _ _ HP.out.1; have lv1 := World.block_lt_of_cell? _ _ HP.out.2.2.1
        have p0 := (hV.cells _ 0 lv0).trans HP.out.1
        have p1 := (hV.cells _ 1 lv0).trans HP.out.2.1
        have q0 := (hV.cells _ 0 lv1).trans HP.out.2.2.1
        have q1 := (hV.cells _ 1 lv1).trans HP.out.2.2.2
        have lb0 := Nat.lt_of_lt_of_le lv0 hV.sizes; have lb1 := Nat.lt_of_lt_of_le lv1 hV.sizes
        have hJp := HJP.out.of hV; have hJq := HJQ.out.of hV
        have hTk := HTV.out.of hV
        clear hV lv0 lv1
        refine wp_region_schG (fun W => W.cell? ⟨w7.heap.size, 0, none⟩ = some (.pointer (some ⟨gp, 0, none⟩)) ∧ W.cell? ⟨w7.heap.size, 1, none⟩ = some (.int .i64 Ep) ∧ W.cell? ⟨w7.heap.size + 1, 0, none⟩ = some (.pointer (some ⟨gq, 0, none⟩)) ∧ W.cell? ⟨w7.heap.size + 1, 1, none⟩ = some (.int .i64 Eq) ∧ w7.heap.size < W.heap.size ∧ w7.heap.size + 1 < W.heap.size ∧ IntB W gp np ∧ IntB W gq nq ∧ SlAt W A9 (f64v l9) ∧ Tab W ∧ Within w9 W) 15 (.firm 0 (.firm 1 (.firm 2 (.firm 3 (.one 4 (.firm 5 (.firm 6 (.firm 7 (.firm 9 (.firm 10 (.one 8 (.one 11 (.one 12 (.firm 13 (.firm 14 (.one 15 .nil)))))))))))))))) (by kernel_rfl) (by kernel_rfl) ⟨p0, p1, q0, q1, lb0, lb1, hJp, hJq, HS9.out, hTk, Within.refl _⟩ ?_
        rintro w0 ⟨c0, c1, d0, d1, lb0, lb1, hJp, hJq, hSl, hTw, hw0⟩
        try simp only [Act.put, List.setIfInBounds_toArray, List.set_cons_zero, List.set_cons_succ]
        apply sch_firm rfl rfl (by repeat (first | with_reducible exact Within.refl _ | with_reducible assumption | with_reducible refine Within.alloc ?_ _ | with_reducible refine Within.drew ?_ | with_reducible refine Within.drewN ?_ _ | with_reducible refine Within.setCell ?_ (by first | (simp; done) | (simp; omega)) _ | with_reducible refine Within.trans ?_ (by assumption)))
        · intro wq hq
          have hcq := hq.cells
          clear hq
          go_simp
          first | rfl | (trace_state; fail)
        try simp only [Act.put, List.setIfInBounds_toArray, List.set_cons_zero, List.set_cons_succ]
        apply sch_firm rfl rfl (by repeat (first | with_reducible exact Within.refl _ | with_reducible assumption | with_reducible refine Within.alloc ?_ _ | with_reducible refine Within.drew ?_ | with_reducible refine Within.drewN ?_ _ | with_reducible refine Within.setCell ?_ (by first | (simp; done) | (simp; omega)) _ | with_reducible refine Within.trans ?_ (by assumption)))
        · intro wq hq
          have hcq := hq.cells
          clear hq
          go_simp
          first | rfl | (trace_state; fail)
        try simp only [Act.put, List.setIfInBounds_toArray, List.set_cons_zero, List.set_cons_succ]
        apply sch_firm rfl rfl (by repeat (first | with_reducible exact Within.refl _ | with_reducible assumption | with_reducible refine Within.alloc ?_ _ | with_reducible refine Within.drew ?_ | with_reducible refine Within.drewN ?_ _ | with_reducible refine Within.setCell ?_ (by first | (simp; done) | (simp; omega)) _ | with_reducible refine Within.trans ?_ (by assumption)))
        · intro wq hq
          have hcq := hq.cells
          clear hq
          go_simp
          first | rfl | (trace_state; fail)
        try simp only [Act.put, List.setIfInBounds_toArray, List.set_cons_zero, List.set_cons_succ]
        refine sch_skip rfl (by first | rfl | decide | (simp [Region.wanted, yielded]; done) | (simp [Region.wanted, yielded]; assumption)) (by repeat (first | with_reducible exact Within.refl _ | with_reducible assumption | with_reducible refine Within.alloc ?_ _ | with_reducible refine Within.drew ?_ | with_reducible refine Within.drewN ?_ _ | with_reducible refine Within.setCell ?_ (by first | (simp; done) | (simp; omega)) _ | with_reducible refine Within.trans ?_ (by assumption))) ?_
        try simp only [Act.put, List.setIfInBounds_toArray, List.set_cons_zero, List.set_cons_succ]
        refine sch_one_skip rfl (by first | rfl | decide | (simp [Region.wanted, yielded]; done) | (simp [Region.wanted, yielded]; assumption)) (by repeat (first | with_reducible exact Within.refl _ | with_reducible assumption | with_reducible refine Within.alloc ?_ _ | with_reducible refine Within.drew ?_ | with_reducible refine Within.drewN ?_ _ | with_reducible refine Within.setCell ?_ (by first | (simp; done) | (simp; omega)) _ | with_reducible refine Within.trans ?_ (by assumption))) ?_
        try simp only [Act.put, List.setIfInBounds_toArray, List.set_cons_zero, List.set_cons_succ]
        refine sch_skip rfl (by first | rfl | decide | (simp [Region.wanted, yielded]; done) | (simp [Region.wanted, yielded]; assumption)) (by repeat (first | with_reducible exact Within.refl _ | with_reducible assumption | with_reducible refine Within.alloc ?_ _ | with_reducible refine Within.drew ?_ | with_reducible refine Within.drewN ?_ _ | with_reducible refine Within.setCell ?_ (by first | (simp; done) | (simp; omega)) _ | with_reducible refine Within.trans ?_ (by assumption))) ?_
        try simp only [Act.put, List.setIfInBounds_toArray, List.set_cons_zero, List.set_cons_succ]
        refine sch_skip rfl (by first | rfl | decide | (simp [Region.wanted, yielded]; done) | (simp [Region.wanted, yielded]; assumption)) (by repeat (first | with_reducible exact Within.refl _ | with_reducible assumption | with_reducible refine Within.alloc ?_ _ | with_reducible refine Within.drew ?_ | with_reducible refine Within.drewN ?_ _ | with_reducible refine Within.setCell ?_ (by first | (simp; done) | (simp; omega)) _ | with_reducible refine Within.trans ?_ (by assumption))) ?_
        try simp only [Act.put, List.setIfInBounds_toArray, List.set_cons_zero, List.set_cons_succ]
        refine sch_skip rfl (by first | rfl | decide | (simp [Region.wanted, yielded]; done) | (simp [Region.wanted, yielded]; assumption)) (by repeat (first | with_reducible exact Within.refl _ | with_reducible assumption | with_reducible refine Within.alloc ?_ _ | with_reducible refine Within.drew ?_ | with_reducible refine Within.drewN ?_ _ | with_reducible refine Within.setCell ?_ (by first | (simp; done) | (simp; omega)) _ | with_reducible refine Within.trans ?_ (by assumption))) ?_
        try simp only [Act.put, List.setIfInBounds_toArray, List.set_cons_zero, List.set_cons_succ]
        refine sch_skip rfl (by first | rfl | decide | (simp [Region.wanted, yielded]; done) | (simp [Region.wanted, yielded]; assumption)) (by repeat (first | with_reducible exact Within.refl _ | with_reducible assumption | with_reducible refine Within.alloc ?_ _ | with_reducible refine Within.drew ?_ | with_reducible refine Within.drewN ?_ _ | with_reducible refine Within.setCell ?_ (by first | (simp; done) | (simp; omega)) _ | with_reducible refine Within.trans ?_ (by assumption))) ?_
        try simp only [Act.put, List.setIfInBounds_toArray, List.set_cons_zero, List.set_cons_succ]
        refine sch_skip rfl (by first | rfl | decide | (simp [Region.wanted, yielded]; done) | (simp [Region.wanted, yielded]; assumption)) (by repeat (first | with_reducible exact Within.refl _ | with_reducible assumption | with_reducible refine Within.alloc ?_ _ | with_reducible refine Within.drew ?_ | with_reducible refine Within.drewN ?_ _ | with_reducible refine Within.setCell ?_ (by first | (simp; done) | (simp; omega)) _ | with_reducible refine Within.trans ?_ (by assumption))) ?_
        try simp only [Act.put, List.setIfInBounds_toArray, List.set_cons_zero, List.set_cons_succ]
        refine sch_one_skip rfl (by first | rfl | decide | (simp [Region.wanted, yielded]; done) | (simp [Region.wanted, yielded]; assumption)) (by repeat (first | with_reducible exact Within.refl _ | with_reducible assumption | with_reducible refine Within.alloc ?_ _ | with_reducible refine Within.drew ?_ | with_reducible refine Within.drewN ?_ _ | with_reducible refine Within.setCell ?_ (by first | (simp; done) | (simp; omega)) _ | with_reducible refine Within.trans ?_ (by assumption))) ?_
        try simp only [Act.put, List.setIfInBounds_toArray, List.set_cons_zero, List.set_cons_succ]
        refine sch_one_skip rfl (by first | rfl | decide | (simp [Region.wanted, yielded]; done) | (simp [Region.wanted, yielded]; assumption)) (by repeat (first | with_reducible exact Within.refl _ | with_reducible assumption | with_reducible refine Within.alloc ?_ _ | with_reducible refine Within.drew ?_ | with_reducible refine Within.drewN ?_ _ | with_reducible refine Within.setCell ?_ (by first | (simp; done) | (simp; omega)) _ | with_reducible refine Within.trans ?_ (by assumption))) ?_
        try simp only [Act.put, List.setIfInBounds_toArray, List.set_cons_zero, List.set_cons_succ]
        refine sch_one_skip rfl (by first | rfl | decide | (simp [Region.wanted, yielded]; done) | (simp [Region.wanted, yielded]; assumption)) (by repeat (first | with_reducible exact Within.refl _ | with_reducible assumption | with_reducible refine Within.alloc ?_ _ | with_reducible refine Within.drew ?_ | with_reducible refine Within.drewN ?_ _ | with_reducible refine Within.setCell ?_ (by first | (simp; done) | (simp; omega)) _ | with_reducible refine Within.trans ?_ (by assumption))) ?_
        try simp only [Act.put, List.setIfInBounds_toArray, List.set_cons_zero, List.set_cons_succ]
        refine sch_skip rfl (by first | rfl | decide | (simp [Region.wanted, yielded]; done) | (simp [Region.wanted, yielded]; assumption)) (by repeat (first | with_reducible exact Within.refl _ | with_reducible assumption | with_reducible refine Within.alloc ?_ _ | with_reducible refine Within.drew ?_ | with_reducible refine Within.drewN ?_ _ | with_reducible refine Within.setCell ?_ (by first | (simp; done) | (simp; omega)) _ | with_reducible refine Within.trans ?_ (by assumption))) ?_
        try simp only [Act.put, List.setIfInBounds_toArray, List.set_cons_zero, List.set_cons_succ]
        refine sch_skip rfl (by first | rfl | decide | (simp [Region.wanted, yielded]; done) | (simp [Region.wanted, yielded]; assumption)) (by repeat (first | with_reducible exact Within.refl _ | with_reducible assumption | with_reducible refine Within.alloc ?_ _ | with_reducible refine Within.drew ?_ | with_reducible refine Within.drewN ?_ _ | with_reducible refine Within.setCell ?_ (by first | (simp; done) | (simp; omega)) _ | with_reducible refine Within.trans ?_ (by assumption))) ?_
        try simp only [Act.put, List.setIfInBounds_toArray, List.set_cons_zero, List.set_cons_succ]
        refine sch_one rfl rfl (fun K hK => ?_)
        go_simp
        refine hK _ _ (fun h => absurd h (by decide)) ?_
        clear hK K
        try simp only [Act.put, List.setIfInBounds_toArray, List.set_cons_zero, List.set_cons_succ]
        refine sch_nil ?_
        go_wp2_with fail
        go_meet
        exact ⟨rfl, Within.trans hw0 (by repeat (first | with_reducible exact Within.refl _ | with_reducible assumption | with_reducible refine Within.alloc ?_ _ | with_reducible refine Within.drew ?_ | with_reducible refine Within.drewN ?_ _ | with_reducible refine Within.setCell ?_ (by first | (simp; done) | (simp; omega)) _ | with_reducible refine Within.trans ?_ (by assumption)))⟩
    case rest =>
      obtain ⟨rfl, hcut⟩ := hcut
      have hVc : Within V wc := hV.trans hcut
      clear hcut hV hVWk
      go_wp2_with fail
      refine (ef_any z _).mono ?_; rintro e00 w00 ⟨rfl, rfl⟩
      go_wp2_with fail
      refine (SC.out A1 c1 _ (HTV.out.of hVc) (HS1V.out.of hVc)).mono ?_; rintro e10 w10 ⟨v10, l10, rfl, hO10, hw10, hm10, hb10⟩
      obtain ⟨A10, c10, rfl, _, hs10, _⟩ := hO10.form
      have HS10 := Lib.hid hs10; have HM10 := Lib.hid hm10; have HW10 := Lib.hid hw10; clear hs10 hO10 hm10 hw10
      have hV : Within V w10 := (by repeat (first | with_reducible exact Within.refl _ | with_reducible assumption | with_reducible refine arW_within ?_ _ _ _ | with_reducible refine Within.alloc ?_ _ | with_reducible refine Within.drew ?_ | with_reducible refine Within.trans ?_ (by assumption)))
      have hVWk : Within w w10 := HVW.out.trans hV
      go_upto_region 14 with fail
      go_cut [108] (fun sx wx => sx = .bool false ∧ Within w10 wx)
      case first =>
        by_cases h0 : sr = 0
        · obtain ⟨r1, r2⟩ := SR.out h0 l10 HW10.out HM10.out
          have hfl := isB_fins HW10.out r1
          have hll := isB_len r1
          have IL := Lib.hid (fun w hT hr => eis_any A10 c10 l10 HW10.out (Nat.le_trans hll (by decide)) w hT hr)
          rw [r1] at IL
          have SL := Lib.hid (fun w hr => Xsuml A10 c10 l10 HW10.out hfl hll w hr)
          have LL := Lib.hid (sum_len' HW10.out hfl hll)
          have R2 := Lib.hid r2
          have g0 : (sr == 0) = true := by rw [h0]; rfl
          clear r1 r2 hfl hll h0
          have lv0 := World.block_lt_of_cell? _ _ HP.out.1; have lv1 := World.block_lt_of_cell? _ _ HP.out.2.2.1
          have p0 := (hV.cells _ 0 lv0).trans HP.out.1
          have p1 := (hV.cells _ 1 lv0).trans HP.out.2.1
          have q0 := (hV.cells _ 0 lv1).trans HP.out.2.2.1
          have q1 := (hV.cells _ 1 lv1).trans HP.out.2.2.2
          have lb0 := Nat.lt_of_lt_of_le lv0 hV.sizes; have lb1 := Nat.lt_of_lt_of_le lv1 hV.sizes
          have hJp := HJP.out.of hV; have hJq := HJQ.out.of hV
          have hTk := HTV.out.of hV
          clear hV lv0 lv1
          refine wp_region_schG (fun W => W.cell? ⟨w7.heap.size, 0, none⟩ = some (.pointer (some ⟨gp, 0, none⟩)) ∧ W.cell? ⟨w7.heap.size, 1, none⟩ = some (.int .i64 Ep) ∧ W.cell? ⟨w7.heap.size + 1, 0, none⟩ = some (.pointer (some ⟨gq, 0, none⟩)) ∧ W.cell? ⟨w7.heap.size + 1, 1, none⟩ = some (.int .i64 Eq) ∧ w7.heap.size < W.heap.size ∧ w7.heap.size + 1 < W.heap.size ∧ IntB W gp np ∧ IntB W gq nq ∧ SlAt W A10 (f64v l10) ∧ Tab W ∧ Within w10 W) 17 (.firm 0 (.firm 1 (.firm 2 (.firm 3 (.one 4 (.firm 5 (.firm 6 (.firm 7 (.firm 9 (.firm 10 (.one 8 (.one 11 (.one 12 (.one 13 (.one 14 (.firm 15 (.firm 16 (.one 17 .nil)))))))))))))))))) (by kernel_rfl) (by kernel_rfl) ⟨p0, p1, q0, q1, lb0, lb1, hJp, hJq, HS10.out, hTk, Within.refl _⟩ ?_
          rintro w0 ⟨c0, c1, d0, d1, lb0, lb1, hJp, hJq, hSl, hTw, hw0⟩
          try simp only [Act.put, List.setIfInBounds_toArray, List.set_cons_zero, List.set_cons_succ]
          apply sch_firm rfl rfl (by repeat (first | with_reducible exact Within.refl _ | with_reducible assumption | with_reducible refine Within.alloc ?_ _ | with_reducible refine Within.drew ?_ | with_reducible refine Within.drewN ?_ _ | with_reducible refine Within.setCell ?_ (by first | (simp; done) | (simp; omega)) _ | with_reducible refine Within.trans ?_ (by assumption)))
          · intro wq hq
            have hcq := hq.cells
            clear hq
            go_simp
            first | rfl | (trace_state; fail)
          try simp only [Act.put, List.setIfInBounds_toArray, List.set_cons_zero, List.set_cons_succ]
          apply sch_firm rfl rfl (by repeat (first | with_reducible exact Within.refl _ | with_reducible assumption | with_reducible refine Within.alloc ?_ _ | with_reducible refine Within.drew ?_ | with_reducible refine Within.drewN ?_ _ | with_reducible refine Within.setCell ?_ (by first | (simp; done) | (simp; omega)) _ | with_reducible refine Within.trans ?_ (by assumption)))
          · intro wq hq
            have hcq := hq.cells
            clear hq
            go_simp
            first | rfl | (trace_state; fail)
          try simp only [Act.put, List.setIfInBounds_toArray, List.set_cons_zero, List.set_cons_succ]
          apply sch_firm rfl rfl (by repeat (first | with_reducible exact Within.refl _ | with_reducible assumption | with_reducible refine Within.alloc ?_ _ | with_reducible refine Within.drew ?_ | with_reducible refine Within.drewN ?_ _ | with_reducible refine Within.setCell ?_ (by first | (simp; done) | (simp; omega)) _ | with_reducible refine Within.trans ?_ (by assumption)))
          · intro wq hq
            have hcq := hq.cells
            clear hq
            go_simp
            first | rfl | (trace_state; fail)
          try simp only [Act.put, List.setIfInBounds_toArray, List.set_cons_zero, List.set_cons_succ]
          apply sch_want rfl (by first | rfl | decide | (simp [Region.wanted, yielded]; done) | (simp [Region.wanted, yielded]; assumption)) (by repeat (first | with_reducible exact Within.refl _ | with_reducible assumption | with_reducible refine Within.alloc ?_ _ | with_reducible refine Within.drew ?_ | with_reducible refine Within.drewN ?_ _ | with_reducible refine Within.setCell ?_ (by first | (simp; done) | (simp; omega)) _ | with_reducible refine Within.trans ?_ (by assumption)))
          · intro wq hq
            have hcq := hq.cells
            clear hq
            go_simp
            first | rfl | (trace_state; fail)
          try simp only [Act.put, List.setIfInBounds_toArray, List.set_cons_zero, List.set_cons_succ]
          refine sch_one_want rfl (by first | rfl | decide | (simp [Region.wanted, yielded]; done) | (simp [Region.wanted, yielded]; assumption)) (fun K hK => ?_)
          go_simp
          refine (IL.out _ (hTw.of (by repeat (first | with_reducible exact Within.refl _ | with_reducible assumption | with_reducible refine Within.alloc ?_ _ | with_reducible refine Within.drew ?_ | with_reducible refine Within.drewN ?_ _ | with_reducible refine Within.setCell ?_ (by first | (simp; done) | (simp; omega)) _ | with_reducible refine Within.trans ?_ (by assumption)))) (hSl.of (by repeat (first | with_reducible exact Within.refl _ | with_reducible assumption | with_reducible refine Within.alloc ?_ _ | with_reducible refine Within.drew ?_ | with_reducible refine Within.drewN ?_ _ | with_reducible refine Within.setCell ?_ (by first | (simp; done) | (simp; omega)) _ | with_reducible refine Within.trans ?_ (by assumption))))).mono ?_; rintro f1 u1 ⟨rfl, jb1⟩
          refine hK _ _ (fun _ => (by repeat (first | with_reducible exact Within.refl _ | with_reducible assumption | with_reducible refine Within.alloc ?_ _ | with_reducible refine Within.drew ?_ | with_reducible refine Within.drewN ?_ _ | with_reducible refine Within.setCell ?_ (by first | (simp; done) | (simp; omega)) _ | with_reducible refine Within.trans ?_ (by assumption)))) ?_
          clear hK K
          try simp only [Act.put, List.setIfInBounds_toArray, List.set_cons_zero, List.set_cons_succ]
          apply sch_want rfl (by first | rfl | decide | (simp [Region.wanted, yielded]; done) | (simp [Region.wanted, yielded]; assumption)) (by repeat (first | with_reducible exact Within.refl _ | with_reducible assumption | with_reducible refine Within.alloc ?_ _ | with_reducible refine Within.drew ?_ | with_reducible refine Within.drewN ?_ _ | with_reducible refine Within.setCell ?_ (by first | (simp; done) | (simp; omega)) _ | with_reducible refine Within.trans ?_ (by assumption)))
          · intro wq hq
            have hcq := hq.cells
            clear hq
            go_simp
            first | rfl | (trace_state; fail)
          try simp only [Act.put, List.setIfInBounds_toArray, List.set_cons_zero, List.set_cons_succ]
          apply sch_want rfl (by first | rfl | decide | (simp [Region.wanted, yielded]; done) | (simp [Region.wanted, yielded]; assumption)) (by repeat (first | with_reducible exact Within.refl _ | with_reducible assumption | with_reducible refine Within.alloc ?_ _ | with_reducible refine Within.drew ?_ | with_reducible refine Within.drewN ?_ _ | with_reducible refine Within.setCell ?_ (by first | (simp; done) | (simp; omega)) _ | with_reducible refine Within.trans ?_ (by assumption)))
          · intro wq hq
            have hcq := hq.cells
            clear hq
            go_simp
            first | rfl | (trace_state; fail)
          try simp only [Act.put, List.setIfInBounds_toArray, List.set_cons_zero, List.set_cons_succ]
          apply sch_want rfl (by first | rfl | decide | (simp [Region.wanted, yielded]; done) | (simp [Region.wanted, yielded]; assumption)) (by repeat (first | with_reducible exact Within.refl _ | with_reducible assumption | with_reducible refine Within.alloc ?_ _ | with_reducible refine Within.drew ?_ | with_reducible refine Within.drewN ?_ _ | with_reducible refine Within.setCell ?_ (by first | (simp; done) | (simp; omega)) _ | with_reducible refine Within.trans ?_ (by assumption)))
          · intro wq hq
            have hcq := hq.cells
            clear hq
            go_simp
            first | rfl | (trace_state; fail)
          try simp only [Act.put, List.setIfInBounds_toArray, List.set_cons_zero, List.set_cons_succ]
          apply sch_want rfl (by first | rfl | decide | (simp [Region.wanted, yielded]; done) | (simp [Region.wanted, yielded]; assumption)) (by repeat (first | with_reducible exact Within.refl _ | with_reducible assumption | with_reducible refine Within.alloc ?_ _ | with_reducible refine Within.drew ?_ | with_reducible refine Within.drewN ?_ _ | with_reducible refine Within.setCell ?_ (by first | (simp; done) | (simp; omega)) _ | with_reducible refine Within.trans ?_ (by assumption)))
          · intro wq hq
            have hcq := hq.cells
            clear hq
            go_simp
            first | rfl | (trace_state; fail)
          try simp only [Act.put, List.setIfInBounds_toArray, List.set_cons_zero, List.set_cons_succ]
          apply sch_want rfl (by first | rfl | decide | (simp [Region.wanted, yielded]; done) | (simp [Region.wanted, yielded]; assumption)) (by repeat (first | with_reducible exact Within.refl _ | with_reducible assumption | with_reducible refine Within.alloc ?_ _ | with_reducible refine Within.drew ?_ | with_reducible refine Within.drewN ?_ _ | with_reducible refine Within.setCell ?_ (by first | (simp; done) | (simp; omega)) _ | with_reducible refine Within.trans ?_ (by assumption)))
          · intro wq hq
            have hcq := hq.cells
            clear hq
            go_simp
            first | rfl | (trace_state; fail)
          try simp only [Act.put, List.setIfInBounds_toArray, List.set_cons_zero, List.set_cons_succ]
          refine sch_one_want rfl (by first | rfl | decide | (simp [Region.wanted, yielded]; done) | (simp [Region.wanted, yielded]; assumption)) (fun K hK => ?_)
          go_simp
          refine (SL.out _ (hSl.of (by repeat (first | with_reducible exact Within.refl _ | with_reducible assumption | with_reducible refine Within.alloc ?_ _ | with_reducible refine Within.drew ?_ | with_reducible refine Within.drewN ?_ _ | with_reducible refine Within.setCell ?_ (by first | (simp; done) | (simp; omega)) _ | with_reducible refine Within.trans ?_ (by assumption))))).mono ?_; rintro f2 u2 ⟨g2, n2, E2, rfl, hI2, a2, b2, hv2, jb2⟩
          have l2 : (dg n2.natAbs).length ≤ 80 := Nat.le_trans (val_len n2 E2 1074) (by rw [hv2]; exact LL.out)
          have HV2 := Lib.hid hv2; clear hv2
          refine hK _ _ (fun _ => (by repeat (first | with_reducible exact Within.refl _ | with_reducible assumption | with_reducible refine Within.alloc ?_ _ | with_reducible refine Within.drew ?_ | with_reducible refine Within.drewN ?_ _ | with_reducible refine Within.setCell ?_ (by first | (simp; done) | (simp; omega)) _ | with_reducible refine Within.trans ?_ (by assumption)))) ?_
          clear hK K
          try simp only [Act.put, List.setIfInBounds_toArray, List.set_cons_zero, List.set_cons_succ]
          refine sch_one_want rfl (by first | rfl | decide | (simp [Region.wanted, yielded]; done) | (simp [Region.wanted, yielded]; assumption)) (fun K hK => ?_)
          go_simp
          refine (ef_any z _).mono ?_; rintro f3 u3 ⟨rfl, rfl⟩
          refine hK _ _ (fun _ => (by repeat (first | with_reducible exact Within.refl _ | with_reducible assumption | with_reducible refine Within.alloc ?_ _ | with_reducible refine Within.drew ?_ | with_reducible refine Within.drewN ?_ _ | with_reducible refine Within.setCell ?_ (by first | (simp; done) | (simp; omega)) _ | with_reducible refine Within.trans ?_ (by assumption)))) ?_
          clear hK K
          try simp only [Act.put, List.setIfInBounds_toArray, List.set_cons_zero, List.set_cons_succ]
          refine sch_one_want rfl (by first | rfl | decide | (simp [Region.wanted, yielded]; done) | (simp [Region.wanted, yielded]; assumption)) (fun K hK => ?_)
          go_simp
          refine (OZ.out _).mono ?_; rintro f4 u4 ⟨g4, n4, E4, rfl, hI4, a4, b4, hv4, jb4⟩
          have l4 : (dg n4.natAbs).length ≤ 80 := Nat.le_trans (val_len n4 E4 1074) (by rw [hv4]; exact whole_len z)
          have HV4 := Lib.hid hv4; clear hv4
          refine hK _ _ (fun _ => (by repeat (first | with_reducible exact Within.refl _ | with_reducible assumption | with_reducible refine Within.alloc ?_ _ | with_reducible refine Within.drew ?_ | with_reducible refine Within.drewN ?_ _ | with_reducible refine Within.setCell ?_ (by first | (simp; done) | (simp; omega)) _ | with_reducible refine Within.trans ?_ (by assumption)))) ?_
          clear hK K
          try simp only [Act.put, List.setIfInBounds_toArray, List.set_cons_zero, List.set_cons_succ]
          refine sch_one_want rfl (by first | rfl | decide | (simp [Region.wanted, yielded]; done) | (simp [Region.wanted, yielded]; assumption)) (fun K hK => ?_)
          go_simp
          refine (Xmul np n4 Ep E4 gp g4 (Nat.le_trans LP.out (by decide)) (Nat.le_trans l4 (by decide)) ⟨by have := BP.out; omega, by have := BP.out; omega⟩ ⟨by omega, by omega⟩ _ (IntB.of hJp (by repeat (first | with_reducible exact Within.refl _ | with_reducible assumption | with_reducible refine Within.alloc ?_ _ | with_reducible refine Within.drew ?_ | with_reducible refine Within.drewN ?_ _ | with_reducible refine Within.setCell ?_ (by first | (simp; done) | (simp; omega)) _ | with_reducible refine Within.trans ?_ (by assumption)))) (IntB.of hI4 (by repeat (first | with_reducible exact Within.refl _ | with_reducible assumption | with_reducible refine Within.alloc ?_ _ | with_reducible refine Within.drew ?_ | with_reducible refine Within.drewN ?_ _ | with_reducible refine Within.setCell ?_ (by first | (simp; done) | (simp; omega)) _ | with_reducible refine Within.trans ?_ (by assumption))))).mono ?_; rintro f5 u5 ⟨g5, rfl, hI5, _, jb5⟩
          refine hK _ _ (fun _ => (by repeat (first | with_reducible exact Within.refl _ | with_reducible assumption | with_reducible refine Within.alloc ?_ _ | with_reducible refine Within.drew ?_ | with_reducible refine Within.drewN ?_ _ | with_reducible refine Within.setCell ?_ (by first | (simp; done) | (simp; omega)) _ | with_reducible refine Within.trans ?_ (by assumption)))) ?_
          clear hK K
          try simp only [Act.put, List.setIfInBounds_toArray, List.set_cons_zero, List.set_cons_succ]
          refine sch_one_want rfl (by first | rfl | decide | (simp [Region.wanted, yielded]; done) | (simp [Region.wanted, yielded]; assumption)) (fun K hK => ?_)
          go_simp
          have CM := Lib.hid (fun w k1 k2 => Xcmp n2 (np * n4) E2 (Ep + E4) g2 g5 2148 2200 (by decide) (by decide) (by omega) (by omega) (by have := BP.out; omega) (by have := BP.out; omega) (Nat.le_trans l2 (by decide)) (by rw [Int.natAbs_mul]; exact Nat.le_trans (dg_mul_len LP.out l4) (by decide)) w k1 k2)
          rw [val_mul np n4 Ep E4 1074 1074 BP.out.1 a4, val_more (n := n2) (E := E2) (L := 1074) 1074 a2, HV2.out, HV4.out, HVP.out, R2.out, cmp_same' rfl] at CM
          refine (CM.out _ (IntB.of hI2 (by repeat (first | with_reducible exact Within.refl _ | with_reducible assumption | with_reducible refine Within.alloc ?_ _ | with_reducible refine Within.drew ?_ | with_reducible refine Within.drewN ?_ _ | with_reducible refine Within.setCell ?_ (by first | (simp; done) | (simp; omega)) _ | with_reducible refine Within.trans ?_ (by assumption)))) (IntB.of hI5 (by repeat (first | with_reducible exact Within.refl _ | with_reducible assumption | with_reducible refine Within.alloc ?_ _ | with_reducible refine Within.drew ?_ | with_reducible refine Within.drewN ?_ _ | with_reducible refine Within.setCell ?_ (by first | (simp; done) | (simp; omega)) _ | with_reducible refine Within.trans ?_ (by assumption))))).mono ?_; rintro f6 u6 ⟨rfl, jb6⟩
          refine hK _ _ (fun _ => (by repeat (first | with_reducible exact Within.refl _ | with_reducible assumption | with_reducible refine Within.alloc ?_ _ | with_reducible refine Within.drew ?_ | with_reducible refine Within.drewN ?_ _ | with_reducible refine Within.setCell ?_ (by first | (simp; done) | (simp; omega)) _ | with_reducible refine Within.trans ?_ (by assumption)))) ?_
          clear hK K
          try simp only [Act.put, List.setIfInBounds_toArray, List.set_cons_zero, List.set_cons_succ]
          apply sch_want rfl (by first | rfl | decide | (simp [Region.wanted, yielded]; done) | (simp [Region.wanted, yielded]; assumption)) (by repeat (first | with_reducible exact Within.refl _ | with_reducible assumption | with_reducible refine Within.alloc ?_ _ | with_reducible refine Within.drew ?_ | with_reducible refine Within.drewN ?_ _ | with_reducible refine Within.setCell ?_ (by first | (simp; done) | (simp; omega)) _ | with_reducible refine Within.trans ?_ (by assumption)))
          · intro wq hq
            have hcq := hq.cells
            clear hq
            go_simp
            first | rfl | (trace_state; fail)
          try simp only [Act.put, List.setIfInBounds_toArray, List.set_cons_zero, List.set_cons_succ]
          apply sch_want rfl (by first | rfl | decide | (simp [Region.wanted, yielded]; done) | (simp [Region.wanted, yielded]; assumption)) (by repeat (first | with_reducible exact Within.refl _ | with_reducible assumption | with_reducible refine Within.alloc ?_ _ | with_reducible refine Within.drew ?_ | with_reducible refine Within.drewN ?_ _ | with_reducible refine Within.setCell ?_ (by first | (simp; done) | (simp; omega)) _ | with_reducible refine Within.trans ?_ (by assumption)))
          · intro wq hq
            have hcq := hq.cells
            clear hq
            go_simp
            first | rfl | (trace_state; fail)
          try simp only [Act.put, List.setIfInBounds_toArray, List.set_cons_zero, List.set_cons_succ]
          refine sch_one rfl rfl (fun K hK => ?_)
          go_simp
          refine hK _ _ (fun h => absurd h (by decide)) ?_
          clear hK K
          try simp only [Act.put, List.setIfInBounds_toArray, List.set_cons_zero, List.set_cons_succ]
          refine sch_nil ?_
          go_wp2_with fail
          go_meet
          exact ⟨rfl, Within.trans hw0 (by repeat (first | with_reducible exact Within.refl _ | with_reducible assumption | with_reducible refine Within.alloc ?_ _ | with_reducible refine Within.drew ?_ | with_reducible refine Within.drewN ?_ _ | with_reducible refine Within.setCell ?_ (by first | (simp; done) | (simp; omega)) _ | with_reducible refine Within.trans ?_ (by assumption)))⟩
        · have g0 : (sr == 0) = false := by rw [beq_eq_false_iff_ne]; exact h0
          clear h0
          have lv0 := World.block_lt_of_cell? _ _ HP.out.1; have lv1 := World.block_lt_of_cell? _ _ HP.out.2.2.1
          have p0 := (hV.cells _ 0 lv0).trans HP.out.1
          have p1 := (hV.cells _ 1 lv0).trans HP.out.2.1
          have q0 := (hV.cells _ 0 lv1).trans HP.out.2.2.1
          have q1 := (hV.cells _ 1 lv1).trans HP.out.2.2.2
          have lb0 := Nat.lt_of_lt_of_le lv0 hV.sizes; have lb1 := Nat.lt_of_lt_of_le lv1 hV.sizes
          have hJp := HJP.out.of hV; have hJq := HJQ.out.of hV
          have hTk := HTV.out.of hV
          clear hV lv0 lv1
          refine wp_region_schG (fun W => W.cell? ⟨w7.heap.size, 0, none⟩ = some (.pointer (some ⟨gp, 0, none⟩)) ∧ W.cell? ⟨w7.heap.size, 1, none⟩ = some (.int .i64 Ep) ∧ W.cell? ⟨w7.heap.size + 1, 0, none⟩ = some (.pointer (some ⟨gq, 0, none⟩)) ∧ W.cell? ⟨w7.heap.size + 1, 1, none⟩ = some (.int .i64 Eq) ∧ w7.heap.size < W.heap.size ∧ w7.heap.size + 1 < W.heap.size ∧ IntB W gp np ∧ IntB W gq nq ∧ SlAt W A10 (f64v l10) ∧ Tab W ∧ Within w10 W) 17 (.firm 0 (.firm 1 (.firm 2 (.firm 3 (.one 4 (.firm 5 (.firm 6 (.firm 7 (.firm 9 (.firm 10 (.one 8 (.one 11 (.one 12 (.one 13 (.one 14 (.firm 15 (.firm 16 (.one 17 .nil)))))))))))))))))) (by kernel_rfl) (by kernel_rfl) ⟨p0, p1, q0, q1, lb0, lb1, hJp, hJq, HS10.out, hTk, Within.refl _⟩ ?_
          rintro w0 ⟨c0, c1, d0, d1, lb0, lb1, hJp, hJq, hSl, hTw, hw0⟩
          try simp only [Act.put, List.setIfInBounds_toArray, List.set_cons_zero, List.set_cons_succ]
          apply sch_firm rfl rfl (by repeat (first | with_reducible exact Within.refl _ | with_reducible assumption | with_reducible refine Within.alloc ?_ _ | with_reducible refine Within.drew ?_ | with_reducible refine Within.drewN ?_ _ | with_reducible refine Within.setCell ?_ (by first | (simp; done) | (simp; omega)) _ | with_reducible refine Within.trans ?_ (by assumption)))
          · intro wq hq
            have hcq := hq.cells
            clear hq
            go_simp
            first | rfl | (trace_state; fail)
          try simp only [Act.put, List.setIfInBounds_toArray, List.set_cons_zero, List.set_cons_succ]
          apply sch_firm rfl rfl (by repeat (first | with_reducible exact Within.refl _ | with_reducible assumption | with_reducible refine Within.alloc ?_ _ | with_reducible refine Within.drew ?_ | with_reducible refine Within.drewN ?_ _ | with_reducible refine Within.setCell ?_ (by first | (simp; done) | (simp; omega)) _ | with_reducible refine Within.trans ?_ (by assumption)))
          · intro wq hq
            have hcq := hq.cells
            clear hq
            go_simp
            first | rfl | (trace_state; fail)
          try simp only [Act.put, List.setIfInBounds_toArray, List.set_cons_zero, List.set_cons_succ]
          apply sch_firm rfl rfl (by repeat (first | with_reducible exact Within.refl _ | with_reducible assumption | with_reducible refine Within.alloc ?_ _ | with_reducible refine Within.drew ?_ | with_reducible refine Within.drewN ?_ _ | with_reducible refine Within.setCell ?_ (by first | (simp; done) | (simp; omega)) _ | with_reducible refine Within.trans ?_ (by assumption)))
          · intro wq hq
            have hcq := hq.cells
            clear hq
            go_simp
            first | rfl | (trace_state; fail)
          try simp only [Act.put, List.setIfInBounds_toArray, List.set_cons_zero, List.set_cons_succ]
          refine sch_skip rfl (by first | rfl | decide | (simp [Region.wanted, yielded]; done) | (simp [Region.wanted, yielded]; assumption)) (by repeat (first | with_reducible exact Within.refl _ | with_reducible assumption | with_reducible refine Within.alloc ?_ _ | with_reducible refine Within.drew ?_ | with_reducible refine Within.drewN ?_ _ | with_reducible refine Within.setCell ?_ (by first | (simp; done) | (simp; omega)) _ | with_reducible refine Within.trans ?_ (by assumption))) ?_
          try simp only [Act.put, List.setIfInBounds_toArray, List.set_cons_zero, List.set_cons_succ]
          refine sch_one_skip rfl (by first | rfl | decide | (simp [Region.wanted, yielded]; done) | (simp [Region.wanted, yielded]; assumption)) (by repeat (first | with_reducible exact Within.refl _ | with_reducible assumption | with_reducible refine Within.alloc ?_ _ | with_reducible refine Within.drew ?_ | with_reducible refine Within.drewN ?_ _ | with_reducible refine Within.setCell ?_ (by first | (simp; done) | (simp; omega)) _ | with_reducible refine Within.trans ?_ (by assumption))) ?_
          try simp only [Act.put, List.setIfInBounds_toArray, List.set_cons_zero, List.set_cons_succ]
          refine sch_skip rfl (by first | rfl | decide | (simp [Region.wanted, yielded]; done) | (simp [Region.wanted, yielded]; assumption)) (by repeat (first | with_reducible exact Within.refl _ | with_reducible assumption | with_reducible refine Within.alloc ?_ _ | with_reducible refine Within.drew ?_ | with_reducible refine Within.drewN ?_ _ | with_reducible refine Within.setCell ?_ (by first | (simp; done) | (simp; omega)) _ | with_reducible refine Within.trans ?_ (by assumption))) ?_
          try simp only [Act.put, List.setIfInBounds_toArray, List.set_cons_zero, List.set_cons_succ]
          refine sch_skip rfl (by first | rfl | decide | (simp [Region.wanted, yielded]; done) | (simp [Region.wanted, yielded]; assumption)) (by repeat (first | with_reducible exact Within.refl _ | with_reducible assumption | with_reducible refine Within.alloc ?_ _ | with_reducible refine Within.drew ?_ | with_reducible refine Within.drewN ?_ _ | with_reducible refine Within.setCell ?_ (by first | (simp; done) | (simp; omega)) _ | with_reducible refine Within.trans ?_ (by assumption))) ?_
          try simp only [Act.put, List.setIfInBounds_toArray, List.set_cons_zero, List.set_cons_succ]
          refine sch_skip rfl (by first | rfl | decide | (simp [Region.wanted, yielded]; done) | (simp [Region.wanted, yielded]; assumption)) (by repeat (first | with_reducible exact Within.refl _ | with_reducible assumption | with_reducible refine Within.alloc ?_ _ | with_reducible refine Within.drew ?_ | with_reducible refine Within.drewN ?_ _ | with_reducible refine Within.setCell ?_ (by first | (simp; done) | (simp; omega)) _ | with_reducible refine Within.trans ?_ (by assumption))) ?_
          try simp only [Act.put, List.setIfInBounds_toArray, List.set_cons_zero, List.set_cons_succ]
          refine sch_skip rfl (by first | rfl | decide | (simp [Region.wanted, yielded]; done) | (simp [Region.wanted, yielded]; assumption)) (by repeat (first | with_reducible exact Within.refl _ | with_reducible assumption | with_reducible refine Within.alloc ?_ _ | with_reducible refine Within.drew ?_ | with_reducible refine Within.drewN ?_ _ | with_reducible refine Within.setCell ?_ (by first | (simp; done) | (simp; omega)) _ | with_reducible refine Within.trans ?_ (by assumption))) ?_
          try simp only [Act.put, List.setIfInBounds_toArray, List.set_cons_zero, List.set_cons_succ]
          refine sch_skip rfl (by first | rfl | decide | (simp [Region.wanted, yielded]; done) | (simp [Region.wanted, yielded]; assumption)) (by repeat (first | with_reducible exact Within.refl _ | with_reducible assumption | with_reducible refine Within.alloc ?_ _ | with_reducible refine Within.drew ?_ | with_reducible refine Within.drewN ?_ _ | with_reducible refine Within.setCell ?_ (by first | (simp; done) | (simp; omega)) _ | with_reducible refine Within.trans ?_ (by assumption))) ?_
          try simp only [Act.put, List.setIfInBounds_toArray, List.set_cons_zero, List.set_cons_succ]
          refine sch_one_skip rfl (by first | rfl | decide | (simp [Region.wanted, yielded]; done) | (simp [Region.wanted, yielded]; assumption)) (by repeat (first | with_reducible exact Within.refl _ | with_reducible assumption | with_reducible refine Within.alloc ?_ _ | with_reducible refine Within.drew ?_ | with_reducible refine Within.drewN ?_ _ | with_reducible refine Within.setCell ?_ (by first | (simp; done) | (simp; omega)) _ | with_reducible refine Within.trans ?_ (by assumption))) ?_
          try simp only [Act.put, List.setIfInBounds_toArray, List.set_cons_zero, List.set_cons_succ]
          refine sch_one_skip rfl (by first | rfl | decide | (simp [Region.wanted, yielded]; done) | (simp [Region.wanted, yielded]; assumption)) (by repeat (first | with_reducible exact Within.refl _ | with_reducible assumption | with_reducible refine Within.alloc ?_ _ | with_reducible refine Within.drew ?_ | with_reducible refine Within.drewN ?_ _ | with_reducible refine Within.setCell ?_ (by first | (simp; done) | (simp; omega)) _ | with_reducible refine Within.trans ?_ (by assumption))) ?_
          try simp only [Act.put, List.setIfInBounds_toArray, List.set_cons_zero, List.set_cons_succ]
          refine sch_one_skip rfl (by first | rfl | decide | (simp [Region.wanted, yielded]; done) | (simp [Region.wanted, yielded]; assumption)) (by repeat (first | with_reducible exact Within.refl _ | with_reducible assumption | with_reducible refine Within.alloc ?_ _ | with_reducible refine Within.drew ?_ | with_reducible refine Within.drewN ?_ _ | with_reducible refine Within.setCell ?_ (by first | (simp; done) | (simp; omega)) _ | with_reducible refine Within.trans ?_ (by assumption))) ?_
          try simp only [Act.put, List.setIfInBounds_toArray, List.set_cons_zero, List.set_cons_succ]
          refine sch_one_skip rfl (by first | rfl | decide | (simp [Region.wanted, yielded]; done) | (simp [Region.wanted, yielded]; assumption)) (by repeat (first | with_reducible exact Within.refl _ | with_reducible assumption | with_reducible refine Within.alloc ?_ _ | with_reducible refine Within.drew ?_ | with_reducible refine Within.drewN ?_ _ | with_reducible refine Within.setCell ?_ (by first | (simp; done) | (simp; omega)) _ | with_reducible refine Within.trans ?_ (by assumption))) ?_
          try simp only [Act.put, List.setIfInBounds_toArray, List.set_cons_zero, List.set_cons_succ]
          refine sch_one_skip rfl (by first | rfl | decide | (simp [Region.wanted, yielded]; done) | (simp [Region.wanted, yielded]; assumption)) (by repeat (first | with_reducible exact Within.refl _ | with_reducible assumption | with_reducible refine Within.alloc ?_ _ | with_reducible refine Within.drew ?_ | with_reducible refine Within.drewN ?_ _ | with_reducible refine Within.setCell ?_ (by first | (simp; done) | (simp; omega)) _ | with_reducible refine Within.trans ?_ (by assumption))) ?_
          try simp only [Act.put, List.setIfInBounds_toArray, List.set_cons_zero, List.set_cons_succ]
          refine sch_skip rfl (by first | rfl | decide | (simp [Region.wanted, yielded]; done) | (simp [Region.wanted, yielded]; assumption)) (by repeat (first | with_reducible exact Within.refl _ | with_reducible assumption | with_reducible refine Within.alloc ?_ _ | with_reducible refine Within.drew ?_ | with_reducible refine Within.drewN ?_ _ | with_reducible refine Within.setCell ?_ (by first | (simp; done) | (simp; omega)) _ | with_reducible refine Within.trans ?_ (by assumption))) ?_
          try simp only [Act.put, List.setIfInBounds_toArray, List.set_cons_zero, List.set_cons_succ]
          refine sch_skip rfl (by first | rfl | decide | (simp [Region.wanted, yielded]; done) | (simp [Region.wanted, yielded]; assumption)) (by repeat (first | with_reducible exact Within.refl _ | with_reducible assumption | with_reducible refine Within.alloc ?_ _ | with_reducible refine Within.drew ?_ | with_reducible refine Within.drewN ?_ _ | with_reducible refine Within.setCell ?_ (by first | (simp; done) | (simp; omega)) _ | with_reducible refine Within.trans ?_ (by assumption))) ?_
          try simp only [Act.put, List.setIfInBounds_toArray, List.set_cons_zero, List.set_cons_succ]
          refine sch_one rfl rfl (fun K hK => ?_)
          go_simp
          refine hK _ _ (fun h => absurd h (by decide)) ?_
          clear hK K
          try simp only [Act.put, List.setIfInBounds_toArray, List.set_cons_zero, List.set_cons_succ]
          refine sch_nil ?_
          go_wp2_with fail
          go_meet
          exact ⟨rfl, Within.trans hw0 (by repeat (first | with_reducible exact Within.refl _ | with_reducible assumption | with_reducible refine Within.alloc ?_ _ | with_reducible refine Within.drew ?_ | with_reducible refine Within.drewN ?_ _ | with_reducible refine Within.setCell ?_ (by first | (simp; done) | (simp; omega)) _ | with_reducible refine Within.trans ?_ (by assumption)))⟩
      case rest =>
        obtain ⟨rfl, hcut⟩ := hcut
        have hVc : Within V wc := hV.trans hcut
        clear hcut hV hVWk
        go_wp2_with fail
        refine (CX.out A1 c1 _ (HTV.out.of hVc) (HS1V.out.of hVc)).mono ?_; rintro e11 w11 ⟨v11, l11, rfl, hO11, hw11, hm11, hb11⟩
        obtain ⟨A11, c11, rfl, _, hs11, _⟩ := hO11.form
        have HS11 := Lib.hid hs11; have HM11 := Lib.hid hm11; have HW11 := Lib.hid hw11; clear hs11 hO11 hm11 hw11
        have hV : Within V w11 := (by repeat (first | with_reducible exact Within.refl _ | with_reducible assumption | with_reducible refine arW_within ?_ _ _ _ | with_reducible refine Within.alloc ?_ _ | with_reducible refine Within.drew ?_ | with_reducible refine Within.trans ?_ (by assumption)))
        have hVWk : Within w w11 := HVW.out.trans hV
        go_upto_region 17 with fail
        by_cases h0 : cr = 0
        · obtain ⟨r1, r2⟩ := CR.out h0 l11 HW11.out HM11.out
          have hfl := isB_fins HW11.out r1
          have hll := isB_len r1
          have IL := Lib.hid (fun w hT hr => eis_any A11 c11 l11 HW11.out (Nat.le_trans hll (by decide)) w hT hr)
          rw [r1] at IL
          have SL := Lib.hid (fun w hr => Xsuml A11 c11 l11 HW11.out hfl hll w hr)
          have LL := Lib.hid (sum_len' HW11.out hfl hll)
          have R2 := Lib.hid r2
          have g0 : (cr != 0) = false := by rw [h0]; rfl
          clear r1 r2 hfl hll h0
          have lv0 := World.block_lt_of_cell? _ _ HP.out.1; have lv1 := World.block_lt_of_cell? _ _ HP.out.2.2.1
          have p0 := (hV.cells _ 0 lv0).trans HP.out.1
          have p1 := (hV.cells _ 1 lv0).trans HP.out.2.1
          have q0 := (hV.cells _ 0 lv1).trans HP.out.2.2.1
          have q1 := (hV.cells _ 1 lv1).trans HP.out.2.2.2
          have lb0 := Nat.lt_of_lt_of_le lv0 hV.sizes; have lb1 := Nat.lt_of_lt_of_le lv1 hV.sizes
          have hJp := HJP.out.of hV; have hJq := HJQ.out.of hV
          have hTk := HTV.out.of hV
          clear hV lv0 lv1
          refine wp_region_schG (fun W => W.cell? ⟨w7.heap.size, 0, none⟩ = some (.pointer (some ⟨gp, 0, none⟩)) ∧ W.cell? ⟨w7.heap.size, 1, none⟩ = some (.int .i64 Ep) ∧ W.cell? ⟨w7.heap.size + 1, 0, none⟩ = some (.pointer (some ⟨gq, 0, none⟩)) ∧ W.cell? ⟨w7.heap.size + 1, 1, none⟩ = some (.int .i64 Eq) ∧ w7.heap.size < W.heap.size ∧ w7.heap.size + 1 < W.heap.size ∧ IntB W gp np ∧ IntB W gq nq ∧ SlAt W A11 (f64v l11) ∧ Tab W ∧ Within w11 W) 13 (.firm 0 (.firm 1 (.firm 2 (.firm 3 (.one 4 (.firm 5 (.firm 6 (.firm 8 (.one 7 (.one 9 (.firm 10 (.firm 11 (.firm 12 (.one 13 .nil)))))))))))))) (by kernel_rfl) (by kernel_rfl) ⟨p0, p1, q0, q1, lb0, lb1, hJp, hJq, HS11.out, hTk, Within.refl _⟩ ?_
          rintro w0 ⟨c0, c1, d0, d1, lb0, lb1, hJp, hJq, hSl, hTw, hw0⟩
          try simp only [Act.put, List.setIfInBounds_toArray, List.set_cons_zero, List.set_cons_succ]
          apply sch_firm rfl rfl (by repeat (first | with_reducible exact Within.refl _ | with_reducible assumption | with_reducible refine Within.alloc ?_ _ | with_reducible refine Within.drew ?_ | with_reducible refine Within.drewN ?_ _ | with_reducible refine Within.setCell ?_ (by first | (simp; done) | (simp; omega)) _ | with_reducible refine Within.trans ?_ (by assumption)))
          · intro wq hq
            have hcq := hq.cells
            clear hq
            go_simp
            first | rfl | (trace_state; fail)
          try simp only [Act.put, List.setIfInBounds_toArray, List.set_cons_zero, List.set_cons_succ]
          apply sch_firm rfl rfl (by repeat (first | with_reducible exact Within.refl _ | with_reducible assumption | with_reducible refine Within.alloc ?_ _ | with_reducible refine Within.drew ?_ | with_reducible refine Within.drewN ?_ _ | with_reducible refine Within.setCell ?_ (by first | (simp; done) | (simp; omega)) _ | with_reducible refine Within.trans ?_ (by assumption)))
          · intro wq hq
            have hcq := hq.cells
            clear hq
            go_simp
            first | rfl | (trace_state; fail)
          try simp only [Act.put, List.setIfInBounds_toArray, List.set_cons_zero, List.set_cons_succ]
          apply sch_firm rfl rfl (by repeat (first | with_reducible exact Within.refl _ | with_reducible assumption | with_reducible refine Within.alloc ?_ _ | with_reducible refine Within.drew ?_ | with_reducible refine Within.drewN ?_ _ | with_reducible refine Within.setCell ?_ (by first | (simp; done) | (simp; omega)) _ | with_reducible refine Within.trans ?_ (by assumption)))
          · intro wq hq
            have hcq := hq.cells
            clear hq
            go_simp
            first | rfl | (trace_state; fail)
          try simp only [Act.put, List.setIfInBounds_toArray, List.set_cons_zero, List.set_cons_succ]
          apply sch_want rfl (by first | rfl | decide | (simp [Region.wanted, yielded]; done) | (simp [Region.wanted, yielded]; assumption)) (by repeat (first | with_reducible exact Within.refl _ | with_reducible assumption | with_reducible refine Within.alloc ?_ _ | with_reducible refine Within.drew ?_ | with_reducible refine Within.drewN ?_ _ | with_reducible refine Within.setCell ?_ (by first | (simp; done) | (simp; omega)) _ | with_reducible refine Within.trans ?_ (by assumption)))
          · intro wq hq
            have hcq := hq.cells
            clear hq
            go_simp
            first | rfl | (trace_state; fail)
          try simp only [Act.put, List.setIfInBounds_toArray, List.set_cons_zero, List.set_cons_succ]
          refine sch_one_want rfl (by first | rfl | decide | (simp [Region.wanted, yielded]; done) | (simp [Region.wanted, yielded]; assumption)) (fun K hK => ?_)
          go_simp
          refine (IL.out _ (hTw.of (by repeat (first | with_reducible exact Within.refl _ | with_reducible assumption | with_reducible refine Within.alloc ?_ _ | with_reducible refine Within.drew ?_ | with_reducible refine Within.drewN ?_ _ | with_reducible refine Within.setCell ?_ (by first | (simp; done) | (simp; omega)) _ | with_reducible refine Within.trans ?_ (by assumption)))) (hSl.of (by repeat (first | with_reducible exact Within.refl _ | with_reducible assumption | with_reducible refine Within.alloc ?_ _ | with_reducible refine Within.drew ?_ | with_reducible refine Within.drewN ?_ _ | with_reducible refine Within.setCell ?_ (by first | (simp; done) | (simp; omega)) _ | with_reducible refine Within.trans ?_ (by assumption))))).mono ?_; rintro f1 u1 ⟨rfl, jb1⟩
          refine hK _ _ (fun _ => (by repeat (first | with_reducible exact Within.refl _ | with_reducible assumption | with_reducible refine Within.alloc ?_ _ | with_reducible refine Within.drew ?_ | with_reducible refine Within.drewN ?_ _ | with_reducible refine Within.setCell ?_ (by first | (simp; done) | (simp; omega)) _ | with_reducible refine Within.trans ?_ (by assumption)))) ?_
          clear hK K
          try simp only [Act.put, List.setIfInBounds_toArray, List.set_cons_zero, List.set_cons_succ]
          apply sch_want rfl (by first | rfl | decide | (simp [Region.wanted, yielded]; done) | (simp [Region.wanted, yielded]; assumption)) (by repeat (first | with_reducible exact Within.refl _ | with_reducible assumption | with_reducible refine Within.alloc ?_ _ | with_reducible refine Within.drew ?_ | with_reducible refine Within.drewN ?_ _ | with_reducible refine Within.setCell ?_ (by first | (simp; done) | (simp; omega)) _ | with_reducible refine Within.trans ?_ (by assumption)))
          · intro wq hq
            have hcq := hq.cells
            clear hq
            go_simp
            first | rfl | (trace_state; fail)
          try simp only [Act.put, List.setIfInBounds_toArray, List.set_cons_zero, List.set_cons_succ]
          apply sch_want rfl (by first | rfl | decide | (simp [Region.wanted, yielded]; done) | (simp [Region.wanted, yielded]; assumption)) (by repeat (first | with_reducible exact Within.refl _ | with_reducible assumption | with_reducible refine Within.alloc ?_ _ | with_reducible refine Within.drew ?_ | with_reducible refine Within.drewN ?_ _ | with_reducible refine Within.setCell ?_ (by first | (simp; done) | (simp; omega)) _ | with_reducible refine Within.trans ?_ (by assumption)))
          · intro wq hq
            have hcq := hq.cells
            clear hq
            go_simp
            first | rfl | (trace_state; fail)
          try simp only [Act.put, List.setIfInBounds_toArray, List.set_cons_zero, List.set_cons_succ]
          apply sch_want rfl (by first | rfl | decide | (simp [Region.wanted, yielded]; done) | (simp [Region.wanted, yielded]; assumption)) (by repeat (first | with_reducible exact Within.refl _ | with_reducible assumption | with_reducible refine Within.alloc ?_ _ | with_reducible refine Within.drew ?_ | with_reducible refine Within.drewN ?_ _ | with_reducible refine Within.setCell ?_ (by first | (simp; done) | (simp; omega)) _ | with_reducible refine Within.trans ?_ (by assumption)))
          · intro wq hq
            have hcq := hq.cells
            clear hq
            go_simp
            first | rfl | (trace_state; fail)
          try simp only [Act.put, List.setIfInBounds_toArray, List.set_cons_zero, List.set_cons_succ]
          refine sch_one_want rfl (by first | rfl | decide | (simp [Region.wanted, yielded]; done) | (simp [Region.wanted, yielded]; assumption)) (fun K hK => ?_)
          go_simp
          refine (SL.out _ (hSl.of (by repeat (first | with_reducible exact Within.refl _ | with_reducible assumption | with_reducible refine Within.alloc ?_ _ | with_reducible refine Within.drew ?_ | with_reducible refine Within.drewN ?_ _ | with_reducible refine Within.setCell ?_ (by first | (simp; done) | (simp; omega)) _ | with_reducible refine Within.trans ?_ (by assumption))))).mono ?_; rintro f2 u2 ⟨g2, n2, E2, rfl, hI2, a2, b2, hv2, jb2⟩
          have l2 : (dg n2.natAbs).length ≤ 80 := Nat.le_trans (val_len n2 E2 1074) (by rw [hv2]; exact LL.out)
          have HV2 := Lib.hid hv2; clear hv2
          refine hK _ _ (fun _ => (by repeat (first | with_reducible exact Within.refl _ | with_reducible assumption | with_reducible refine Within.alloc ?_ _ | with_reducible refine Within.drew ?_ | with_reducible refine Within.drewN ?_ _ | with_reducible refine Within.setCell ?_ (by first | (simp; done) | (simp; omega)) _ | with_reducible refine Within.trans ?_ (by assumption)))) ?_
          clear hK K
          try simp only [Act.put, List.setIfInBounds_toArray, List.set_cons_zero, List.set_cons_succ]
          refine sch_one_want rfl (by first | rfl | decide | (simp [Region.wanted, yielded]; done) | (simp [Region.wanted, yielded]; assumption)) (fun K hK => ?_)
          go_simp
          have CM := Lib.hid (fun w k1 k2 => Xcmp n2 np E2 Ep g2 gp 1074 1100 (by decide) (by decide) a2 b2 BP.out.1 BP.out.2 (Nat.le_trans l2 (by decide)) (Nat.le_trans LP.out (by decide)) w k1 k2)
          rw [HV2.out, HVP.out, R2.out, cmp_same' rfl] at CM
          refine (CM.out _ (IntB.of hI2 (by repeat (first | with_reducible exact Within.refl _ | with_reducible assumption | with_reducible refine Within.alloc ?_ _ | with_reducible refine Within.drew ?_ | with_reducible refine Within.drewN ?_ _ | with_reducible refine Within.setCell ?_ (by first | (simp; done) | (simp; omega)) _ | with_reducible refine Within.trans ?_ (by assumption)))) (IntB.of hJp (by repeat (first | with_reducible exact Within.refl _ | with_reducible assumption | with_reducible refine Within.alloc ?_ _ | with_reducible refine Within.drew ?_ | with_reducible refine Within.drewN ?_ _ | with_reducible refine Within.setCell ?_ (by first | (simp; done) | (simp; omega)) _ | with_reducible refine Within.trans ?_ (by assumption))))).mono ?_; rintro f6 u6 ⟨rfl, jb6⟩
          refine hK _ _ (fun _ => (by repeat (first | with_reducible exact Within.refl _ | with_reducible assumption | with_reducible refine Within.alloc ?_ _ | with_reducible refine Within.drew ?_ | with_reducible refine Within.drewN ?_ _ | with_reducible refine Within.setCell ?_ (by first | (simp; done) | (simp; omega)) _ | with_reducible refine Within.trans ?_ (by assumption)))) ?_
          clear hK K
          try simp only [Act.put, List.setIfInBounds_toArray, List.set_cons_zero, List.set_cons_succ]
          apply sch_want rfl (by first | rfl | decide | (simp [Region.wanted, yielded]; done) | (simp [Region.wanted, yielded]; assumption)) (by repeat (first | with_reducible exact Within.refl _ | with_reducible assumption | with_reducible refine Within.alloc ?_ _ | with_reducible refine Within.drew ?_ | with_reducible refine Within.drewN ?_ _ | with_reducible refine Within.setCell ?_ (by first | (simp; done) | (simp; omega)) _ | with_reducible refine Within.trans ?_ (by assumption)))
          · intro wq hq
            have hcq := hq.cells
            clear hq
            go_simp
            first | rfl | (trace_state; fail)
          try simp only [Act.put, List.setIfInBounds_toArray, List.set_cons_zero, List.set_cons_succ]
          apply sch_want rfl (by first | rfl | decide | (simp [Region.wanted, yielded]; done) | (simp [Region.wanted, yielded]; assumption)) (by repeat (first | with_reducible exact Within.refl _ | with_reducible assumption | with_reducible refine Within.alloc ?_ _ | with_reducible refine Within.drew ?_ | with_reducible refine Within.drewN ?_ _ | with_reducible refine Within.setCell ?_ (by first | (simp; done) | (simp; omega)) _ | with_reducible refine Within.trans ?_ (by assumption)))
          · intro wq hq
            have hcq := hq.cells
            clear hq
            go_simp
            first | rfl | (trace_state; fail)
          try simp only [Act.put, List.setIfInBounds_toArray, List.set_cons_zero, List.set_cons_succ]
          apply sch_firm rfl rfl (by repeat (first | with_reducible exact Within.refl _ | with_reducible assumption | with_reducible refine Within.alloc ?_ _ | with_reducible refine Within.drew ?_ | with_reducible refine Within.drewN ?_ _ | with_reducible refine Within.setCell ?_ (by first | (simp; done) | (simp; omega)) _ | with_reducible refine Within.trans ?_ (by assumption)))
          · intro wq hq
            have hcq := hq.cells
            clear hq
            go_simp
            first | rfl | (trace_state; fail)
          try simp only [Act.put, List.setIfInBounds_toArray, List.set_cons_zero, List.set_cons_succ]
          refine sch_one rfl rfl (fun K hK => ?_)
          go_simp
          refine hK _ _ (fun h => absurd h (by decide)) ?_
          clear hK K
          try simp only [Act.put, List.setIfInBounds_toArray, List.set_cons_zero, List.set_cons_succ]
          refine sch_nil ?_
          go_wp2
          go_ret
          exact ⟨rfl, Within.trans hVWk (Within.trans hw0 (by repeat (first | with_reducible exact Within.refl _ | with_reducible assumption | with_reducible refine Within.alloc ?_ _ | with_reducible refine Within.drew ?_ | with_reducible refine Within.drewN ?_ _ | with_reducible refine Within.setCell ?_ (by first | (simp; done) | (simp; omega)) _ | with_reducible refine Within.trans ?_ (by assumption))))⟩
        · have g0 : (cr != 0) = true := by rw [bne_iff_ne]; exact h0
          clear h0
          have lv0 := World.block_lt_of_cell? _ _ HP.out.1; have lv1 := World.block_lt_of_cell? _ _ HP.out.2.2.1
          have p0 := (hV.cells _ 0 lv0).trans HP.out.1
          have p1 := (hV.cells _ 1 lv0).trans HP.out.2.1
          have q0 := (hV.cells _ 0 lv1).trans HP.out.2.2.1
          have q1 := (hV.cells _ 1 lv1).trans HP.out.2.2.2
          have lb0 := Nat.lt_of_lt_of_le lv0 hV.sizes; have lb1 := Nat.lt_of_lt_of_le lv1 hV.sizes
          have hJp := HJP.out.of hV; have hJq := HJQ.out.of hV
          have hTk := HTV.out.of hV
          clear hV lv0 lv1
          refine wp_region_schG (fun W => W.cell? ⟨w7.heap.size, 0, none⟩ = some (.pointer (some ⟨gp, 0, none⟩)) ∧ W.cell? ⟨w7.heap.size, 1, none⟩ = some (.int .i64 Ep) ∧ W.cell? ⟨w7.heap.size + 1, 0, none⟩ = some (.pointer (some ⟨gq, 0, none⟩)) ∧ W.cell? ⟨w7.heap.size + 1, 1, none⟩ = some (.int .i64 Eq) ∧ w7.heap.size < W.heap.size ∧ w7.heap.size + 1 < W.heap.size ∧ IntB W gp np ∧ IntB W gq nq ∧ SlAt W A11 (f64v l11) ∧ Tab W ∧ Within w11 W) 13 (.firm 0 (.firm 1 (.firm 2 (.firm 3 (.one 4 (.firm 5 (.firm 6 (.firm 8 (.one 7 (.one 9 (.firm 10 (.firm 11 (.firm 12 (.one 13 .nil)))))))))))))) (by kernel_rfl) (by kernel_rfl) ⟨p0, p1, q0, q1, lb0, lb1, hJp, hJq, HS11.out, hTk, Within.refl _⟩ ?_
          rintro w0 ⟨c0, c1, d0, d1, lb0, lb1, hJp, hJq, hSl, hTw, hw0⟩
          try simp only [Act.put, List.setIfInBounds_toArray, List.set_cons_zero, List.set_cons_succ]
          apply sch_firm rfl rfl (by repeat (first | with_reducible exact Within.refl _ | with_reducible assumption | with_reducible refine Within.alloc ?_ _ | with_reducible refine Within.drew ?_ | with_reducible refine Within.drewN ?_ _ | with_reducible refine Within.setCell ?_ (by first | (simp; done) | (simp; omega)) _ | with_reducible refine Within.trans ?_ (by assumption)))
          · intro wq hq
            have hcq := hq.cells
            clear hq
            go_simp
            first | rfl | (trace_state; fail)
          try simp only [Act.put, List.setIfInBounds_toArray, List.set_cons_zero, List.set_cons_succ]
          apply sch_firm rfl rfl (by repeat (first | with_reducible exact Within.refl _ | with_reducible assumption | with_reducible refine Within.alloc ?_ _ | with_reducible refine Within.drew ?_ | with_reducible refine Within.drewN ?_ _ | with_reducible refine Within.setCell ?_ (by first | (simp; done) | (simp; omega)) _ | with_reducible refine Within.trans ?_ (by assumption)))
          · intro wq hq
            have hcq := hq.cells
            clear hq
            go_simp
            first | rfl | (trace_state; fail)
          try simp only [Act.put, List.setIfInBounds_toArray, List.set_cons_zero, List.set_cons_succ]
          apply sch_firm rfl rfl (by repeat (first | with_reducible exact Within.refl _ | with_reducible assumption | with_reducible refine Within.alloc ?_ _ | with_reducible refine Within.drew ?_ | with_reducible refine Within.drewN ?_ _ | with_reducible refine Within.setCell ?_ (by first | (simp; done) | (simp; omega)) _ | with_reducible refine Within.trans ?_ (by assumption)))
          · intro wq hq
            have hcq := hq.cells
            clear hq
            go_simp
            first | rfl | (trace_state; fail)
          try simp only [Act.put, List.setIfInBounds_toArray, List.set_cons_zero, List.set_cons_succ]
          refine sch_skip rfl (by first | rfl | decide | (simp [Region.wanted, yielded]; done) | (simp [Region.wanted, yielded]; assumption)) (by repeat (first | with_reducible exact Within.refl _ | with_reducible assumption | with_reducible refine Within.alloc ?_ _ | with_reducible refine Within.drew ?_ | with_reducible refine Within.drewN ?_ _ | with_reducible refine Within.setCell ?_ (by first | (simp; done) | (simp; omega)) _ | with_reducible refine Within.trans ?_ (by assumption))) ?_
          try simp only [Act.put, List.setIfInBounds_toArray, List.set_cons_zero, List.set_cons_succ]
          refine sch_one_skip rfl (by first | rfl | decide | (simp [Region.wanted, yielded]; done) | (simp [Region.wanted, yielded]; assumption)) (by repeat (first | with_reducible exact Within.refl _ | with_reducible assumption | with_reducible refine Within.alloc ?_ _ | with_reducible refine Within.drew ?_ | with_reducible refine Within.drewN ?_ _ | with_reducible refine Within.setCell ?_ (by first | (simp; done) | (simp; omega)) _ | with_reducible refine Within.trans ?_ (by assumption))) ?_
          try simp only [Act.put, List.setIfInBounds_toArray, List.set_cons_zero, List.set_cons_succ]
          refine sch_skip rfl (by first | rfl | decide | (simp [Region.wanted, yielded]; done) | (simp [Region.wanted, yielded]; assumption)) (by repeat (first | with_reducible exact Within.refl _ | with_reducible assumption | with_reducible refine Within.alloc ?_ _ | with_reducible refine Within.drew ?_ | with_reducible refine Within.drewN ?_ _ | with_reducible refine Within.setCell ?_ (by first | (simp; done) | (simp; omega)) _ | with_reducible refine Within.trans ?_ (by assumption))) ?_
          try simp only [Act.put, List.setIfInBounds_toArray, List.set_cons_zero, List.set_cons_succ]
          refine sch_skip rfl (by first | rfl | decide | (simp [Region.wanted, yielded]; done) | (simp [Region.wanted, yielded]; assumption)) (by repeat (first | with_reducible exact Within.refl _ | with_reducible assumption | with_reducible refine Within.alloc ?_ _ | with_reducible refine Within.drew ?_ | with_reducible refine Within.drewN ?_ _ | with_reducible refine Within.setCell ?_ (by first | (simp; done) | (simp; omega)) _ | with_reducible refine Within.trans ?_ (by assumption))) ?_
          try simp only [Act.put, List.setIfInBounds_toArray, List.set_cons_zero, List.set_cons_succ]
          refine sch_skip rfl (by first | rfl | decide | (simp [Region.wanted, yielded]; done) | (simp [Region.wanted, yielded]; assumption)) (by repeat (first | with_reducible exact Within.refl _ | with_reducible assumption | with_reducible refine Within.alloc ?_ _ | with_reducible refine Within.drew ?_ | with_reducible refine Within.drewN ?_ _ | with_reducible refine Within.setCell ?_ (by first | (simp; done) | (simp; omega)) _ | with_reducible refine Within.trans ?_ (by assumption))) ?_
          try simp only [Act.put, List.setIfInBounds_toArray, List.set_cons_zero, List.set_cons_succ]
          refine sch_one_skip rfl (by first | rfl | decide | (simp [Region.wanted, yielded]; done) | (simp [Region.wanted, yielded]; assumption)) (by repeat (first | with_reducible exact Within.refl _ | with_reducible assumption | with_reducible refine Within.alloc ?_ _ | with_reducible refine Within.drew ?_ | with_reducible refine Within.drewN ?_ _ | with_reducible refine Within.setCell ?_ (by first | (simp; done) | (simp; omega)) _ | with_reducible refine Within.trans ?_ (by assumption))) ?_
          try simp only [Act.put, List.setIfInBounds_toArray, List.set_cons_zero, List.set_cons_succ]
          refine sch_one_skip rfl (by first | rfl | decide | (simp [Region.wanted, yielded]; done) | (simp [Region.wanted, yielded]; assumption)) (by repeat (first | with_reducible exact Within.refl _ | with_reducible assumption | with_reducible refine Within.alloc ?_ _ | with_reducible refine Within.drew ?_ | with_reducible refine Within.drewN ?_ _ | with_reducible refine Within.setCell ?_ (by first | (simp; done) | (simp; omega)) _ | with_reducible refine Within.trans ?_ (by assumption))) ?_
          try simp only [Act.put, List.setIfInBounds_toArray, List.set_cons_zero, List.set_cons_succ]
          refine sch_skip rfl (by first | rfl | decide | (simp [Region.wanted, yielded]; done) | (simp [Region.wanted, yielded]; assumption)) (by repeat (first | with_reducible exact Within.refl _ | with_reducible assumption | with_reducible refine Within.alloc ?_ _ | with_reducible refine Within.drew ?_ | with_reducible refine Within.drewN ?_ _ | with_reducible refine Within.setCell ?_ (by first | (simp; done) | (simp; omega)) _ | with_reducible refine Within.trans ?_ (by assumption))) ?_
          try simp only [Act.put, List.setIfInBounds_toArray, List.set_cons_zero, List.set_cons_succ]
          refine sch_skip rfl (by first | rfl | decide | (simp [Region.wanted, yielded]; done) | (simp [Region.wanted, yielded]; assumption)) (by repeat (first | with_reducible exact Within.refl _ | with_reducible assumption | with_reducible refine Within.alloc ?_ _ | with_reducible refine Within.drew ?_ | with_reducible refine Within.drewN ?_ _ | with_reducible refine Within.setCell ?_ (by first | (simp; done) | (simp; omega)) _ | with_reducible refine Within.trans ?_ (by assumption))) ?_
          try simp only [Act.put, List.setIfInBounds_toArray, List.set_cons_zero, List.set_cons_succ]
          apply sch_firm rfl rfl (by repeat (first | with_reducible exact Within.refl _ | with_reducible assumption | with_reducible refine Within.alloc ?_ _ | with_reducible refine Within.drew ?_ | with_reducible refine Within.drewN ?_ _ | with_reducible refine Within.setCell ?_ (by first | (simp; done) | (simp; omega)) _ | with_reducible refine Within.trans ?_ (by assumption)))
          · intro wq hq
            have hcq := hq.cells
            clear hq
            go_simp
            first | rfl | (trace_state; fail)
          try simp only [Act.put, List.setIfInBounds_toArray, List.set_cons_zero, List.set_cons_succ]
          refine sch_one rfl rfl (fun K hK => ?_)
          go_simp
          refine hK _ _ (fun h => absurd h (by decide)) ?_
          clear hK K
          try simp only [Act.put, List.setIfInBounds_toArray, List.set_cons_zero, List.set_cons_succ]
          refine sch_nil ?_
          go_wp2
          go_ret
          exact ⟨rfl, Within.trans hVWk (Within.trans hw0 (by repeat (first | with_reducible exact Within.refl _ | with_reducible assumption | with_reducible refine Within.alloc ?_ _ | with_reducible refine Within.drew ?_ | with_reducible refine Within.drewN ?_ _ | with_reducible refine Within.setCell ?_ (by first | (simp; done) | (simp; omega)) _ | with_reducible refine Within.trans ?_ (by assumption))))⟩
theorem keeps_walk (A : Option Addr) (c : Nat) (x : List Nat) (hwx : Words64 x) (hlx : x.length * 8 ≤ 140737488355328) (B : Option Addr) (d : Nat) (y : List Nat) (hwy : Words64 y) (hly : y.length * 8 ≤ 140737488355328) (z : Nat) (hz : z < 18446744073709551616) (w : World) (hT : Tab w) (hrx : SlAt w A (u64v x)) (hry : SlAt w B (u64v y)) : Calls Tryz.prog 8 #[.slice A x.length c, .slice B y.length d, .int .u64 (z : Int)] w fun e w' => e = .returned (.bool true) ∧ Within w w' := by
  cases h1 : isB x
  · exact keeps_out1 A c x hwx hlx B d y hwy hly z hz h1 w hT hrx hry
  · cases h2 : isB y
    · exact keeps_out2 A c x hwx hlx B d y hwy hly z hz h1 h2 w hT hrx hry
    · cases h3 : finW z
      · exact keeps_out3 A c x hwx hlx B d y hwy hly z hz h1 h2 h3 w hT hrx hry
      · exact keeps_main A c x hwx hlx B d y hwy hly z hz h1 h2 h3 w hT hrx hry
end Go.Proofs.YtjmaggfddinbkaaGreatDoor
end

section
namespace Go.Proofs.YtjmaggfddinbkaaGreatDoor.Base
open Go.ChangeShapes Go.WideShapes Go.ChangeAt Go.RowKit
theorem own : ownKnob Tryz.prog.godebug = none := by kernel_rfl
theorem gTab : Tryz.prog.globalNamed "math/bits.deBruijn64tab" = some 2 := by kernel_rfl
theorem gTabType : (Tryz.prog.globals[2]?).map (·.type) = some 174 := by kernel_rfl
theorem cellsT : Tryz.prog.cellsOf 174 = 64 := by kernel_rfl
theorem cellsB : Tryz.prog.cellsOf 5 = 1 := by kernel_rfl
theorem tab {W : World} (h : laidMetH Tryz.prog [("math/bits.deBruijn64tab", Rows.laid_math_bits_deBruijn64tab)] W) : Tab W := fun j hj => by
  have e := (Lib.tabIs_of_head (zs := Lib.deBruijn64tab.map Int.ofNat) (rest := []) gTab gTabType Tryz.underlying174 Tryz.underlying5 cellsB cellsT h).cell gTab j (by simpa [Lib.deBruijn64tab] using hj)
  rw [e]
  congr 2
  have hl : j < Lib.deBruijn64tab.length := hj
  simp [List.getD, List.getElem?_map, List.getElem?_eq_getElem hl]
theorem nat_of_u64 {n : Int} (h : (Lit.int .u64 n).wf = true) : ∃ a : Nat, n = a ∧ a < 18446744073709551616 := by
  simp only [Lit.wf, Bool.and_eq_true, decide_eq_true_eq] at h
  have h1 : (0 : Int) ≤ n := h.1
  have h2 : n ≤ 18446744073709551615 := h.2
  exact ⟨n.toNat, by omega, by omega⟩
noncomputable def laidWorld (os : Os) : World :=
  { World.holding Tryz.prog os ⟨#[], #[], []⟩ with heap := (World.holding Tryz.prog os ⟨#[], #[], []⟩).heap.modify 2 fun
      | .cells _ t frozen => .cells #[.int .u8 0, .int .u8 1, .int .u8 56, .int .u8 2, .int .u8 57, .int .u8 49, .int .u8 28, .int .u8 3, .int .u8 61, .int .u8 58, .int .u8 42, .int .u8 50, .int .u8 38, .int .u8 29, .int .u8 17, .int .u8 4, .int .u8 62, .int .u8 47, .int .u8 59, .int .u8 36, .int .u8 45, .int .u8 43, .int .u8 51, .int .u8 22, .int .u8 53, .int .u8 39, .int .u8 33, .int .u8 30, .int .u8 24, .int .u8 18, .int .u8 12, .int .u8 5, .int .u8 63, .int .u8 55, .int .u8 48, .int .u8 27, .int .u8 60, .int .u8 41, .int .u8 37, .int .u8 16, .int .u8 46, .int .u8 35, .int .u8 44, .int .u8 21, .int .u8 52, .int .u8 32, .int .u8 23, .int .u8 11, .int .u8 54, .int .u8 26, .int .u8 40, .int .u8 15, .int .u8 34, .int .u8 20, .int .u8 31, .int .u8 10, .int .u8 25, .int .u8 14, .int .u8 19, .int .u8 9, .int .u8 13, .int .u8 8, .int .u8 7, .int .u8 6] t frozen
      | o => o }
end Go.Proofs.YtjmaggfddinbkaaGreatDoor.Base
end

section
namespace Go.Proofs.YtjmaggfddinbkaaGreatDoor.Base
open Go.ChangeShapes Go.WideShapes Go.ChangeAt Go.RowKit
theorem laidOut : laidOutB Tryz.prog = true := by kernel_rfl
section
variable {H : Type} {enc : TypeId × Value → H} {W : World}
theorem open_ns {t e : TypeId} {k : IntKind} {y : Nat} (ht : Tryz.prog.underlying t = some (.slice e)) (he : Tryz.prog.underlying e = some (.int k)) (hc : Tryz.prog.cellsOf e = 1) (hy : Tryz.prog.bytesOf e = y) {fuel : Nat} {v : Value} {x : DataW H × List MemPlace}
    (h : DataW.trod enc Tryz.prog W 0 (fun _ => true) true fuel t [v] = some x) (hz : ∀ n ∈ x.1.weights Tryz.prog t, n ≤ reachBytes) :
    ∃ (a0 : Option Addr) (cap : Nat) (zs : List Int), v = .slice a0 zs.length cap ∧ zs.length ≤ cap ∧ zs.length * y ≤ reachBytes ∧ (∀ n ∈ zs, (Lit.int k n).wf = true) ∧ SlAt W a0 (zs.map (Value.int k)) := by
  rcases open_ints ht he hc h with ⟨hcs, hx⟩ | ⟨a, len, cap, zs, hcs, _, hl, hm, hzl, hx, hcell, hwz⟩
  · simp at hcs
    exact ⟨none, 0, [], hcs, Nat.le_refl _, by simp, (fun n hn => absurd hn (by simp)), SlAt.nil⟩
  · simp at hcs
    simp only [if_true] at hzl
    subst hx
    have hlen : (zs.take len).length = len := by rw [List.length_take]; omega
    refine ⟨some a, cap, zs.take len, by rw [hlen]; exact hcs, by rw [hlen]; exact hl, ?_, fun n hn => hwz n (List.mem_of_mem_take hn), fun hn => ?_⟩
    · have hw := hz (cap * y) (by
        rw [DataW.weights, ht]
        refine List.mem_cons.2 (.inl ?_)
        rw [hy, show (lits (H := H) k (zs.take len)).length + (lits (H := H) k (zs.drop len)).length = cap by
          unfold lits; rw [List.length_map, List.length_map, List.length_take, List.length_drop]; omega])
      rw [hlen]
      exact Nat.le_trans (Nat.mul_le_mul_right _ hl) hw
    · rw [List.length_map, hlen] at hn
      have h0 := hcell 0 (by omega)
      refine ⟨a, rfl, by have := World.block_lt_of_cell? _ _ h0; rwa [add_block] at this, fun j u hu => ?_⟩
      rw [List.getElem?_map, Option.map_eq_some_iff] at hu
      obtain ⟨z, hz1, rfl⟩ := hu
      obtain ⟨hj, hz2⟩ := List.getElem?_eq_some_iff.1 hz1
      rw [hlen] at hj
      rw [hcell j (by omega)]
      rw [List.getElem_take] at hz2
      simp [List.getD, List.getElem?_eq_getElem (show j < zs.length by omega), hz2]
theorem nats_of {k : IntKind} {m : Nat} (hk : ∀ n : Int, (Lit.int k n).wf = true → 0 ≤ n ∧ n < m) {zs : List Int} (h : ∀ n ∈ zs, (Lit.int k n).wf = true) : ∃ l : List Nat, zs = l.map (fun (x : Nat) => (x : Int)) ∧ ∀ x ∈ l, x < m := by
  refine ⟨zs.map Int.toNat, ?_, fun x hx => ?_⟩
  · rw [List.map_map]
    conv => lhs; rw [← List.map_id zs]
    refine List.map_congr_left fun n hn => ?_
    have := (hk n (h n hn)).1
    simp only [id, Function.comp]; omega
  · obtain ⟨n, hn, rfl⟩ := List.mem_map.1 hx
    have := hk n (h n hn)
    omega
theorem wf_u64 (n : Int) (h : (Lit.int .u64 n).wf = true) : 0 ≤ n ∧ n < (18446744073709551616 : Nat) := by
  simp only [Lit.wf, Bool.and_eq_true, decide_eq_true_eq] at h
  have h1 : (0 : Int) ≤ n := h.1
  have h2 : n ≤ 18446744073709551615 := h.2
  omega
set_option maxRecDepth 100000 in
theorem open_u64 {fuel : Nat} {v : Value} {x : DataW H × List MemPlace} (h : DataW.trod enc Tryz.prog W 0 (fun _ => true) true fuel 22 [v] = some x) (hz : ∀ n ∈ x.1.weights Tryz.prog 22, n ≤ reachBytes) :
    ∃ (a0 : Option Addr) (cap : Nat) (l : List Nat), v = .slice a0 l.length cap ∧ l.length ≤ cap ∧ l.length * 8 ≤ 140737488355328 ∧ (∀ x ∈ l, x < 18446744073709551616) ∧ SlAt W a0 (u64v l) := by
  obtain ⟨a0, cap, zs, h1, h2, h3, h4, h5⟩ := open_ns (y := 8) Tryz.underlying22 Tryz.underlying23 (by kernel_rfl) (by kernel_rfl) h hz
  obtain ⟨l, rfl, hl⟩ := nats_of wf_u64 h4
  rw [List.length_map] at h1 h2 h3
  refine ⟨a0, cap, l, h1, h2, ?_, hl, ?_⟩
  · have : reachBytes = 140737488351232 := rfl
    omega
  · unfold u64v; rw [List.map_map] at h5; exact h5
set_option maxRecDepth 100000 in
theorem open_words {r : Reach} {b0 : Nat} {v : Value} {d : DataW H} {p : List MemPlace} (hv : Value.okWide Tryz.prog W r b0 22 v) (h : DataW.Trod enc Tryz.prog W 0 (fun _ => true) true 22 v d p) (hz : ∀ n ∈ d.weights Tryz.prog 22, n ≤ reachBytes) :
    ∃ (a0 : Option Addr) (cap : Nat) (l : List Nat), v = .slice a0 l.length cap ∧ l.length ≤ cap ∧ l.length * 8 ≤ 140737488355328 ∧ Words64 l ∧ SlAt W a0 (u64v l) := by
  obtain ⟨a, len, cap, rfl⟩ := okWide_slice Tryz.underlying22 hv
  obtain ⟨fuel, hf⟩ := h
  exact open_u64 (x := (d, p)) (by simpa [Value.cells] using hf) hz
theorem wt_of {ts : List TypeId} {ds : List (DataW H)} (h : (DataW.weightsEach Tryz.prog ts ds).all (· ≤ reachBytes) = true) {j : Nat} {t : TypeId} {d : DataW H} (ht : ts[j]? = some t) (hd : ds[j]? = some d) : ∀ n ∈ d.weights Tryz.prog t, n ≤ reachBytes :=
  fun n hn => of_decide_eq_true (List.all_eq_true.1 h n (DataW.weights_mem_each ht hd n hn))
end
end Go.Proofs.YtjmaggfddinbkaaGreatDoor.Base
end

section
namespace Go.Proofs.YtjmaggfddinbkaaGreatDoor.eftKeeps
open Go.ChangeShapes Go.WideShapes Go.ChangeAt Go.RowKit
set_option maxRecDepth 100000 in
theorem contract (H : Type) (enc : TypeId × Value → H) (W : World) (base : Nat) (args : Array Value) (ds gs : List (DataW H)) (before : List MemPlace)
    (hval : ∀ (j : Nat) t v, Tryz.f8.params[j]? = some t → args[j]? = some v → Value.okWide Tryz.prog W .any base t v)
    (hW : DataW.Whole enc Tryz.prog Tryz.f8.params.toList Rows.eftKeepsSpec.vars false W args.toList ds gs before)
    (hsz : (DataW.weightsEach Tryz.prog (Tryz.f8.params.toList ++ (OpenSpec.ofChange Rows.eftKeepsSpec).bare.plain.varTypes Tryz.prog) (ds ++ gs)).all (· ≤ reachBytes) = true) (hL : laidMetH Tryz.prog Rows.eftKeepsRow.laid W) :
    Calls Tryz.prog 8 args W fun e W' => ∃ v, e = .returned v ∧ Rows.eftKeepsSpec.post enc Tryz.prog Tryz.f8 false true false false W args v W' := by
  have hW' := hW
  obtain ⟨p, q, hA0, hV, rfl, hfz, hnd⟩ := hW
  have hA : DataW.TrodAll enc Tryz.prog W 0 (fun _ => true) true Tryz.f8.params.toList args.toList ds p := hA0
  rw [Tryz.params8] at hA hval hsz
  obtain ⟨v0, vs0, d0, ds0, p0, q0, hargs, rfl, rfl, h0, r0⟩ := trodAll_cons hA
  obtain ⟨v1, vs1, d1, ds1, p1, q1, rfl, rfl, rfl, h1, r1⟩ := trodAll_cons r0
  obtain ⟨v2, vs2, d2, ds2, p2, q2, rfl, rfl, rfl, h2, r2⟩ := trodAll_cons r1
  obtain ⟨rfl, rfl, rfl⟩ := trodAll_nil r2
  obtain rfl : args = #[v0, v1, v2] := by cases args; simp_all
  obtain ⟨rfl, rfl⟩ := trodVars_none hV
  obtain ⟨A0, c0, l0, rfl, hc0, hn0, hb0, hm0⟩ := Base.open_words (hval 0 22 v0 rfl rfl) h0 (Base.wt_of hsz (j := 0) rfl rfl)
  obtain ⟨A1, c1, l1, rfl, hc1, hn1, hb1, hm1⟩ := Base.open_words (hval 1 22 v1 rfl rfl) h1 (Base.wt_of hsz (j := 1) rfl rfl)
  obtain ⟨n2, rfl, rfl, rfl, w2⟩ := open_int Tryz.underlying23 (hval 2 23 v2 rfl rfl) h2
  obtain ⟨a2, rfl, ha2⟩ := Base.nat_of_u64 w2
  clear hA0
  simp only [List.append_nil] at hW'
  have hlt : ∀ x, x ∈ p0 ∨ x ∈ p1 → x.block < W.heap.size := fun x hx => hW'.lt x (by simpa using hx)
  refine (keeps_walk A0 c0 l0 hb0 hn0 A1 c1 l1 hb1 hn1 a2 ha2 W (Base.tab hL) hm0 hm1).mono fun e W' ⟨he, bel⟩ => ?_
  subst he
  exact ⟨_, rfl, _, _, _, [], _, [], hW', trodAll_mk1 (shut_bool Tryz.underlying4 _), (trodAll_cons_mk (Below.trod Base.laidOut (by kernel_rfl) (of_decide_eq_true (by kernel_rfl)) h0 bel (fun x hx => hlt x (.inl hx))) (trodAll_cons_mk (Below.trod Base.laidOut (by kernel_rfl) (of_decide_eq_true (by kernel_rfl)) h1 bel (fun x hx => hlt x (.inr hx))) (trodAll_cons_mk (shut_int Tryz.underlying23 w2) trodAll_mk0))), rfl, Below.frame bel _, fun h => by cases h⟩
theorem laid_met (os : Os) : laidMet Tryz.prog Rows.eftKeepsRow.laid ((Base.laidWorld os).forCall (fun _ _ => 0) ⟨#[], #[Value.slice none 0 0, Value.slice none 0 0, Value.int .u64 0], []⟩).memory :=
  laidMet_of_run' 8 (by kernel_rfl) (by kernel_rfl)
theorem reads (os : Os) {H : Type} (enc : TypeId × Value → H) : ∃ places, DataW.whole enc Tryz.prog ((Base.laidWorld os).forCall (fun _ _ => 0) ⟨#[], #[Value.slice none 0 0, Value.slice none 0 0, Value.int .u64 0], []⟩).memory Tryz.f8.params.toList Rows.eftKeepsSpec.vars false (#[Value.slice none 0 0, Value.slice none 0 0, Value.int .u64 0] : Array Value).toList 8 = some ([.nil, .nil, .lit (.int .u64 0)], [], places) :=
  ⟨[], by kernel_rfl⟩
set_option maxRecDepth 100000 in
theorem lifted (os : Os) (started : os.Started) (H : Type) (enc : TypeId × Value → H) (F : Stop.Interp) :
    ReturnsInHanded {} Tryz.checked os 8 .any ((OpenSpec.ofChange Rows.eftKeepsSpec).preRow enc Tryz.prog Tryz.f8 Rows.eftKeepsRow.domain false Rows.eftKeepsRow.laid) (((OpenSpec.ofChange Rows.eftKeepsSpec).at F).post enc Tryz.prog Tryz.f8 false true false false) := by
  obtain ⟨places, hx⟩ := reads os enc
  refine returnsInHanded_of_row (C := Tryz.checked) (s := OpenSpec.ofChange Rows.eftKeepsSpec) Base.own started (by kernel_rfl) Tryz.func8
    (witness_row_at (enc := enc) (C := Tryz.checked) false (Base.laidWorld os) #[Value.slice none 0 0, Value.slice none 0 0, Value.int .u64 0] rfl (by kernel_rfl) (by kernel_rfl) (by kernel_rfl)
      (OpenSpec.preRow_of_cond 8 hx (by kernel_rfl) (fun k hk => by cases hk) (by kernel_rfl) (laid_met os))) ?_
  intro W base args ds gs before hval hW _ _ hsz hL _ _
  exact contract H enc W base args ds gs before hval hW hsz hL
theorem said : Rows.EftKeepsSaid :=
  OpenClaim.holds_of_cond 8 Tryz.f8 rfl rfl rfl rfl rfl rfl rfl ⟨rfl, rfl, rfl, rfl, rfl⟩ rfl rfl rfl rfl rfl (by kernel_rfl) Tryz.func8 (by kernel_rfl)
    (of_decide_eq_true (by kernel_rfl)) (by unfold Func.isWrapper; first | (rw [if_pos (by decide +kernel)]; kernel_rfl) | (rw [if_neg (by decide +kernel)]; exact ⟨rfl, rfl⟩))
    (fun os started H enc _ F => by rw [OpenClaim.pre_eq_preRow]; exact lifted os started H enc F)
theorem plain (f : FuncId) (fn : Func) (hf : Tryz.pinned.checked.prog.funcNamed "binnacle/binnaclelaw04.EftKeeps" = some f) (hfn : Tryz.pinned.checked.prog.funcs[f]? = some fn) :
    false = Tryz.pinned.checked.prog.looks [] ∧ ∀ (j : Nat) t, fn.params[j]? = some t → Tryz.pinned.checked.prog.wantsStandIn t = false := by
  obtain rfl : f = 8 := Option.some.inj ((show Tryz.prog.funcNamed "binnacle/binnaclelaw04.EftKeeps" = some 8 by kernel_rfl).symm.trans hf) |>.symm
  obtain rfl : fn = Tryz.f8 := (Option.some.inj (Tryz.func8.symm.trans hfn)).symm
  refine ⟨by kernel_rfl, fun j t ht => ?_⟩
  rw [Tryz.params8] at ht
  have hm := Array.mem_of_getElem? ht
  have hm' : t = 22 ∨ t = 22 ∨ t = 23 := by simpa using hm
  rcases hm' with rfl | rfl | rfl
  · exact (show Tryz.prog.wantsStandIn 22 = false by kernel_rfl)
  · exact (show Tryz.prog.wantsStandIn 22 = false by kernel_rfl)
  · exact (show Tryz.prog.wantsStandIn 23 = false by kernel_rfl)
theorem card : Rows.EftKeepsCardSaid :=
  Claim7.holds_tied_plain_at .later [] _ _ _ _ said (fun _ h => by cases h) (by kernel_rfl) (fun _ h => by cases h) eftKeeps_row_tie rfl ⟨rfl, rfl⟩ (by kernel_rfl) rfl plain (by kernel_rfl)
#print axioms card
end Go.Proofs.YtjmaggfddinbkaaGreatDoor.eftKeeps
end
