/- The card of ConvertFusions: whatever the input, the call returns true and the input reads as it did; the formats hold what the program's text lays. -/
import Derived.Test.YtifgngmebnjfkaaGreatDoorRows
import Ieee.Arith
import Derived.WalkKit
import Derived.WalkSpells
import Derived.WalkLawsBesides
import Derived.BigQuiet
import Derived.Lib.Hide
import Derived.Lib.TrailingZeros
import Derived.Lib.BitFns
import Derived.Lib.Strings
import Derived.Lib.Slices
import Derived.Lib.Small
import Derived.Lib.Walk
import Derived.Deep.OwnRows
import Derived.OwnWalk
import Derived.LoopTactic
import Derived.Outline
import Derived.IntWalk
import Derived.OrdersHeld
import Derived.StillTail
import Derived.Deep.RegionHeld3
import Derived.Maps.AppendAt
import Derived.Deep.DeepCutAuto
import Derived.Deep.QuietTactic
import Derived.Test.YtifgngmebnjfkaaGreatDoorCards
import Derived.Test.YtifgngmebnjfkaaGreatDoorTie
import Derived.ProofKit
import Derived.OpenShut
import Derived.ShutString
import Derived.ChangeOld
import Derived.Below
import Derived.Deep.DeepHandedRow
import Derived.Deep.Strs
import Derived.Lib.LaidTab
import Derived.Test.YtifgngmebnjfkaaGreatDoorZFus5
set_option linter.unusedVariables false
set_option linter.unusedSimpArgs false
section
namespace Go.Proofs.YtifgngmebnjfkaaGreatDoor
open Go.RowKit
set_option maxRecDepth 100000 in
set_option maxHeartbeats 600000 in
theorem Radd_nan1 (E1 E2 mode : Int) (b1 b2 : Bool) (g1 g2 : Nat) (k2 : Int) (w : World) : Calls Tryz.prog 67 #[fmS, .agg #[.int .i64 2, .bool b1, .pointer (some ⟨g1, 0, none⟩), .int .i64 E1], .agg #[.int .i64 k2, .bool b2, .pointer (some ⟨g2, 0, none⟩), .int .i64 E2], .int .i64 mode] w (fun e' w' => e' = .returned (.tuple #[.int .u64 (2143289344), .int .i64 0]) ∧ Within w w') := by
  go_enter Tryz.func67, Tryz.ntmps67
  go_wp2_with fail
  refine (RnoneS _).mono ?_; rintro e1 w1 ⟨rfl, hb1⟩
  go_wp2
  go_ret2
  exact ⟨rfl, (by repeat (first | with_reducible exact Within.refl _ | with_reducible assumption | with_reducible refine Within.alloc ?_ _ | with_reducible refine Within.drew ?_ | with_reducible refine Within.drewN ?_ _ | with_reducible refine Within.setCell ?_ (by first | (simp; done) | (simp; omega)) _ | with_reducible refine Within.trans ?_ (by assumption)))⟩
set_option maxRecDepth 100000 in
set_option maxHeartbeats 600000 in
theorem Radd_nan2 (E1 E2 mode : Int) (b1 b2 : Bool) (g1 g2 : Nat) (k1 : Int) (h1 : (k1 == 2) = false) (w : World) : Calls Tryz.prog 67 #[fmS, .agg #[.int .i64 k1, .bool b1, .pointer (some ⟨g1, 0, none⟩), .int .i64 E1], .agg #[.int .i64 2, .bool b2, .pointer (some ⟨g2, 0, none⟩), .int .i64 E2], .int .i64 mode] w (fun e' w' => e' = .returned (.tuple #[.int .u64 (2143289344), .int .i64 0]) ∧ Within w w') := by
  go_enter Tryz.func67, Tryz.ntmps67
  go_wp2_with fail
  refine (RnoneS _).mono ?_; rintro e1 w1 ⟨rfl, hb1⟩
  go_wp2
  go_ret2
  exact ⟨rfl, (by repeat (first | with_reducible exact Within.refl _ | with_reducible assumption | with_reducible refine Within.alloc ?_ _ | with_reducible refine Within.drew ?_ | with_reducible refine Within.drewN ?_ _ | with_reducible refine Within.setCell ?_ (by first | (simp; done) | (simp; omega)) _ | with_reducible refine Within.trans ?_ (by assumption)))⟩
set_option maxRecDepth 100000 in
set_option maxHeartbeats 600000 in
theorem Radd_inv (E1 E2 mode : Int) (b1 b2 : Bool) (g1 g2 : Nat) (h : (b1 == b2) = false) (w : World) : Calls Tryz.prog 67 #[fmS, .agg #[.int .i64 1, .bool b1, .pointer (some ⟨g1, 0, none⟩), .int .i64 E1], .agg #[.int .i64 1, .bool b2, .pointer (some ⟨g2, 0, none⟩), .int .i64 E2], .int .i64 mode] w (fun e' w' => e' = .returned (.tuple #[.int .u64 (2143289344), .int .i64 8]) ∧ Within w w') := by
  go_enter Tryz.func67, Tryz.ntmps67
  go_wp2_with fail
  refine (RnoneS _).mono ?_; rintro e1 w1 ⟨rfl, hb1⟩
  go_wp2
  go_ret2
  exact ⟨rfl, (by repeat (first | with_reducible exact Within.refl _ | with_reducible assumption | with_reducible refine Within.alloc ?_ _ | with_reducible refine Within.drew ?_ | with_reducible refine Within.drewN ?_ _ | with_reducible refine Within.setCell ?_ (by first | (simp; done) | (simp; omega)) _ | with_reducible refine Within.trans ?_ (by assumption)))⟩
set_option maxRecDepth 100000 in
set_option maxHeartbeats 600000 in
theorem Radd_inf1 (E1 E2 mode : Int) (b1 b2 : Bool) (g1 g2 : Nat) (k2 : Int) (h2 : (k2 == 2) = false) (h3 : ((k2 == 1) && !(b1 == b2)) = false) (w : World) : Calls Tryz.prog 67 #[fmS, .agg #[.int .i64 1, .bool b1, .pointer (some ⟨g1, 0, none⟩), .int .i64 E1], .agg #[.int .i64 k2, .bool b2, .pointer (some ⟨g2, 0, none⟩), .int .i64 E2], .int .i64 mode] w (fun e' w' => e' = .returned (.tuple #[.int .u64 ((2139095040 + nghtS b1 : Nat)), .int .i64 0]) ∧ Within w w') := by
  have h4 : (k2 == 1) = false ∨ ((k2 == 1) = true ∧ (b1 == b2) = true) := by revert h3; cases (k2 == 1) <;> cases (b1 == b2) <;> simp
  clear h3
  rcases h4 with h4 | ⟨h4, h5⟩
  all_goals
    go_enter Tryz.func67, Tryz.ntmps67
    go_wp2_with fail
    refine (RinfinityS b1 _).mono ?_; rintro e1 w1 ⟨rfl, hb1⟩
    go_wp2
    go_ret2
    exact ⟨rfl, (by repeat (first | with_reducible exact Within.refl _ | with_reducible assumption | with_reducible refine Within.alloc ?_ _ | with_reducible refine Within.drew ?_ | with_reducible refine Within.drewN ?_ _ | with_reducible refine Within.setCell ?_ (by first | (simp; done) | (simp; omega)) _ | with_reducible refine Within.trans ?_ (by assumption)))⟩
set_option maxRecDepth 100000 in
set_option maxHeartbeats 600000 in
theorem Radd_inf2 (E1 E2 mode : Int) (b1 b2 : Bool) (g1 g2 : Nat) (k1 : Int) (h1 : (k1 == 2) = false) (h2 : (k1 == 1) = false) (w : World) : Calls Tryz.prog 67 #[fmS, .agg #[.int .i64 k1, .bool b1, .pointer (some ⟨g1, 0, none⟩), .int .i64 E1], .agg #[.int .i64 1, .bool b2, .pointer (some ⟨g2, 0, none⟩), .int .i64 E2], .int .i64 mode] w (fun e' w' => e' = .returned (.tuple #[.int .u64 ((2139095040 + nghtS b2 : Nat)), .int .i64 0]) ∧ Within w w') := by
  go_enter Tryz.func67, Tryz.ntmps67
  go_wp2_with fail
  refine (RinfinityS b2 _).mono ?_; rintro e1 w1 ⟨rfl, hb1⟩
  go_wp2
  go_ret2
  exact ⟨rfl, (by repeat (first | with_reducible exact Within.refl _ | with_reducible assumption | with_reducible refine Within.alloc ?_ _ | with_reducible refine Within.drew ?_ | with_reducible refine Within.drewN ?_ _ | with_reducible refine Within.setCell ?_ (by first | (simp; done) | (simp; omega)) _ | with_reducible refine Within.trans ?_ (by assumption)))⟩
set_option maxRecDepth 100000 in
set_option maxHeartbeats 600000 in
theorem Radd_sum (E1 E2 mode : Int) (b1 b2 : Bool) (g1 g2 : Nat) (e v1 v2 v : Int) (M1 M2 : Nat) (he : min E1 E2 = e) (hv : v1 + v2 = v) (hl1 : (dg v1.natAbs).length ≤ 1400) (hl2 : (dg v2.natAbs).length ≤ 1400) (hlv : (dg v.natAbs).length ≤ 900) (SG1 : Hid (∀ w, IntB w g1 (M1 : Int) → Calls Tryz.prog 106 #[.agg #[.int .i64 0, .bool b1, .pointer (some ⟨g1, 0, none⟩), .int .i64 E1], .int .i64 e] w (fun en w' => ∃ h, en = .returned (.pointer (some ⟨h, 0, none⟩)) ∧ IntB w' h (v1) ∧ w.heap.size ≤ h ∧ Within w w'))) (SG2 : Hid (∀ w, IntB w g2 (M2 : Int) → Calls Tryz.prog 106 #[.agg #[.int .i64 0, .bool b2, .pointer (some ⟨g2, 0, none⟩), .int .i64 E2], .int .i64 e] w (fun en w' => ∃ h, en = .returned (.pointer (some ⟨h, 0, none⟩)) ∧ IntB w' h (v2) ∧ w.heap.size ≤ h ∧ Within w w'))) (hv0 : v ≠ 0) (hee : -50000 ≤ e ∧ e ≤ 50000) (w : World) (hI1 : IntB w g1 (M1 : Int)) (hI2 : IntB w g2 (M2 : Int)) : Calls Tryz.prog 67 #[fmS, .agg #[.int .i64 0, .bool b1, .pointer (some ⟨g1, 0, none⟩), .int .i64 E1], .agg #[.int .i64 0, .bool b2, .pointer (some ⟨g2, 0, none⟩), .int .i64 E2], .int .i64 mode] w (fun e' w' => e' = .returned (.tuple #[.int .u64 (gWord 24 (-149) 127 2139095039 2139095040 8388608 2147483648 (decide (v < 0)) v.natAbs e false mode), .int .i64 (gFlags 24 (-149) 127 (decide (v < 0)) v.natAbs e false mode)]) ∧ Within w w') := by
  have HL1 := Lib.hid hl1; have HL2 := Lib.hid hl2; have HLV := Lib.hid hlv; have HV := Lib.hid hv; have HV0 := Lib.hid hv0; have HE := Lib.hid hee; clear hl1 hl2 hlv hv hv0 hee
  go_enter Tryz.func67, Tryz.ntmps67
  go_upto_region 10 with fail
  go_cut [11] (fun s11 wx => PtrI (((w.alloc (.cells #[.int .i64 24, .int .i64 (-126), .int .i64 127, .int .i64 8] 60)).alloc (.cells #[.int .i64 0, .bool b1, .pointer (some ⟨g1, 0, none⟩), .int .i64 E1] 65)).alloc (.cells #[.int .i64 0, .bool b2, .pointer (some ⟨g2, 0, none⟩), .int .i64 E2] 65)) v s11 wx ∧ Within (((w.alloc (.cells #[.int .i64 24, .int .i64 (-126), .int .i64 127, .int .i64 8] 60)).alloc (.cells #[.int .i64 0, .bool b1, .pointer (some ⟨g1, 0, none⟩), .int .i64 E1] 65)).alloc (.cells #[.int .i64 0, .bool b2, .pointer (some ⟨g2, 0, none⟩), .int .i64 E2] 65)) wx)
  case first =>
    refine wp_region_schG (fun W => W.cell? ⟨w.heap.size + 1, 0, none⟩ = some (.int .i64 0) ∧ W.cell? ⟨w.heap.size + 1, 1, none⟩ = some (.bool b1) ∧ W.cell? ⟨w.heap.size + 1, 2, none⟩ = some (.pointer (some ⟨g1, 0, none⟩)) ∧ W.cell? ⟨w.heap.size + 1, 3, none⟩ = some (.int .i64 E1) ∧ W.cell? ⟨w.heap.size + 1 + 1, 0, none⟩ = some (.int .i64 0) ∧ W.cell? ⟨w.heap.size + 1 + 1, 1, none⟩ = some (.bool b2) ∧ W.cell? ⟨w.heap.size + 1 + 1, 2, none⟩ = some (.pointer (some ⟨g2, 0, none⟩)) ∧ W.cell? ⟨w.heap.size + 1 + 1, 3, none⟩ = some (.int .i64 E2) ∧ IntB W g1 (M1 : Int) ∧ IntB W g2 (M2 : Int) ∧ Within (((w.alloc (.cells #[.int .i64 24, .int .i64 (-126), .int .i64 127, .int .i64 8] 60)).alloc (.cells #[.int .i64 0, .bool b1, .pointer (some ⟨g1, 0, none⟩), .int .i64 E1] 65)).alloc (.cells #[.int .i64 0, .bool b2, .pointer (some ⟨g2, 0, none⟩), .int .i64 E2] 65)) W ∧ w.heap.size + 1 < W.heap.size ∧ w.heap.size + 1 + 1 < W.heap.size) 8 (.firm 1 (.firm 2 (.firm 4 (.firm 5 (.two 0 (.one 3 (.one 6 (.one 7 (.one 8 .nil)))) 3 (.two 0 (.one 6 (.one 7 (.one 8 .nil))) 6 (.one 0 (.one 7 (.one 8 .nil))))))))) (by kernel_rfl) (by kernel_rfl) ⟨by go_simp, by go_simp, by go_simp, by go_simp, by go_simp, by go_simp, by go_simp, by go_simp, (by repeat (first | with_reducible assumption | with_reducible exact ib_new _ _ (by simp; done) | with_reducible refine IntB.alloc ?_ _ | with_reducible refine IntB.drew ?_ | with_reducible refine IntB.drewN ?_ _)), (by repeat (first | with_reducible assumption | with_reducible exact ib_new _ _ (by simp; done) | with_reducible refine IntB.alloc ?_ _ | with_reducible refine IntB.drew ?_ | with_reducible refine IntB.drewN ?_ _)), Within.refl _, by first | (simp; done) | (simp; omega), by first | (simp; done) | (simp; omega)⟩ ?_
    rintro w0 ⟨c0, c1, c2, c3, c4, c5, c6, c7, hJ1, hJ2, hw0, hs0, hs1⟩
    try simp only [Act.put, List.setIfInBounds_toArray, List.set_cons_zero, List.set_cons_succ]
    repeat
      apply sch_firm rfl rfl (by repeat (first | with_reducible exact Within.refl _ | with_reducible assumption | with_reducible refine Within.alloc ?_ _ | with_reducible refine Within.drew ?_ | with_reducible refine Within.drewN ?_ _ | with_reducible refine Within.setCell ?_ (by first | (simp; done) | (simp; omega)) _ | with_reducible refine Within.trans ?_ (by assumption)))
      · intro wq hq
        have hcq := hq.cells
        clear hq
        go_simp
        first | rfl | (trace_state; fail)
      try simp only [Act.put, List.setIfInBounds_toArray, List.set_cons_zero, List.set_cons_succ]
    refine sch_two rfl rfl rfl rfl (fun K hK => ?_) (fun K hK => ?_)
    · go_simp
      refine hK _ _ (by repeat (first | with_reducible exact Within.refl _ | with_reducible assumption | with_reducible refine Within.alloc ?_ _ | with_reducible refine Within.drew ?_ | with_reducible refine Within.drewN ?_ _ | with_reducible refine Within.setCell ?_ (by first | (simp; done) | (simp; omega)) _ | with_reducible refine Within.trans ?_ (by assumption))) ?_
      clear hK K
      try simp only [Act.put, List.setIfInBounds_toArray, List.set_cons_zero, List.set_cons_succ]
      refine sch_one rfl rfl (fun K hK => ?_)
      go_simp
      refine (SG1.out _ (by repeat (first | with_reducible assumption | with_reducible exact ib_new _ _ (by simp; done) | with_reducible refine IntB.alloc ?_ _ | with_reducible refine IntB.drew ?_ | with_reducible refine IntB.drewN ?_ _))).mono ?_; rintro e4 w4 ⟨h1, rfl, hA1, hg1, hb4⟩
      have hv4 : Within w0 w4 := Within.trans (by repeat (first | with_reducible exact Within.refl _ | with_reducible assumption | with_reducible refine Within.alloc ?_ _ | with_reducible refine Within.drew ?_ | with_reducible refine Within.drewN ?_ _ | with_reducible refine Within.setCell ?_ (by first | (simp; done) | (simp; omega)) _ | with_reducible refine Within.trans ?_ (by assumption))) hb4
      have hT4 : IntTy w4 w0.heap.size := IntTy.of (by repeat (first | with_reducible assumption | with_reducible exact ty_new _ _ _ _ (by simp; done) | with_reducible refine ty_drew ?_ | with_reducible refine ty_alloc ?_ _)) hb4
      refine hK _ _ (fun _ => (by repeat (first | with_reducible exact Within.refl _ | with_reducible assumption | with_reducible refine Within.alloc ?_ _ | with_reducible refine Within.drew ?_ | with_reducible refine Within.drewN ?_ _ | with_reducible refine Within.setCell ?_ (by first | (simp; done) | (simp; omega)) _ | with_reducible refine Within.trans ?_ (by assumption)))) ?_
      clear hK K
      try simp only [Act.put, List.setIfInBounds_toArray, List.set_cons_zero, List.set_cons_succ]
      refine sch_one rfl rfl (fun K hK => ?_)
      go_simp
      have hJ2' := hJ2.of hv4
      refine (SG2.out _ (by repeat (first | with_reducible assumption | with_reducible exact ib_new _ _ (by simp; done) | with_reducible refine IntB.alloc ?_ _ | with_reducible refine IntB.drew ?_ | with_reducible refine IntB.drewN ?_ _))).mono ?_; rintro e5 w5 ⟨h2, rfl, hA2, hg2, hb5⟩
      have hA1' : IntB w5 h1 v1 := IntB.of (by repeat (first | with_reducible assumption | with_reducible exact ib_new _ _ (by simp; done) | with_reducible refine IntB.alloc ?_ _ | with_reducible refine IntB.drew ?_ | with_reducible refine IntB.drewN ?_ _)) hb5
      have hv5 : Within w0 w5 := Within.trans (by repeat (first | with_reducible exact Within.refl _ | with_reducible assumption | with_reducible refine Within.alloc ?_ _ | with_reducible refine Within.drew ?_ | with_reducible refine Within.drewN ?_ _ | with_reducible refine Within.setCell ?_ (by first | (simp; done) | (simp; omega)) _ | with_reducible refine Within.trans ?_ (by assumption))) hb5
      have hT5 : IntTy w5 w0.heap.size := IntTy.of (by repeat (first | with_reducible assumption | with_reducible exact ty_new _ _ _ _ (by simp; done) | with_reducible refine ty_drew ?_ | with_reducible refine ty_alloc ?_ _)) hb5
      refine hK _ _ (fun _ => (by repeat (first | with_reducible exact Within.refl _ | with_reducible assumption | with_reducible refine Within.alloc ?_ _ | with_reducible refine Within.drew ?_ | with_reducible refine Within.drewN ?_ _ | with_reducible refine Within.setCell ?_ (by first | (simp; done) | (simp; omega)) _ | with_reducible refine Within.trans ?_ (by assumption)))) ?_
      clear hK K
      try simp only [Act.put, List.setIfInBounds_toArray, List.set_cons_zero, List.set_cons_succ]
      refine sch_one rfl rfl (fun K hK => ?_)
      go_simp
      refine (BAdd _ h1 h2 v1 v2 (Nat.le_trans HL1.out (by decide)) (Nat.le_trans HL2.out (by decide)) _ (by repeat (first | with_reducible assumption | with_reducible exact ty_new _ _ _ _ (by simp; done) | with_reducible refine ty_drew ?_ | with_reducible refine ty_alloc ?_ _)) (by repeat (first | with_reducible assumption | with_reducible exact ib_new _ _ (by simp; done) | with_reducible refine IntB.alloc ?_ _ | with_reducible refine IntB.drew ?_ | with_reducible refine IntB.drewN ?_ _)) (by repeat (first | with_reducible assumption | with_reducible exact ib_new _ _ (by simp; done) | with_reducible refine IntB.alloc ?_ _ | with_reducible refine IntB.drew ?_ | with_reducible refine IntB.drewN ?_ _))).mono ?_; rintro e6 w6 ⟨rfl, hA3, hG3⟩
      rw [HV.out] at hA3
      have hv3 : Within w0 w6 := Within.grown (by repeat (first | with_reducible exact Within.refl _ | with_reducible assumption | with_reducible refine Within.alloc ?_ _ | with_reducible refine Within.drew ?_ | with_reducible refine Within.drewN ?_ _ | with_reducible refine Within.setCell ?_ (by first | (simp; done) | (simp; omega)) _ | with_reducible refine Within.trans ?_ (by assumption))) hG3 (by first | (simp; done) | exact hv4.sizes | exact hv5.sizes)
      refine hK _ _ (fun _ => (by repeat (first | with_reducible exact Within.refl _ | with_reducible assumption | with_reducible refine Within.alloc ?_ _ | with_reducible refine Within.drew ?_ | with_reducible refine Within.drewN ?_ _ | with_reducible refine Within.setCell ?_ (by first | (simp; done) | (simp; omega)) _ | with_reducible refine Within.trans ?_ (by assumption)))) ?_
      clear hK K
      try simp only [Act.put, List.setIfInBounds_toArray, List.set_cons_zero, List.set_cons_succ]
      refine sch_one rfl rfl (fun K hK => ?_)
      go_simp
      refine hK _ _ (fun h => absurd h (by decide)) ?_
      clear hK K
      try simp only [Act.put, List.setIfInBounds_toArray, List.set_cons_zero, List.set_cons_succ]
      refine sch_nil ?_
      go_wp2_with fail
      go_meet
      exact ⟨⟨_, rfl, hA3, Nat.le_trans hw0.sizes (by first | (simp; done) | exact hv4.sizes | exact hv5.sizes)⟩, hw0.trans hv3⟩
    · go_simp
      refine (SG1.out _ (by repeat (first | with_reducible assumption | with_reducible exact ib_new _ _ (by simp; done) | with_reducible refine IntB.alloc ?_ _ | with_reducible refine IntB.drew ?_ | with_reducible refine IntB.drewN ?_ _))).mono ?_; rintro e4 w4 ⟨h1, rfl, hA1, hg1, hb4⟩
      have hv4 : Within w0 w4 := Within.trans (by repeat (first | with_reducible exact Within.refl _ | with_reducible assumption | with_reducible refine Within.alloc ?_ _ | with_reducible refine Within.drew ?_ | with_reducible refine Within.drewN ?_ _ | with_reducible refine Within.setCell ?_ (by first | (simp; done) | (simp; omega)) _ | with_reducible refine Within.trans ?_ (by assumption))) hb4
      refine hK _ _ (by repeat (first | with_reducible exact Within.refl _ | with_reducible assumption | with_reducible refine Within.alloc ?_ _ | with_reducible refine Within.drew ?_ | with_reducible refine Within.drewN ?_ _ | with_reducible refine Within.setCell ?_ (by first | (simp; done) | (simp; omega)) _ | with_reducible refine Within.trans ?_ (by assumption))) ?_
      clear hK K
      try simp only [Act.put, List.setIfInBounds_toArray, List.set_cons_zero, List.set_cons_succ]
      refine sch_two rfl rfl rfl rfl (fun K hK => ?_) (fun K hK => ?_)
      · go_simp
        refine hK _ _ (by repeat (first | with_reducible exact Within.refl _ | with_reducible assumption | with_reducible refine Within.alloc ?_ _ | with_reducible refine Within.drew ?_ | with_reducible refine Within.drewN ?_ _ | with_reducible refine Within.setCell ?_ (by first | (simp; done) | (simp; omega)) _ | with_reducible refine Within.trans ?_ (by assumption))) ?_
        clear hK K
        try simp only [Act.put, List.setIfInBounds_toArray, List.set_cons_zero, List.set_cons_succ]
        refine sch_one rfl rfl (fun K hK => ?_)
        go_simp
        have hJ2' := hJ2.of hv4
        refine (SG2.out _ (by repeat (first | with_reducible assumption | with_reducible exact ib_new _ _ (by simp; done) | with_reducible refine IntB.alloc ?_ _ | with_reducible refine IntB.drew ?_ | with_reducible refine IntB.drewN ?_ _))).mono ?_; rintro e5 w5 ⟨h2, rfl, hA2, hg2, hb5⟩
        have hA1' : IntB w5 h1 v1 := IntB.of (by repeat (first | with_reducible assumption | with_reducible exact ib_new _ _ (by simp; done) | with_reducible refine IntB.alloc ?_ _ | with_reducible refine IntB.drew ?_ | with_reducible refine IntB.drewN ?_ _)) hb5
        have hv5 : Within w0 w5 := Within.trans (by repeat (first | with_reducible exact Within.refl _ | with_reducible assumption | with_reducible refine Within.alloc ?_ _ | with_reducible refine Within.drew ?_ | with_reducible refine Within.drewN ?_ _ | with_reducible refine Within.setCell ?_ (by first | (simp; done) | (simp; omega)) _ | with_reducible refine Within.trans ?_ (by assumption))) hb5
        have hT5 : IntTy w5 w4.heap.size := IntTy.of (by repeat (first | with_reducible assumption | with_reducible exact ty_new _ _ _ _ (by simp; done) | with_reducible refine ty_drew ?_ | with_reducible refine ty_alloc ?_ _)) hb5
        refine hK _ _ (fun _ => (by repeat (first | with_reducible exact Within.refl _ | with_reducible assumption | with_reducible refine Within.alloc ?_ _ | with_reducible refine Within.drew ?_ | with_reducible refine Within.drewN ?_ _ | with_reducible refine Within.setCell ?_ (by first | (simp; done) | (simp; omega)) _ | with_reducible refine Within.trans ?_ (by assumption)))) ?_
        clear hK K
        try simp only [Act.put, List.setIfInBounds_toArray, List.set_cons_zero, List.set_cons_succ]
        refine sch_one rfl rfl (fun K hK => ?_)
        go_simp
        refine (BAdd _ h1 h2 v1 v2 (Nat.le_trans HL1.out (by decide)) (Nat.le_trans HL2.out (by decide)) _ (by repeat (first | with_reducible assumption | with_reducible exact ty_new _ _ _ _ (by simp; done) | with_reducible refine ty_drew ?_ | with_reducible refine ty_alloc ?_ _)) (by repeat (first | with_reducible assumption | with_reducible exact ib_new _ _ (by simp; done) | with_reducible refine IntB.alloc ?_ _ | with_reducible refine IntB.drew ?_ | with_reducible refine IntB.drewN ?_ _)) (by repeat (first | with_reducible assumption | with_reducible exact ib_new _ _ (by simp; done) | with_reducible refine IntB.alloc ?_ _ | with_reducible refine IntB.drew ?_ | with_reducible refine IntB.drewN ?_ _))).mono ?_; rintro e6 w6 ⟨rfl, hA3, hG3⟩
        rw [HV.out] at hA3
        have hv3 : Within w0 w6 := Within.grown (by repeat (first | with_reducible exact Within.refl _ | with_reducible assumption | with_reducible refine Within.alloc ?_ _ | with_reducible refine Within.drew ?_ | with_reducible refine Within.drewN ?_ _ | with_reducible refine Within.setCell ?_ (by first | (simp; done) | (simp; omega)) _ | with_reducible refine Within.trans ?_ (by assumption))) hG3 (by first | (simp; done) | exact hv4.sizes | exact hv5.sizes)
        refine hK _ _ (fun _ => (by repeat (first | with_reducible exact Within.refl _ | with_reducible assumption | with_reducible refine Within.alloc ?_ _ | with_reducible refine Within.drew ?_ | with_reducible refine Within.drewN ?_ _ | with_reducible refine Within.setCell ?_ (by first | (simp; done) | (simp; omega)) _ | with_reducible refine Within.trans ?_ (by assumption)))) ?_
        clear hK K
        try simp only [Act.put, List.setIfInBounds_toArray, List.set_cons_zero, List.set_cons_succ]
        refine sch_one rfl rfl (fun K hK => ?_)
        go_simp
        refine hK _ _ (fun h => absurd h (by decide)) ?_
        clear hK K
        try simp only [Act.put, List.setIfInBounds_toArray, List.set_cons_zero, List.set_cons_succ]
        refine sch_nil ?_
        go_wp2_with fail
        go_meet
        exact ⟨⟨_, rfl, hA3, Nat.le_trans hw0.sizes (by first | (simp; done) | exact hv4.sizes | exact hv5.sizes)⟩, hw0.trans hv3⟩
      · go_simp
        have hJ2' := hJ2.of hv4
        refine (SG2.out _ (by repeat (first | with_reducible assumption | with_reducible exact ib_new _ _ (by simp; done) | with_reducible refine IntB.alloc ?_ _ | with_reducible refine IntB.drew ?_ | with_reducible refine IntB.drewN ?_ _))).mono ?_; rintro e5 w5 ⟨h2, rfl, hA2, hg2, hb5⟩
        have hA1' : IntB w5 h1 v1 := IntB.of (by repeat (first | with_reducible assumption | with_reducible exact ib_new _ _ (by simp; done) | with_reducible refine IntB.alloc ?_ _ | with_reducible refine IntB.drew ?_ | with_reducible refine IntB.drewN ?_ _)) hb5
        have hv5 : Within w0 w5 := Within.trans (by repeat (first | with_reducible exact Within.refl _ | with_reducible assumption | with_reducible refine Within.alloc ?_ _ | with_reducible refine Within.drew ?_ | with_reducible refine Within.drewN ?_ _ | with_reducible refine Within.setCell ?_ (by first | (simp; done) | (simp; omega)) _ | with_reducible refine Within.trans ?_ (by assumption))) hb5
        refine hK _ _ (by repeat (first | with_reducible exact Within.refl _ | with_reducible assumption | with_reducible refine Within.alloc ?_ _ | with_reducible refine Within.drew ?_ | with_reducible refine Within.drewN ?_ _ | with_reducible refine Within.setCell ?_ (by first | (simp; done) | (simp; omega)) _ | with_reducible refine Within.trans ?_ (by assumption))) ?_
        clear hK K
        try simp only [Act.put, List.setIfInBounds_toArray, List.set_cons_zero, List.set_cons_succ]
        refine sch_one rfl rfl (fun K hK => ?_)
        go_simp
        refine hK _ _ (fun _ => (by repeat (first | with_reducible exact Within.refl _ | with_reducible assumption | with_reducible refine Within.alloc ?_ _ | with_reducible refine Within.drew ?_ | with_reducible refine Within.drewN ?_ _ | with_reducible refine Within.setCell ?_ (by first | (simp; done) | (simp; omega)) _ | with_reducible refine Within.trans ?_ (by assumption)))) ?_
        clear hK K
        try simp only [Act.put, List.setIfInBounds_toArray, List.set_cons_zero, List.set_cons_succ]
        refine sch_one rfl rfl (fun K hK => ?_)
        go_simp
        refine (BAdd _ h1 h2 v1 v2 (Nat.le_trans HL1.out (by decide)) (Nat.le_trans HL2.out (by decide)) _ (by repeat (first | with_reducible assumption | with_reducible exact ty_new _ _ _ _ (by simp; done) | with_reducible refine ty_drew ?_ | with_reducible refine ty_alloc ?_ _)) (by repeat (first | with_reducible assumption | with_reducible exact ib_new _ _ (by simp; done) | with_reducible refine IntB.alloc ?_ _ | with_reducible refine IntB.drew ?_ | with_reducible refine IntB.drewN ?_ _)) (by repeat (first | with_reducible assumption | with_reducible exact ib_new _ _ (by simp; done) | with_reducible refine IntB.alloc ?_ _ | with_reducible refine IntB.drew ?_ | with_reducible refine IntB.drewN ?_ _))).mono ?_; rintro e6 w6 ⟨rfl, hA3, hG3⟩
        rw [HV.out] at hA3
        have hv3 : Within w0 w6 := Within.grown (by repeat (first | with_reducible exact Within.refl _ | with_reducible assumption | with_reducible refine Within.alloc ?_ _ | with_reducible refine Within.drew ?_ | with_reducible refine Within.drewN ?_ _ | with_reducible refine Within.setCell ?_ (by first | (simp; done) | (simp; omega)) _ | with_reducible refine Within.trans ?_ (by assumption))) hG3 (by first | (simp; done) | exact hv4.sizes | exact hv5.sizes)
        refine hK _ _ (fun _ => (by repeat (first | with_reducible exact Within.refl _ | with_reducible assumption | with_reducible refine Within.alloc ?_ _ | with_reducible refine Within.drew ?_ | with_reducible refine Within.drewN ?_ _ | with_reducible refine Within.setCell ?_ (by first | (simp; done) | (simp; omega)) _ | with_reducible refine Within.trans ?_ (by assumption)))) ?_
        clear hK K
        try simp only [Act.put, List.setIfInBounds_toArray, List.set_cons_zero, List.set_cons_succ]
        refine sch_one rfl rfl (fun K hK => ?_)
        go_simp
        refine hK _ _ (fun h => absurd h (by decide)) ?_
        clear hK K
        try simp only [Act.put, List.setIfInBounds_toArray, List.set_cons_zero, List.set_cons_succ]
        refine sch_nil ?_
        go_wp2_with fail
        go_meet
        exact ⟨⟨_, rfl, hA3, Nat.le_trans hw0.sizes (by first | (simp; done) | exact hv4.sizes | exact hv5.sizes)⟩, hw0.trans hv3⟩
  case rest =>
    obtain ⟨⟨z, rfl, hI, hz⟩, hw⟩ := hcut
    have hz3 : w.heap.size + 3 ≤ z := Nat.le_trans (by simp) hz
    clear hz
    have hsg := Lib.hid (sign_lt v)
    have hww : Within w wc := ((((Within.refl w).alloc _).alloc _).alloc _).trans hw
    have f0 : wc.cell? ⟨w.heap.size, 0, none⟩ = some (.int .i64 24) := (hw.cells _ _ (by simp; omega)).trans (by go_simp)
    have f1 : wc.cell? ⟨w.heap.size, 1, none⟩ = some (.int .i64 (-126)) := (hw.cells _ _ (by simp; omega)).trans (by go_simp)
    have f2 : wc.cell? ⟨w.heap.size, 2, none⟩ = some (.int .i64 127) := (hw.cells _ _ (by simp; omega)).trans (by go_simp)
    have f3 : wc.cell? ⟨w.heap.size, 3, none⟩ = some (.int .i64 8) := (hw.cells _ _ (by simp; omega)).trans (by go_simp)
    have fl : w.heap.size < wc.heap.size := World.block_lt_of_cell? _ _ f0
    have hs3 : w.heap.size + 3 ≤ wc.heap.size := by have := hw.sizes; simp at this; omega
    clear hw
    have d0 : (v.sign == 0) = false := by rw [beq_eq_false_iff_ne]; intro h; exact HV0.out (Int.sign_eq_zero_iff_zero.1 h)
    have d2 : decide (v.sign < 0) = decide (v < 0) := by rw [decide_eq_decide]; exact hsg.out
    go_wp2_with fail
    refine (Bsign z v _ hI).mono ?_; rintro e7 w7 ⟨rfl, rfl⟩
    go_wp2
    refine wp_region_schB ((w.heap.size + 3)) (fun W => W.cell? ⟨w.heap.size, 0, none⟩ = some (.int .i64 24) ∧ W.cell? ⟨w.heap.size, 1, none⟩ = some (.int .i64 (-126)) ∧ W.cell? ⟨w.heap.size, 2, none⟩ = some (.int .i64 127) ∧ W.cell? ⟨w.heap.size, 3, none⟩ = some (.int .i64 8) ∧ w.heap.size < W.heap.size ∧ IntB W z v ∧ w.heap.size + 3 ≤ W.heap.size ∧ Within w W) 13 (.firm 0 (.firm 1 (.firm 4 (.firm 5 (.firm 7 (.firm 8 (.one 2 (.firm 3 (.one 6 (.one 9 (.firm 10 (.firm 11 (.firm 12 (.one 13 .nil)))))))))))))) (by kernel_rfl) (by kernel_rfl) ⟨f0, f1, f2, f3, fl, hI, hs3, hww⟩ ?_
    rintro w0 ⟨f0, f1, f2, f3, fl, hI, hs3, hww⟩
    try simp only [Act.put, List.setIfInBounds_toArray, List.set_cons_zero, List.set_cons_succ]
    apply sch_firm rfl rfl (by repeat (first | with_reducible exact Below.refl _ _ | with_reducible assumption | with_reducible refine Below.drew ?_ | with_reducible refine Below.alloc ?_ (by first | assumption | (simp; omega)) _ | with_reducible refine Below.trans ?_ (by assumption)))
    · intro wq hq
      have hcq : ∀ b o, b < (w.heap.size + 3) → wq.cell? ⟨b, o, none⟩ = w0.cell? ⟨b, o, none⟩ := fun b o hb => hq.cell (p := ⟨b, o, none⟩) hb
      clear hq
      go_simp
      first | rfl | (trace_state; fail)
    try simp only [Act.put, List.setIfInBounds_toArray, List.set_cons_zero, List.set_cons_succ]
    apply sch_firm rfl rfl (by repeat (first | with_reducible exact Below.refl _ _ | with_reducible assumption | with_reducible refine Below.drew ?_ | with_reducible refine Below.alloc ?_ (by first | assumption | (simp; omega)) _ | with_reducible refine Below.trans ?_ (by assumption)))
    · intro wq hq
      have hcq : ∀ b o, b < (w.heap.size + 3) → wq.cell? ⟨b, o, none⟩ = w0.cell? ⟨b, o, none⟩ := fun b o hb => hq.cell (p := ⟨b, o, none⟩) hb
      clear hq
      go_simp
      first | rfl | (trace_state; fail)
    try simp only [Act.put, List.setIfInBounds_toArray, List.set_cons_zero, List.set_cons_succ]
    apply sch_firm rfl rfl (by repeat (first | with_reducible exact Below.refl _ _ | with_reducible assumption | with_reducible refine Below.drew ?_ | with_reducible refine Below.alloc ?_ (by first | assumption | (simp; omega)) _ | with_reducible refine Below.trans ?_ (by assumption)))
    · intro wq hq
      have hcq : ∀ b o, b < (w.heap.size + 3) → wq.cell? ⟨b, o, none⟩ = w0.cell? ⟨b, o, none⟩ := fun b o hb => hq.cell (p := ⟨b, o, none⟩) hb
      clear hq
      go_simp
      first | rfl | (trace_state; fail)
    try simp only [Act.put, List.setIfInBounds_toArray, List.set_cons_zero, List.set_cons_succ]
    apply sch_firm rfl rfl (by repeat (first | with_reducible exact Below.refl _ _ | with_reducible assumption | with_reducible refine Below.drew ?_ | with_reducible refine Below.alloc ?_ (by first | assumption | (simp; omega)) _ | with_reducible refine Below.trans ?_ (by assumption)))
    · intro wq hq
      have hcq : ∀ b o, b < (w.heap.size + 3) → wq.cell? ⟨b, o, none⟩ = w0.cell? ⟨b, o, none⟩ := fun b o hb => hq.cell (p := ⟨b, o, none⟩) hb
      clear hq
      go_simp
      first | rfl | (trace_state; fail)
    try simp only [Act.put, List.setIfInBounds_toArray, List.set_cons_zero, List.set_cons_succ]
    apply sch_firm rfl rfl (by repeat (first | with_reducible exact Below.refl _ _ | with_reducible assumption | with_reducible refine Below.drew ?_ | with_reducible refine Below.alloc ?_ (by first | assumption | (simp; omega)) _ | with_reducible refine Below.trans ?_ (by assumption)))
    · intro wq hq
      have hcq : ∀ b o, b < (w.heap.size + 3) → wq.cell? ⟨b, o, none⟩ = w0.cell? ⟨b, o, none⟩ := fun b o hb => hq.cell (p := ⟨b, o, none⟩) hb
      clear hq
      go_simp
      first | rfl | (trace_state; fail)
    try simp only [Act.put, List.setIfInBounds_toArray, List.set_cons_zero, List.set_cons_succ]
    apply sch_firm rfl rfl (by repeat (first | with_reducible exact Below.refl _ _ | with_reducible assumption | with_reducible refine Below.drew ?_ | with_reducible refine Below.alloc ?_ (by first | assumption | (simp; omega)) _ | with_reducible refine Below.trans ?_ (by assumption)))
    · intro wq hq
      have hcq : ∀ b o, b < (w.heap.size + 3) → wq.cell? ⟨b, o, none⟩ = w0.cell? ⟨b, o, none⟩ := fun b o hb => hq.cell (p := ⟨b, o, none⟩) hb
      clear hq
      go_simp
      first | rfl | (trace_state; fail)
    try simp only [Act.put, List.setIfInBounds_toArray, List.set_cons_zero, List.set_cons_succ]
    refine sch_one rfl rfl (fun K hK => ?_)
    go_simp
    refine (Bsign z v _ (by first | exact hI | exact hI.drew)).mono ?_; rintro e8 w8 ⟨rfl, hw8⟩
    subst hw8
    have hb8 : Below (w.heap.size + 3) w0 w0.drew := Below.drew (Below.refl _ _)
    refine hK _ _ (fun _ => (by repeat (first | with_reducible exact Below.refl _ _ | with_reducible assumption | with_reducible refine Below.drew ?_ | with_reducible refine Below.alloc ?_ (by first | assumption | (simp; omega)) _ | with_reducible refine Below.trans ?_ (by assumption)))) ?_
    clear hK K
    try simp only [Act.put, List.setIfInBounds_toArray, List.set_cons_zero, List.set_cons_succ]
    apply sch_firm rfl rfl (by repeat (first | with_reducible exact Below.refl _ _ | with_reducible assumption | with_reducible refine Below.drew ?_ | with_reducible refine Below.alloc ?_ (by first | assumption | (simp; omega)) _ | with_reducible refine Below.trans ?_ (by assumption)))
    · intro wq hq
      have hcq : ∀ b o, b < (w.heap.size + 3) → wq.cell? ⟨b, o, none⟩ = w0.cell? ⟨b, o, none⟩ := fun b o hb => hq.cell (p := ⟨b, o, none⟩) hb
      clear hq
      go_simp
      first | rfl | (trace_state; fail)
    try simp only [Act.put, List.setIfInBounds_toArray, List.set_cons_zero, List.set_cons_succ]
    refine sch_one rfl rfl (fun K hK => ?_)
    go_simp
    refine (Babs z z v (Nat.le_trans HLV.out (by decide)) _ (by exact hI.drew.ty) (by exact hI.drew)).mono ?_; rintro e9 w9 ⟨rfl, hA, hG⟩
    have hv9 : Below (w.heap.size + 3) w0 w9 := Below.grown hb8 hG (by exact hs3) (fun k e => by obtain rfl := Option.some.inj e; exact hz3)
    have hww9 : Within w w9 := Within.grown (by exact hww.drew) hG (by omega)
    clear hG
    refine hK _ _ (fun _ => (by repeat (first | with_reducible exact Below.refl _ _ | with_reducible assumption | with_reducible refine Below.drew ?_ | with_reducible refine Below.alloc ?_ (by first | assumption | (simp; omega)) _ | with_reducible refine Below.trans ?_ (by assumption)))) ?_
    clear hK K
    try simp only [Act.put, List.setIfInBounds_toArray, List.set_cons_zero, List.set_cons_succ]
    refine sch_one rfl rfl (fun K hK => ?_)
    go_simp
    refine (RroundS (decide (v < 0)) false z v.natAbs e mode HE.out HLV.out (by have := HV0.out; omega) _ hA).mono ?_; rintro e10 w10 ⟨rfl, h10⟩
    have hv10 : Below (w.heap.size + 3) w0 w10 := Below.trans hv9 (Below.mono h10 (Nat.le_trans hs3 (Below.size hv9)))
    refine hK _ _ (fun _ => (by repeat (first | with_reducible exact Below.refl _ _ | with_reducible assumption | with_reducible refine Below.drew ?_ | with_reducible refine Below.alloc ?_ (by first | assumption | (simp; omega)) _ | with_reducible refine Below.trans ?_ (by assumption)))) ?_
    clear hK K
    try simp only [Act.put, List.setIfInBounds_toArray, List.set_cons_zero, List.set_cons_succ]
    apply sch_firm rfl rfl (by repeat (first | with_reducible exact Below.refl _ _ | with_reducible assumption | with_reducible refine Below.drew ?_ | with_reducible refine Below.alloc ?_ (by first | assumption | (simp; omega)) _ | with_reducible refine Below.trans ?_ (by assumption)))
    · intro wq hq
      have hcq : ∀ b o, b < (w.heap.size + 3) → wq.cell? ⟨b, o, none⟩ = w0.cell? ⟨b, o, none⟩ := fun b o hb => hq.cell (p := ⟨b, o, none⟩) hb
      clear hq
      go_simp
      first | rfl | (trace_state; fail)
    try simp only [Act.put, List.setIfInBounds_toArray, List.set_cons_zero, List.set_cons_succ]
    apply sch_firm rfl rfl (by repeat (first | with_reducible exact Below.refl _ _ | with_reducible assumption | with_reducible refine Below.drew ?_ | with_reducible refine Below.alloc ?_ (by first | assumption | (simp; omega)) _ | with_reducible refine Below.trans ?_ (by assumption)))
    · intro wq hq
      have hcq : ∀ b o, b < (w.heap.size + 3) → wq.cell? ⟨b, o, none⟩ = w0.cell? ⟨b, o, none⟩ := fun b o hb => hq.cell (p := ⟨b, o, none⟩) hb
      clear hq
      go_simp
      first | rfl | (trace_state; fail)
    try simp only [Act.put, List.setIfInBounds_toArray, List.set_cons_zero, List.set_cons_succ]
    apply sch_firm rfl rfl (by repeat (first | with_reducible exact Below.refl _ _ | with_reducible assumption | with_reducible refine Below.drew ?_ | with_reducible refine Below.alloc ?_ (by first | assumption | (simp; omega)) _ | with_reducible refine Below.trans ?_ (by assumption)))
    · intro wq hq
      have hcq : ∀ b o, b < (w.heap.size + 3) → wq.cell? ⟨b, o, none⟩ = w0.cell? ⟨b, o, none⟩ := fun b o hb => hq.cell (p := ⟨b, o, none⟩) hb
      clear hq
      go_simp
      first | rfl | (trace_state; fail)
    try simp only [Act.put, List.setIfInBounds_toArray, List.set_cons_zero, List.set_cons_succ]
    refine sch_one rfl rfl (fun K hK => ?_)
    go_simp
    refine hK _ _ (fun h => absurd h (by decide)) ?_
    clear hK K
    try simp only [Act.put, List.setIfInBounds_toArray, List.set_cons_zero, List.set_cons_succ]
    refine sch_nil ?_
    have hw10 := hww9.trans h10
    go_wp2
    go_ret2
    exact ⟨rfl, hw10⟩
set_option maxRecDepth 100000 in
set_option maxHeartbeats 600000 in
theorem Radd_zero_n (E1 E2 mode : Int) (b1 b2 : Bool) (g1 g2 : Nat) (e v1 v2 v : Int) (M1 M2 : Nat) (he : min E1 E2 = e) (hv : v1 + v2 = v) (hl1 : (dg v1.natAbs).length ≤ 1400) (hl2 : (dg v2.natAbs).length ≤ 1400) (hlv : (dg v.natAbs).length ≤ 900) (SG1 : Hid (∀ w, IntB w g1 (M1 : Int) → Calls Tryz.prog 106 #[.agg #[.int .i64 0, .bool b1, .pointer (some ⟨g1, 0, none⟩), .int .i64 E1], .int .i64 e] w (fun en w' => ∃ h, en = .returned (.pointer (some ⟨h, 0, none⟩)) ∧ IntB w' h (v1) ∧ w.heap.size ≤ h ∧ Within w w'))) (SG2 : Hid (∀ w, IntB w g2 (M2 : Int) → Calls Tryz.prog 106 #[.agg #[.int .i64 0, .bool b2, .pointer (some ⟨g2, 0, none⟩), .int .i64 E2], .int .i64 e] w (fun en w' => ∃ h, en = .returned (.pointer (some ⟨h, 0, none⟩)) ∧ IntB w' h (v2) ∧ w.heap.size ≤ h ∧ Within w w'))) (hv0 : v = 0) (hm1 : (M1 : Int) ≠ 0) (w : World) (hI1 : IntB w g1 (M1 : Int)) (hI2 : IntB w g2 (M2 : Int)) : Calls Tryz.prog 67 #[fmS, .agg #[.int .i64 0, .bool b1, .pointer (some ⟨g1, 0, none⟩), .int .i64 E1], .agg #[.int .i64 0, .bool b2, .pointer (some ⟨g2, 0, none⟩), .int .i64 E2], .int .i64 mode] w (fun e' w' => e' = .returned (.tuple #[.int .u64 ((nghtS (decide (mode = 4)) : Nat)), .int .i64 0]) ∧ Within w w') := by
  have HL1 := Lib.hid hl1; have HL2 := Lib.hid hl2; have HLV := Lib.hid hlv; have HV := Lib.hid hv; have HV0 := Lib.hid hv0; clear hl1 hl2 hlv hv hv0
  go_enter Tryz.func67, Tryz.ntmps67
  go_upto_region 10 with fail
  go_cut [11] (fun s11 wx => PtrI (((w.alloc (.cells #[.int .i64 24, .int .i64 (-126), .int .i64 127, .int .i64 8] 60)).alloc (.cells #[.int .i64 0, .bool b1, .pointer (some ⟨g1, 0, none⟩), .int .i64 E1] 65)).alloc (.cells #[.int .i64 0, .bool b2, .pointer (some ⟨g2, 0, none⟩), .int .i64 E2] 65)) v s11 wx ∧ Within (((w.alloc (.cells #[.int .i64 24, .int .i64 (-126), .int .i64 127, .int .i64 8] 60)).alloc (.cells #[.int .i64 0, .bool b1, .pointer (some ⟨g1, 0, none⟩), .int .i64 E1] 65)).alloc (.cells #[.int .i64 0, .bool b2, .pointer (some ⟨g2, 0, none⟩), .int .i64 E2] 65)) wx)
  case first =>
    refine wp_region_schG (fun W => W.cell? ⟨w.heap.size + 1, 0, none⟩ = some (.int .i64 0) ∧ W.cell? ⟨w.heap.size + 1, 1, none⟩ = some (.bool b1) ∧ W.cell? ⟨w.heap.size + 1, 2, none⟩ = some (.pointer (some ⟨g1, 0, none⟩)) ∧ W.cell? ⟨w.heap.size + 1, 3, none⟩ = some (.int .i64 E1) ∧ W.cell? ⟨w.heap.size + 1 + 1, 0, none⟩ = some (.int .i64 0) ∧ W.cell? ⟨w.heap.size + 1 + 1, 1, none⟩ = some (.bool b2) ∧ W.cell? ⟨w.heap.size + 1 + 1, 2, none⟩ = some (.pointer (some ⟨g2, 0, none⟩)) ∧ W.cell? ⟨w.heap.size + 1 + 1, 3, none⟩ = some (.int .i64 E2) ∧ IntB W g1 (M1 : Int) ∧ IntB W g2 (M2 : Int) ∧ Within (((w.alloc (.cells #[.int .i64 24, .int .i64 (-126), .int .i64 127, .int .i64 8] 60)).alloc (.cells #[.int .i64 0, .bool b1, .pointer (some ⟨g1, 0, none⟩), .int .i64 E1] 65)).alloc (.cells #[.int .i64 0, .bool b2, .pointer (some ⟨g2, 0, none⟩), .int .i64 E2] 65)) W ∧ w.heap.size + 1 < W.heap.size ∧ w.heap.size + 1 + 1 < W.heap.size) 8 (.firm 1 (.firm 2 (.firm 4 (.firm 5 (.two 0 (.one 3 (.one 6 (.one 7 (.one 8 .nil)))) 3 (.two 0 (.one 6 (.one 7 (.one 8 .nil))) 6 (.one 0 (.one 7 (.one 8 .nil))))))))) (by kernel_rfl) (by kernel_rfl) ⟨by go_simp, by go_simp, by go_simp, by go_simp, by go_simp, by go_simp, by go_simp, by go_simp, (by repeat (first | with_reducible assumption | with_reducible exact ib_new _ _ (by simp; done) | with_reducible refine IntB.alloc ?_ _ | with_reducible refine IntB.drew ?_ | with_reducible refine IntB.drewN ?_ _)), (by repeat (first | with_reducible assumption | with_reducible exact ib_new _ _ (by simp; done) | with_reducible refine IntB.alloc ?_ _ | with_reducible refine IntB.drew ?_ | with_reducible refine IntB.drewN ?_ _)), Within.refl _, by first | (simp; done) | (simp; omega), by first | (simp; done) | (simp; omega)⟩ ?_
    rintro w0 ⟨c0, c1, c2, c3, c4, c5, c6, c7, hJ1, hJ2, hw0, hs0, hs1⟩
    try simp only [Act.put, List.setIfInBounds_toArray, List.set_cons_zero, List.set_cons_succ]
    repeat
      apply sch_firm rfl rfl (by repeat (first | with_reducible exact Within.refl _ | with_reducible assumption | with_reducible refine Within.alloc ?_ _ | with_reducible refine Within.drew ?_ | with_reducible refine Within.drewN ?_ _ | with_reducible refine Within.setCell ?_ (by first | (simp; done) | (simp; omega)) _ | with_reducible refine Within.trans ?_ (by assumption)))
      · intro wq hq
        have hcq := hq.cells
        clear hq
        go_simp
        first | rfl | (trace_state; fail)
      try simp only [Act.put, List.setIfInBounds_toArray, List.set_cons_zero, List.set_cons_succ]
    refine sch_two rfl rfl rfl rfl (fun K hK => ?_) (fun K hK => ?_)
    · go_simp
      refine hK _ _ (by repeat (first | with_reducible exact Within.refl _ | with_reducible assumption | with_reducible refine Within.alloc ?_ _ | with_reducible refine Within.drew ?_ | with_reducible refine Within.drewN ?_ _ | with_reducible refine Within.setCell ?_ (by first | (simp; done) | (simp; omega)) _ | with_reducible refine Within.trans ?_ (by assumption))) ?_
      clear hK K
      try simp only [Act.put, List.setIfInBounds_toArray, List.set_cons_zero, List.set_cons_succ]
      refine sch_one rfl rfl (fun K hK => ?_)
      go_simp
      refine (SG1.out _ (by repeat (first | with_reducible assumption | with_reducible exact ib_new _ _ (by simp; done) | with_reducible refine IntB.alloc ?_ _ | with_reducible refine IntB.drew ?_ | with_reducible refine IntB.drewN ?_ _))).mono ?_; rintro e4 w4 ⟨h1, rfl, hA1, hg1, hb4⟩
      have hv4 : Within w0 w4 := Within.trans (by repeat (first | with_reducible exact Within.refl _ | with_reducible assumption | with_reducible refine Within.alloc ?_ _ | with_reducible refine Within.drew ?_ | with_reducible refine Within.drewN ?_ _ | with_reducible refine Within.setCell ?_ (by first | (simp; done) | (simp; omega)) _ | with_reducible refine Within.trans ?_ (by assumption))) hb4
      have hT4 : IntTy w4 w0.heap.size := IntTy.of (by repeat (first | with_reducible assumption | with_reducible exact ty_new _ _ _ _ (by simp; done) | with_reducible refine ty_drew ?_ | with_reducible refine ty_alloc ?_ _)) hb4
      refine hK _ _ (fun _ => (by repeat (first | with_reducible exact Within.refl _ | with_reducible assumption | with_reducible refine Within.alloc ?_ _ | with_reducible refine Within.drew ?_ | with_reducible refine Within.drewN ?_ _ | with_reducible refine Within.setCell ?_ (by first | (simp; done) | (simp; omega)) _ | with_reducible refine Within.trans ?_ (by assumption)))) ?_
      clear hK K
      try simp only [Act.put, List.setIfInBounds_toArray, List.set_cons_zero, List.set_cons_succ]
      refine sch_one rfl rfl (fun K hK => ?_)
      go_simp
      have hJ2' := hJ2.of hv4
      refine (SG2.out _ (by repeat (first | with_reducible assumption | with_reducible exact ib_new _ _ (by simp; done) | with_reducible refine IntB.alloc ?_ _ | with_reducible refine IntB.drew ?_ | with_reducible refine IntB.drewN ?_ _))).mono ?_; rintro e5 w5 ⟨h2, rfl, hA2, hg2, hb5⟩
      have hA1' : IntB w5 h1 v1 := IntB.of (by repeat (first | with_reducible assumption | with_reducible exact ib_new _ _ (by simp; done) | with_reducible refine IntB.alloc ?_ _ | with_reducible refine IntB.drew ?_ | with_reducible refine IntB.drewN ?_ _)) hb5
      have hv5 : Within w0 w5 := Within.trans (by repeat (first | with_reducible exact Within.refl _ | with_reducible assumption | with_reducible refine Within.alloc ?_ _ | with_reducible refine Within.drew ?_ | with_reducible refine Within.drewN ?_ _ | with_reducible refine Within.setCell ?_ (by first | (simp; done) | (simp; omega)) _ | with_reducible refine Within.trans ?_ (by assumption))) hb5
      have hT5 : IntTy w5 w0.heap.size := IntTy.of (by repeat (first | with_reducible assumption | with_reducible exact ty_new _ _ _ _ (by simp; done) | with_reducible refine ty_drew ?_ | with_reducible refine ty_alloc ?_ _)) hb5
      refine hK _ _ (fun _ => (by repeat (first | with_reducible exact Within.refl _ | with_reducible assumption | with_reducible refine Within.alloc ?_ _ | with_reducible refine Within.drew ?_ | with_reducible refine Within.drewN ?_ _ | with_reducible refine Within.setCell ?_ (by first | (simp; done) | (simp; omega)) _ | with_reducible refine Within.trans ?_ (by assumption)))) ?_
      clear hK K
      try simp only [Act.put, List.setIfInBounds_toArray, List.set_cons_zero, List.set_cons_succ]
      refine sch_one rfl rfl (fun K hK => ?_)
      go_simp
      refine (BAdd _ h1 h2 v1 v2 (Nat.le_trans HL1.out (by decide)) (Nat.le_trans HL2.out (by decide)) _ (by repeat (first | with_reducible assumption | with_reducible exact ty_new _ _ _ _ (by simp; done) | with_reducible refine ty_drew ?_ | with_reducible refine ty_alloc ?_ _)) (by repeat (first | with_reducible assumption | with_reducible exact ib_new _ _ (by simp; done) | with_reducible refine IntB.alloc ?_ _ | with_reducible refine IntB.drew ?_ | with_reducible refine IntB.drewN ?_ _)) (by repeat (first | with_reducible assumption | with_reducible exact ib_new _ _ (by simp; done) | with_reducible refine IntB.alloc ?_ _ | with_reducible refine IntB.drew ?_ | with_reducible refine IntB.drewN ?_ _))).mono ?_; rintro e6 w6 ⟨rfl, hA3, hG3⟩
      rw [HV.out] at hA3
      have hv3 : Within w0 w6 := Within.grown (by repeat (first | with_reducible exact Within.refl _ | with_reducible assumption | with_reducible refine Within.alloc ?_ _ | with_reducible refine Within.drew ?_ | with_reducible refine Within.drewN ?_ _ | with_reducible refine Within.setCell ?_ (by first | (simp; done) | (simp; omega)) _ | with_reducible refine Within.trans ?_ (by assumption))) hG3 (by first | (simp; done) | exact hv4.sizes | exact hv5.sizes)
      refine hK _ _ (fun _ => (by repeat (first | with_reducible exact Within.refl _ | with_reducible assumption | with_reducible refine Within.alloc ?_ _ | with_reducible refine Within.drew ?_ | with_reducible refine Within.drewN ?_ _ | with_reducible refine Within.setCell ?_ (by first | (simp; done) | (simp; omega)) _ | with_reducible refine Within.trans ?_ (by assumption)))) ?_
      clear hK K
      try simp only [Act.put, List.setIfInBounds_toArray, List.set_cons_zero, List.set_cons_succ]
      refine sch_one rfl rfl (fun K hK => ?_)
      go_simp
      refine hK _ _ (fun h => absurd h (by decide)) ?_
      clear hK K
      try simp only [Act.put, List.setIfInBounds_toArray, List.set_cons_zero, List.set_cons_succ]
      refine sch_nil ?_
      go_wp2_with fail
      go_meet
      exact ⟨⟨_, rfl, hA3, Nat.le_trans hw0.sizes (by first | (simp; done) | exact hv4.sizes | exact hv5.sizes)⟩, hw0.trans hv3⟩
    · go_simp
      refine (SG1.out _ (by repeat (first | with_reducible assumption | with_reducible exact ib_new _ _ (by simp; done) | with_reducible refine IntB.alloc ?_ _ | with_reducible refine IntB.drew ?_ | with_reducible refine IntB.drewN ?_ _))).mono ?_; rintro e4 w4 ⟨h1, rfl, hA1, hg1, hb4⟩
      have hv4 : Within w0 w4 := Within.trans (by repeat (first | with_reducible exact Within.refl _ | with_reducible assumption | with_reducible refine Within.alloc ?_ _ | with_reducible refine Within.drew ?_ | with_reducible refine Within.drewN ?_ _ | with_reducible refine Within.setCell ?_ (by first | (simp; done) | (simp; omega)) _ | with_reducible refine Within.trans ?_ (by assumption))) hb4
      refine hK _ _ (by repeat (first | with_reducible exact Within.refl _ | with_reducible assumption | with_reducible refine Within.alloc ?_ _ | with_reducible refine Within.drew ?_ | with_reducible refine Within.drewN ?_ _ | with_reducible refine Within.setCell ?_ (by first | (simp; done) | (simp; omega)) _ | with_reducible refine Within.trans ?_ (by assumption))) ?_
      clear hK K
      try simp only [Act.put, List.setIfInBounds_toArray, List.set_cons_zero, List.set_cons_succ]
      refine sch_two rfl rfl rfl rfl (fun K hK => ?_) (fun K hK => ?_)
      · go_simp
        refine hK _ _ (by repeat (first | with_reducible exact Within.refl _ | with_reducible assumption | with_reducible refine Within.alloc ?_ _ | with_reducible refine Within.drew ?_ | with_reducible refine Within.drewN ?_ _ | with_reducible refine Within.setCell ?_ (by first | (simp; done) | (simp; omega)) _ | with_reducible refine Within.trans ?_ (by assumption))) ?_
        clear hK K
        try simp only [Act.put, List.setIfInBounds_toArray, List.set_cons_zero, List.set_cons_succ]
        refine sch_one rfl rfl (fun K hK => ?_)
        go_simp
        have hJ2' := hJ2.of hv4
        refine (SG2.out _ (by repeat (first | with_reducible assumption | with_reducible exact ib_new _ _ (by simp; done) | with_reducible refine IntB.alloc ?_ _ | with_reducible refine IntB.drew ?_ | with_reducible refine IntB.drewN ?_ _))).mono ?_; rintro e5 w5 ⟨h2, rfl, hA2, hg2, hb5⟩
        have hA1' : IntB w5 h1 v1 := IntB.of (by repeat (first | with_reducible assumption | with_reducible exact ib_new _ _ (by simp; done) | with_reducible refine IntB.alloc ?_ _ | with_reducible refine IntB.drew ?_ | with_reducible refine IntB.drewN ?_ _)) hb5
        have hv5 : Within w0 w5 := Within.trans (by repeat (first | with_reducible exact Within.refl _ | with_reducible assumption | with_reducible refine Within.alloc ?_ _ | with_reducible refine Within.drew ?_ | with_reducible refine Within.drewN ?_ _ | with_reducible refine Within.setCell ?_ (by first | (simp; done) | (simp; omega)) _ | with_reducible refine Within.trans ?_ (by assumption))) hb5
        have hT5 : IntTy w5 w4.heap.size := IntTy.of (by repeat (first | with_reducible assumption | with_reducible exact ty_new _ _ _ _ (by simp; done) | with_reducible refine ty_drew ?_ | with_reducible refine ty_alloc ?_ _)) hb5
        refine hK _ _ (fun _ => (by repeat (first | with_reducible exact Within.refl _ | with_reducible assumption | with_reducible refine Within.alloc ?_ _ | with_reducible refine Within.drew ?_ | with_reducible refine Within.drewN ?_ _ | with_reducible refine Within.setCell ?_ (by first | (simp; done) | (simp; omega)) _ | with_reducible refine Within.trans ?_ (by assumption)))) ?_
        clear hK K
        try simp only [Act.put, List.setIfInBounds_toArray, List.set_cons_zero, List.set_cons_succ]
        refine sch_one rfl rfl (fun K hK => ?_)
        go_simp
        refine (BAdd _ h1 h2 v1 v2 (Nat.le_trans HL1.out (by decide)) (Nat.le_trans HL2.out (by decide)) _ (by repeat (first | with_reducible assumption | with_reducible exact ty_new _ _ _ _ (by simp; done) | with_reducible refine ty_drew ?_ | with_reducible refine ty_alloc ?_ _)) (by repeat (first | with_reducible assumption | with_reducible exact ib_new _ _ (by simp; done) | with_reducible refine IntB.alloc ?_ _ | with_reducible refine IntB.drew ?_ | with_reducible refine IntB.drewN ?_ _)) (by repeat (first | with_reducible assumption | with_reducible exact ib_new _ _ (by simp; done) | with_reducible refine IntB.alloc ?_ _ | with_reducible refine IntB.drew ?_ | with_reducible refine IntB.drewN ?_ _))).mono ?_; rintro e6 w6 ⟨rfl, hA3, hG3⟩
        rw [HV.out] at hA3
        have hv3 : Within w0 w6 := Within.grown (by repeat (first | with_reducible exact Within.refl _ | with_reducible assumption | with_reducible refine Within.alloc ?_ _ | with_reducible refine Within.drew ?_ | with_reducible refine Within.drewN ?_ _ | with_reducible refine Within.setCell ?_ (by first | (simp; done) | (simp; omega)) _ | with_reducible refine Within.trans ?_ (by assumption))) hG3 (by first | (simp; done) | exact hv4.sizes | exact hv5.sizes)
        refine hK _ _ (fun _ => (by repeat (first | with_reducible exact Within.refl _ | with_reducible assumption | with_reducible refine Within.alloc ?_ _ | with_reducible refine Within.drew ?_ | with_reducible refine Within.drewN ?_ _ | with_reducible refine Within.setCell ?_ (by first | (simp; done) | (simp; omega)) _ | with_reducible refine Within.trans ?_ (by assumption)))) ?_
        clear hK K
        try simp only [Act.put, List.setIfInBounds_toArray, List.set_cons_zero, List.set_cons_succ]
        refine sch_one rfl rfl (fun K hK => ?_)
        go_simp
        refine hK _ _ (fun h => absurd h (by decide)) ?_
        clear hK K
        try simp only [Act.put, List.setIfInBounds_toArray, List.set_cons_zero, List.set_cons_succ]
        refine sch_nil ?_
        go_wp2_with fail
        go_meet
        exact ⟨⟨_, rfl, hA3, Nat.le_trans hw0.sizes (by first | (simp; done) | exact hv4.sizes | exact hv5.sizes)⟩, hw0.trans hv3⟩
      · go_simp
        have hJ2' := hJ2.of hv4
        refine (SG2.out _ (by repeat (first | with_reducible assumption | with_reducible exact ib_new _ _ (by simp; done) | with_reducible refine IntB.alloc ?_ _ | with_reducible refine IntB.drew ?_ | with_reducible refine IntB.drewN ?_ _))).mono ?_; rintro e5 w5 ⟨h2, rfl, hA2, hg2, hb5⟩
        have hA1' : IntB w5 h1 v1 := IntB.of (by repeat (first | with_reducible assumption | with_reducible exact ib_new _ _ (by simp; done) | with_reducible refine IntB.alloc ?_ _ | with_reducible refine IntB.drew ?_ | with_reducible refine IntB.drewN ?_ _)) hb5
        have hv5 : Within w0 w5 := Within.trans (by repeat (first | with_reducible exact Within.refl _ | with_reducible assumption | with_reducible refine Within.alloc ?_ _ | with_reducible refine Within.drew ?_ | with_reducible refine Within.drewN ?_ _ | with_reducible refine Within.setCell ?_ (by first | (simp; done) | (simp; omega)) _ | with_reducible refine Within.trans ?_ (by assumption))) hb5
        refine hK _ _ (by repeat (first | with_reducible exact Within.refl _ | with_reducible assumption | with_reducible refine Within.alloc ?_ _ | with_reducible refine Within.drew ?_ | with_reducible refine Within.drewN ?_ _ | with_reducible refine Within.setCell ?_ (by first | (simp; done) | (simp; omega)) _ | with_reducible refine Within.trans ?_ (by assumption))) ?_
        clear hK K
        try simp only [Act.put, List.setIfInBounds_toArray, List.set_cons_zero, List.set_cons_succ]
        refine sch_one rfl rfl (fun K hK => ?_)
        go_simp
        refine hK _ _ (fun _ => (by repeat (first | with_reducible exact Within.refl _ | with_reducible assumption | with_reducible refine Within.alloc ?_ _ | with_reducible refine Within.drew ?_ | with_reducible refine Within.drewN ?_ _ | with_reducible refine Within.setCell ?_ (by first | (simp; done) | (simp; omega)) _ | with_reducible refine Within.trans ?_ (by assumption)))) ?_
        clear hK K
        try simp only [Act.put, List.setIfInBounds_toArray, List.set_cons_zero, List.set_cons_succ]
        refine sch_one rfl rfl (fun K hK => ?_)
        go_simp
        refine (BAdd _ h1 h2 v1 v2 (Nat.le_trans HL1.out (by decide)) (Nat.le_trans HL2.out (by decide)) _ (by repeat (first | with_reducible assumption | with_reducible exact ty_new _ _ _ _ (by simp; done) | with_reducible refine ty_drew ?_ | with_reducible refine ty_alloc ?_ _)) (by repeat (first | with_reducible assumption | with_reducible exact ib_new _ _ (by simp; done) | with_reducible refine IntB.alloc ?_ _ | with_reducible refine IntB.drew ?_ | with_reducible refine IntB.drewN ?_ _)) (by repeat (first | with_reducible assumption | with_reducible exact ib_new _ _ (by simp; done) | with_reducible refine IntB.alloc ?_ _ | with_reducible refine IntB.drew ?_ | with_reducible refine IntB.drewN ?_ _))).mono ?_; rintro e6 w6 ⟨rfl, hA3, hG3⟩
        rw [HV.out] at hA3
        have hv3 : Within w0 w6 := Within.grown (by repeat (first | with_reducible exact Within.refl _ | with_reducible assumption | with_reducible refine Within.alloc ?_ _ | with_reducible refine Within.drew ?_ | with_reducible refine Within.drewN ?_ _ | with_reducible refine Within.setCell ?_ (by first | (simp; done) | (simp; omega)) _ | with_reducible refine Within.trans ?_ (by assumption))) hG3 (by first | (simp; done) | exact hv4.sizes | exact hv5.sizes)
        refine hK _ _ (fun _ => (by repeat (first | with_reducible exact Within.refl _ | with_reducible assumption | with_reducible refine Within.alloc ?_ _ | with_reducible refine Within.drew ?_ | with_reducible refine Within.drewN ?_ _ | with_reducible refine Within.setCell ?_ (by first | (simp; done) | (simp; omega)) _ | with_reducible refine Within.trans ?_ (by assumption)))) ?_
        clear hK K
        try simp only [Act.put, List.setIfInBounds_toArray, List.set_cons_zero, List.set_cons_succ]
        refine sch_one rfl rfl (fun K hK => ?_)
        go_simp
        refine hK _ _ (fun h => absurd h (by decide)) ?_
        clear hK K
        try simp only [Act.put, List.setIfInBounds_toArray, List.set_cons_zero, List.set_cons_succ]
        refine sch_nil ?_
        go_wp2_with fail
        go_meet
        exact ⟨⟨_, rfl, hA3, Nat.le_trans hw0.sizes (by first | (simp; done) | exact hv4.sizes | exact hv5.sizes)⟩, hw0.trans hv3⟩
  case rest =>
    obtain ⟨⟨z, rfl, hI, hz⟩, hw⟩ := hcut
    have hz3 : w.heap.size + 3 ≤ z := Nat.le_trans (by simp) hz
    clear hz
    have hww : Within w wc := ((((Within.refl w).alloc _).alloc _).alloc _).trans hw
    have f0 : wc.cell? ⟨w.heap.size, 0, none⟩ = some (.int .i64 24) := (hw.cells _ _ (by simp; omega)).trans (by go_simp)
    have f1 : wc.cell? ⟨w.heap.size, 1, none⟩ = some (.int .i64 (-126)) := (hw.cells _ _ (by simp; omega)).trans (by go_simp)
    have f2 : wc.cell? ⟨w.heap.size, 2, none⟩ = some (.int .i64 127) := (hw.cells _ _ (by simp; omega)).trans (by go_simp)
    have f3 : wc.cell? ⟨w.heap.size, 3, none⟩ = some (.int .i64 8) := (hw.cells _ _ (by simp; omega)).trans (by go_simp)
    have c0 : wc.cell? ⟨w.heap.size + 1, 0, none⟩ = some (.int .i64 0) := (hw.cells _ _ (by simp)).trans (by go_simp)
    have c1 : wc.cell? ⟨w.heap.size + 1, 1, none⟩ = some (.bool b1) := (hw.cells _ _ (by simp)).trans (by go_simp)
    have c2 : wc.cell? ⟨w.heap.size + 1, 2, none⟩ = some (.pointer (some ⟨g1, 0, none⟩)) := (hw.cells _ _ (by simp)).trans (by go_simp)
    have c3 : wc.cell? ⟨w.heap.size + 1, 3, none⟩ = some (.int .i64 E1) := (hw.cells _ _ (by simp)).trans (by go_simp)
    have c4 : wc.cell? ⟨w.heap.size + 1 + 1, 0, none⟩ = some (.int .i64 0) := (hw.cells _ _ (by simp)).trans (by go_simp)
    have c5 : wc.cell? ⟨w.heap.size + 1 + 1, 1, none⟩ = some (.bool b2) := (hw.cells _ _ (by simp)).trans (by go_simp)
    have c6 : wc.cell? ⟨w.heap.size + 1 + 1, 2, none⟩ = some (.pointer (some ⟨g2, 0, none⟩)) := (hw.cells _ _ (by simp)).trans (by go_simp)
    have c7 : wc.cell? ⟨w.heap.size + 1 + 1, 3, none⟩ = some (.int .i64 E2) := (hw.cells _ _ (by simp)).trans (by go_simp)
    have fl : w.heap.size < wc.heap.size := World.block_lt_of_cell? _ _ f0
    have fl1 : w.heap.size + 1 < wc.heap.size := World.block_lt_of_cell? _ _ c0
    have fl2 : w.heap.size + 1 + 1 < wc.heap.size := World.block_lt_of_cell? _ _ c4
    have hJ1 : IntB wc g1 (M1 : Int) := hI1.of hww
    have hJ2 : IntB wc g2 (M2 : Int) := hI2.of hww
    clear hw
    have d0 : (v.sign == 0) = true := by rw [HV0.out]; rfl
    go_wp2_with fail
    refine (Bsign z v _ hI).mono ?_; rintro e7 w7 ⟨rfl, rfl⟩
    go_wp2
    refine wp_region_schG (fun W => W.cell? ⟨w.heap.size, 0, none⟩ = some (.int .i64 24) ∧ W.cell? ⟨w.heap.size, 1, none⟩ = some (.int .i64 (-126)) ∧ W.cell? ⟨w.heap.size, 2, none⟩ = some (.int .i64 127) ∧ W.cell? ⟨w.heap.size, 3, none⟩ = some (.int .i64 8) ∧ W.cell? ⟨w.heap.size + 1, 0, none⟩ = some (.int .i64 0) ∧ W.cell? ⟨w.heap.size + 1, 1, none⟩ = some (.bool b1) ∧ W.cell? ⟨w.heap.size + 1, 2, none⟩ = some (.pointer (some ⟨g1, 0, none⟩)) ∧ W.cell? ⟨w.heap.size + 1, 3, none⟩ = some (.int .i64 E1) ∧ W.cell? ⟨w.heap.size + 1 + 1, 0, none⟩ = some (.int .i64 0) ∧ W.cell? ⟨w.heap.size + 1 + 1, 1, none⟩ = some (.bool b2) ∧ W.cell? ⟨w.heap.size + 1 + 1, 2, none⟩ = some (.pointer (some ⟨g2, 0, none⟩)) ∧ W.cell? ⟨w.heap.size + 1 + 1, 3, none⟩ = some (.int .i64 E2) ∧ IntB W g1 (M1 : Int) ∧ IntB W g2 (M2 : Int) ∧ w.heap.size < W.heap.size ∧ w.heap.size + 1 < W.heap.size ∧ w.heap.size + 1 + 1 < W.heap.size ∧ Within w W) 19 (.firm 0 (.firm 1 (.firm 14 (.firm 15 (.firm 16 (.one 2 (.firm 3 (.firm 4 (.one 5 (.firm 6 (.firm 7 (.firm 8 (.firm 9 (.firm 10 (.firm 11 (.firm 12 (.firm 13 (.one 17 (.firm 18 (.one 19 .nil)))))))))))))))))))) (by kernel_rfl) (by kernel_rfl) ⟨f0, f1, f2, f3, c0, c1, c2, c3, c4, c5, c6, c7, hJ1, hJ2, fl, fl1, fl2, hww⟩ ?_
    rintro w0 ⟨f0, f1, f2, f3, c0, c1, c2, c3, c4, c5, c6, c7, hJ1, hJ2, fl, fl1, fl2, hww⟩
    try simp only [Act.put, List.setIfInBounds_toArray, List.set_cons_zero, List.set_cons_succ]
    apply sch_firm rfl rfl (by repeat (first | with_reducible exact Within.refl _ | with_reducible assumption | with_reducible refine Within.alloc ?_ _ | with_reducible refine Within.drew ?_ | with_reducible refine Within.drewN ?_ _ | with_reducible refine Within.setCell ?_ (by first | (simp; done) | (simp; omega)) _ | with_reducible refine Within.trans ?_ (by assumption)))
    · intro wq hq
      have hcq := hq.cells
      clear hq
      go_simp
      first | rfl | (trace_state; fail)
    try simp only [Act.put, List.setIfInBounds_toArray, List.set_cons_zero, List.set_cons_succ]
    apply sch_firm rfl rfl (by repeat (first | with_reducible exact Within.refl _ | with_reducible assumption | with_reducible refine Within.alloc ?_ _ | with_reducible refine Within.drew ?_ | with_reducible refine Within.drewN ?_ _ | with_reducible refine Within.setCell ?_ (by first | (simp; done) | (simp; omega)) _ | with_reducible refine Within.trans ?_ (by assumption)))
    · intro wq hq
      have hcq := hq.cells
      clear hq
      go_simp
      first | rfl | (trace_state; fail)
    try simp only [Act.put, List.setIfInBounds_toArray, List.set_cons_zero, List.set_cons_succ]
    apply sch_firm rfl rfl (by repeat (first | with_reducible exact Within.refl _ | with_reducible assumption | with_reducible refine Within.alloc ?_ _ | with_reducible refine Within.drew ?_ | with_reducible refine Within.drewN ?_ _ | with_reducible refine Within.setCell ?_ (by first | (simp; done) | (simp; omega)) _ | with_reducible refine Within.trans ?_ (by assumption)))
    · intro wq hq
      have hcq := hq.cells
      clear hq
      go_simp
      first | rfl | (trace_state; fail)
    try simp only [Act.put, List.setIfInBounds_toArray, List.set_cons_zero, List.set_cons_succ]
    apply sch_firm rfl rfl (by repeat (first | with_reducible exact Within.refl _ | with_reducible assumption | with_reducible refine Within.alloc ?_ _ | with_reducible refine Within.drew ?_ | with_reducible refine Within.drewN ?_ _ | with_reducible refine Within.setCell ?_ (by first | (simp; done) | (simp; omega)) _ | with_reducible refine Within.trans ?_ (by assumption)))
    · intro wq hq
      have hcq := hq.cells
      clear hq
      go_simp
      first | rfl | (trace_state; fail)
    try simp only [Act.put, List.setIfInBounds_toArray, List.set_cons_zero, List.set_cons_succ]
    apply sch_firm rfl rfl (by repeat (first | with_reducible exact Within.refl _ | with_reducible assumption | with_reducible refine Within.alloc ?_ _ | with_reducible refine Within.drew ?_ | with_reducible refine Within.drewN ?_ _ | with_reducible refine Within.setCell ?_ (by first | (simp; done) | (simp; omega)) _ | with_reducible refine Within.trans ?_ (by assumption)))
    · intro wq hq
      have hcq := hq.cells
      clear hq
      go_simp
      first | rfl | (trace_state; fail)
    try simp only [Act.put, List.setIfInBounds_toArray, List.set_cons_zero, List.set_cons_succ]
    refine sch_one rfl rfl (fun K hK => ?_)
    go_simp
    refine (Riszero_some 0 E1 (M1 : Int) b1 g1 rfl hm1 _ (by exact hJ1.of (Within.refl _).drew)).mono ?_; rintro e8 w8 ⟨rfl, hv8'⟩
    have hv8 : Within w0 w8 := Within.trans (Within.refl w0).drew hv8'
    refine hK _ _ (fun _ => (by repeat (first | with_reducible exact Within.refl _ | with_reducible assumption | with_reducible refine Within.alloc ?_ _ | with_reducible refine Within.drew ?_ | with_reducible refine Within.drewN ?_ _ | with_reducible refine Within.setCell ?_ (by first | (simp; done) | (simp; omega)) _ | with_reducible refine Within.trans ?_ (by assumption)))) ?_
    clear hK K
    try simp only [Act.put, List.setIfInBounds_toArray, List.set_cons_zero, List.set_cons_succ]
    apply sch_firm rfl rfl (by repeat (first | with_reducible exact Within.refl _ | with_reducible assumption | with_reducible refine Within.alloc ?_ _ | with_reducible refine Within.drew ?_ | with_reducible refine Within.drewN ?_ _ | with_reducible refine Within.setCell ?_ (by first | (simp; done) | (simp; omega)) _ | with_reducible refine Within.trans ?_ (by assumption)))
    · intro wq hq
      have hcq := hq.cells
      clear hq
      go_simp
      first | rfl | (trace_state; fail)
    try simp only [Act.put, List.setIfInBounds_toArray, List.set_cons_zero, List.set_cons_succ]
    refine sch_skip rfl (by first | rfl | decide | (simp [Region.wanted, yielded]; done)) (by repeat (first | with_reducible exact Within.refl _ | with_reducible assumption | with_reducible refine Within.alloc ?_ _ | with_reducible refine Within.drew ?_ | with_reducible refine Within.drewN ?_ _ | with_reducible refine Within.setCell ?_ (by first | (simp; done) | (simp; omega)) _ | with_reducible refine Within.trans ?_ (by assumption))) ?_
    try simp only [Act.put, List.setIfInBounds_toArray, List.set_cons_zero, List.set_cons_succ]
    refine sch_one_skip rfl (by first | rfl | decide | (simp [Region.wanted, yielded]; done)) (by repeat (first | with_reducible exact Within.refl _ | with_reducible assumption | with_reducible refine Within.alloc ?_ _ | with_reducible refine Within.drew ?_ | with_reducible refine Within.drewN ?_ _ | with_reducible refine Within.setCell ?_ (by first | (simp; done) | (simp; omega)) _ | with_reducible refine Within.trans ?_ (by assumption))) ?_
    try simp only [Act.put, List.setIfInBounds_toArray, List.set_cons_zero, List.set_cons_succ]
    apply sch_firm rfl rfl (by repeat (first | with_reducible exact Within.refl _ | with_reducible assumption | with_reducible refine Within.alloc ?_ _ | with_reducible refine Within.drew ?_ | with_reducible refine Within.drewN ?_ _ | with_reducible refine Within.setCell ?_ (by first | (simp; done) | (simp; omega)) _ | with_reducible refine Within.trans ?_ (by assumption)))
    · intro wq hq
      have hcq := hq.cells
      clear hq
      go_simp
      first | rfl | (trace_state; fail)
    try simp only [Act.put, List.setIfInBounds_toArray, List.set_cons_zero, List.set_cons_succ]
    apply sch_firm rfl rfl (by repeat (first | with_reducible exact Within.refl _ | with_reducible assumption | with_reducible refine Within.alloc ?_ _ | with_reducible refine Within.drew ?_ | with_reducible refine Within.drewN ?_ _ | with_reducible refine Within.setCell ?_ (by first | (simp; done) | (simp; omega)) _ | with_reducible refine Within.trans ?_ (by assumption)))
    · intro wq hq
      have hcq := hq.cells
      clear hq
      go_simp
      first | rfl | (trace_state; fail)
    try simp only [Act.put, List.setIfInBounds_toArray, List.set_cons_zero, List.set_cons_succ]
    refine sch_skip rfl (by first | rfl | decide | (simp [Region.wanted, yielded]; done)) (by repeat (first | with_reducible exact Within.refl _ | with_reducible assumption | with_reducible refine Within.alloc ?_ _ | with_reducible refine Within.drew ?_ | with_reducible refine Within.drewN ?_ _ | with_reducible refine Within.setCell ?_ (by first | (simp; done) | (simp; omega)) _ | with_reducible refine Within.trans ?_ (by assumption))) ?_
    try simp only [Act.put, List.setIfInBounds_toArray, List.set_cons_zero, List.set_cons_succ]
    refine sch_skip rfl (by first | rfl | decide | (simp [Region.wanted, yielded]; done)) (by repeat (first | with_reducible exact Within.refl _ | with_reducible assumption | with_reducible refine Within.alloc ?_ _ | with_reducible refine Within.drew ?_ | with_reducible refine Within.drewN ?_ _ | with_reducible refine Within.setCell ?_ (by first | (simp; done) | (simp; omega)) _ | with_reducible refine Within.trans ?_ (by assumption))) ?_
    try simp only [Act.put, List.setIfInBounds_toArray, List.set_cons_zero, List.set_cons_succ]
    refine sch_skip rfl (by first | rfl | decide | (simp [Region.wanted, yielded]; done)) (by repeat (first | with_reducible exact Within.refl _ | with_reducible assumption | with_reducible refine Within.alloc ?_ _ | with_reducible refine Within.drew ?_ | with_reducible refine Within.drewN ?_ _ | with_reducible refine Within.setCell ?_ (by first | (simp; done) | (simp; omega)) _ | with_reducible refine Within.trans ?_ (by assumption))) ?_
    try simp only [Act.put, List.setIfInBounds_toArray, List.set_cons_zero, List.set_cons_succ]
    refine sch_skip rfl (by first | rfl | decide | (simp [Region.wanted, yielded]; done)) (by repeat (first | with_reducible exact Within.refl _ | with_reducible assumption | with_reducible refine Within.alloc ?_ _ | with_reducible refine Within.drew ?_ | with_reducible refine Within.drewN ?_ _ | with_reducible refine Within.setCell ?_ (by first | (simp; done) | (simp; omega)) _ | with_reducible refine Within.trans ?_ (by assumption))) ?_
    try simp only [Act.put, List.setIfInBounds_toArray, List.set_cons_zero, List.set_cons_succ]
    refine sch_skip rfl (by first | rfl | decide | (simp [Region.wanted, yielded]; done)) (by repeat (first | with_reducible exact Within.refl _ | with_reducible assumption | with_reducible refine Within.alloc ?_ _ | with_reducible refine Within.drew ?_ | with_reducible refine Within.drewN ?_ _ | with_reducible refine Within.setCell ?_ (by first | (simp; done) | (simp; omega)) _ | with_reducible refine Within.trans ?_ (by assumption))) ?_
    try simp only [Act.put, List.setIfInBounds_toArray, List.set_cons_zero, List.set_cons_succ]
    apply sch_firm rfl rfl (by repeat (first | with_reducible exact Within.refl _ | with_reducible assumption | with_reducible refine Within.alloc ?_ _ | with_reducible refine Within.drew ?_ | with_reducible refine Within.drewN ?_ _ | with_reducible refine Within.setCell ?_ (by first | (simp; done) | (simp; omega)) _ | with_reducible refine Within.trans ?_ (by assumption)))
    · intro wq hq
      have hcq := hq.cells
      clear hq
      go_simp
      first | rfl | (trace_state; fail)
    try simp only [Act.put, List.setIfInBounds_toArray, List.set_cons_zero, List.set_cons_succ]
    refine sch_one rfl rfl (fun K hK => ?_)
    go_simp
    refine (Rzero_two b1 mode _).mono ?_; rintro e10 w10 ⟨rfl, hv10'⟩
    have hv10 := hv8.trans hv10'
    refine hK _ _ (fun _ => (by repeat (first | with_reducible exact Within.refl _ | with_reducible assumption | with_reducible refine Within.alloc ?_ _ | with_reducible refine Within.drew ?_ | with_reducible refine Within.drewN ?_ _ | with_reducible refine Within.setCell ?_ (by first | (simp; done) | (simp; omega)) _ | with_reducible refine Within.trans ?_ (by assumption)))) ?_
    clear hK K
    try simp only [Act.put, List.setIfInBounds_toArray, List.set_cons_zero, List.set_cons_succ]
    apply sch_firm rfl rfl (by repeat (first | with_reducible exact Within.refl _ | with_reducible assumption | with_reducible refine Within.alloc ?_ _ | with_reducible refine Within.drew ?_ | with_reducible refine Within.drewN ?_ _ | with_reducible refine Within.setCell ?_ (by first | (simp; done) | (simp; omega)) _ | with_reducible refine Within.trans ?_ (by assumption)))
    · intro wq hq
      have hcq := hq.cells
      clear hq
      go_simp
      first | rfl | (trace_state; fail)
    try simp only [Act.put, List.setIfInBounds_toArray, List.set_cons_zero, List.set_cons_succ]
    refine sch_one rfl rfl (fun K hK => ?_)
    go_simp
    refine hK _ _ (fun h => absurd h (by decide)) ?_
    clear hK K
    try simp only [Act.put, List.setIfInBounds_toArray, List.set_cons_zero, List.set_cons_succ]
    refine sch_nil ?_
    have hw10 := hww.trans hv10
    go_wp2
    go_ret2
    exact ⟨rfl, hw10⟩
set_option maxRecDepth 100000 in
set_option maxHeartbeats 600000 in
theorem Radd_zero_z (E1 E2 mode : Int) (b1 b2 : Bool) (g1 g2 : Nat) (e v1 v2 v : Int) (M1 M2 : Nat) (he : min E1 E2 = e) (hv : v1 + v2 = v) (hl1 : (dg v1.natAbs).length ≤ 1400) (hl2 : (dg v2.natAbs).length ≤ 1400) (hlv : (dg v.natAbs).length ≤ 900) (SG1 : Hid (∀ w, IntB w g1 (M1 : Int) → Calls Tryz.prog 106 #[.agg #[.int .i64 0, .bool b1, .pointer (some ⟨g1, 0, none⟩), .int .i64 E1], .int .i64 e] w (fun en w' => ∃ h, en = .returned (.pointer (some ⟨h, 0, none⟩)) ∧ IntB w' h (v1) ∧ w.heap.size ≤ h ∧ Within w w'))) (SG2 : Hid (∀ w, IntB w g2 (M2 : Int) → Calls Tryz.prog 106 #[.agg #[.int .i64 0, .bool b2, .pointer (some ⟨g2, 0, none⟩), .int .i64 E2], .int .i64 e] w (fun en w' => ∃ h, en = .returned (.pointer (some ⟨h, 0, none⟩)) ∧ IntB w' h (v2) ∧ w.heap.size ≤ h ∧ Within w w'))) (hv0 : v = 0) (hm1 : (M1 : Int) = 0) (hm2 : (M2 : Int) = 0) (hb : (b1 == b2) = true) (w : World) (hI1 : IntB w g1 (M1 : Int)) (hI2 : IntB w g2 (M2 : Int)) : Calls Tryz.prog 67 #[fmS, .agg #[.int .i64 0, .bool b1, .pointer (some ⟨g1, 0, none⟩), .int .i64 E1], .agg #[.int .i64 0, .bool b2, .pointer (some ⟨g2, 0, none⟩), .int .i64 E2], .int .i64 mode] w (fun e' w' => e' = .returned (.tuple #[.int .u64 ((nghtS b1 : Nat)), .int .i64 0]) ∧ Within w w') := by
  have HL1 := Lib.hid hl1; have HL2 := Lib.hid hl2; have HLV := Lib.hid hlv; have HV := Lib.hid hv; have HV0 := Lib.hid hv0; clear hl1 hl2 hlv hv hv0
  go_enter Tryz.func67, Tryz.ntmps67
  go_upto_region 10 with fail
  go_cut [11] (fun s11 wx => PtrI (((w.alloc (.cells #[.int .i64 24, .int .i64 (-126), .int .i64 127, .int .i64 8] 60)).alloc (.cells #[.int .i64 0, .bool b1, .pointer (some ⟨g1, 0, none⟩), .int .i64 E1] 65)).alloc (.cells #[.int .i64 0, .bool b2, .pointer (some ⟨g2, 0, none⟩), .int .i64 E2] 65)) v s11 wx ∧ Within (((w.alloc (.cells #[.int .i64 24, .int .i64 (-126), .int .i64 127, .int .i64 8] 60)).alloc (.cells #[.int .i64 0, .bool b1, .pointer (some ⟨g1, 0, none⟩), .int .i64 E1] 65)).alloc (.cells #[.int .i64 0, .bool b2, .pointer (some ⟨g2, 0, none⟩), .int .i64 E2] 65)) wx)
  case first =>
    refine wp_region_schG (fun W => W.cell? ⟨w.heap.size + 1, 0, none⟩ = some (.int .i64 0) ∧ W.cell? ⟨w.heap.size + 1, 1, none⟩ = some (.bool b1) ∧ W.cell? ⟨w.heap.size + 1, 2, none⟩ = some (.pointer (some ⟨g1, 0, none⟩)) ∧ W.cell? ⟨w.heap.size + 1, 3, none⟩ = some (.int .i64 E1) ∧ W.cell? ⟨w.heap.size + 1 + 1, 0, none⟩ = some (.int .i64 0) ∧ W.cell? ⟨w.heap.size + 1 + 1, 1, none⟩ = some (.bool b2) ∧ W.cell? ⟨w.heap.size + 1 + 1, 2, none⟩ = some (.pointer (some ⟨g2, 0, none⟩)) ∧ W.cell? ⟨w.heap.size + 1 + 1, 3, none⟩ = some (.int .i64 E2) ∧ IntB W g1 (M1 : Int) ∧ IntB W g2 (M2 : Int) ∧ Within (((w.alloc (.cells #[.int .i64 24, .int .i64 (-126), .int .i64 127, .int .i64 8] 60)).alloc (.cells #[.int .i64 0, .bool b1, .pointer (some ⟨g1, 0, none⟩), .int .i64 E1] 65)).alloc (.cells #[.int .i64 0, .bool b2, .pointer (some ⟨g2, 0, none⟩), .int .i64 E2] 65)) W ∧ w.heap.size + 1 < W.heap.size ∧ w.heap.size + 1 + 1 < W.heap.size) 8 (.firm 1 (.firm 2 (.firm 4 (.firm 5 (.two 0 (.one 3 (.one 6 (.one 7 (.one 8 .nil)))) 3 (.two 0 (.one 6 (.one 7 (.one 8 .nil))) 6 (.one 0 (.one 7 (.one 8 .nil))))))))) (by kernel_rfl) (by kernel_rfl) ⟨by go_simp, by go_simp, by go_simp, by go_simp, by go_simp, by go_simp, by go_simp, by go_simp, (by repeat (first | with_reducible assumption | with_reducible exact ib_new _ _ (by simp; done) | with_reducible refine IntB.alloc ?_ _ | with_reducible refine IntB.drew ?_ | with_reducible refine IntB.drewN ?_ _)), (by repeat (first | with_reducible assumption | with_reducible exact ib_new _ _ (by simp; done) | with_reducible refine IntB.alloc ?_ _ | with_reducible refine IntB.drew ?_ | with_reducible refine IntB.drewN ?_ _)), Within.refl _, by first | (simp; done) | (simp; omega), by first | (simp; done) | (simp; omega)⟩ ?_
    rintro w0 ⟨c0, c1, c2, c3, c4, c5, c6, c7, hJ1, hJ2, hw0, hs0, hs1⟩
    try simp only [Act.put, List.setIfInBounds_toArray, List.set_cons_zero, List.set_cons_succ]
    repeat
      apply sch_firm rfl rfl (by repeat (first | with_reducible exact Within.refl _ | with_reducible assumption | with_reducible refine Within.alloc ?_ _ | with_reducible refine Within.drew ?_ | with_reducible refine Within.drewN ?_ _ | with_reducible refine Within.setCell ?_ (by first | (simp; done) | (simp; omega)) _ | with_reducible refine Within.trans ?_ (by assumption)))
      · intro wq hq
        have hcq := hq.cells
        clear hq
        go_simp
        first | rfl | (trace_state; fail)
      try simp only [Act.put, List.setIfInBounds_toArray, List.set_cons_zero, List.set_cons_succ]
    refine sch_two rfl rfl rfl rfl (fun K hK => ?_) (fun K hK => ?_)
    · go_simp
      refine hK _ _ (by repeat (first | with_reducible exact Within.refl _ | with_reducible assumption | with_reducible refine Within.alloc ?_ _ | with_reducible refine Within.drew ?_ | with_reducible refine Within.drewN ?_ _ | with_reducible refine Within.setCell ?_ (by first | (simp; done) | (simp; omega)) _ | with_reducible refine Within.trans ?_ (by assumption))) ?_
      clear hK K
      try simp only [Act.put, List.setIfInBounds_toArray, List.set_cons_zero, List.set_cons_succ]
      refine sch_one rfl rfl (fun K hK => ?_)
      go_simp
      refine (SG1.out _ (by repeat (first | with_reducible assumption | with_reducible exact ib_new _ _ (by simp; done) | with_reducible refine IntB.alloc ?_ _ | with_reducible refine IntB.drew ?_ | with_reducible refine IntB.drewN ?_ _))).mono ?_; rintro e4 w4 ⟨h1, rfl, hA1, hg1, hb4⟩
      have hv4 : Within w0 w4 := Within.trans (by repeat (first | with_reducible exact Within.refl _ | with_reducible assumption | with_reducible refine Within.alloc ?_ _ | with_reducible refine Within.drew ?_ | with_reducible refine Within.drewN ?_ _ | with_reducible refine Within.setCell ?_ (by first | (simp; done) | (simp; omega)) _ | with_reducible refine Within.trans ?_ (by assumption))) hb4
      have hT4 : IntTy w4 w0.heap.size := IntTy.of (by repeat (first | with_reducible assumption | with_reducible exact ty_new _ _ _ _ (by simp; done) | with_reducible refine ty_drew ?_ | with_reducible refine ty_alloc ?_ _)) hb4
      refine hK _ _ (fun _ => (by repeat (first | with_reducible exact Within.refl _ | with_reducible assumption | with_reducible refine Within.alloc ?_ _ | with_reducible refine Within.drew ?_ | with_reducible refine Within.drewN ?_ _ | with_reducible refine Within.setCell ?_ (by first | (simp; done) | (simp; omega)) _ | with_reducible refine Within.trans ?_ (by assumption)))) ?_
      clear hK K
      try simp only [Act.put, List.setIfInBounds_toArray, List.set_cons_zero, List.set_cons_succ]
      refine sch_one rfl rfl (fun K hK => ?_)
      go_simp
      have hJ2' := hJ2.of hv4
      refine (SG2.out _ (by repeat (first | with_reducible assumption | with_reducible exact ib_new _ _ (by simp; done) | with_reducible refine IntB.alloc ?_ _ | with_reducible refine IntB.drew ?_ | with_reducible refine IntB.drewN ?_ _))).mono ?_; rintro e5 w5 ⟨h2, rfl, hA2, hg2, hb5⟩
      have hA1' : IntB w5 h1 v1 := IntB.of (by repeat (first | with_reducible assumption | with_reducible exact ib_new _ _ (by simp; done) | with_reducible refine IntB.alloc ?_ _ | with_reducible refine IntB.drew ?_ | with_reducible refine IntB.drewN ?_ _)) hb5
      have hv5 : Within w0 w5 := Within.trans (by repeat (first | with_reducible exact Within.refl _ | with_reducible assumption | with_reducible refine Within.alloc ?_ _ | with_reducible refine Within.drew ?_ | with_reducible refine Within.drewN ?_ _ | with_reducible refine Within.setCell ?_ (by first | (simp; done) | (simp; omega)) _ | with_reducible refine Within.trans ?_ (by assumption))) hb5
      have hT5 : IntTy w5 w0.heap.size := IntTy.of (by repeat (first | with_reducible assumption | with_reducible exact ty_new _ _ _ _ (by simp; done) | with_reducible refine ty_drew ?_ | with_reducible refine ty_alloc ?_ _)) hb5
      refine hK _ _ (fun _ => (by repeat (first | with_reducible exact Within.refl _ | with_reducible assumption | with_reducible refine Within.alloc ?_ _ | with_reducible refine Within.drew ?_ | with_reducible refine Within.drewN ?_ _ | with_reducible refine Within.setCell ?_ (by first | (simp; done) | (simp; omega)) _ | with_reducible refine Within.trans ?_ (by assumption)))) ?_
      clear hK K
      try simp only [Act.put, List.setIfInBounds_toArray, List.set_cons_zero, List.set_cons_succ]
      refine sch_one rfl rfl (fun K hK => ?_)
      go_simp
      refine (BAdd _ h1 h2 v1 v2 (Nat.le_trans HL1.out (by decide)) (Nat.le_trans HL2.out (by decide)) _ (by repeat (first | with_reducible assumption | with_reducible exact ty_new _ _ _ _ (by simp; done) | with_reducible refine ty_drew ?_ | with_reducible refine ty_alloc ?_ _)) (by repeat (first | with_reducible assumption | with_reducible exact ib_new _ _ (by simp; done) | with_reducible refine IntB.alloc ?_ _ | with_reducible refine IntB.drew ?_ | with_reducible refine IntB.drewN ?_ _)) (by repeat (first | with_reducible assumption | with_reducible exact ib_new _ _ (by simp; done) | with_reducible refine IntB.alloc ?_ _ | with_reducible refine IntB.drew ?_ | with_reducible refine IntB.drewN ?_ _))).mono ?_; rintro e6 w6 ⟨rfl, hA3, hG3⟩
      rw [HV.out] at hA3
      have hv3 : Within w0 w6 := Within.grown (by repeat (first | with_reducible exact Within.refl _ | with_reducible assumption | with_reducible refine Within.alloc ?_ _ | with_reducible refine Within.drew ?_ | with_reducible refine Within.drewN ?_ _ | with_reducible refine Within.setCell ?_ (by first | (simp; done) | (simp; omega)) _ | with_reducible refine Within.trans ?_ (by assumption))) hG3 (by first | (simp; done) | exact hv4.sizes | exact hv5.sizes)
      refine hK _ _ (fun _ => (by repeat (first | with_reducible exact Within.refl _ | with_reducible assumption | with_reducible refine Within.alloc ?_ _ | with_reducible refine Within.drew ?_ | with_reducible refine Within.drewN ?_ _ | with_reducible refine Within.setCell ?_ (by first | (simp; done) | (simp; omega)) _ | with_reducible refine Within.trans ?_ (by assumption)))) ?_
      clear hK K
      try simp only [Act.put, List.setIfInBounds_toArray, List.set_cons_zero, List.set_cons_succ]
      refine sch_one rfl rfl (fun K hK => ?_)
      go_simp
      refine hK _ _ (fun h => absurd h (by decide)) ?_
      clear hK K
      try simp only [Act.put, List.setIfInBounds_toArray, List.set_cons_zero, List.set_cons_succ]
      refine sch_nil ?_
      go_wp2_with fail
      go_meet
      exact ⟨⟨_, rfl, hA3, Nat.le_trans hw0.sizes (by first | (simp; done) | exact hv4.sizes | exact hv5.sizes)⟩, hw0.trans hv3⟩
    · go_simp
      refine (SG1.out _ (by repeat (first | with_reducible assumption | with_reducible exact ib_new _ _ (by simp; done) | with_reducible refine IntB.alloc ?_ _ | with_reducible refine IntB.drew ?_ | with_reducible refine IntB.drewN ?_ _))).mono ?_; rintro e4 w4 ⟨h1, rfl, hA1, hg1, hb4⟩
      have hv4 : Within w0 w4 := Within.trans (by repeat (first | with_reducible exact Within.refl _ | with_reducible assumption | with_reducible refine Within.alloc ?_ _ | with_reducible refine Within.drew ?_ | with_reducible refine Within.drewN ?_ _ | with_reducible refine Within.setCell ?_ (by first | (simp; done) | (simp; omega)) _ | with_reducible refine Within.trans ?_ (by assumption))) hb4
      refine hK _ _ (by repeat (first | with_reducible exact Within.refl _ | with_reducible assumption | with_reducible refine Within.alloc ?_ _ | with_reducible refine Within.drew ?_ | with_reducible refine Within.drewN ?_ _ | with_reducible refine Within.setCell ?_ (by first | (simp; done) | (simp; omega)) _ | with_reducible refine Within.trans ?_ (by assumption))) ?_
      clear hK K
      try simp only [Act.put, List.setIfInBounds_toArray, List.set_cons_zero, List.set_cons_succ]
      refine sch_two rfl rfl rfl rfl (fun K hK => ?_) (fun K hK => ?_)
      · go_simp
        refine hK _ _ (by repeat (first | with_reducible exact Within.refl _ | with_reducible assumption | with_reducible refine Within.alloc ?_ _ | with_reducible refine Within.drew ?_ | with_reducible refine Within.drewN ?_ _ | with_reducible refine Within.setCell ?_ (by first | (simp; done) | (simp; omega)) _ | with_reducible refine Within.trans ?_ (by assumption))) ?_
        clear hK K
        try simp only [Act.put, List.setIfInBounds_toArray, List.set_cons_zero, List.set_cons_succ]
        refine sch_one rfl rfl (fun K hK => ?_)
        go_simp
        have hJ2' := hJ2.of hv4
        refine (SG2.out _ (by repeat (first | with_reducible assumption | with_reducible exact ib_new _ _ (by simp; done) | with_reducible refine IntB.alloc ?_ _ | with_reducible refine IntB.drew ?_ | with_reducible refine IntB.drewN ?_ _))).mono ?_; rintro e5 w5 ⟨h2, rfl, hA2, hg2, hb5⟩
        have hA1' : IntB w5 h1 v1 := IntB.of (by repeat (first | with_reducible assumption | with_reducible exact ib_new _ _ (by simp; done) | with_reducible refine IntB.alloc ?_ _ | with_reducible refine IntB.drew ?_ | with_reducible refine IntB.drewN ?_ _)) hb5
        have hv5 : Within w0 w5 := Within.trans (by repeat (first | with_reducible exact Within.refl _ | with_reducible assumption | with_reducible refine Within.alloc ?_ _ | with_reducible refine Within.drew ?_ | with_reducible refine Within.drewN ?_ _ | with_reducible refine Within.setCell ?_ (by first | (simp; done) | (simp; omega)) _ | with_reducible refine Within.trans ?_ (by assumption))) hb5
        have hT5 : IntTy w5 w4.heap.size := IntTy.of (by repeat (first | with_reducible assumption | with_reducible exact ty_new _ _ _ _ (by simp; done) | with_reducible refine ty_drew ?_ | with_reducible refine ty_alloc ?_ _)) hb5
        refine hK _ _ (fun _ => (by repeat (first | with_reducible exact Within.refl _ | with_reducible assumption | with_reducible refine Within.alloc ?_ _ | with_reducible refine Within.drew ?_ | with_reducible refine Within.drewN ?_ _ | with_reducible refine Within.setCell ?_ (by first | (simp; done) | (simp; omega)) _ | with_reducible refine Within.trans ?_ (by assumption)))) ?_
        clear hK K
        try simp only [Act.put, List.setIfInBounds_toArray, List.set_cons_zero, List.set_cons_succ]
        refine sch_one rfl rfl (fun K hK => ?_)
        go_simp
        refine (BAdd _ h1 h2 v1 v2 (Nat.le_trans HL1.out (by decide)) (Nat.le_trans HL2.out (by decide)) _ (by repeat (first | with_reducible assumption | with_reducible exact ty_new _ _ _ _ (by simp; done) | with_reducible refine ty_drew ?_ | with_reducible refine ty_alloc ?_ _)) (by repeat (first | with_reducible assumption | with_reducible exact ib_new _ _ (by simp; done) | with_reducible refine IntB.alloc ?_ _ | with_reducible refine IntB.drew ?_ | with_reducible refine IntB.drewN ?_ _)) (by repeat (first | with_reducible assumption | with_reducible exact ib_new _ _ (by simp; done) | with_reducible refine IntB.alloc ?_ _ | with_reducible refine IntB.drew ?_ | with_reducible refine IntB.drewN ?_ _))).mono ?_; rintro e6 w6 ⟨rfl, hA3, hG3⟩
        rw [HV.out] at hA3
        have hv3 : Within w0 w6 := Within.grown (by repeat (first | with_reducible exact Within.refl _ | with_reducible assumption | with_reducible refine Within.alloc ?_ _ | with_reducible refine Within.drew ?_ | with_reducible refine Within.drewN ?_ _ | with_reducible refine Within.setCell ?_ (by first | (simp; done) | (simp; omega)) _ | with_reducible refine Within.trans ?_ (by assumption))) hG3 (by first | (simp; done) | exact hv4.sizes | exact hv5.sizes)
        refine hK _ _ (fun _ => (by repeat (first | with_reducible exact Within.refl _ | with_reducible assumption | with_reducible refine Within.alloc ?_ _ | with_reducible refine Within.drew ?_ | with_reducible refine Within.drewN ?_ _ | with_reducible refine Within.setCell ?_ (by first | (simp; done) | (simp; omega)) _ | with_reducible refine Within.trans ?_ (by assumption)))) ?_
        clear hK K
        try simp only [Act.put, List.setIfInBounds_toArray, List.set_cons_zero, List.set_cons_succ]
        refine sch_one rfl rfl (fun K hK => ?_)
        go_simp
        refine hK _ _ (fun h => absurd h (by decide)) ?_
        clear hK K
        try simp only [Act.put, List.setIfInBounds_toArray, List.set_cons_zero, List.set_cons_succ]
        refine sch_nil ?_
        go_wp2_with fail
        go_meet
        exact ⟨⟨_, rfl, hA3, Nat.le_trans hw0.sizes (by first | (simp; done) | exact hv4.sizes | exact hv5.sizes)⟩, hw0.trans hv3⟩
      · go_simp
        have hJ2' := hJ2.of hv4
        refine (SG2.out _ (by repeat (first | with_reducible assumption | with_reducible exact ib_new _ _ (by simp; done) | with_reducible refine IntB.alloc ?_ _ | with_reducible refine IntB.drew ?_ | with_reducible refine IntB.drewN ?_ _))).mono ?_; rintro e5 w5 ⟨h2, rfl, hA2, hg2, hb5⟩
        have hA1' : IntB w5 h1 v1 := IntB.of (by repeat (first | with_reducible assumption | with_reducible exact ib_new _ _ (by simp; done) | with_reducible refine IntB.alloc ?_ _ | with_reducible refine IntB.drew ?_ | with_reducible refine IntB.drewN ?_ _)) hb5
        have hv5 : Within w0 w5 := Within.trans (by repeat (first | with_reducible exact Within.refl _ | with_reducible assumption | with_reducible refine Within.alloc ?_ _ | with_reducible refine Within.drew ?_ | with_reducible refine Within.drewN ?_ _ | with_reducible refine Within.setCell ?_ (by first | (simp; done) | (simp; omega)) _ | with_reducible refine Within.trans ?_ (by assumption))) hb5
        refine hK _ _ (by repeat (first | with_reducible exact Within.refl _ | with_reducible assumption | with_reducible refine Within.alloc ?_ _ | with_reducible refine Within.drew ?_ | with_reducible refine Within.drewN ?_ _ | with_reducible refine Within.setCell ?_ (by first | (simp; done) | (simp; omega)) _ | with_reducible refine Within.trans ?_ (by assumption))) ?_
        clear hK K
        try simp only [Act.put, List.setIfInBounds_toArray, List.set_cons_zero, List.set_cons_succ]
        refine sch_one rfl rfl (fun K hK => ?_)
        go_simp
        refine hK _ _ (fun _ => (by repeat (first | with_reducible exact Within.refl _ | with_reducible assumption | with_reducible refine Within.alloc ?_ _ | with_reducible refine Within.drew ?_ | with_reducible refine Within.drewN ?_ _ | with_reducible refine Within.setCell ?_ (by first | (simp; done) | (simp; omega)) _ | with_reducible refine Within.trans ?_ (by assumption)))) ?_
        clear hK K
        try simp only [Act.put, List.setIfInBounds_toArray, List.set_cons_zero, List.set_cons_succ]
        refine sch_one rfl rfl (fun K hK => ?_)
        go_simp
        refine (BAdd _ h1 h2 v1 v2 (Nat.le_trans HL1.out (by decide)) (Nat.le_trans HL2.out (by decide)) _ (by repeat (first | with_reducible assumption | with_reducible exact ty_new _ _ _ _ (by simp; done) | with_reducible refine ty_drew ?_ | with_reducible refine ty_alloc ?_ _)) (by repeat (first | with_reducible assumption | with_reducible exact ib_new _ _ (by simp; done) | with_reducible refine IntB.alloc ?_ _ | with_reducible refine IntB.drew ?_ | with_reducible refine IntB.drewN ?_ _)) (by repeat (first | with_reducible assumption | with_reducible exact ib_new _ _ (by simp; done) | with_reducible refine IntB.alloc ?_ _ | with_reducible refine IntB.drew ?_ | with_reducible refine IntB.drewN ?_ _))).mono ?_; rintro e6 w6 ⟨rfl, hA3, hG3⟩
        rw [HV.out] at hA3
        have hv3 : Within w0 w6 := Within.grown (by repeat (first | with_reducible exact Within.refl _ | with_reducible assumption | with_reducible refine Within.alloc ?_ _ | with_reducible refine Within.drew ?_ | with_reducible refine Within.drewN ?_ _ | with_reducible refine Within.setCell ?_ (by first | (simp; done) | (simp; omega)) _ | with_reducible refine Within.trans ?_ (by assumption))) hG3 (by first | (simp; done) | exact hv4.sizes | exact hv5.sizes)
        refine hK _ _ (fun _ => (by repeat (first | with_reducible exact Within.refl _ | with_reducible assumption | with_reducible refine Within.alloc ?_ _ | with_reducible refine Within.drew ?_ | with_reducible refine Within.drewN ?_ _ | with_reducible refine Within.setCell ?_ (by first | (simp; done) | (simp; omega)) _ | with_reducible refine Within.trans ?_ (by assumption)))) ?_
        clear hK K
        try simp only [Act.put, List.setIfInBounds_toArray, List.set_cons_zero, List.set_cons_succ]
        refine sch_one rfl rfl (fun K hK => ?_)
        go_simp
        refine hK _ _ (fun h => absurd h (by decide)) ?_
        clear hK K
        try simp only [Act.put, List.setIfInBounds_toArray, List.set_cons_zero, List.set_cons_succ]
        refine sch_nil ?_
        go_wp2_with fail
        go_meet
        exact ⟨⟨_, rfl, hA3, Nat.le_trans hw0.sizes (by first | (simp; done) | exact hv4.sizes | exact hv5.sizes)⟩, hw0.trans hv3⟩
  case rest =>
    obtain ⟨⟨z, rfl, hI, hz⟩, hw⟩ := hcut
    have hz3 : w.heap.size + 3 ≤ z := Nat.le_trans (by simp) hz
    clear hz
    have hww : Within w wc := ((((Within.refl w).alloc _).alloc _).alloc _).trans hw
    have f0 : wc.cell? ⟨w.heap.size, 0, none⟩ = some (.int .i64 24) := (hw.cells _ _ (by simp; omega)).trans (by go_simp)
    have f1 : wc.cell? ⟨w.heap.size, 1, none⟩ = some (.int .i64 (-126)) := (hw.cells _ _ (by simp; omega)).trans (by go_simp)
    have f2 : wc.cell? ⟨w.heap.size, 2, none⟩ = some (.int .i64 127) := (hw.cells _ _ (by simp; omega)).trans (by go_simp)
    have f3 : wc.cell? ⟨w.heap.size, 3, none⟩ = some (.int .i64 8) := (hw.cells _ _ (by simp; omega)).trans (by go_simp)
    have c0 : wc.cell? ⟨w.heap.size + 1, 0, none⟩ = some (.int .i64 0) := (hw.cells _ _ (by simp)).trans (by go_simp)
    have c1 : wc.cell? ⟨w.heap.size + 1, 1, none⟩ = some (.bool b1) := (hw.cells _ _ (by simp)).trans (by go_simp)
    have c2 : wc.cell? ⟨w.heap.size + 1, 2, none⟩ = some (.pointer (some ⟨g1, 0, none⟩)) := (hw.cells _ _ (by simp)).trans (by go_simp)
    have c3 : wc.cell? ⟨w.heap.size + 1, 3, none⟩ = some (.int .i64 E1) := (hw.cells _ _ (by simp)).trans (by go_simp)
    have c4 : wc.cell? ⟨w.heap.size + 1 + 1, 0, none⟩ = some (.int .i64 0) := (hw.cells _ _ (by simp)).trans (by go_simp)
    have c5 : wc.cell? ⟨w.heap.size + 1 + 1, 1, none⟩ = some (.bool b2) := (hw.cells _ _ (by simp)).trans (by go_simp)
    have c6 : wc.cell? ⟨w.heap.size + 1 + 1, 2, none⟩ = some (.pointer (some ⟨g2, 0, none⟩)) := (hw.cells _ _ (by simp)).trans (by go_simp)
    have c7 : wc.cell? ⟨w.heap.size + 1 + 1, 3, none⟩ = some (.int .i64 E2) := (hw.cells _ _ (by simp)).trans (by go_simp)
    have fl : w.heap.size < wc.heap.size := World.block_lt_of_cell? _ _ f0
    have fl1 : w.heap.size + 1 < wc.heap.size := World.block_lt_of_cell? _ _ c0
    have fl2 : w.heap.size + 1 + 1 < wc.heap.size := World.block_lt_of_cell? _ _ c4
    have hJ1 : IntB wc g1 (M1 : Int) := hI1.of hww
    have hJ2 : IntB wc g2 (M2 : Int) := hI2.of hww
    clear hw
    have d0 : (v.sign == 0) = true := by rw [HV0.out]; rfl
    go_wp2_with fail
    refine (Bsign z v _ hI).mono ?_; rintro e7 w7 ⟨rfl, rfl⟩
    go_wp2
    refine wp_region_schG (fun W => W.cell? ⟨w.heap.size, 0, none⟩ = some (.int .i64 24) ∧ W.cell? ⟨w.heap.size, 1, none⟩ = some (.int .i64 (-126)) ∧ W.cell? ⟨w.heap.size, 2, none⟩ = some (.int .i64 127) ∧ W.cell? ⟨w.heap.size, 3, none⟩ = some (.int .i64 8) ∧ W.cell? ⟨w.heap.size + 1, 0, none⟩ = some (.int .i64 0) ∧ W.cell? ⟨w.heap.size + 1, 1, none⟩ = some (.bool b1) ∧ W.cell? ⟨w.heap.size + 1, 2, none⟩ = some (.pointer (some ⟨g1, 0, none⟩)) ∧ W.cell? ⟨w.heap.size + 1, 3, none⟩ = some (.int .i64 E1) ∧ W.cell? ⟨w.heap.size + 1 + 1, 0, none⟩ = some (.int .i64 0) ∧ W.cell? ⟨w.heap.size + 1 + 1, 1, none⟩ = some (.bool b2) ∧ W.cell? ⟨w.heap.size + 1 + 1, 2, none⟩ = some (.pointer (some ⟨g2, 0, none⟩)) ∧ W.cell? ⟨w.heap.size + 1 + 1, 3, none⟩ = some (.int .i64 E2) ∧ IntB W g1 (M1 : Int) ∧ IntB W g2 (M2 : Int) ∧ w.heap.size < W.heap.size ∧ w.heap.size + 1 < W.heap.size ∧ w.heap.size + 1 + 1 < W.heap.size ∧ Within w W) 19 (.firm 0 (.firm 1 (.firm 14 (.firm 15 (.firm 16 (.one 2 (.firm 3 (.firm 4 (.one 5 (.firm 6 (.firm 7 (.firm 8 (.firm 9 (.firm 10 (.firm 11 (.firm 12 (.firm 13 (.one 17 (.firm 18 (.one 19 .nil)))))))))))))))))))) (by kernel_rfl) (by kernel_rfl) ⟨f0, f1, f2, f3, c0, c1, c2, c3, c4, c5, c6, c7, hJ1, hJ2, fl, fl1, fl2, hww⟩ ?_
    rintro w0 ⟨f0, f1, f2, f3, c0, c1, c2, c3, c4, c5, c6, c7, hJ1, hJ2, fl, fl1, fl2, hww⟩
    try simp only [Act.put, List.setIfInBounds_toArray, List.set_cons_zero, List.set_cons_succ]
    apply sch_firm rfl rfl (by repeat (first | with_reducible exact Within.refl _ | with_reducible assumption | with_reducible refine Within.alloc ?_ _ | with_reducible refine Within.drew ?_ | with_reducible refine Within.drewN ?_ _ | with_reducible refine Within.setCell ?_ (by first | (simp; done) | (simp; omega)) _ | with_reducible refine Within.trans ?_ (by assumption)))
    · intro wq hq
      have hcq := hq.cells
      clear hq
      go_simp
      first | rfl | (trace_state; fail)
    try simp only [Act.put, List.setIfInBounds_toArray, List.set_cons_zero, List.set_cons_succ]
    apply sch_firm rfl rfl (by repeat (first | with_reducible exact Within.refl _ | with_reducible assumption | with_reducible refine Within.alloc ?_ _ | with_reducible refine Within.drew ?_ | with_reducible refine Within.drewN ?_ _ | with_reducible refine Within.setCell ?_ (by first | (simp; done) | (simp; omega)) _ | with_reducible refine Within.trans ?_ (by assumption)))
    · intro wq hq
      have hcq := hq.cells
      clear hq
      go_simp
      first | rfl | (trace_state; fail)
    try simp only [Act.put, List.setIfInBounds_toArray, List.set_cons_zero, List.set_cons_succ]
    apply sch_firm rfl rfl (by repeat (first | with_reducible exact Within.refl _ | with_reducible assumption | with_reducible refine Within.alloc ?_ _ | with_reducible refine Within.drew ?_ | with_reducible refine Within.drewN ?_ _ | with_reducible refine Within.setCell ?_ (by first | (simp; done) | (simp; omega)) _ | with_reducible refine Within.trans ?_ (by assumption)))
    · intro wq hq
      have hcq := hq.cells
      clear hq
      go_simp
      first | rfl | (trace_state; fail)
    try simp only [Act.put, List.setIfInBounds_toArray, List.set_cons_zero, List.set_cons_succ]
    apply sch_firm rfl rfl (by repeat (first | with_reducible exact Within.refl _ | with_reducible assumption | with_reducible refine Within.alloc ?_ _ | with_reducible refine Within.drew ?_ | with_reducible refine Within.drewN ?_ _ | with_reducible refine Within.setCell ?_ (by first | (simp; done) | (simp; omega)) _ | with_reducible refine Within.trans ?_ (by assumption)))
    · intro wq hq
      have hcq := hq.cells
      clear hq
      go_simp
      first | rfl | (trace_state; fail)
    try simp only [Act.put, List.setIfInBounds_toArray, List.set_cons_zero, List.set_cons_succ]
    apply sch_firm rfl rfl (by repeat (first | with_reducible exact Within.refl _ | with_reducible assumption | with_reducible refine Within.alloc ?_ _ | with_reducible refine Within.drew ?_ | with_reducible refine Within.drewN ?_ _ | with_reducible refine Within.setCell ?_ (by first | (simp; done) | (simp; omega)) _ | with_reducible refine Within.trans ?_ (by assumption)))
    · intro wq hq
      have hcq := hq.cells
      clear hq
      go_simp
      first | rfl | (trace_state; fail)
    try simp only [Act.put, List.setIfInBounds_toArray, List.set_cons_zero, List.set_cons_succ]
    refine sch_one rfl rfl (fun K hK => ?_)
    go_simp
    refine (Riszero_zero 0 E1 (M1 : Int) b1 g1 rfl hm1 _ (by exact hJ1)).mono ?_; rintro e8 w8 ⟨rfl, hv8'⟩
    have hv8 : Within w0 w8 := Within.trans (Within.refl w0).drew hv8'
    have hJ2' := hJ2.of hv8
    refine hK _ _ (fun _ => (by repeat (first | with_reducible exact Within.refl _ | with_reducible assumption | with_reducible refine Within.alloc ?_ _ | with_reducible refine Within.drew ?_ | with_reducible refine Within.drewN ?_ _ | with_reducible refine Within.setCell ?_ (by first | (simp; done) | (simp; omega)) _ | with_reducible refine Within.trans ?_ (by assumption)))) ?_
    clear hK K
    try simp only [Act.put, List.setIfInBounds_toArray, List.set_cons_zero, List.set_cons_succ]
    apply sch_firm rfl rfl (by repeat (first | with_reducible exact Within.refl _ | with_reducible assumption | with_reducible refine Within.alloc ?_ _ | with_reducible refine Within.drew ?_ | with_reducible refine Within.drewN ?_ _ | with_reducible refine Within.setCell ?_ (by first | (simp; done) | (simp; omega)) _ | with_reducible refine Within.trans ?_ (by assumption)))
    · intro wq hq
      have hcq := hq.cells
      clear hq
      go_simp
      first | rfl | (trace_state; fail)
    try simp only [Act.put, List.setIfInBounds_toArray, List.set_cons_zero, List.set_cons_succ]
    apply sch_want rfl (by first | rfl | decide | (simp [Region.wanted, yielded]; done)) (by repeat (first | with_reducible exact Within.refl _ | with_reducible assumption | with_reducible refine Within.alloc ?_ _ | with_reducible refine Within.drew ?_ | with_reducible refine Within.drewN ?_ _ | with_reducible refine Within.setCell ?_ (by first | (simp; done) | (simp; omega)) _ | with_reducible refine Within.trans ?_ (by assumption)))
    · intro wq hq
      have hcq := hq.cells
      clear hq
      go_simp
      first | rfl | (trace_state; fail)
    try simp only [Act.put, List.setIfInBounds_toArray, List.set_cons_zero, List.set_cons_succ]
    refine sch_one_want rfl (by first | rfl | decide | (simp [Region.wanted, yielded]; done)) (fun K hK => ?_)
    go_simp
    refine (Riszero_zero 0 E2 (M2 : Int) b2 g2 rfl hm2 _ (by exact hJ2')).mono ?_; rintro e9 w9 ⟨rfl, hv9'⟩
    have hv9 := hv8.trans hv9'
    refine hK _ _ (fun _ => (by repeat (first | with_reducible exact Within.refl _ | with_reducible assumption | with_reducible refine Within.alloc ?_ _ | with_reducible refine Within.drew ?_ | with_reducible refine Within.drewN ?_ _ | with_reducible refine Within.setCell ?_ (by first | (simp; done) | (simp; omega)) _ | with_reducible refine Within.trans ?_ (by assumption)))) ?_
    clear hK K
    try simp only [Act.put, List.setIfInBounds_toArray, List.set_cons_zero, List.set_cons_succ]
    apply sch_firm rfl rfl (by repeat (first | with_reducible exact Within.refl _ | with_reducible assumption | with_reducible refine Within.alloc ?_ _ | with_reducible refine Within.drew ?_ | with_reducible refine Within.drewN ?_ _ | with_reducible refine Within.setCell ?_ (by first | (simp; done) | (simp; omega)) _ | with_reducible refine Within.trans ?_ (by assumption)))
    · intro wq hq
      have hcq := hq.cells
      clear hq
      go_simp
      first | rfl | (trace_state; fail)
    try simp only [Act.put, List.setIfInBounds_toArray, List.set_cons_zero, List.set_cons_succ]
    apply sch_firm rfl rfl (by repeat (first | with_reducible exact Within.refl _ | with_reducible assumption | with_reducible refine Within.alloc ?_ _ | with_reducible refine Within.drew ?_ | with_reducible refine Within.drewN ?_ _ | with_reducible refine Within.setCell ?_ (by first | (simp; done) | (simp; omega)) _ | with_reducible refine Within.trans ?_ (by assumption)))
    · intro wq hq
      have hcq := hq.cells
      clear hq
      go_simp
      first | rfl | (trace_state; fail)
    try simp only [Act.put, List.setIfInBounds_toArray, List.set_cons_zero, List.set_cons_succ]
    apply sch_want rfl (by first | rfl | decide | (simp [Region.wanted, yielded]; done)) (by repeat (first | with_reducible exact Within.refl _ | with_reducible assumption | with_reducible refine Within.alloc ?_ _ | with_reducible refine Within.drew ?_ | with_reducible refine Within.drewN ?_ _ | with_reducible refine Within.setCell ?_ (by first | (simp; done) | (simp; omega)) _ | with_reducible refine Within.trans ?_ (by assumption)))
    · intro wq hq
      have hcq := hq.cells
      clear hq
      go_simp
      first | rfl | (trace_state; fail)
    try simp only [Act.put, List.setIfInBounds_toArray, List.set_cons_zero, List.set_cons_succ]
    apply sch_want rfl (by first | rfl | decide | (simp [Region.wanted, yielded]; done)) (by repeat (first | with_reducible exact Within.refl _ | with_reducible assumption | with_reducible refine Within.alloc ?_ _ | with_reducible refine Within.drew ?_ | with_reducible refine Within.drewN ?_ _ | with_reducible refine Within.setCell ?_ (by first | (simp; done) | (simp; omega)) _ | with_reducible refine Within.trans ?_ (by assumption)))
    · intro wq hq
      have hcq := hq.cells
      clear hq
      go_simp
      first | rfl | (trace_state; fail)
    try simp only [Act.put, List.setIfInBounds_toArray, List.set_cons_zero, List.set_cons_succ]
    apply sch_want rfl (by first | rfl | decide | (simp [Region.wanted, yielded]; done)) (by repeat (first | with_reducible exact Within.refl _ | with_reducible assumption | with_reducible refine Within.alloc ?_ _ | with_reducible refine Within.drew ?_ | with_reducible refine Within.drewN ?_ _ | with_reducible refine Within.setCell ?_ (by first | (simp; done) | (simp; omega)) _ | with_reducible refine Within.trans ?_ (by assumption)))
    · intro wq hq
      have hcq := hq.cells
      clear hq
      go_simp
      first | rfl | (trace_state; fail)
    try simp only [Act.put, List.setIfInBounds_toArray, List.set_cons_zero, List.set_cons_succ]
    apply sch_want rfl (by first | rfl | decide | (simp [Region.wanted, yielded]; done)) (by repeat (first | with_reducible exact Within.refl _ | with_reducible assumption | with_reducible refine Within.alloc ?_ _ | with_reducible refine Within.drew ?_ | with_reducible refine Within.drewN ?_ _ | with_reducible refine Within.setCell ?_ (by first | (simp; done) | (simp; omega)) _ | with_reducible refine Within.trans ?_ (by assumption)))
    · intro wq hq
      have hcq := hq.cells
      clear hq
      go_simp
      first | rfl | (trace_state; fail)
    try simp only [Act.put, List.setIfInBounds_toArray, List.set_cons_zero, List.set_cons_succ]
    apply sch_want rfl (by first | rfl | decide | (simp [Region.wanted, yielded]; done)) (by repeat (first | with_reducible exact Within.refl _ | with_reducible assumption | with_reducible refine Within.alloc ?_ _ | with_reducible refine Within.drew ?_ | with_reducible refine Within.drewN ?_ _ | with_reducible refine Within.setCell ?_ (by first | (simp; done) | (simp; omega)) _ | with_reducible refine Within.trans ?_ (by assumption)))
    · intro wq hq
      have hcq := hq.cells
      clear hq
      go_simp
      first | rfl | (trace_state; fail)
    try simp only [Act.put, List.setIfInBounds_toArray, List.set_cons_zero, List.set_cons_succ]
    apply sch_firm rfl rfl (by repeat (first | with_reducible exact Within.refl _ | with_reducible assumption | with_reducible refine Within.alloc ?_ _ | with_reducible refine Within.drew ?_ | with_reducible refine Within.drewN ?_ _ | with_reducible refine Within.setCell ?_ (by first | (simp; done) | (simp; omega)) _ | with_reducible refine Within.trans ?_ (by assumption)))
    · intro wq hq
      have hcq := hq.cells
      clear hq
      go_simp
      first | rfl | (trace_state; fail)
    try simp only [Act.put, List.setIfInBounds_toArray, List.set_cons_zero, List.set_cons_succ]
    refine sch_one rfl rfl (fun K hK => ?_)
    go_simp
    refine (Rzero_one b1 mode _).mono ?_; rintro e10 w10 ⟨rfl, hv10'⟩
    have hv10 := hv9.trans hv10'
    refine hK _ _ (fun _ => (by repeat (first | with_reducible exact Within.refl _ | with_reducible assumption | with_reducible refine Within.alloc ?_ _ | with_reducible refine Within.drew ?_ | with_reducible refine Within.drewN ?_ _ | with_reducible refine Within.setCell ?_ (by first | (simp; done) | (simp; omega)) _ | with_reducible refine Within.trans ?_ (by assumption)))) ?_
    clear hK K
    try simp only [Act.put, List.setIfInBounds_toArray, List.set_cons_zero, List.set_cons_succ]
    apply sch_firm rfl rfl (by repeat (first | with_reducible exact Within.refl _ | with_reducible assumption | with_reducible refine Within.alloc ?_ _ | with_reducible refine Within.drew ?_ | with_reducible refine Within.drewN ?_ _ | with_reducible refine Within.setCell ?_ (by first | (simp; done) | (simp; omega)) _ | with_reducible refine Within.trans ?_ (by assumption)))
    · intro wq hq
      have hcq := hq.cells
      clear hq
      go_simp
      first | rfl | (trace_state; fail)
    try simp only [Act.put, List.setIfInBounds_toArray, List.set_cons_zero, List.set_cons_succ]
    refine sch_one rfl rfl (fun K hK => ?_)
    go_simp
    refine hK _ _ (fun h => absurd h (by decide)) ?_
    clear hK K
    try simp only [Act.put, List.setIfInBounds_toArray, List.set_cons_zero, List.set_cons_succ]
    refine sch_nil ?_
    have hw10 := hww.trans hv10
    go_wp2
    go_ret2
    exact ⟨rfl, hw10⟩
set_option maxRecDepth 100000 in
set_option maxHeartbeats 600000 in
theorem Radd_zero_y (E1 E2 mode : Int) (b1 b2 : Bool) (g1 g2 : Nat) (e v1 v2 v : Int) (M1 M2 : Nat) (he : min E1 E2 = e) (hv : v1 + v2 = v) (hl1 : (dg v1.natAbs).length ≤ 1400) (hl2 : (dg v2.natAbs).length ≤ 1400) (hlv : (dg v.natAbs).length ≤ 900) (SG1 : Hid (∀ w, IntB w g1 (M1 : Int) → Calls Tryz.prog 106 #[.agg #[.int .i64 0, .bool b1, .pointer (some ⟨g1, 0, none⟩), .int .i64 E1], .int .i64 e] w (fun en w' => ∃ h, en = .returned (.pointer (some ⟨h, 0, none⟩)) ∧ IntB w' h (v1) ∧ w.heap.size ≤ h ∧ Within w w'))) (SG2 : Hid (∀ w, IntB w g2 (M2 : Int) → Calls Tryz.prog 106 #[.agg #[.int .i64 0, .bool b2, .pointer (some ⟨g2, 0, none⟩), .int .i64 E2], .int .i64 e] w (fun en w' => ∃ h, en = .returned (.pointer (some ⟨h, 0, none⟩)) ∧ IntB w' h (v2) ∧ w.heap.size ≤ h ∧ Within w w'))) (hv0 : v = 0) (hm1 : (M1 : Int) = 0) (hm2 : (M2 : Int) = 0) (hb : (b1 == b2) = false) (w : World) (hI1 : IntB w g1 (M1 : Int)) (hI2 : IntB w g2 (M2 : Int)) : Calls Tryz.prog 67 #[fmS, .agg #[.int .i64 0, .bool b1, .pointer (some ⟨g1, 0, none⟩), .int .i64 E1], .agg #[.int .i64 0, .bool b2, .pointer (some ⟨g2, 0, none⟩), .int .i64 E2], .int .i64 mode] w (fun e' w' => e' = .returned (.tuple #[.int .u64 ((nghtS (decide (mode = 4)) : Nat)), .int .i64 0]) ∧ Within w w') := by
  have HL1 := Lib.hid hl1; have HL2 := Lib.hid hl2; have HLV := Lib.hid hlv; have HV := Lib.hid hv; have HV0 := Lib.hid hv0; clear hl1 hl2 hlv hv hv0
  go_enter Tryz.func67, Tryz.ntmps67
  go_upto_region 10 with fail
  go_cut [11] (fun s11 wx => PtrI (((w.alloc (.cells #[.int .i64 24, .int .i64 (-126), .int .i64 127, .int .i64 8] 60)).alloc (.cells #[.int .i64 0, .bool b1, .pointer (some ⟨g1, 0, none⟩), .int .i64 E1] 65)).alloc (.cells #[.int .i64 0, .bool b2, .pointer (some ⟨g2, 0, none⟩), .int .i64 E2] 65)) v s11 wx ∧ Within (((w.alloc (.cells #[.int .i64 24, .int .i64 (-126), .int .i64 127, .int .i64 8] 60)).alloc (.cells #[.int .i64 0, .bool b1, .pointer (some ⟨g1, 0, none⟩), .int .i64 E1] 65)).alloc (.cells #[.int .i64 0, .bool b2, .pointer (some ⟨g2, 0, none⟩), .int .i64 E2] 65)) wx)
  case first =>
    refine wp_region_schG (fun W => W.cell? ⟨w.heap.size + 1, 0, none⟩ = some (.int .i64 0) ∧ W.cell? ⟨w.heap.size + 1, 1, none⟩ = some (.bool b1) ∧ W.cell? ⟨w.heap.size + 1, 2, none⟩ = some (.pointer (some ⟨g1, 0, none⟩)) ∧ W.cell? ⟨w.heap.size + 1, 3, none⟩ = some (.int .i64 E1) ∧ W.cell? ⟨w.heap.size + 1 + 1, 0, none⟩ = some (.int .i64 0) ∧ W.cell? ⟨w.heap.size + 1 + 1, 1, none⟩ = some (.bool b2) ∧ W.cell? ⟨w.heap.size + 1 + 1, 2, none⟩ = some (.pointer (some ⟨g2, 0, none⟩)) ∧ W.cell? ⟨w.heap.size + 1 + 1, 3, none⟩ = some (.int .i64 E2) ∧ IntB W g1 (M1 : Int) ∧ IntB W g2 (M2 : Int) ∧ Within (((w.alloc (.cells #[.int .i64 24, .int .i64 (-126), .int .i64 127, .int .i64 8] 60)).alloc (.cells #[.int .i64 0, .bool b1, .pointer (some ⟨g1, 0, none⟩), .int .i64 E1] 65)).alloc (.cells #[.int .i64 0, .bool b2, .pointer (some ⟨g2, 0, none⟩), .int .i64 E2] 65)) W ∧ w.heap.size + 1 < W.heap.size ∧ w.heap.size + 1 + 1 < W.heap.size) 8 (.firm 1 (.firm 2 (.firm 4 (.firm 5 (.two 0 (.one 3 (.one 6 (.one 7 (.one 8 .nil)))) 3 (.two 0 (.one 6 (.one 7 (.one 8 .nil))) 6 (.one 0 (.one 7 (.one 8 .nil))))))))) (by kernel_rfl) (by kernel_rfl) ⟨by go_simp, by go_simp, by go_simp, by go_simp, by go_simp, by go_simp, by go_simp, by go_simp, (by repeat (first | with_reducible assumption | with_reducible exact ib_new _ _ (by simp; done) | with_reducible refine IntB.alloc ?_ _ | with_reducible refine IntB.drew ?_ | with_reducible refine IntB.drewN ?_ _)), (by repeat (first | with_reducible assumption | with_reducible exact ib_new _ _ (by simp; done) | with_reducible refine IntB.alloc ?_ _ | with_reducible refine IntB.drew ?_ | with_reducible refine IntB.drewN ?_ _)), Within.refl _, by first | (simp; done) | (simp; omega), by first | (simp; done) | (simp; omega)⟩ ?_
    rintro w0 ⟨c0, c1, c2, c3, c4, c5, c6, c7, hJ1, hJ2, hw0, hs0, hs1⟩
    try simp only [Act.put, List.setIfInBounds_toArray, List.set_cons_zero, List.set_cons_succ]
    repeat
      apply sch_firm rfl rfl (by repeat (first | with_reducible exact Within.refl _ | with_reducible assumption | with_reducible refine Within.alloc ?_ _ | with_reducible refine Within.drew ?_ | with_reducible refine Within.drewN ?_ _ | with_reducible refine Within.setCell ?_ (by first | (simp; done) | (simp; omega)) _ | with_reducible refine Within.trans ?_ (by assumption)))
      · intro wq hq
        have hcq := hq.cells
        clear hq
        go_simp
        first | rfl | (trace_state; fail)
      try simp only [Act.put, List.setIfInBounds_toArray, List.set_cons_zero, List.set_cons_succ]
    refine sch_two rfl rfl rfl rfl (fun K hK => ?_) (fun K hK => ?_)
    · go_simp
      refine hK _ _ (by repeat (first | with_reducible exact Within.refl _ | with_reducible assumption | with_reducible refine Within.alloc ?_ _ | with_reducible refine Within.drew ?_ | with_reducible refine Within.drewN ?_ _ | with_reducible refine Within.setCell ?_ (by first | (simp; done) | (simp; omega)) _ | with_reducible refine Within.trans ?_ (by assumption))) ?_
      clear hK K
      try simp only [Act.put, List.setIfInBounds_toArray, List.set_cons_zero, List.set_cons_succ]
      refine sch_one rfl rfl (fun K hK => ?_)
      go_simp
      refine (SG1.out _ (by repeat (first | with_reducible assumption | with_reducible exact ib_new _ _ (by simp; done) | with_reducible refine IntB.alloc ?_ _ | with_reducible refine IntB.drew ?_ | with_reducible refine IntB.drewN ?_ _))).mono ?_; rintro e4 w4 ⟨h1, rfl, hA1, hg1, hb4⟩
      have hv4 : Within w0 w4 := Within.trans (by repeat (first | with_reducible exact Within.refl _ | with_reducible assumption | with_reducible refine Within.alloc ?_ _ | with_reducible refine Within.drew ?_ | with_reducible refine Within.drewN ?_ _ | with_reducible refine Within.setCell ?_ (by first | (simp; done) | (simp; omega)) _ | with_reducible refine Within.trans ?_ (by assumption))) hb4
      have hT4 : IntTy w4 w0.heap.size := IntTy.of (by repeat (first | with_reducible assumption | with_reducible exact ty_new _ _ _ _ (by simp; done) | with_reducible refine ty_drew ?_ | with_reducible refine ty_alloc ?_ _)) hb4
      refine hK _ _ (fun _ => (by repeat (first | with_reducible exact Within.refl _ | with_reducible assumption | with_reducible refine Within.alloc ?_ _ | with_reducible refine Within.drew ?_ | with_reducible refine Within.drewN ?_ _ | with_reducible refine Within.setCell ?_ (by first | (simp; done) | (simp; omega)) _ | with_reducible refine Within.trans ?_ (by assumption)))) ?_
      clear hK K
      try simp only [Act.put, List.setIfInBounds_toArray, List.set_cons_zero, List.set_cons_succ]
      refine sch_one rfl rfl (fun K hK => ?_)
      go_simp
      have hJ2' := hJ2.of hv4
      refine (SG2.out _ (by repeat (first | with_reducible assumption | with_reducible exact ib_new _ _ (by simp; done) | with_reducible refine IntB.alloc ?_ _ | with_reducible refine IntB.drew ?_ | with_reducible refine IntB.drewN ?_ _))).mono ?_; rintro e5 w5 ⟨h2, rfl, hA2, hg2, hb5⟩
      have hA1' : IntB w5 h1 v1 := IntB.of (by repeat (first | with_reducible assumption | with_reducible exact ib_new _ _ (by simp; done) | with_reducible refine IntB.alloc ?_ _ | with_reducible refine IntB.drew ?_ | with_reducible refine IntB.drewN ?_ _)) hb5
      have hv5 : Within w0 w5 := Within.trans (by repeat (first | with_reducible exact Within.refl _ | with_reducible assumption | with_reducible refine Within.alloc ?_ _ | with_reducible refine Within.drew ?_ | with_reducible refine Within.drewN ?_ _ | with_reducible refine Within.setCell ?_ (by first | (simp; done) | (simp; omega)) _ | with_reducible refine Within.trans ?_ (by assumption))) hb5
      have hT5 : IntTy w5 w0.heap.size := IntTy.of (by repeat (first | with_reducible assumption | with_reducible exact ty_new _ _ _ _ (by simp; done) | with_reducible refine ty_drew ?_ | with_reducible refine ty_alloc ?_ _)) hb5
      refine hK _ _ (fun _ => (by repeat (first | with_reducible exact Within.refl _ | with_reducible assumption | with_reducible refine Within.alloc ?_ _ | with_reducible refine Within.drew ?_ | with_reducible refine Within.drewN ?_ _ | with_reducible refine Within.setCell ?_ (by first | (simp; done) | (simp; omega)) _ | with_reducible refine Within.trans ?_ (by assumption)))) ?_
      clear hK K
      try simp only [Act.put, List.setIfInBounds_toArray, List.set_cons_zero, List.set_cons_succ]
      refine sch_one rfl rfl (fun K hK => ?_)
      go_simp
      refine (BAdd _ h1 h2 v1 v2 (Nat.le_trans HL1.out (by decide)) (Nat.le_trans HL2.out (by decide)) _ (by repeat (first | with_reducible assumption | with_reducible exact ty_new _ _ _ _ (by simp; done) | with_reducible refine ty_drew ?_ | with_reducible refine ty_alloc ?_ _)) (by repeat (first | with_reducible assumption | with_reducible exact ib_new _ _ (by simp; done) | with_reducible refine IntB.alloc ?_ _ | with_reducible refine IntB.drew ?_ | with_reducible refine IntB.drewN ?_ _)) (by repeat (first | with_reducible assumption | with_reducible exact ib_new _ _ (by simp; done) | with_reducible refine IntB.alloc ?_ _ | with_reducible refine IntB.drew ?_ | with_reducible refine IntB.drewN ?_ _))).mono ?_; rintro e6 w6 ⟨rfl, hA3, hG3⟩
      rw [HV.out] at hA3
      have hv3 : Within w0 w6 := Within.grown (by repeat (first | with_reducible exact Within.refl _ | with_reducible assumption | with_reducible refine Within.alloc ?_ _ | with_reducible refine Within.drew ?_ | with_reducible refine Within.drewN ?_ _ | with_reducible refine Within.setCell ?_ (by first | (simp; done) | (simp; omega)) _ | with_reducible refine Within.trans ?_ (by assumption))) hG3 (by first | (simp; done) | exact hv4.sizes | exact hv5.sizes)
      refine hK _ _ (fun _ => (by repeat (first | with_reducible exact Within.refl _ | with_reducible assumption | with_reducible refine Within.alloc ?_ _ | with_reducible refine Within.drew ?_ | with_reducible refine Within.drewN ?_ _ | with_reducible refine Within.setCell ?_ (by first | (simp; done) | (simp; omega)) _ | with_reducible refine Within.trans ?_ (by assumption)))) ?_
      clear hK K
      try simp only [Act.put, List.setIfInBounds_toArray, List.set_cons_zero, List.set_cons_succ]
      refine sch_one rfl rfl (fun K hK => ?_)
      go_simp
      refine hK _ _ (fun h => absurd h (by decide)) ?_
      clear hK K
      try simp only [Act.put, List.setIfInBounds_toArray, List.set_cons_zero, List.set_cons_succ]
      refine sch_nil ?_
      go_wp2_with fail
      go_meet
      exact ⟨⟨_, rfl, hA3, Nat.le_trans hw0.sizes (by first | (simp; done) | exact hv4.sizes | exact hv5.sizes)⟩, hw0.trans hv3⟩
    · go_simp
      refine (SG1.out _ (by repeat (first | with_reducible assumption | with_reducible exact ib_new _ _ (by simp; done) | with_reducible refine IntB.alloc ?_ _ | with_reducible refine IntB.drew ?_ | with_reducible refine IntB.drewN ?_ _))).mono ?_; rintro e4 w4 ⟨h1, rfl, hA1, hg1, hb4⟩
      have hv4 : Within w0 w4 := Within.trans (by repeat (first | with_reducible exact Within.refl _ | with_reducible assumption | with_reducible refine Within.alloc ?_ _ | with_reducible refine Within.drew ?_ | with_reducible refine Within.drewN ?_ _ | with_reducible refine Within.setCell ?_ (by first | (simp; done) | (simp; omega)) _ | with_reducible refine Within.trans ?_ (by assumption))) hb4
      refine hK _ _ (by repeat (first | with_reducible exact Within.refl _ | with_reducible assumption | with_reducible refine Within.alloc ?_ _ | with_reducible refine Within.drew ?_ | with_reducible refine Within.drewN ?_ _ | with_reducible refine Within.setCell ?_ (by first | (simp; done) | (simp; omega)) _ | with_reducible refine Within.trans ?_ (by assumption))) ?_
      clear hK K
      try simp only [Act.put, List.setIfInBounds_toArray, List.set_cons_zero, List.set_cons_succ]
      refine sch_two rfl rfl rfl rfl (fun K hK => ?_) (fun K hK => ?_)
      · go_simp
        refine hK _ _ (by repeat (first | with_reducible exact Within.refl _ | with_reducible assumption | with_reducible refine Within.alloc ?_ _ | with_reducible refine Within.drew ?_ | with_reducible refine Within.drewN ?_ _ | with_reducible refine Within.setCell ?_ (by first | (simp; done) | (simp; omega)) _ | with_reducible refine Within.trans ?_ (by assumption))) ?_
        clear hK K
        try simp only [Act.put, List.setIfInBounds_toArray, List.set_cons_zero, List.set_cons_succ]
        refine sch_one rfl rfl (fun K hK => ?_)
        go_simp
        have hJ2' := hJ2.of hv4
        refine (SG2.out _ (by repeat (first | with_reducible assumption | with_reducible exact ib_new _ _ (by simp; done) | with_reducible refine IntB.alloc ?_ _ | with_reducible refine IntB.drew ?_ | with_reducible refine IntB.drewN ?_ _))).mono ?_; rintro e5 w5 ⟨h2, rfl, hA2, hg2, hb5⟩
        have hA1' : IntB w5 h1 v1 := IntB.of (by repeat (first | with_reducible assumption | with_reducible exact ib_new _ _ (by simp; done) | with_reducible refine IntB.alloc ?_ _ | with_reducible refine IntB.drew ?_ | with_reducible refine IntB.drewN ?_ _)) hb5
        have hv5 : Within w0 w5 := Within.trans (by repeat (first | with_reducible exact Within.refl _ | with_reducible assumption | with_reducible refine Within.alloc ?_ _ | with_reducible refine Within.drew ?_ | with_reducible refine Within.drewN ?_ _ | with_reducible refine Within.setCell ?_ (by first | (simp; done) | (simp; omega)) _ | with_reducible refine Within.trans ?_ (by assumption))) hb5
        have hT5 : IntTy w5 w4.heap.size := IntTy.of (by repeat (first | with_reducible assumption | with_reducible exact ty_new _ _ _ _ (by simp; done) | with_reducible refine ty_drew ?_ | with_reducible refine ty_alloc ?_ _)) hb5
        refine hK _ _ (fun _ => (by repeat (first | with_reducible exact Within.refl _ | with_reducible assumption | with_reducible refine Within.alloc ?_ _ | with_reducible refine Within.drew ?_ | with_reducible refine Within.drewN ?_ _ | with_reducible refine Within.setCell ?_ (by first | (simp; done) | (simp; omega)) _ | with_reducible refine Within.trans ?_ (by assumption)))) ?_
        clear hK K
        try simp only [Act.put, List.setIfInBounds_toArray, List.set_cons_zero, List.set_cons_succ]
        refine sch_one rfl rfl (fun K hK => ?_)
        go_simp
        refine (BAdd _ h1 h2 v1 v2 (Nat.le_trans HL1.out (by decide)) (Nat.le_trans HL2.out (by decide)) _ (by repeat (first | with_reducible assumption | with_reducible exact ty_new _ _ _ _ (by simp; done) | with_reducible refine ty_drew ?_ | with_reducible refine ty_alloc ?_ _)) (by repeat (first | with_reducible assumption | with_reducible exact ib_new _ _ (by simp; done) | with_reducible refine IntB.alloc ?_ _ | with_reducible refine IntB.drew ?_ | with_reducible refine IntB.drewN ?_ _)) (by repeat (first | with_reducible assumption | with_reducible exact ib_new _ _ (by simp; done) | with_reducible refine IntB.alloc ?_ _ | with_reducible refine IntB.drew ?_ | with_reducible refine IntB.drewN ?_ _))).mono ?_; rintro e6 w6 ⟨rfl, hA3, hG3⟩
        rw [HV.out] at hA3
        have hv3 : Within w0 w6 := Within.grown (by repeat (first | with_reducible exact Within.refl _ | with_reducible assumption | with_reducible refine Within.alloc ?_ _ | with_reducible refine Within.drew ?_ | with_reducible refine Within.drewN ?_ _ | with_reducible refine Within.setCell ?_ (by first | (simp; done) | (simp; omega)) _ | with_reducible refine Within.trans ?_ (by assumption))) hG3 (by first | (simp; done) | exact hv4.sizes | exact hv5.sizes)
        refine hK _ _ (fun _ => (by repeat (first | with_reducible exact Within.refl _ | with_reducible assumption | with_reducible refine Within.alloc ?_ _ | with_reducible refine Within.drew ?_ | with_reducible refine Within.drewN ?_ _ | with_reducible refine Within.setCell ?_ (by first | (simp; done) | (simp; omega)) _ | with_reducible refine Within.trans ?_ (by assumption)))) ?_
        clear hK K
        try simp only [Act.put, List.setIfInBounds_toArray, List.set_cons_zero, List.set_cons_succ]
        refine sch_one rfl rfl (fun K hK => ?_)
        go_simp
        refine hK _ _ (fun h => absurd h (by decide)) ?_
        clear hK K
        try simp only [Act.put, List.setIfInBounds_toArray, List.set_cons_zero, List.set_cons_succ]
        refine sch_nil ?_
        go_wp2_with fail
        go_meet
        exact ⟨⟨_, rfl, hA3, Nat.le_trans hw0.sizes (by first | (simp; done) | exact hv4.sizes | exact hv5.sizes)⟩, hw0.trans hv3⟩
      · go_simp
        have hJ2' := hJ2.of hv4
        refine (SG2.out _ (by repeat (first | with_reducible assumption | with_reducible exact ib_new _ _ (by simp; done) | with_reducible refine IntB.alloc ?_ _ | with_reducible refine IntB.drew ?_ | with_reducible refine IntB.drewN ?_ _))).mono ?_; rintro e5 w5 ⟨h2, rfl, hA2, hg2, hb5⟩
        have hA1' : IntB w5 h1 v1 := IntB.of (by repeat (first | with_reducible assumption | with_reducible exact ib_new _ _ (by simp; done) | with_reducible refine IntB.alloc ?_ _ | with_reducible refine IntB.drew ?_ | with_reducible refine IntB.drewN ?_ _)) hb5
        have hv5 : Within w0 w5 := Within.trans (by repeat (first | with_reducible exact Within.refl _ | with_reducible assumption | with_reducible refine Within.alloc ?_ _ | with_reducible refine Within.drew ?_ | with_reducible refine Within.drewN ?_ _ | with_reducible refine Within.setCell ?_ (by first | (simp; done) | (simp; omega)) _ | with_reducible refine Within.trans ?_ (by assumption))) hb5
        refine hK _ _ (by repeat (first | with_reducible exact Within.refl _ | with_reducible assumption | with_reducible refine Within.alloc ?_ _ | with_reducible refine Within.drew ?_ | with_reducible refine Within.drewN ?_ _ | with_reducible refine Within.setCell ?_ (by first | (simp; done) | (simp; omega)) _ | with_reducible refine Within.trans ?_ (by assumption))) ?_
        clear hK K
        try simp only [Act.put, List.setIfInBounds_toArray, List.set_cons_zero, List.set_cons_succ]
        refine sch_one rfl rfl (fun K hK => ?_)
        go_simp
        refine hK _ _ (fun _ => (by repeat (first | with_reducible exact Within.refl _ | with_reducible assumption | with_reducible refine Within.alloc ?_ _ | with_reducible refine Within.drew ?_ | with_reducible refine Within.drewN ?_ _ | with_reducible refine Within.setCell ?_ (by first | (simp; done) | (simp; omega)) _ | with_reducible refine Within.trans ?_ (by assumption)))) ?_
        clear hK K
        try simp only [Act.put, List.setIfInBounds_toArray, List.set_cons_zero, List.set_cons_succ]
        refine sch_one rfl rfl (fun K hK => ?_)
        go_simp
        refine (BAdd _ h1 h2 v1 v2 (Nat.le_trans HL1.out (by decide)) (Nat.le_trans HL2.out (by decide)) _ (by repeat (first | with_reducible assumption | with_reducible exact ty_new _ _ _ _ (by simp; done) | with_reducible refine ty_drew ?_ | with_reducible refine ty_alloc ?_ _)) (by repeat (first | with_reducible assumption | with_reducible exact ib_new _ _ (by simp; done) | with_reducible refine IntB.alloc ?_ _ | with_reducible refine IntB.drew ?_ | with_reducible refine IntB.drewN ?_ _)) (by repeat (first | with_reducible assumption | with_reducible exact ib_new _ _ (by simp; done) | with_reducible refine IntB.alloc ?_ _ | with_reducible refine IntB.drew ?_ | with_reducible refine IntB.drewN ?_ _))).mono ?_; rintro e6 w6 ⟨rfl, hA3, hG3⟩
        rw [HV.out] at hA3
        have hv3 : Within w0 w6 := Within.grown (by repeat (first | with_reducible exact Within.refl _ | with_reducible assumption | with_reducible refine Within.alloc ?_ _ | with_reducible refine Within.drew ?_ | with_reducible refine Within.drewN ?_ _ | with_reducible refine Within.setCell ?_ (by first | (simp; done) | (simp; omega)) _ | with_reducible refine Within.trans ?_ (by assumption))) hG3 (by first | (simp; done) | exact hv4.sizes | exact hv5.sizes)
        refine hK _ _ (fun _ => (by repeat (first | with_reducible exact Within.refl _ | with_reducible assumption | with_reducible refine Within.alloc ?_ _ | with_reducible refine Within.drew ?_ | with_reducible refine Within.drewN ?_ _ | with_reducible refine Within.setCell ?_ (by first | (simp; done) | (simp; omega)) _ | with_reducible refine Within.trans ?_ (by assumption)))) ?_
        clear hK K
        try simp only [Act.put, List.setIfInBounds_toArray, List.set_cons_zero, List.set_cons_succ]
        refine sch_one rfl rfl (fun K hK => ?_)
        go_simp
        refine hK _ _ (fun h => absurd h (by decide)) ?_
        clear hK K
        try simp only [Act.put, List.setIfInBounds_toArray, List.set_cons_zero, List.set_cons_succ]
        refine sch_nil ?_
        go_wp2_with fail
        go_meet
        exact ⟨⟨_, rfl, hA3, Nat.le_trans hw0.sizes (by first | (simp; done) | exact hv4.sizes | exact hv5.sizes)⟩, hw0.trans hv3⟩
  case rest =>
    obtain ⟨⟨z, rfl, hI, hz⟩, hw⟩ := hcut
    have hz3 : w.heap.size + 3 ≤ z := Nat.le_trans (by simp) hz
    clear hz
    have hww : Within w wc := ((((Within.refl w).alloc _).alloc _).alloc _).trans hw
    have f0 : wc.cell? ⟨w.heap.size, 0, none⟩ = some (.int .i64 24) := (hw.cells _ _ (by simp; omega)).trans (by go_simp)
    have f1 : wc.cell? ⟨w.heap.size, 1, none⟩ = some (.int .i64 (-126)) := (hw.cells _ _ (by simp; omega)).trans (by go_simp)
    have f2 : wc.cell? ⟨w.heap.size, 2, none⟩ = some (.int .i64 127) := (hw.cells _ _ (by simp; omega)).trans (by go_simp)
    have f3 : wc.cell? ⟨w.heap.size, 3, none⟩ = some (.int .i64 8) := (hw.cells _ _ (by simp; omega)).trans (by go_simp)
    have c0 : wc.cell? ⟨w.heap.size + 1, 0, none⟩ = some (.int .i64 0) := (hw.cells _ _ (by simp)).trans (by go_simp)
    have c1 : wc.cell? ⟨w.heap.size + 1, 1, none⟩ = some (.bool b1) := (hw.cells _ _ (by simp)).trans (by go_simp)
    have c2 : wc.cell? ⟨w.heap.size + 1, 2, none⟩ = some (.pointer (some ⟨g1, 0, none⟩)) := (hw.cells _ _ (by simp)).trans (by go_simp)
    have c3 : wc.cell? ⟨w.heap.size + 1, 3, none⟩ = some (.int .i64 E1) := (hw.cells _ _ (by simp)).trans (by go_simp)
    have c4 : wc.cell? ⟨w.heap.size + 1 + 1, 0, none⟩ = some (.int .i64 0) := (hw.cells _ _ (by simp)).trans (by go_simp)
    have c5 : wc.cell? ⟨w.heap.size + 1 + 1, 1, none⟩ = some (.bool b2) := (hw.cells _ _ (by simp)).trans (by go_simp)
    have c6 : wc.cell? ⟨w.heap.size + 1 + 1, 2, none⟩ = some (.pointer (some ⟨g2, 0, none⟩)) := (hw.cells _ _ (by simp)).trans (by go_simp)
    have c7 : wc.cell? ⟨w.heap.size + 1 + 1, 3, none⟩ = some (.int .i64 E2) := (hw.cells _ _ (by simp)).trans (by go_simp)
    have fl : w.heap.size < wc.heap.size := World.block_lt_of_cell? _ _ f0
    have fl1 : w.heap.size + 1 < wc.heap.size := World.block_lt_of_cell? _ _ c0
    have fl2 : w.heap.size + 1 + 1 < wc.heap.size := World.block_lt_of_cell? _ _ c4
    have hJ1 : IntB wc g1 (M1 : Int) := hI1.of hww
    have hJ2 : IntB wc g2 (M2 : Int) := hI2.of hww
    clear hw
    have d0 : (v.sign == 0) = true := by rw [HV0.out]; rfl
    go_wp2_with fail
    refine (Bsign z v _ hI).mono ?_; rintro e7 w7 ⟨rfl, rfl⟩
    go_wp2
    refine wp_region_schG (fun W => W.cell? ⟨w.heap.size, 0, none⟩ = some (.int .i64 24) ∧ W.cell? ⟨w.heap.size, 1, none⟩ = some (.int .i64 (-126)) ∧ W.cell? ⟨w.heap.size, 2, none⟩ = some (.int .i64 127) ∧ W.cell? ⟨w.heap.size, 3, none⟩ = some (.int .i64 8) ∧ W.cell? ⟨w.heap.size + 1, 0, none⟩ = some (.int .i64 0) ∧ W.cell? ⟨w.heap.size + 1, 1, none⟩ = some (.bool b1) ∧ W.cell? ⟨w.heap.size + 1, 2, none⟩ = some (.pointer (some ⟨g1, 0, none⟩)) ∧ W.cell? ⟨w.heap.size + 1, 3, none⟩ = some (.int .i64 E1) ∧ W.cell? ⟨w.heap.size + 1 + 1, 0, none⟩ = some (.int .i64 0) ∧ W.cell? ⟨w.heap.size + 1 + 1, 1, none⟩ = some (.bool b2) ∧ W.cell? ⟨w.heap.size + 1 + 1, 2, none⟩ = some (.pointer (some ⟨g2, 0, none⟩)) ∧ W.cell? ⟨w.heap.size + 1 + 1, 3, none⟩ = some (.int .i64 E2) ∧ IntB W g1 (M1 : Int) ∧ IntB W g2 (M2 : Int) ∧ w.heap.size < W.heap.size ∧ w.heap.size + 1 < W.heap.size ∧ w.heap.size + 1 + 1 < W.heap.size ∧ Within w W) 19 (.firm 0 (.firm 1 (.firm 14 (.firm 15 (.firm 16 (.one 2 (.firm 3 (.firm 4 (.one 5 (.firm 6 (.firm 7 (.firm 8 (.firm 9 (.firm 10 (.firm 11 (.firm 12 (.firm 13 (.one 17 (.firm 18 (.one 19 .nil)))))))))))))))))))) (by kernel_rfl) (by kernel_rfl) ⟨f0, f1, f2, f3, c0, c1, c2, c3, c4, c5, c6, c7, hJ1, hJ2, fl, fl1, fl2, hww⟩ ?_
    rintro w0 ⟨f0, f1, f2, f3, c0, c1, c2, c3, c4, c5, c6, c7, hJ1, hJ2, fl, fl1, fl2, hww⟩
    try simp only [Act.put, List.setIfInBounds_toArray, List.set_cons_zero, List.set_cons_succ]
    apply sch_firm rfl rfl (by repeat (first | with_reducible exact Within.refl _ | with_reducible assumption | with_reducible refine Within.alloc ?_ _ | with_reducible refine Within.drew ?_ | with_reducible refine Within.drewN ?_ _ | with_reducible refine Within.setCell ?_ (by first | (simp; done) | (simp; omega)) _ | with_reducible refine Within.trans ?_ (by assumption)))
    · intro wq hq
      have hcq := hq.cells
      clear hq
      go_simp
      first | rfl | (trace_state; fail)
    try simp only [Act.put, List.setIfInBounds_toArray, List.set_cons_zero, List.set_cons_succ]
    apply sch_firm rfl rfl (by repeat (first | with_reducible exact Within.refl _ | with_reducible assumption | with_reducible refine Within.alloc ?_ _ | with_reducible refine Within.drew ?_ | with_reducible refine Within.drewN ?_ _ | with_reducible refine Within.setCell ?_ (by first | (simp; done) | (simp; omega)) _ | with_reducible refine Within.trans ?_ (by assumption)))
    · intro wq hq
      have hcq := hq.cells
      clear hq
      go_simp
      first | rfl | (trace_state; fail)
    try simp only [Act.put, List.setIfInBounds_toArray, List.set_cons_zero, List.set_cons_succ]
    apply sch_firm rfl rfl (by repeat (first | with_reducible exact Within.refl _ | with_reducible assumption | with_reducible refine Within.alloc ?_ _ | with_reducible refine Within.drew ?_ | with_reducible refine Within.drewN ?_ _ | with_reducible refine Within.setCell ?_ (by first | (simp; done) | (simp; omega)) _ | with_reducible refine Within.trans ?_ (by assumption)))
    · intro wq hq
      have hcq := hq.cells
      clear hq
      go_simp
      first | rfl | (trace_state; fail)
    try simp only [Act.put, List.setIfInBounds_toArray, List.set_cons_zero, List.set_cons_succ]
    apply sch_firm rfl rfl (by repeat (first | with_reducible exact Within.refl _ | with_reducible assumption | with_reducible refine Within.alloc ?_ _ | with_reducible refine Within.drew ?_ | with_reducible refine Within.drewN ?_ _ | with_reducible refine Within.setCell ?_ (by first | (simp; done) | (simp; omega)) _ | with_reducible refine Within.trans ?_ (by assumption)))
    · intro wq hq
      have hcq := hq.cells
      clear hq
      go_simp
      first | rfl | (trace_state; fail)
    try simp only [Act.put, List.setIfInBounds_toArray, List.set_cons_zero, List.set_cons_succ]
    apply sch_firm rfl rfl (by repeat (first | with_reducible exact Within.refl _ | with_reducible assumption | with_reducible refine Within.alloc ?_ _ | with_reducible refine Within.drew ?_ | with_reducible refine Within.drewN ?_ _ | with_reducible refine Within.setCell ?_ (by first | (simp; done) | (simp; omega)) _ | with_reducible refine Within.trans ?_ (by assumption)))
    · intro wq hq
      have hcq := hq.cells
      clear hq
      go_simp
      first | rfl | (trace_state; fail)
    try simp only [Act.put, List.setIfInBounds_toArray, List.set_cons_zero, List.set_cons_succ]
    refine sch_one rfl rfl (fun K hK => ?_)
    go_simp
    refine (Riszero_zero 0 E1 (M1 : Int) b1 g1 rfl hm1 _ (by exact hJ1)).mono ?_; rintro e8 w8 ⟨rfl, hv8'⟩
    have hv8 : Within w0 w8 := Within.trans (Within.refl w0).drew hv8'
    have hJ2' := hJ2.of hv8
    refine hK _ _ (fun _ => (by repeat (first | with_reducible exact Within.refl _ | with_reducible assumption | with_reducible refine Within.alloc ?_ _ | with_reducible refine Within.drew ?_ | with_reducible refine Within.drewN ?_ _ | with_reducible refine Within.setCell ?_ (by first | (simp; done) | (simp; omega)) _ | with_reducible refine Within.trans ?_ (by assumption)))) ?_
    clear hK K
    try simp only [Act.put, List.setIfInBounds_toArray, List.set_cons_zero, List.set_cons_succ]
    apply sch_firm rfl rfl (by repeat (first | with_reducible exact Within.refl _ | with_reducible assumption | with_reducible refine Within.alloc ?_ _ | with_reducible refine Within.drew ?_ | with_reducible refine Within.drewN ?_ _ | with_reducible refine Within.setCell ?_ (by first | (simp; done) | (simp; omega)) _ | with_reducible refine Within.trans ?_ (by assumption)))
    · intro wq hq
      have hcq := hq.cells
      clear hq
      go_simp
      first | rfl | (trace_state; fail)
    try simp only [Act.put, List.setIfInBounds_toArray, List.set_cons_zero, List.set_cons_succ]
    apply sch_want rfl (by first | rfl | decide | (simp [Region.wanted, yielded]; done)) (by repeat (first | with_reducible exact Within.refl _ | with_reducible assumption | with_reducible refine Within.alloc ?_ _ | with_reducible refine Within.drew ?_ | with_reducible refine Within.drewN ?_ _ | with_reducible refine Within.setCell ?_ (by first | (simp; done) | (simp; omega)) _ | with_reducible refine Within.trans ?_ (by assumption)))
    · intro wq hq
      have hcq := hq.cells
      clear hq
      go_simp
      first | rfl | (trace_state; fail)
    try simp only [Act.put, List.setIfInBounds_toArray, List.set_cons_zero, List.set_cons_succ]
    refine sch_one_want rfl (by first | rfl | decide | (simp [Region.wanted, yielded]; done)) (fun K hK => ?_)
    go_simp
    refine (Riszero_zero 0 E2 (M2 : Int) b2 g2 rfl hm2 _ (by exact hJ2')).mono ?_; rintro e9 w9 ⟨rfl, hv9'⟩
    have hv9 := hv8.trans hv9'
    refine hK _ _ (fun _ => (by repeat (first | with_reducible exact Within.refl _ | with_reducible assumption | with_reducible refine Within.alloc ?_ _ | with_reducible refine Within.drew ?_ | with_reducible refine Within.drewN ?_ _ | with_reducible refine Within.setCell ?_ (by first | (simp; done) | (simp; omega)) _ | with_reducible refine Within.trans ?_ (by assumption)))) ?_
    clear hK K
    try simp only [Act.put, List.setIfInBounds_toArray, List.set_cons_zero, List.set_cons_succ]
    apply sch_firm rfl rfl (by repeat (first | with_reducible exact Within.refl _ | with_reducible assumption | with_reducible refine Within.alloc ?_ _ | with_reducible refine Within.drew ?_ | with_reducible refine Within.drewN ?_ _ | with_reducible refine Within.setCell ?_ (by first | (simp; done) | (simp; omega)) _ | with_reducible refine Within.trans ?_ (by assumption)))
    · intro wq hq
      have hcq := hq.cells
      clear hq
      go_simp
      first | rfl | (trace_state; fail)
    try simp only [Act.put, List.setIfInBounds_toArray, List.set_cons_zero, List.set_cons_succ]
    apply sch_firm rfl rfl (by repeat (first | with_reducible exact Within.refl _ | with_reducible assumption | with_reducible refine Within.alloc ?_ _ | with_reducible refine Within.drew ?_ | with_reducible refine Within.drewN ?_ _ | with_reducible refine Within.setCell ?_ (by first | (simp; done) | (simp; omega)) _ | with_reducible refine Within.trans ?_ (by assumption)))
    · intro wq hq
      have hcq := hq.cells
      clear hq
      go_simp
      first | rfl | (trace_state; fail)
    try simp only [Act.put, List.setIfInBounds_toArray, List.set_cons_zero, List.set_cons_succ]
    apply sch_want rfl (by first | rfl | decide | (simp [Region.wanted, yielded]; done)) (by repeat (first | with_reducible exact Within.refl _ | with_reducible assumption | with_reducible refine Within.alloc ?_ _ | with_reducible refine Within.drew ?_ | with_reducible refine Within.drewN ?_ _ | with_reducible refine Within.setCell ?_ (by first | (simp; done) | (simp; omega)) _ | with_reducible refine Within.trans ?_ (by assumption)))
    · intro wq hq
      have hcq := hq.cells
      clear hq
      go_simp
      first | rfl | (trace_state; fail)
    try simp only [Act.put, List.setIfInBounds_toArray, List.set_cons_zero, List.set_cons_succ]
    apply sch_want rfl (by first | rfl | decide | (simp [Region.wanted, yielded]; done)) (by repeat (first | with_reducible exact Within.refl _ | with_reducible assumption | with_reducible refine Within.alloc ?_ _ | with_reducible refine Within.drew ?_ | with_reducible refine Within.drewN ?_ _ | with_reducible refine Within.setCell ?_ (by first | (simp; done) | (simp; omega)) _ | with_reducible refine Within.trans ?_ (by assumption)))
    · intro wq hq
      have hcq := hq.cells
      clear hq
      go_simp
      first | rfl | (trace_state; fail)
    try simp only [Act.put, List.setIfInBounds_toArray, List.set_cons_zero, List.set_cons_succ]
    apply sch_want rfl (by first | rfl | decide | (simp [Region.wanted, yielded]; done)) (by repeat (first | with_reducible exact Within.refl _ | with_reducible assumption | with_reducible refine Within.alloc ?_ _ | with_reducible refine Within.drew ?_ | with_reducible refine Within.drewN ?_ _ | with_reducible refine Within.setCell ?_ (by first | (simp; done) | (simp; omega)) _ | with_reducible refine Within.trans ?_ (by assumption)))
    · intro wq hq
      have hcq := hq.cells
      clear hq
      go_simp
      first | rfl | (trace_state; fail)
    try simp only [Act.put, List.setIfInBounds_toArray, List.set_cons_zero, List.set_cons_succ]
    apply sch_want rfl (by first | rfl | decide | (simp [Region.wanted, yielded]; done)) (by repeat (first | with_reducible exact Within.refl _ | with_reducible assumption | with_reducible refine Within.alloc ?_ _ | with_reducible refine Within.drew ?_ | with_reducible refine Within.drewN ?_ _ | with_reducible refine Within.setCell ?_ (by first | (simp; done) | (simp; omega)) _ | with_reducible refine Within.trans ?_ (by assumption)))
    · intro wq hq
      have hcq := hq.cells
      clear hq
      go_simp
      first | rfl | (trace_state; fail)
    try simp only [Act.put, List.setIfInBounds_toArray, List.set_cons_zero, List.set_cons_succ]
    apply sch_want rfl (by first | rfl | decide | (simp [Region.wanted, yielded]; done)) (by repeat (first | with_reducible exact Within.refl _ | with_reducible assumption | with_reducible refine Within.alloc ?_ _ | with_reducible refine Within.drew ?_ | with_reducible refine Within.drewN ?_ _ | with_reducible refine Within.setCell ?_ (by first | (simp; done) | (simp; omega)) _ | with_reducible refine Within.trans ?_ (by assumption)))
    · intro wq hq
      have hcq := hq.cells
      clear hq
      go_simp
      first | rfl | (trace_state; fail)
    try simp only [Act.put, List.setIfInBounds_toArray, List.set_cons_zero, List.set_cons_succ]
    apply sch_firm rfl rfl (by repeat (first | with_reducible exact Within.refl _ | with_reducible assumption | with_reducible refine Within.alloc ?_ _ | with_reducible refine Within.drew ?_ | with_reducible refine Within.drewN ?_ _ | with_reducible refine Within.setCell ?_ (by first | (simp; done) | (simp; omega)) _ | with_reducible refine Within.trans ?_ (by assumption)))
    · intro wq hq
      have hcq := hq.cells
      clear hq
      go_simp
      first | rfl | (trace_state; fail)
    try simp only [Act.put, List.setIfInBounds_toArray, List.set_cons_zero, List.set_cons_succ]
    refine sch_one rfl rfl (fun K hK => ?_)
    go_simp
    refine (Rzero_two b1 mode _).mono ?_; rintro e10 w10 ⟨rfl, hv10'⟩
    have hv10 := hv9.trans hv10'
    refine hK _ _ (fun _ => (by repeat (first | with_reducible exact Within.refl _ | with_reducible assumption | with_reducible refine Within.alloc ?_ _ | with_reducible refine Within.drew ?_ | with_reducible refine Within.drewN ?_ _ | with_reducible refine Within.setCell ?_ (by first | (simp; done) | (simp; omega)) _ | with_reducible refine Within.trans ?_ (by assumption)))) ?_
    clear hK K
    try simp only [Act.put, List.setIfInBounds_toArray, List.set_cons_zero, List.set_cons_succ]
    apply sch_firm rfl rfl (by repeat (first | with_reducible exact Within.refl _ | with_reducible assumption | with_reducible refine Within.alloc ?_ _ | with_reducible refine Within.drew ?_ | with_reducible refine Within.drewN ?_ _ | with_reducible refine Within.setCell ?_ (by first | (simp; done) | (simp; omega)) _ | with_reducible refine Within.trans ?_ (by assumption)))
    · intro wq hq
      have hcq := hq.cells
      clear hq
      go_simp
      first | rfl | (trace_state; fail)
    try simp only [Act.put, List.setIfInBounds_toArray, List.set_cons_zero, List.set_cons_succ]
    refine sch_one rfl rfl (fun K hK => ?_)
    go_simp
    refine hK _ _ (fun h => absurd h (by decide)) ?_
    clear hK K
    try simp only [Act.put, List.setIfInBounds_toArray, List.set_cons_zero, List.set_cons_succ]
    refine sch_nil ?_
    have hw10 := hww.trans hv10
    go_wp2
    go_ret2
    exact ⟨rfl, hw10⟩
theorem infS_is (b : Bool) : infS b = 2139095040 + nghtS b := rfl
theorem Radd (k1 k2 E1 E2 mode : Int) (b1 b2 : Bool) (g1 g2 M1 M2 : Nat) (hk1 : k1 = 0 ∨ k1 = 1 ∨ k1 = 2) (hk2 : k2 = 0 ∨ k2 = 1 ∨ k2 = 2) (h1 : -5000 ≤ E1 ∧ E1 ≤ 5000) (h2 : -5000 ≤ E2 ∧ E2 ≤ 5000) (l1 : (dg M1).length ≤ 400) (l2 : (dg M2).length ≤ 400) (w : World) (hI1 : IntB w g1 (M1 : Int)) (hI2 : IntB w g2 (M2 : Int)) : Calls Tryz.prog 67 #[fmS, .agg #[.int .i64 k1, .bool b1, .pointer (some ⟨g1, 0, none⟩), .int .i64 E1], .agg #[.int .i64 k2, .bool b2, .pointer (some ⟨g2, 0, none⟩), .int .i64 E2], .int .i64 mode] w (fun e' w' => e' = .returned (.tuple #[.int .u64 ((addRW k1 b1 M1 E1 k2 b2 M2 E2 mode : Nat)), .int .i64 (addRF k1 b1 M1 E1 k2 b2 M2 E2 mode)]) ∧ Within w w') := by
  unfold addRW addRF
  by_cases n : k1 = 2 ∨ k2 = 2
  · rw [if_pos n, if_pos n]
    by_cases n1 : k1 = 2
    · subst n1; exact Radd_nan1 E1 E2 mode b1 b2 g1 g2 k2 w
    · have n2 : k2 = 2 := n.resolve_left n1
      subst n2; exact Radd_nan2 E1 E2 mode b1 b2 g1 g2 k1 (beq_eq_false_iff_ne.2 n1) w
  have n1 : k1 ≠ 2 := fun h => n (.inl h)
  have n2 : k2 ≠ 2 := fun h => n (.inr h)
  rw [if_neg n, if_neg n]
  by_cases i : k1 = 1 ∧ k2 = 1 ∧ b1 ≠ b2
  · rw [if_pos i, if_pos i]
    obtain ⟨rfl, rfl, h⟩ := i
    exact Radd_inv E1 E2 mode b1 b2 g1 g2 (beq_eq_false_iff_ne.2 h) w
  rw [if_neg i, if_neg i]
  by_cases i1 : k1 = 1
  · rw [if_pos i1, if_pos i1, infS_is]
    subst i1
    refine Radd_inf1 E1 E2 mode b1 b2 g1 g2 k2 (beq_eq_false_iff_ne.2 n2) ?_ w
    by_cases h : k2 = 1
    · by_cases hb : b1 = b2
      · subst hb; simp
      · exact absurd ⟨rfl, h, hb⟩ i
    · rw [beq_eq_false_iff_ne.2 h, Bool.false_and]
  rw [if_neg i1, if_neg i1]
  by_cases i2 : k2 = 1
  · rw [if_pos i2, if_pos i2, infS_is]
    subst i2
    exact Radd_inf2 E1 E2 mode b1 b2 g1 g2 k1 (beq_eq_false_iff_ne.2 n1) (beq_eq_false_iff_ne.2 i1) w
  rw [if_neg i2, if_neg i2]
  have z1 : k1 = 0 := by rcases hk1 with h | h | h; exact h; exact absurd h i1; exact absurd h n1
  have z2 : k2 = 0 := by rcases hk2 with h | h | h; exact h; exact absurd h i2; exact absurd h n2
  subst z1 z2
  obtain ⟨e, he⟩ : ∃ e, min E1 E2 = e := ⟨_, rfl⟩
  rw [he]
  obtain ⟨v1, hv1⟩ : ∃ v1, v1 = sgI b1 M1 (E1 - e).toNat := ⟨_, rfl⟩
  obtain ⟨v2, hv2⟩ : ∃ v2, v2 = sgI b2 M2 (E2 - e).toNat := ⟨_, rfl⟩
  obtain ⟨v, hv⟩ : ∃ v, v1 + v2 = v := ⟨_, rfl⟩
  have j1 : (dg v1.natAbs).length ≤ 713 := by rw [hv1, sgI_abs']; exact Nat.le_trans (dg_shl_le (k := 313) l1 (by omega)) (by omega)
  have j2 : (dg v2.natAbs).length ≤ 713 := by rw [hv2, sgI_abs']; exact Nat.le_trans (dg_shl_le (k := 313) l2 (by omega)) (by omega)
  have j3 : (dg v.natAbs).length ≤ 714 := hv ▸ dg_sum_len j1 j2
  have SG1 := Lib.hid fun (w : World) (hI : IntB w g1 (M1 : Int)) => Rsigned 0 E1 e b1 g1 M1 (E1 - e).toNat (by omega) (by omega) (Nat.le_trans l1 (by decide)) w hI
  have SG2 := Lib.hid fun (w : World) (hI : IntB w g2 (M2 : Int)) => Rsigned 0 E2 e b2 g2 M2 (E2 - e).toNat (by omega) (by omega) (Nat.le_trans l2 (by decide)) w hI
  rw [← hv1] at SG1 ⊢
  rw [← hv2] at SG2 ⊢
  rw [hv]
  have q1 : (dg v1.natAbs).length ≤ 1400 := Nat.le_trans j1 (by decide)
  have q2 : (dg v2.natAbs).length ≤ 1400 := Nat.le_trans j2 (by decide)
  have q3 : (dg v.natAbs).length ≤ 900 := Nat.le_trans j3 (by decide)
  by_cases h0 : v = 0
  · rw [if_pos h0, if_pos h0]
    by_cases m1 : M1 = 0
    · have m2 : M2 = 0 := by
        have e1 : v1 = 0 := by have := sgI_abs' b1 M1 (E1 - e).toNat; rw [← hv1, m1, Nat.zero_mul] at this; omega
        have e2 : v2.natAbs = 0 := by omega
        rw [hv2, sgI_abs'] at e2
        rcases Nat.mul_eq_zero.1 e2 with h | h
        · exact h
        · exact absurd h (Nat.ne_of_gt (Nat.two_pow_pos _))
      by_cases hb : b1 = b2
      · rw [if_pos ⟨m1, m2, hb⟩]
        exact Radd_zero_z E1 E2 mode b1 b2 g1 g2 e v1 v2 v M1 M2 he hv q1 q2 q3 SG1 SG2 h0 (by omega) (by omega) (by rw [beq_iff_eq]; exact hb) w hI1 hI2
      · rw [if_neg (fun h => hb h.2.2)]
        exact Radd_zero_y E1 E2 mode b1 b2 g1 g2 e v1 v2 v M1 M2 he hv q1 q2 q3 SG1 SG2 h0 (by omega) (by omega) (beq_eq_false_iff_ne.2 hb) w hI1 hI2
    · rw [if_neg (fun h => m1 h.1)]
      exact Radd_zero_n E1 E2 mode b1 b2 g1 g2 e v1 v2 v M1 M2 he hv q1 q2 q3 SG1 SG2 h0 (by omega) w hI1 hI2
  · rw [if_neg h0, if_neg h0]
    exact Radd_sum E1 E2 mode b1 b2 g1 g2 e v1 v2 v M1 M2 he hv q1 q2 q3 SG1 SG2 h0 (by omega) w hI1 hI2
end Go.Proofs.YtifgngmebnjfkaaGreatDoor
end

section
namespace Go.Proofs.YtifgngmebnjfkaaGreatDoor
open Go.RowKit
set_option maxRecDepth 100000 in
set_option maxHeartbeats 600000 in
theorem Rfus_nan1 (E1 E2 E3 mode : Int) (b1 b2 b3 : Bool) (g1 g2 g3 : Nat) (k2 k3 : Int) (w : World) : Calls Tryz.prog 34 #[fmS, .agg #[.int .i64 2, .bool b1, .pointer (some ⟨g1, 0, none⟩), .int .i64 E1], .agg #[.int .i64 k2, .bool b2, .pointer (some ⟨g2, 0, none⟩), .int .i64 E2], .agg #[.int .i64 k3, .bool b3, .pointer (some ⟨g3, 0, none⟩), .int .i64 E3], .int .i64 mode] w (fun e' w' => e' = .returned (.tuple #[.int .u64 (2143289344), .int .i64 0]) ∧ Within w w') := by
  go_enter Tryz.func34, Tryz.ntmps34
  go_wp2_with fail
  refine (RnoneS _).mono ?_; rintro e1 w1 ⟨rfl, hb1⟩
  go_wp2
  go_ret2
  exact ⟨rfl, (by repeat (first | with_reducible exact Within.refl _ | with_reducible assumption | with_reducible refine Within.alloc ?_ _ | with_reducible refine Within.drew ?_ | with_reducible refine Within.drewN ?_ _ | with_reducible refine Within.setCell ?_ (by first | (simp; done) | (simp; omega)) _ | with_reducible refine Within.trans ?_ (by assumption)))⟩
set_option maxRecDepth 100000 in
set_option maxHeartbeats 600000 in
theorem Rfus_nan2 (E1 E2 E3 mode : Int) (b1 b2 b3 : Bool) (g1 g2 g3 : Nat) (k1 k3 : Int) (h1 : (k1 == 2) = false) (w : World) : Calls Tryz.prog 34 #[fmS, .agg #[.int .i64 k1, .bool b1, .pointer (some ⟨g1, 0, none⟩), .int .i64 E1], .agg #[.int .i64 2, .bool b2, .pointer (some ⟨g2, 0, none⟩), .int .i64 E2], .agg #[.int .i64 k3, .bool b3, .pointer (some ⟨g3, 0, none⟩), .int .i64 E3], .int .i64 mode] w (fun e' w' => e' = .returned (.tuple #[.int .u64 (2143289344), .int .i64 0]) ∧ Within w w') := by
  go_enter Tryz.func34, Tryz.ntmps34
  go_wp2_with fail
  refine (RnoneS _).mono ?_; rintro e1 w1 ⟨rfl, hb1⟩
  go_wp2
  go_ret2
  exact ⟨rfl, (by repeat (first | with_reducible exact Within.refl _ | with_reducible assumption | with_reducible refine Within.alloc ?_ _ | with_reducible refine Within.drew ?_ | with_reducible refine Within.drewN ?_ _ | with_reducible refine Within.setCell ?_ (by first | (simp; done) | (simp; omega)) _ | with_reducible refine Within.trans ?_ (by assumption)))⟩
set_option maxRecDepth 100000 in
set_option maxHeartbeats 600000 in
theorem Rfus_nan3 (E1 E2 E3 mode : Int) (b1 b2 b3 : Bool) (g1 g2 g3 : Nat) (k1 k2 : Int) (h1 : (k1 == 2) = false) (h2 : (k2 == 2) = false) (w : World) : Calls Tryz.prog 34 #[fmS, .agg #[.int .i64 k1, .bool b1, .pointer (some ⟨g1, 0, none⟩), .int .i64 E1], .agg #[.int .i64 k2, .bool b2, .pointer (some ⟨g2, 0, none⟩), .int .i64 E2], .agg #[.int .i64 2, .bool b3, .pointer (some ⟨g3, 0, none⟩), .int .i64 E3], .int .i64 mode] w (fun e' w' => e' = .returned (.tuple #[.int .u64 (2143289344), .int .i64 0]) ∧ Within w w') := by
  go_enter Tryz.func34, Tryz.ntmps34
  go_wp2_with fail
  refine (RnoneS _).mono ?_; rintro e1 w1 ⟨rfl, hb1⟩
  go_wp2
  go_ret2
  exact ⟨rfl, (by repeat (first | with_reducible exact Within.refl _ | with_reducible assumption | with_reducible refine Within.alloc ?_ _ | with_reducible refine Within.drew ?_ | with_reducible refine Within.drewN ?_ _ | with_reducible refine Within.setCell ?_ (by first | (simp; done) | (simp; omega)) _ | with_reducible refine Within.trans ?_ (by assumption)))⟩
set_option maxRecDepth 100000 in
set_option maxHeartbeats 600000 in
theorem Rfus_inv1 (E1 E2 E3 mode : Int) (b1 b2 b3 : Bool) (g1 g2 g3 : Nat) (k3 : Int) (h3 : (k3 == 2) = false) (w : World) (hI2 : IntB w g2 0) : Calls Tryz.prog 34 #[fmS, .agg #[.int .i64 1, .bool b1, .pointer (some ⟨g1, 0, none⟩), .int .i64 E1], .agg #[.int .i64 0, .bool b2, .pointer (some ⟨g2, 0, none⟩), .int .i64 E2], .agg #[.int .i64 k3, .bool b3, .pointer (some ⟨g3, 0, none⟩), .int .i64 E3], .int .i64 mode] w (fun e' w' => e' = .returned (.tuple #[.int .u64 (2143289344), .int .i64 8]) ∧ Within w w') := by
  go_enter Tryz.func34, Tryz.ntmps34
  go_wp2_with fail
  refine (Riszero_zero 0 E2 0 b2 g2 rfl rfl _ (by repeat (first | with_reducible assumption | with_reducible exact ib_new _ _ (by simp; done) | with_reducible refine IntB.alloc ?_ _ | with_reducible refine IntB.drew ?_ | with_reducible refine IntB.drewN ?_ _))).mono ?_; rintro e1 w1 ⟨rfl, hb1⟩
  have q1_0 : w1.cell? ⟨w.heap.size, 0, none⟩ = some (.int .i64 24) := (hb1.cells _ _ (by first | (simp; done) | (simp; omega))).trans (by go_simp)
  have q1_1 : w1.cell? ⟨w.heap.size, 1, none⟩ = some (.int .i64 (-126)) := (hb1.cells _ _ (by first | (simp; done) | (simp; omega))).trans (by go_simp)
  have q1_2 : w1.cell? ⟨w.heap.size, 2, none⟩ = some (.int .i64 127) := (hb1.cells _ _ (by first | (simp; done) | (simp; omega))).trans (by go_simp)
  have q1_3 : w1.cell? ⟨w.heap.size, 3, none⟩ = some (.int .i64 8) := (hb1.cells _ _ (by first | (simp; done) | (simp; omega))).trans (by go_simp)
  have q1_4 : w1.cell? ⟨w.heap.size + 1, 0, none⟩ = some (.int .i64 1) := (hb1.cells _ _ (by first | (simp; done) | (simp; omega))).trans (by go_simp)
  have q1_5 : w1.cell? ⟨w.heap.size + 1, 1, none⟩ = some (.bool b1) := (hb1.cells _ _ (by first | (simp; done) | (simp; omega))).trans (by go_simp)
  have q1_6 : w1.cell? ⟨w.heap.size + 1, 2, none⟩ = some (.pointer (some ⟨g1, 0, none⟩)) := (hb1.cells _ _ (by first | (simp; done) | (simp; omega))).trans (by go_simp)
  have q1_7 : w1.cell? ⟨w.heap.size + 1, 3, none⟩ = some (.int .i64 E1) := (hb1.cells _ _ (by first | (simp; done) | (simp; omega))).trans (by go_simp)
  have q1_8 : w1.cell? ⟨w.heap.size + 1 + 1, 0, none⟩ = some (.int .i64 0) := (hb1.cells _ _ (by first | (simp; done) | (simp; omega))).trans (by go_simp)
  have q1_9 : w1.cell? ⟨w.heap.size + 1 + 1, 1, none⟩ = some (.bool b2) := (hb1.cells _ _ (by first | (simp; done) | (simp; omega))).trans (by go_simp)
  have q1_10 : w1.cell? ⟨w.heap.size + 1 + 1, 2, none⟩ = some (.pointer (some ⟨g2, 0, none⟩)) := (hb1.cells _ _ (by first | (simp; done) | (simp; omega))).trans (by go_simp)
  have q1_11 : w1.cell? ⟨w.heap.size + 1 + 1, 3, none⟩ = some (.int .i64 E2) := (hb1.cells _ _ (by first | (simp; done) | (simp; omega))).trans (by go_simp)
  have q1_12 : w1.cell? ⟨w.heap.size + 1 + 1 + 1, 0, none⟩ = some (.int .i64 k3) := (hb1.cells _ _ (by first | (simp; done) | (simp; omega))).trans (by go_simp)
  have q1_13 : w1.cell? ⟨w.heap.size + 1 + 1 + 1, 1, none⟩ = some (.bool b3) := (hb1.cells _ _ (by first | (simp; done) | (simp; omega))).trans (by go_simp)
  have q1_14 : w1.cell? ⟨w.heap.size + 1 + 1 + 1, 2, none⟩ = some (.pointer (some ⟨g3, 0, none⟩)) := (hb1.cells _ _ (by first | (simp; done) | (simp; omega))).trans (by go_simp)
  have q1_15 : w1.cell? ⟨w.heap.size + 1 + 1 + 1, 3, none⟩ = some (.int .i64 E3) := (hb1.cells _ _ (by first | (simp; done) | (simp; omega))).trans (by go_simp)
  have z1_0 : w.heap.size < w1.heap.size := World.block_lt_of_cell? _ _ q1_0
  have z1_1 : w.heap.size + 1 < w1.heap.size := World.block_lt_of_cell? _ _ q1_4
  have z1_2 : w.heap.size + 1 + 1 < w1.heap.size := World.block_lt_of_cell? _ _ q1_8
  have z1_3 : w.heap.size + 1 + 1 + 1 < w1.heap.size := World.block_lt_of_cell? _ _ q1_12
  go_wp2_with fail
  refine (RnoneS _).mono ?_; rintro e2 w2 ⟨rfl, hb2⟩
  go_wp2
  go_ret2
  exact ⟨rfl, (by repeat (first | with_reducible exact Within.refl _ | with_reducible assumption | with_reducible refine Within.alloc ?_ _ | with_reducible refine Within.drew ?_ | with_reducible refine Within.drewN ?_ _ | with_reducible refine Within.setCell ?_ (by first | (simp; done) | (simp; omega)) _ | with_reducible refine Within.trans ?_ (by assumption)))⟩
set_option maxRecDepth 100000 in
set_option maxHeartbeats 600000 in
theorem Rfus_inv2 (E1 E2 E3 mode : Int) (b1 b2 b3 : Bool) (g1 g2 g3 : Nat) (k3 : Int) (h3 : (k3 == 2) = false) (w : World) (hI1 : IntB w g1 0) : Calls Tryz.prog 34 #[fmS, .agg #[.int .i64 0, .bool b1, .pointer (some ⟨g1, 0, none⟩), .int .i64 E1], .agg #[.int .i64 1, .bool b2, .pointer (some ⟨g2, 0, none⟩), .int .i64 E2], .agg #[.int .i64 k3, .bool b3, .pointer (some ⟨g3, 0, none⟩), .int .i64 E3], .int .i64 mode] w (fun e' w' => e' = .returned (.tuple #[.int .u64 (2143289344), .int .i64 8]) ∧ Within w w') := by
  go_enter Tryz.func34, Tryz.ntmps34
  go_wp2_with fail
  refine (Riszero_zero 0 E1 0 b1 g1 rfl rfl _ (by repeat (first | with_reducible assumption | with_reducible exact ib_new _ _ (by simp; done) | with_reducible refine IntB.alloc ?_ _ | with_reducible refine IntB.drew ?_ | with_reducible refine IntB.drewN ?_ _))).mono ?_; rintro e1 w1 ⟨rfl, hb1⟩
  have q1_0 : w1.cell? ⟨w.heap.size, 0, none⟩ = some (.int .i64 24) := (hb1.cells _ _ (by first | (simp; done) | (simp; omega))).trans (by go_simp)
  have q1_1 : w1.cell? ⟨w.heap.size, 1, none⟩ = some (.int .i64 (-126)) := (hb1.cells _ _ (by first | (simp; done) | (simp; omega))).trans (by go_simp)
  have q1_2 : w1.cell? ⟨w.heap.size, 2, none⟩ = some (.int .i64 127) := (hb1.cells _ _ (by first | (simp; done) | (simp; omega))).trans (by go_simp)
  have q1_3 : w1.cell? ⟨w.heap.size, 3, none⟩ = some (.int .i64 8) := (hb1.cells _ _ (by first | (simp; done) | (simp; omega))).trans (by go_simp)
  have q1_4 : w1.cell? ⟨w.heap.size + 1, 0, none⟩ = some (.int .i64 0) := (hb1.cells _ _ (by first | (simp; done) | (simp; omega))).trans (by go_simp)
  have q1_5 : w1.cell? ⟨w.heap.size + 1, 1, none⟩ = some (.bool b1) := (hb1.cells _ _ (by first | (simp; done) | (simp; omega))).trans (by go_simp)
  have q1_6 : w1.cell? ⟨w.heap.size + 1, 2, none⟩ = some (.pointer (some ⟨g1, 0, none⟩)) := (hb1.cells _ _ (by first | (simp; done) | (simp; omega))).trans (by go_simp)
  have q1_7 : w1.cell? ⟨w.heap.size + 1, 3, none⟩ = some (.int .i64 E1) := (hb1.cells _ _ (by first | (simp; done) | (simp; omega))).trans (by go_simp)
  have q1_8 : w1.cell? ⟨w.heap.size + 1 + 1, 0, none⟩ = some (.int .i64 1) := (hb1.cells _ _ (by first | (simp; done) | (simp; omega))).trans (by go_simp)
  have q1_9 : w1.cell? ⟨w.heap.size + 1 + 1, 1, none⟩ = some (.bool b2) := (hb1.cells _ _ (by first | (simp; done) | (simp; omega))).trans (by go_simp)
  have q1_10 : w1.cell? ⟨w.heap.size + 1 + 1, 2, none⟩ = some (.pointer (some ⟨g2, 0, none⟩)) := (hb1.cells _ _ (by first | (simp; done) | (simp; omega))).trans (by go_simp)
  have q1_11 : w1.cell? ⟨w.heap.size + 1 + 1, 3, none⟩ = some (.int .i64 E2) := (hb1.cells _ _ (by first | (simp; done) | (simp; omega))).trans (by go_simp)
  have q1_12 : w1.cell? ⟨w.heap.size + 1 + 1 + 1, 0, none⟩ = some (.int .i64 k3) := (hb1.cells _ _ (by first | (simp; done) | (simp; omega))).trans (by go_simp)
  have q1_13 : w1.cell? ⟨w.heap.size + 1 + 1 + 1, 1, none⟩ = some (.bool b3) := (hb1.cells _ _ (by first | (simp; done) | (simp; omega))).trans (by go_simp)
  have q1_14 : w1.cell? ⟨w.heap.size + 1 + 1 + 1, 2, none⟩ = some (.pointer (some ⟨g3, 0, none⟩)) := (hb1.cells _ _ (by first | (simp; done) | (simp; omega))).trans (by go_simp)
  have q1_15 : w1.cell? ⟨w.heap.size + 1 + 1 + 1, 3, none⟩ = some (.int .i64 E3) := (hb1.cells _ _ (by first | (simp; done) | (simp; omega))).trans (by go_simp)
  have z1_0 : w.heap.size < w1.heap.size := World.block_lt_of_cell? _ _ q1_0
  have z1_1 : w.heap.size + 1 < w1.heap.size := World.block_lt_of_cell? _ _ q1_4
  have z1_2 : w.heap.size + 1 + 1 < w1.heap.size := World.block_lt_of_cell? _ _ q1_8
  have z1_3 : w.heap.size + 1 + 1 + 1 < w1.heap.size := World.block_lt_of_cell? _ _ q1_12
  go_wp2_with fail
  refine (RnoneS _).mono ?_; rintro e2 w2 ⟨rfl, hb2⟩
  go_wp2
  go_ret2
  exact ⟨rfl, (by repeat (first | with_reducible exact Within.refl _ | with_reducible assumption | with_reducible refine Within.alloc ?_ _ | with_reducible refine Within.drew ?_ | with_reducible refine Within.drewN ?_ _ | with_reducible refine Within.setCell ?_ (by first | (simp; done) | (simp; omega)) _ | with_reducible refine Within.trans ?_ (by assumption)))⟩
set_option maxRecDepth 100000 in
set_option maxHeartbeats 600000 in
theorem Rfus_inf11 (E1 E2 E3 mode : Int) (b1 b2 b3 : Bool) (g1 g2 g3 : Nat) (k3 : Int) (h3 : (k3 == 2) = false) (M1 M2 M3 W : Nat) (F : Int) (AH : Hid (∀ w g, IntB w g 0 → IntB w g3 (M3 : Int) → Calls Tryz.prog 67 #[fmS, .agg #[.int .i64 1, .bool (!(b1 == b2)), .pointer (some ⟨g, 0, none⟩), .int .i64 0], .agg #[.int .i64 k3, .bool b3, .pointer (some ⟨g3, 0, none⟩), .int .i64 E3], .int .i64 mode] w (fun e' w' => e' = .returned (.tuple #[.int .u64 ((W : Int)), .int .i64 F]) ∧ Within w w'))) (w : World) (hI1 : IntB w g1 (M1 : Int)) (hI2 : IntB w g2 (M2 : Int)) (hI3 : IntB w g3 (M3 : Int)) : Calls Tryz.prog 34 #[fmS, .agg #[.int .i64 1, .bool b1, .pointer (some ⟨g1, 0, none⟩), .int .i64 E1], .agg #[.int .i64 1, .bool b2, .pointer (some ⟨g2, 0, none⟩), .int .i64 E2], .agg #[.int .i64 k3, .bool b3, .pointer (some ⟨g3, 0, none⟩), .int .i64 E3], .int .i64 mode] w (fun e' w' => e' = .returned (.tuple #[.int .u64 ((W : Int)), .int .i64 F]) ∧ Within w w') := by
  go_enter Tryz.func34, Tryz.ntmps34
  go_wp2_with fail
  refine (Riszero_no 1 E2 (M2 : Int) b2 g2 rfl _ (by repeat (first | with_reducible assumption | with_reducible exact ib_new _ _ (by simp; done) | with_reducible refine IntB.alloc ?_ _ | with_reducible refine IntB.drew ?_ | with_reducible refine IntB.drewN ?_ _))).mono ?_; rintro e1 w1 ⟨rfl, hb1⟩
  have hI1 : IntB w1 g1 (M1 : Int) := IntB.of (by repeat (first | with_reducible assumption | with_reducible exact ib_new _ _ (by simp; done) | with_reducible refine IntB.alloc ?_ _ | with_reducible refine IntB.drew ?_ | with_reducible refine IntB.drewN ?_ _)) hb1
  have hI3 : IntB w1 g3 (M3 : Int) := IntB.of (by repeat (first | with_reducible assumption | with_reducible exact ib_new _ _ (by simp; done) | with_reducible refine IntB.alloc ?_ _ | with_reducible refine IntB.drew ?_ | with_reducible refine IntB.drewN ?_ _)) hb1
  have q1_0 : w1.cell? ⟨w.heap.size, 0, none⟩ = some (.int .i64 24) := (hb1.cells _ _ (by first | (simp; done) | (simp; omega))).trans (by go_simp)
  have q1_1 : w1.cell? ⟨w.heap.size, 1, none⟩ = some (.int .i64 (-126)) := (hb1.cells _ _ (by first | (simp; done) | (simp; omega))).trans (by go_simp)
  have q1_2 : w1.cell? ⟨w.heap.size, 2, none⟩ = some (.int .i64 127) := (hb1.cells _ _ (by first | (simp; done) | (simp; omega))).trans (by go_simp)
  have q1_3 : w1.cell? ⟨w.heap.size, 3, none⟩ = some (.int .i64 8) := (hb1.cells _ _ (by first | (simp; done) | (simp; omega))).trans (by go_simp)
  have q1_4 : w1.cell? ⟨w.heap.size + 1, 0, none⟩ = some (.int .i64 1) := (hb1.cells _ _ (by first | (simp; done) | (simp; omega))).trans (by go_simp)
  have q1_5 : w1.cell? ⟨w.heap.size + 1, 1, none⟩ = some (.bool b1) := (hb1.cells _ _ (by first | (simp; done) | (simp; omega))).trans (by go_simp)
  have q1_6 : w1.cell? ⟨w.heap.size + 1, 2, none⟩ = some (.pointer (some ⟨g1, 0, none⟩)) := (hb1.cells _ _ (by first | (simp; done) | (simp; omega))).trans (by go_simp)
  have q1_7 : w1.cell? ⟨w.heap.size + 1, 3, none⟩ = some (.int .i64 E1) := (hb1.cells _ _ (by first | (simp; done) | (simp; omega))).trans (by go_simp)
  have q1_8 : w1.cell? ⟨w.heap.size + 1 + 1, 0, none⟩ = some (.int .i64 1) := (hb1.cells _ _ (by first | (simp; done) | (simp; omega))).trans (by go_simp)
  have q1_9 : w1.cell? ⟨w.heap.size + 1 + 1, 1, none⟩ = some (.bool b2) := (hb1.cells _ _ (by first | (simp; done) | (simp; omega))).trans (by go_simp)
  have q1_10 : w1.cell? ⟨w.heap.size + 1 + 1, 2, none⟩ = some (.pointer (some ⟨g2, 0, none⟩)) := (hb1.cells _ _ (by first | (simp; done) | (simp; omega))).trans (by go_simp)
  have q1_11 : w1.cell? ⟨w.heap.size + 1 + 1, 3, none⟩ = some (.int .i64 E2) := (hb1.cells _ _ (by first | (simp; done) | (simp; omega))).trans (by go_simp)
  have q1_12 : w1.cell? ⟨w.heap.size + 1 + 1 + 1, 0, none⟩ = some (.int .i64 k3) := (hb1.cells _ _ (by first | (simp; done) | (simp; omega))).trans (by go_simp)
  have q1_13 : w1.cell? ⟨w.heap.size + 1 + 1 + 1, 1, none⟩ = some (.bool b3) := (hb1.cells _ _ (by first | (simp; done) | (simp; omega))).trans (by go_simp)
  have q1_14 : w1.cell? ⟨w.heap.size + 1 + 1 + 1, 2, none⟩ = some (.pointer (some ⟨g3, 0, none⟩)) := (hb1.cells _ _ (by first | (simp; done) | (simp; omega))).trans (by go_simp)
  have q1_15 : w1.cell? ⟨w.heap.size + 1 + 1 + 1, 3, none⟩ = some (.int .i64 E3) := (hb1.cells _ _ (by first | (simp; done) | (simp; omega))).trans (by go_simp)
  have z1_0 : w.heap.size < w1.heap.size := World.block_lt_of_cell? _ _ q1_0
  have z1_1 : w.heap.size + 1 < w1.heap.size := World.block_lt_of_cell? _ _ q1_4
  have z1_2 : w.heap.size + 1 + 1 < w1.heap.size := World.block_lt_of_cell? _ _ q1_8
  have z1_3 : w.heap.size + 1 + 1 + 1 < w1.heap.size := World.block_lt_of_cell? _ _ q1_12
  go_wp2_with fail
  refine (Riszero_no 1 E1 (M1 : Int) b1 g1 rfl _ (by repeat (first | with_reducible assumption | with_reducible exact ib_new _ _ (by simp; done) | with_reducible refine IntB.alloc ?_ _ | with_reducible refine IntB.drew ?_ | with_reducible refine IntB.drewN ?_ _))).mono ?_; rintro e2 w2 ⟨rfl, hb2⟩
  have hI3 : IntB w2 g3 (M3 : Int) := IntB.of (by repeat (first | with_reducible assumption | with_reducible exact ib_new _ _ (by simp; done) | with_reducible refine IntB.alloc ?_ _ | with_reducible refine IntB.drew ?_ | with_reducible refine IntB.drewN ?_ _)) hb2
  have q2_0 : w2.cell? ⟨w.heap.size, 0, none⟩ = some (.int .i64 24) := (hb2.cells _ _ (World.block_lt_of_cell? _ _ q1_0)).trans q1_0
  have q2_1 : w2.cell? ⟨w.heap.size, 1, none⟩ = some (.int .i64 (-126)) := (hb2.cells _ _ (World.block_lt_of_cell? _ _ q1_1)).trans q1_1
  have q2_2 : w2.cell? ⟨w.heap.size, 2, none⟩ = some (.int .i64 127) := (hb2.cells _ _ (World.block_lt_of_cell? _ _ q1_2)).trans q1_2
  have q2_3 : w2.cell? ⟨w.heap.size, 3, none⟩ = some (.int .i64 8) := (hb2.cells _ _ (World.block_lt_of_cell? _ _ q1_3)).trans q1_3
  have q2_4 : w2.cell? ⟨w.heap.size + 1, 0, none⟩ = some (.int .i64 1) := (hb2.cells _ _ (World.block_lt_of_cell? _ _ q1_4)).trans q1_4
  have q2_5 : w2.cell? ⟨w.heap.size + 1, 1, none⟩ = some (.bool b1) := (hb2.cells _ _ (World.block_lt_of_cell? _ _ q1_5)).trans q1_5
  have q2_6 : w2.cell? ⟨w.heap.size + 1, 2, none⟩ = some (.pointer (some ⟨g1, 0, none⟩)) := (hb2.cells _ _ (World.block_lt_of_cell? _ _ q1_6)).trans q1_6
  have q2_7 : w2.cell? ⟨w.heap.size + 1, 3, none⟩ = some (.int .i64 E1) := (hb2.cells _ _ (World.block_lt_of_cell? _ _ q1_7)).trans q1_7
  have q2_8 : w2.cell? ⟨w.heap.size + 1 + 1, 0, none⟩ = some (.int .i64 1) := (hb2.cells _ _ (World.block_lt_of_cell? _ _ q1_8)).trans q1_8
  have q2_9 : w2.cell? ⟨w.heap.size + 1 + 1, 1, none⟩ = some (.bool b2) := (hb2.cells _ _ (World.block_lt_of_cell? _ _ q1_9)).trans q1_9
  have q2_10 : w2.cell? ⟨w.heap.size + 1 + 1, 2, none⟩ = some (.pointer (some ⟨g2, 0, none⟩)) := (hb2.cells _ _ (World.block_lt_of_cell? _ _ q1_10)).trans q1_10
  have q2_11 : w2.cell? ⟨w.heap.size + 1 + 1, 3, none⟩ = some (.int .i64 E2) := (hb2.cells _ _ (World.block_lt_of_cell? _ _ q1_11)).trans q1_11
  have q2_12 : w2.cell? ⟨w.heap.size + 1 + 1 + 1, 0, none⟩ = some (.int .i64 k3) := (hb2.cells _ _ (World.block_lt_of_cell? _ _ q1_12)).trans q1_12
  have q2_13 : w2.cell? ⟨w.heap.size + 1 + 1 + 1, 1, none⟩ = some (.bool b3) := (hb2.cells _ _ (World.block_lt_of_cell? _ _ q1_13)).trans q1_13
  have q2_14 : w2.cell? ⟨w.heap.size + 1 + 1 + 1, 2, none⟩ = some (.pointer (some ⟨g3, 0, none⟩)) := (hb2.cells _ _ (World.block_lt_of_cell? _ _ q1_14)).trans q1_14
  have q2_15 : w2.cell? ⟨w.heap.size + 1 + 1 + 1, 3, none⟩ = some (.int .i64 E3) := (hb2.cells _ _ (World.block_lt_of_cell? _ _ q1_15)).trans q1_15
  have z2_0 : w.heap.size < w2.heap.size := World.block_lt_of_cell? _ _ q2_0
  have z2_1 : w.heap.size + 1 < w2.heap.size := World.block_lt_of_cell? _ _ q2_4
  have z2_2 : w.heap.size + 1 + 1 < w2.heap.size := World.block_lt_of_cell? _ _ q2_8
  have z2_3 : w.heap.size + 1 + 1 + 1 < w2.heap.size := World.block_lt_of_cell? _ _ q2_12
  go_wp2_with fail
  refine (AH.out _ _ (by repeat (first | with_reducible assumption | with_reducible exact ib_new _ _ (by simp; done) | with_reducible refine IntB.alloc ?_ _ | with_reducible refine IntB.drew ?_ | with_reducible refine IntB.drewN ?_ _)) (by repeat (first | with_reducible assumption | with_reducible exact ib_new _ _ (by simp; done) | with_reducible refine IntB.alloc ?_ _ | with_reducible refine IntB.drew ?_ | with_reducible refine IntB.drewN ?_ _))).mono ?_; rintro e9 w9 ⟨rfl, hb9⟩
  go_wp2
  go_ret2
  exact ⟨rfl, (by repeat (first | with_reducible exact Within.refl _ | with_reducible assumption | with_reducible refine Within.alloc ?_ _ | with_reducible refine Within.drew ?_ | with_reducible refine Within.drewN ?_ _ | with_reducible refine Within.setCell ?_ (by first | (simp; done) | (simp; omega)) _ | with_reducible refine Within.trans ?_ (by assumption)))⟩
set_option maxRecDepth 100000 in
set_option maxHeartbeats 600000 in
theorem Rfus_inf10 (E1 E2 E3 mode : Int) (b1 b2 b3 : Bool) (g1 g2 g3 : Nat) (k3 : Int) (h3 : (k3 == 2) = false) (M1 M2 M3 W : Nat) (F : Int) (AH : Hid (∀ w g, IntB w g 0 → IntB w g3 (M3 : Int) → Calls Tryz.prog 67 #[fmS, .agg #[.int .i64 1, .bool (!(b1 == b2)), .pointer (some ⟨g, 0, none⟩), .int .i64 0], .agg #[.int .i64 k3, .bool b3, .pointer (some ⟨g3, 0, none⟩), .int .i64 E3], .int .i64 mode] w (fun e' w' => e' = .returned (.tuple #[.int .u64 ((W : Int)), .int .i64 F]) ∧ Within w w'))) (hm : (M2 : Int) ≠ 0) (w : World) (hI1 : IntB w g1 (M1 : Int)) (hI2 : IntB w g2 (M2 : Int)) (hI3 : IntB w g3 (M3 : Int)) : Calls Tryz.prog 34 #[fmS, .agg #[.int .i64 1, .bool b1, .pointer (some ⟨g1, 0, none⟩), .int .i64 E1], .agg #[.int .i64 0, .bool b2, .pointer (some ⟨g2, 0, none⟩), .int .i64 E2], .agg #[.int .i64 k3, .bool b3, .pointer (some ⟨g3, 0, none⟩), .int .i64 E3], .int .i64 mode] w (fun e' w' => e' = .returned (.tuple #[.int .u64 ((W : Int)), .int .i64 F]) ∧ Within w w') := by
  go_enter Tryz.func34, Tryz.ntmps34
  go_wp2_with fail
  refine (Riszero_some 0 E2 (M2 : Int) b2 g2 rfl hm _ (by repeat (first | with_reducible assumption | with_reducible exact ib_new _ _ (by simp; done) | with_reducible refine IntB.alloc ?_ _ | with_reducible refine IntB.drew ?_ | with_reducible refine IntB.drewN ?_ _))).mono ?_; rintro e1 w1 ⟨rfl, hb1⟩
  have hI3 : IntB w1 g3 (M3 : Int) := IntB.of (by repeat (first | with_reducible assumption | with_reducible exact ib_new _ _ (by simp; done) | with_reducible refine IntB.alloc ?_ _ | with_reducible refine IntB.drew ?_ | with_reducible refine IntB.drewN ?_ _)) hb1
  have q1_0 : w1.cell? ⟨w.heap.size, 0, none⟩ = some (.int .i64 24) := (hb1.cells _ _ (by first | (simp; done) | (simp; omega))).trans (by go_simp)
  have q1_1 : w1.cell? ⟨w.heap.size, 1, none⟩ = some (.int .i64 (-126)) := (hb1.cells _ _ (by first | (simp; done) | (simp; omega))).trans (by go_simp)
  have q1_2 : w1.cell? ⟨w.heap.size, 2, none⟩ = some (.int .i64 127) := (hb1.cells _ _ (by first | (simp; done) | (simp; omega))).trans (by go_simp)
  have q1_3 : w1.cell? ⟨w.heap.size, 3, none⟩ = some (.int .i64 8) := (hb1.cells _ _ (by first | (simp; done) | (simp; omega))).trans (by go_simp)
  have q1_4 : w1.cell? ⟨w.heap.size + 1, 0, none⟩ = some (.int .i64 1) := (hb1.cells _ _ (by first | (simp; done) | (simp; omega))).trans (by go_simp)
  have q1_5 : w1.cell? ⟨w.heap.size + 1, 1, none⟩ = some (.bool b1) := (hb1.cells _ _ (by first | (simp; done) | (simp; omega))).trans (by go_simp)
  have q1_6 : w1.cell? ⟨w.heap.size + 1, 2, none⟩ = some (.pointer (some ⟨g1, 0, none⟩)) := (hb1.cells _ _ (by first | (simp; done) | (simp; omega))).trans (by go_simp)
  have q1_7 : w1.cell? ⟨w.heap.size + 1, 3, none⟩ = some (.int .i64 E1) := (hb1.cells _ _ (by first | (simp; done) | (simp; omega))).trans (by go_simp)
  have q1_8 : w1.cell? ⟨w.heap.size + 1 + 1, 0, none⟩ = some (.int .i64 0) := (hb1.cells _ _ (by first | (simp; done) | (simp; omega))).trans (by go_simp)
  have q1_9 : w1.cell? ⟨w.heap.size + 1 + 1, 1, none⟩ = some (.bool b2) := (hb1.cells _ _ (by first | (simp; done) | (simp; omega))).trans (by go_simp)
  have q1_10 : w1.cell? ⟨w.heap.size + 1 + 1, 2, none⟩ = some (.pointer (some ⟨g2, 0, none⟩)) := (hb1.cells _ _ (by first | (simp; done) | (simp; omega))).trans (by go_simp)
  have q1_11 : w1.cell? ⟨w.heap.size + 1 + 1, 3, none⟩ = some (.int .i64 E2) := (hb1.cells _ _ (by first | (simp; done) | (simp; omega))).trans (by go_simp)
  have q1_12 : w1.cell? ⟨w.heap.size + 1 + 1 + 1, 0, none⟩ = some (.int .i64 k3) := (hb1.cells _ _ (by first | (simp; done) | (simp; omega))).trans (by go_simp)
  have q1_13 : w1.cell? ⟨w.heap.size + 1 + 1 + 1, 1, none⟩ = some (.bool b3) := (hb1.cells _ _ (by first | (simp; done) | (simp; omega))).trans (by go_simp)
  have q1_14 : w1.cell? ⟨w.heap.size + 1 + 1 + 1, 2, none⟩ = some (.pointer (some ⟨g3, 0, none⟩)) := (hb1.cells _ _ (by first | (simp; done) | (simp; omega))).trans (by go_simp)
  have q1_15 : w1.cell? ⟨w.heap.size + 1 + 1 + 1, 3, none⟩ = some (.int .i64 E3) := (hb1.cells _ _ (by first | (simp; done) | (simp; omega))).trans (by go_simp)
  have z1_0 : w.heap.size < w1.heap.size := World.block_lt_of_cell? _ _ q1_0
  have z1_1 : w.heap.size + 1 < w1.heap.size := World.block_lt_of_cell? _ _ q1_4
  have z1_2 : w.heap.size + 1 + 1 < w1.heap.size := World.block_lt_of_cell? _ _ q1_8
  have z1_3 : w.heap.size + 1 + 1 + 1 < w1.heap.size := World.block_lt_of_cell? _ _ q1_12
  go_wp2_with fail
  refine (AH.out _ _ (by repeat (first | with_reducible assumption | with_reducible exact ib_new _ _ (by simp; done) | with_reducible refine IntB.alloc ?_ _ | with_reducible refine IntB.drew ?_ | with_reducible refine IntB.drewN ?_ _)) (by repeat (first | with_reducible assumption | with_reducible exact ib_new _ _ (by simp; done) | with_reducible refine IntB.alloc ?_ _ | with_reducible refine IntB.drew ?_ | with_reducible refine IntB.drewN ?_ _))).mono ?_; rintro e9 w9 ⟨rfl, hb9⟩
  go_wp2
  go_ret2
  exact ⟨rfl, (by repeat (first | with_reducible exact Within.refl _ | with_reducible assumption | with_reducible refine Within.alloc ?_ _ | with_reducible refine Within.drew ?_ | with_reducible refine Within.drewN ?_ _ | with_reducible refine Within.setCell ?_ (by first | (simp; done) | (simp; omega)) _ | with_reducible refine Within.trans ?_ (by assumption)))⟩
set_option maxRecDepth 100000 in
set_option maxHeartbeats 600000 in
theorem Rfus_inf01 (E1 E2 E3 mode : Int) (b1 b2 b3 : Bool) (g1 g2 g3 : Nat) (k3 : Int) (h3 : (k3 == 2) = false) (M1 M2 M3 W : Nat) (F : Int) (AH : Hid (∀ w g, IntB w g 0 → IntB w g3 (M3 : Int) → Calls Tryz.prog 67 #[fmS, .agg #[.int .i64 1, .bool (!(b1 == b2)), .pointer (some ⟨g, 0, none⟩), .int .i64 0], .agg #[.int .i64 k3, .bool b3, .pointer (some ⟨g3, 0, none⟩), .int .i64 E3], .int .i64 mode] w (fun e' w' => e' = .returned (.tuple #[.int .u64 ((W : Int)), .int .i64 F]) ∧ Within w w'))) (hm : (M1 : Int) ≠ 0) (w : World) (hI1 : IntB w g1 (M1 : Int)) (hI2 : IntB w g2 (M2 : Int)) (hI3 : IntB w g3 (M3 : Int)) : Calls Tryz.prog 34 #[fmS, .agg #[.int .i64 0, .bool b1, .pointer (some ⟨g1, 0, none⟩), .int .i64 E1], .agg #[.int .i64 1, .bool b2, .pointer (some ⟨g2, 0, none⟩), .int .i64 E2], .agg #[.int .i64 k3, .bool b3, .pointer (some ⟨g3, 0, none⟩), .int .i64 E3], .int .i64 mode] w (fun e' w' => e' = .returned (.tuple #[.int .u64 ((W : Int)), .int .i64 F]) ∧ Within w w') := by
  go_enter Tryz.func34, Tryz.ntmps34
  go_wp2_with fail
  refine (Riszero_some 0 E1 (M1 : Int) b1 g1 rfl hm _ (by repeat (first | with_reducible assumption | with_reducible exact ib_new _ _ (by simp; done) | with_reducible refine IntB.alloc ?_ _ | with_reducible refine IntB.drew ?_ | with_reducible refine IntB.drewN ?_ _))).mono ?_; rintro e1 w1 ⟨rfl, hb1⟩
  have hI3 : IntB w1 g3 (M3 : Int) := IntB.of (by repeat (first | with_reducible assumption | with_reducible exact ib_new _ _ (by simp; done) | with_reducible refine IntB.alloc ?_ _ | with_reducible refine IntB.drew ?_ | with_reducible refine IntB.drewN ?_ _)) hb1
  have q1_0 : w1.cell? ⟨w.heap.size, 0, none⟩ = some (.int .i64 24) := (hb1.cells _ _ (by first | (simp; done) | (simp; omega))).trans (by go_simp)
  have q1_1 : w1.cell? ⟨w.heap.size, 1, none⟩ = some (.int .i64 (-126)) := (hb1.cells _ _ (by first | (simp; done) | (simp; omega))).trans (by go_simp)
  have q1_2 : w1.cell? ⟨w.heap.size, 2, none⟩ = some (.int .i64 127) := (hb1.cells _ _ (by first | (simp; done) | (simp; omega))).trans (by go_simp)
  have q1_3 : w1.cell? ⟨w.heap.size, 3, none⟩ = some (.int .i64 8) := (hb1.cells _ _ (by first | (simp; done) | (simp; omega))).trans (by go_simp)
  have q1_4 : w1.cell? ⟨w.heap.size + 1, 0, none⟩ = some (.int .i64 0) := (hb1.cells _ _ (by first | (simp; done) | (simp; omega))).trans (by go_simp)
  have q1_5 : w1.cell? ⟨w.heap.size + 1, 1, none⟩ = some (.bool b1) := (hb1.cells _ _ (by first | (simp; done) | (simp; omega))).trans (by go_simp)
  have q1_6 : w1.cell? ⟨w.heap.size + 1, 2, none⟩ = some (.pointer (some ⟨g1, 0, none⟩)) := (hb1.cells _ _ (by first | (simp; done) | (simp; omega))).trans (by go_simp)
  have q1_7 : w1.cell? ⟨w.heap.size + 1, 3, none⟩ = some (.int .i64 E1) := (hb1.cells _ _ (by first | (simp; done) | (simp; omega))).trans (by go_simp)
  have q1_8 : w1.cell? ⟨w.heap.size + 1 + 1, 0, none⟩ = some (.int .i64 1) := (hb1.cells _ _ (by first | (simp; done) | (simp; omega))).trans (by go_simp)
  have q1_9 : w1.cell? ⟨w.heap.size + 1 + 1, 1, none⟩ = some (.bool b2) := (hb1.cells _ _ (by first | (simp; done) | (simp; omega))).trans (by go_simp)
  have q1_10 : w1.cell? ⟨w.heap.size + 1 + 1, 2, none⟩ = some (.pointer (some ⟨g2, 0, none⟩)) := (hb1.cells _ _ (by first | (simp; done) | (simp; omega))).trans (by go_simp)
  have q1_11 : w1.cell? ⟨w.heap.size + 1 + 1, 3, none⟩ = some (.int .i64 E2) := (hb1.cells _ _ (by first | (simp; done) | (simp; omega))).trans (by go_simp)
  have q1_12 : w1.cell? ⟨w.heap.size + 1 + 1 + 1, 0, none⟩ = some (.int .i64 k3) := (hb1.cells _ _ (by first | (simp; done) | (simp; omega))).trans (by go_simp)
  have q1_13 : w1.cell? ⟨w.heap.size + 1 + 1 + 1, 1, none⟩ = some (.bool b3) := (hb1.cells _ _ (by first | (simp; done) | (simp; omega))).trans (by go_simp)
  have q1_14 : w1.cell? ⟨w.heap.size + 1 + 1 + 1, 2, none⟩ = some (.pointer (some ⟨g3, 0, none⟩)) := (hb1.cells _ _ (by first | (simp; done) | (simp; omega))).trans (by go_simp)
  have q1_15 : w1.cell? ⟨w.heap.size + 1 + 1 + 1, 3, none⟩ = some (.int .i64 E3) := (hb1.cells _ _ (by first | (simp; done) | (simp; omega))).trans (by go_simp)
  have z1_0 : w.heap.size < w1.heap.size := World.block_lt_of_cell? _ _ q1_0
  have z1_1 : w.heap.size + 1 < w1.heap.size := World.block_lt_of_cell? _ _ q1_4
  have z1_2 : w.heap.size + 1 + 1 < w1.heap.size := World.block_lt_of_cell? _ _ q1_8
  have z1_3 : w.heap.size + 1 + 1 + 1 < w1.heap.size := World.block_lt_of_cell? _ _ q1_12
  go_wp2_with fail
  refine (AH.out _ _ (by repeat (first | with_reducible assumption | with_reducible exact ib_new _ _ (by simp; done) | with_reducible refine IntB.alloc ?_ _ | with_reducible refine IntB.drew ?_ | with_reducible refine IntB.drewN ?_ _)) (by repeat (first | with_reducible assumption | with_reducible exact ib_new _ _ (by simp; done) | with_reducible refine IntB.alloc ?_ _ | with_reducible refine IntB.drew ?_ | with_reducible refine IntB.drewN ?_ _))).mono ?_; rintro e9 w9 ⟨rfl, hb9⟩
  go_wp2
  go_ret2
  exact ⟨rfl, (by repeat (first | with_reducible exact Within.refl _ | with_reducible assumption | with_reducible refine Within.alloc ?_ _ | with_reducible refine Within.drew ?_ | with_reducible refine Within.drewN ?_ _ | with_reducible refine Within.setCell ?_ (by first | (simp; done) | (simp; omega)) _ | with_reducible refine Within.trans ?_ (by assumption)))⟩
set_option maxRecDepth 100000 in
set_option maxHeartbeats 600000 in
theorem Rfus_main (E1 E2 E3 mode : Int) (b1 b2 b3 : Bool) (g1 g2 g3 : Nat) (k3 : Int) (h3 : (k3 == 2) = false) (M1 M2 M3 W : Nat) (F : Int)  (h1 : -5000 ≤ E1 ∧ E1 ≤ 5000) (h2 : -5000 ≤ E2 ∧ E2 ≤ 5000) (l1 : (dg M1).length ≤ 400) (l2 : (dg M2).length ≤ 400) (AH : Hid (∀ w g, IntB w g ((M1 * M2 : Nat) : Int) → IntB w g3 (M3 : Int) → Calls Tryz.prog 67 #[fmS, .agg #[.int .i64 0, .bool (b1 != b2), .pointer (some ⟨g, 0, none⟩), .int .i64 (E1 + E2)], .agg #[.int .i64 k3, .bool b3, .pointer (some ⟨g3, 0, none⟩), .int .i64 E3], .int .i64 mode] w (fun e' w' => e' = .returned (.tuple #[.int .u64 ((W : Int)), .int .i64 F]) ∧ Within w w'))) (w : World) (hI1 : IntB w g1 (M1 : Int)) (hI2 : IntB w g2 (M2 : Int)) (hI3 : IntB w g3 (M3 : Int)) : Calls Tryz.prog 34 #[fmS, .agg #[.int .i64 0, .bool b1, .pointer (some ⟨g1, 0, none⟩), .int .i64 E1], .agg #[.int .i64 0, .bool b2, .pointer (some ⟨g2, 0, none⟩), .int .i64 E2], .agg #[.int .i64 k3, .bool b3, .pointer (some ⟨g3, 0, none⟩), .int .i64 E3], .int .i64 mode] w (fun e' w' => e' = .returned (.tuple #[.int .u64 ((W : Int)), .int .i64 F]) ∧ Within w w') := by
  have TI := Lib.hid (fun (w' : World) (hx : IntB w' g1 (M1 : Int)) (hy : IntB w' g2 (M2 : Int)) => Rtimes 0 0 E1 E2 b1 b2 g1 g2 M1 M2 h1 h2 l1 l2 w' hx hy)
  clear h1 h2 l1 l2
  go_enter Tryz.func34, Tryz.ntmps34
  go_upto_region 7 with fail
  refine wp_region_schG (fun W => W.cell? ⟨w.heap.size, 0, none⟩ = some (.int .i64 24) ∧ W.cell? ⟨w.heap.size, 1, none⟩ = some (.int .i64 (-126)) ∧ W.cell? ⟨w.heap.size, 2, none⟩ = some (.int .i64 127) ∧ W.cell? ⟨w.heap.size, 3, none⟩ = some (.int .i64 8) ∧ W.cell? ⟨w.heap.size + 1, 0, none⟩ = some (.int .i64 0) ∧ W.cell? ⟨w.heap.size + 1, 1, none⟩ = some (.bool b1) ∧ W.cell? ⟨w.heap.size + 1, 2, none⟩ = some (.pointer (some ⟨g1, 0, none⟩)) ∧ W.cell? ⟨w.heap.size + 1, 3, none⟩ = some (.int .i64 E1) ∧ W.cell? ⟨w.heap.size + 1 + 1, 0, none⟩ = some (.int .i64 0) ∧ W.cell? ⟨w.heap.size + 1 + 1, 1, none⟩ = some (.bool b2) ∧ W.cell? ⟨w.heap.size + 1 + 1, 2, none⟩ = some (.pointer (some ⟨g2, 0, none⟩)) ∧ W.cell? ⟨w.heap.size + 1 + 1, 3, none⟩ = some (.int .i64 E2) ∧ W.cell? ⟨w.heap.size + 1 + 1 + 1, 0, none⟩ = some (.int .i64 k3) ∧ W.cell? ⟨w.heap.size + 1 + 1 + 1, 1, none⟩ = some (.bool b3) ∧ W.cell? ⟨w.heap.size + 1 + 1 + 1, 2, none⟩ = some (.pointer (some ⟨g3, 0, none⟩)) ∧ W.cell? ⟨w.heap.size + 1 + 1 + 1, 3, none⟩ = some (.int .i64 E3) ∧ IntB W g1 (M1 : Int) ∧ IntB W g2 (M2 : Int) ∧ IntB W g3 (M3 : Int) ∧ w.heap.size < W.heap.size ∧ w.heap.size + 1 < W.heap.size ∧ w.heap.size + 1 + 1 < W.heap.size ∧ w.heap.size + 1 + 1 + 1 < W.heap.size ∧ Within ((((w.alloc (.cells #[.int .i64 24, .int .i64 (-126), .int .i64 127, .int .i64 8] 60)).alloc (.cells #[.int .i64 0, .bool b1, .pointer (some ⟨g1, 0, none⟩), .int .i64 E1] 65)).alloc (.cells #[.int .i64 0, .bool b2, .pointer (some ⟨g2, 0, none⟩), .int .i64 E2] 65)).alloc (.cells #[.int .i64 k3, .bool b3, .pointer (some ⟨g3, 0, none⟩), .int .i64 E3] 65)) W) 10 (.firm 0 (.firm 1 (.firm 2 (.firm 4 (.firm 5 (.one 3 (.one 6 (.firm 7 (.firm 8 (.firm 9 (.one 10 .nil))))))))))) (by kernel_rfl) (by kernel_rfl) ⟨by go_simp, by go_simp, by go_simp, by go_simp, by go_simp, by go_simp, by go_simp, by go_simp, by go_simp, by go_simp, by go_simp, by go_simp, by go_simp, by go_simp, by go_simp, by go_simp, (by repeat (first | with_reducible assumption | with_reducible exact ib_new _ _ (by simp; done) | with_reducible refine IntB.alloc ?_ _ | with_reducible refine IntB.drew ?_ | with_reducible refine IntB.drewN ?_ _)), (by repeat (first | with_reducible assumption | with_reducible exact ib_new _ _ (by simp; done) | with_reducible refine IntB.alloc ?_ _ | with_reducible refine IntB.drew ?_ | with_reducible refine IntB.drewN ?_ _)), (by repeat (first | with_reducible assumption | with_reducible exact ib_new _ _ (by simp; done) | with_reducible refine IntB.alloc ?_ _ | with_reducible refine IntB.drew ?_ | with_reducible refine IntB.drewN ?_ _)), by first | (simp; done) | (simp; omega), by first | (simp; done) | (simp; omega), by first | (simp; done) | (simp; omega), by first | (simp; done) | (simp; omega), Within.refl _⟩ ?_
  rintro w0 ⟨c0, c1, c2, c3, c4, c5, c6, c7, c8, c9, c10, c11, c12, c13, c14, c15, hJ1, hJ2, hJ3, s0, s1, s2, s3, hw0⟩
  try simp only [Act.put, List.setIfInBounds_toArray, List.set_cons_zero, List.set_cons_succ]
  apply sch_firm rfl rfl (by repeat (first | with_reducible exact Within.refl _ | with_reducible assumption | with_reducible refine Within.alloc ?_ _ | with_reducible refine Within.drew ?_ | with_reducible refine Within.drewN ?_ _ | with_reducible refine Within.setCell ?_ (by first | (simp; done) | (simp; omega)) _ | with_reducible refine Within.trans ?_ (by assumption)))
  · intro wq hq
    have hcq := hq.cells
    clear hq
    go_simp
    first | rfl | (trace_state; fail)
  try simp only [Act.put, List.setIfInBounds_toArray, List.set_cons_zero, List.set_cons_succ]
  apply sch_firm rfl rfl (by repeat (first | with_reducible exact Within.refl _ | with_reducible assumption | with_reducible refine Within.alloc ?_ _ | with_reducible refine Within.drew ?_ | with_reducible refine Within.drewN ?_ _ | with_reducible refine Within.setCell ?_ (by first | (simp; done) | (simp; omega)) _ | with_reducible refine Within.trans ?_ (by assumption)))
  · intro wq hq
    have hcq := hq.cells
    clear hq
    go_simp
    first | rfl | (trace_state; fail)
  try simp only [Act.put, List.setIfInBounds_toArray, List.set_cons_zero, List.set_cons_succ]
  apply sch_firm rfl rfl (by repeat (first | with_reducible exact Within.refl _ | with_reducible assumption | with_reducible refine Within.alloc ?_ _ | with_reducible refine Within.drew ?_ | with_reducible refine Within.drewN ?_ _ | with_reducible refine Within.setCell ?_ (by first | (simp; done) | (simp; omega)) _ | with_reducible refine Within.trans ?_ (by assumption)))
  · intro wq hq
    have hcq := hq.cells
    clear hq
    go_simp
    first | rfl | (trace_state; fail)
  try simp only [Act.put, List.setIfInBounds_toArray, List.set_cons_zero, List.set_cons_succ]
  apply sch_firm rfl rfl (by repeat (first | with_reducible exact Within.refl _ | with_reducible assumption | with_reducible refine Within.alloc ?_ _ | with_reducible refine Within.drew ?_ | with_reducible refine Within.drewN ?_ _ | with_reducible refine Within.setCell ?_ (by first | (simp; done) | (simp; omega)) _ | with_reducible refine Within.trans ?_ (by assumption)))
  · intro wq hq
    have hcq := hq.cells
    clear hq
    go_simp
    first | rfl | (trace_state; fail)
  try simp only [Act.put, List.setIfInBounds_toArray, List.set_cons_zero, List.set_cons_succ]
  apply sch_firm rfl rfl (by repeat (first | with_reducible exact Within.refl _ | with_reducible assumption | with_reducible refine Within.alloc ?_ _ | with_reducible refine Within.drew ?_ | with_reducible refine Within.drewN ?_ _ | with_reducible refine Within.setCell ?_ (by first | (simp; done) | (simp; omega)) _ | with_reducible refine Within.trans ?_ (by assumption)))
  · intro wq hq
    have hcq := hq.cells
    clear hq
    go_simp
    first | rfl | (trace_state; fail)
  try simp only [Act.put, List.setIfInBounds_toArray, List.set_cons_zero, List.set_cons_succ]
  refine sch_one rfl rfl (fun K hK => ?_)
  go_simp
  refine (TI.out _ (by repeat (first | with_reducible assumption | with_reducible exact ib_new _ _ (by simp; done) | with_reducible refine IntB.alloc ?_ _ | with_reducible refine IntB.drew ?_ | with_reducible refine IntB.drewN ?_ _)) (by repeat (first | with_reducible assumption | with_reducible exact ib_new _ _ (by simp; done) | with_reducible refine IntB.alloc ?_ _ | with_reducible refine IntB.drew ?_ | with_reducible refine IntB.drewN ?_ _))).mono ?_; rintro e4 w4 ⟨g, rfl, hI4, hg4, hv4'⟩
  have hv4 : Within w0 w4 := Within.trans (Within.refl w0).drew hv4'
  have hJ3' := hJ3.of hv4
  refine hK _ _ (fun _ => (by repeat (first | with_reducible exact Within.refl _ | with_reducible assumption | with_reducible refine Within.alloc ?_ _ | with_reducible refine Within.drew ?_ | with_reducible refine Within.drewN ?_ _ | with_reducible refine Within.setCell ?_ (by first | (simp; done) | (simp; omega)) _ | with_reducible refine Within.trans ?_ (by assumption)))) ?_
  clear hK K
  try simp only [Act.put, List.setIfInBounds_toArray, List.set_cons_zero, List.set_cons_succ]
  refine sch_one rfl rfl (fun K hK => ?_)
  go_simp
  refine (AH.out _ _ (by repeat (first | with_reducible assumption | with_reducible exact ib_new _ _ (by simp; done) | with_reducible refine IntB.alloc ?_ _ | with_reducible refine IntB.drew ?_ | with_reducible refine IntB.drewN ?_ _)) (by repeat (first | with_reducible assumption | with_reducible exact ib_new _ _ (by simp; done) | with_reducible refine IntB.alloc ?_ _ | with_reducible refine IntB.drew ?_ | with_reducible refine IntB.drewN ?_ _))).mono ?_; rintro e5 w5 ⟨rfl, hv5'⟩
  have hv5 := hv4.trans hv5'
  refine hK _ _ (fun _ => (by repeat (first | with_reducible exact Within.refl _ | with_reducible assumption | with_reducible refine Within.alloc ?_ _ | with_reducible refine Within.drew ?_ | with_reducible refine Within.drewN ?_ _ | with_reducible refine Within.setCell ?_ (by first | (simp; done) | (simp; omega)) _ | with_reducible refine Within.trans ?_ (by assumption)))) ?_
  clear hK K
  try simp only [Act.put, List.setIfInBounds_toArray, List.set_cons_zero, List.set_cons_succ]
  apply sch_firm rfl rfl (by repeat (first | with_reducible exact Within.refl _ | with_reducible assumption | with_reducible refine Within.alloc ?_ _ | with_reducible refine Within.drew ?_ | with_reducible refine Within.drewN ?_ _ | with_reducible refine Within.setCell ?_ (by first | (simp; done) | (simp; omega)) _ | with_reducible refine Within.trans ?_ (by assumption)))
  · intro wq hq
    have hcq := hq.cells
    clear hq
    go_simp
    first | rfl | (trace_state; fail)
  try simp only [Act.put, List.setIfInBounds_toArray, List.set_cons_zero, List.set_cons_succ]
  apply sch_firm rfl rfl (by repeat (first | with_reducible exact Within.refl _ | with_reducible assumption | with_reducible refine Within.alloc ?_ _ | with_reducible refine Within.drew ?_ | with_reducible refine Within.drewN ?_ _ | with_reducible refine Within.setCell ?_ (by first | (simp; done) | (simp; omega)) _ | with_reducible refine Within.trans ?_ (by assumption)))
  · intro wq hq
    have hcq := hq.cells
    clear hq
    go_simp
    first | rfl | (trace_state; fail)
  try simp only [Act.put, List.setIfInBounds_toArray, List.set_cons_zero, List.set_cons_succ]
  apply sch_firm rfl rfl (by repeat (first | with_reducible exact Within.refl _ | with_reducible assumption | with_reducible refine Within.alloc ?_ _ | with_reducible refine Within.drew ?_ | with_reducible refine Within.drewN ?_ _ | with_reducible refine Within.setCell ?_ (by first | (simp; done) | (simp; omega)) _ | with_reducible refine Within.trans ?_ (by assumption)))
  · intro wq hq
    have hcq := hq.cells
    clear hq
    go_simp
    first | rfl | (trace_state; fail)
  try simp only [Act.put, List.setIfInBounds_toArray, List.set_cons_zero, List.set_cons_succ]
  refine sch_one rfl rfl (fun K hK => ?_)
  go_simp
  refine hK _ _ (fun h => absurd h (by decide)) ?_
  clear hK K
  try simp only [Act.put, List.setIfInBounds_toArray, List.set_cons_zero, List.set_cons_succ]
  refine sch_nil ?_
  have hz := hw0.trans hv5
  have hz5 : Within w w5 := (((((Within.refl w).alloc _).alloc _).alloc _).alloc _).trans hz
  go_wp2
  go_ret2
  exact ⟨rfl, hz5⟩
theorem dg_few {n : Nat} (h : n < 4294967296) : (dg n).length ≤ 400 := Nat.le_trans (dg_small (k := 1) h) (by decide)
theorem bne_not (a b : Bool) : (a != b) = !(a == b) := by cases a <;> cases b <;> rfl
theorem RfusedS (x y z g1 g2 g3 : Nat) (mode : Int) (w : World) (hI1 : IntB w g1 (mS x : Int)) (hI2 : IntB w g2 (mS y : Int)) (hI3 : IntB w g3 (mS z : Int)) : Calls Tryz.prog 34 #[fmS, .agg #[.int .i64 (kS x), .bool (nS x), .pointer (some ⟨g1, 0, none⟩), .int .i64 (eS x)], .agg #[.int .i64 (kS y), .bool (nS y), .pointer (some ⟨g2, 0, none⟩), .int .i64 (eS y)], .agg #[.int .i64 (kS z), .bool (nS z), .pointer (some ⟨g3, 0, none⟩), .int .i64 (eS z)], .int .i64 mode] w (fun e' w' => e' = .returned (.tuple #[.int .u64 ((refFW x y z mode : Nat)), .int .i64 (refFF x y z mode)]) ∧ Within w w') := by
  unfold refFW refFF
  have mx := mS_lt x
  have my := mS_lt y
  have mz := mS_lt z
  have ex := eS_range x
  have ey := eS_range y
  have ez := eS_range z
  by_cases n : kS x = 2 ∨ kS y = 2 ∨ kS z = 2
  · rw [if_pos n, if_pos n]
    by_cases n1 : kS x = 2
    · rw [n1]; exact Rfus_nan1 (eS x) (eS y) (eS z) mode (nS x) (nS y) (nS z) g1 g2 g3 (kS y) (kS z) w
    by_cases n2 : kS y = 2
    · rw [n2]; exact Rfus_nan2 (eS x) (eS y) (eS z) mode (nS x) (nS y) (nS z) g1 g2 g3 (kS x) (kS z) (beq_eq_false_iff_ne.2 n1) w
    · have n3 : kS z = 2 := (n.resolve_left n1).resolve_left n2
      rw [n3]; exact Rfus_nan3 (eS x) (eS y) (eS z) mode (nS x) (nS y) (nS z) g1 g2 g3 (kS x) (kS y) (beq_eq_false_iff_ne.2 n1) (beq_eq_false_iff_ne.2 n2) w
  rw [if_neg n, if_neg n]
  have n1 : kS x ≠ 2 := fun h => n (.inl h)
  have n2 : kS y ≠ 2 := fun h => n (.inr (.inl h))
  have n3 : kS z ≠ 2 := fun h => n (.inr (.inr h))
  have h3 : (kS z == 2) = false := beq_eq_false_iff_ne.2 n3
  by_cases i : (kS x = 1 ∧ kS y = 0 ∧ mS y = 0) ∨ (kS y = 1 ∧ kS x = 0 ∧ mS x = 0)
  · rw [if_pos i, if_pos i]
    rcases i with ⟨i1, i2, i3⟩ | ⟨i1, i2, i3⟩
    · rw [i1, i2]; rw [i3] at hI2
      exact Rfus_inv1 (eS x) (eS y) (eS z) mode (nS x) (nS y) (nS z) g1 g2 g3 (kS z) h3 w hI2
    · rw [i1, i2]; rw [i3] at hI1
      exact Rfus_inv2 (eS x) (eS y) (eS z) mode (nS x) (nS y) (nS z) g1 g2 g3 (kS z) h3 w hI1
  rw [if_neg i, if_neg i]
  by_cases j : kS x = 1 ∨ kS y = 1
  · rw [if_pos j, if_pos j]
    have AH := Lib.hid (fun (w : World) (g : Nat) (hg : IntB w g 0) (hz : IntB w g3 (mS z : Int)) => Radd 1 (kS z) 0 (eS z) mode (nS x != nS y) (nS z) g g3 0 (mS z) (by omega) (kS_range z) (by omega) (by omega) (dg_few (by decide)) (dg_few (by omega)) w hg hz)
    rw [bne_not] at AH ⊢
    by_cases j1 : kS x = 1
    · rw [j1]
      by_cases j2 : kS y = 1
      · rw [j2]; exact Rfus_inf11 (eS x) (eS y) (eS z) mode (nS x) (nS y) (nS z) g1 g2 g3 (kS z) h3 (mS x) (mS y) (mS z) _ _ AH w hI1 hI2 hI3
      · have j3 : kS y = 0 := by rcases kS_range y with h | h | h; exact h; exact absurd h j2; exact absurd h n2
        rw [j3]; exact Rfus_inf10 (eS x) (eS y) (eS z) mode (nS x) (nS y) (nS z) g1 g2 g3 (kS z) h3 (mS x) (mS y) (mS z) _ _ AH (fun h => i (.inl ⟨j1, j3, by omega⟩)) w hI1 hI2 hI3
    · have j2 : kS y = 1 := j.resolve_left j1
      have j3 : kS x = 0 := by rcases kS_range x with h | h | h; exact h; exact absurd h j1; exact absurd h n1
      rw [j2, j3]; exact Rfus_inf01 (eS x) (eS y) (eS z) mode (nS x) (nS y) (nS z) g1 g2 g3 (kS z) h3 (mS x) (mS y) (mS z) _ _ AH (fun h => i (.inr ⟨j2, j3, by omega⟩)) w hI1 hI2 hI3
  rw [if_neg j, if_neg j]
  have j1 : kS x = 0 := by rcases kS_range x with h | h | h; exact h; exact absurd (.inl h) j; exact absurd h n1
  have j2 : kS y = 0 := by rcases kS_range y with h | h | h; exact h; exact absurd (.inr h) j; exact absurd h n2
  have l3 : (dg (mS x * mS y)).length ≤ 400 := Nat.le_trans (dg_mul_len (dg_small (k := 1) (Nat.lt_trans mx (by decide))) (dg_small (k := 1) (Nat.lt_trans my (by decide)))) (by decide)
  have AH := Lib.hid (fun (w : World) (g : Nat) (hg : IntB w g ((mS x * mS y : Nat) : Int)) (hz : IntB w g3 (mS z : Int)) => Radd 0 (kS z) (eS x + eS y) (eS z) mode (nS x != nS y) (nS z) g g3 (mS x * mS y) (mS z) (by omega) (kS_range z) (by omega) (by omega) l3 (dg_few (by omega)) w hg hz)
  rw [j1, j2]
  exact Rfus_main (eS x) (eS y) (eS z) mode (nS x) (nS y) (nS z) g1 g2 g3 (kS z) h3 (mS x) (mS y) (mS z) _ _ (by omega) (by omega) (dg_few (by omega)) (dg_few (by omega)) AH w hI1 hI2 hI3
set_option maxRecDepth 100000 in
set_option maxHeartbeats 600000 in
theorem Rfus32 (x y z W : Nat) (F mode A B C : Int) (hx : x < 4294967296) (hy : y < 4294967296) (hz : z < 4294967296) (FH : Hid (∀ w g1 g2 g3, IntB w g1 (mS x : Int) → IntB w g2 (mS y : Int) → IntB w g3 (mS z : Int) → Calls Tryz.prog 34 #[fmS, .agg #[.int .i64 (kS x), .bool (nS x), .pointer (some ⟨g1, 0, none⟩), .int .i64 (eS x)], .agg #[.int .i64 (kS y), .bool (nS y), .pointer (some ⟨g2, 0, none⟩), .int .i64 (eS y)], .agg #[.int .i64 (kS z), .bool (nS z), .pointer (some ⟨g3, 0, none⟩), .int .i64 (eS z)], .int .i64 mode] w (fun e' w' => e' = .returned (.tuple #[.int .u64 ((W : Int)), .int .i64 F]) ∧ Within w w'))) (DH : Hid (∀ w, Calls Tryz.prog 36 #[.int .u64 (W : Int), .int .i64 F, .int .i64 mode] w (fun e w' => e = .returned (.tuple #[.int .u32 A, .int .i64 B, .int .i64 C]) ∧ Within w w'))) (w : World) : Calls Tryz.prog 8 #[.int .u32 (x : Int), .int .u32 (y : Int), .int .u32 (z : Int), .int .i64 mode] w (fun e w' => e = .returned (.tuple #[.int .u32 A, .int .i64 B, .int .i64 C]) ∧ Within w w') := by
  have Sx := Lib.hid (fun w' => Rsingle x hx w')
  have Sy := Lib.hid (fun w' => Rsingle y hy w')
  have Sz := Lib.hid (fun w' => Rsingle z hz w')
  clear hx hy hz
  go_enter Tryz.func8, Tryz.ntmps8
  go_wp2_with fail
  refine (RSingle _).mono ?_; rintro e1 w1 ⟨rfl, hb1⟩
  go_wp2_with fail
  refine (Sx.out _).mono ?_; rintro e2 w2 ⟨g1, rfl, hI1, hg1, hb2⟩
  go_wp2_with fail
  refine (Sy.out _).mono ?_; rintro e3 w3 ⟨g2, rfl, hI2, hg2, hb3⟩
  have hI1 := hI1.of hb3
  go_wp2_with fail
  refine (Sz.out _).mono ?_; rintro e4 w4 ⟨g3, rfl, hI3, hg3, hb4⟩
  have hI1 := hI1.of hb4; have hI2 := hI2.of hb4
  clear hg1 hg2 hg3
  go_wp2_with fail
  refine (FH.out _ _ _ _ hI1 hI2 hI3).mono ?_; rintro e5 w5 ⟨rfl, hb5⟩
  go_wp2_with fail
  refine (DH.out _).mono ?_; rintro e6 w6 ⟨rfl, hb6⟩
  go_wp2
  go_ret3
  exact ⟨rfl, (by repeat (first | with_reducible exact Within.refl _ | with_reducible assumption | with_reducible refine Within.alloc ?_ _ | with_reducible refine Within.drew ?_ | with_reducible refine Within.drewN ?_ _ | with_reducible refine Within.setCell ?_ (by first | (simp; done) | (simp; omega)) _ | with_reducible refine Within.trans ?_ (by assumption)))⟩
theorem RFused32 (x y z : Nat) (mode : Int) (hx : x < 4294967296) (hy : y < 4294967296) (hz : z < 4294967296) (hW : refFW x y z mode < 4294967296) (w : World) : Calls Tryz.prog 8 #[.int .u32 (x : Int), .int .u32 (y : Int), .int .u32 (z : Int), .int .i64 mode] w (fun e w' => e = .returned (.tuple #[.int .u32 ((if 0 ≤ mode ∧ mode ≤ 4 then refFW x y z mode else 0 : Nat) : Int), .int .i64 (if 0 ≤ mode ∧ mode ≤ 4 then refFF x y z mode else 0), .int .i64 (if 0 ≤ mode ∧ mode ≤ 4 then 0 else 20)]) ∧ Within w w') := by
  by_cases hm : 0 ≤ mode ∧ mode ≤ 4
  · rw [if_pos hm, if_pos hm, if_pos hm]
    exact Rfus32 x y z _ _ mode _ _ _ hx hy hz (Lib.hid fun w g1 g2 g3 h1 h2 h3 => RfusedS x y z g1 g2 g3 mode w h1 h2 h3) (Lib.hid fun w => Rdone_yes _ hW _ mode hm w) w
  · rw [if_neg hm, if_neg hm, if_neg hm]
    exact Rfus32 x y z _ _ mode _ _ _ hx hy hz (Lib.hid fun w g1 g2 g3 h1 h2 h3 => RfusedS x y z g1 g2 g3 mode w h1 h2 h3) (Lib.hid fun w => Rdone_no _ _ mode hm w) w
end Go.Proofs.YtifgngmebnjfkaaGreatDoor
end

section
namespace Go.Proofs.YtifgngmebnjfkaaGreatDoor
open Go.RowKit
theorem is32_yes (a : Nat) (w : World) : Calls Tryz.prog 37 #[.float .f32 a, .int .u32 (a : Int)] w fun e w' => e = .returned (.bool true) ∧ w = w' := by
  have := is32_any a a w
  rwa [show ((a : Int) == (a : Int)) = true by simp] at this
set_option maxRecDepth 100000 in
set_option maxHeartbeats 600000 in
theorem told_yes (a : Nat) (k n : Int) (w : World) : Calls Tryz.prog 9 #[.float .f32 a, .int .i64 k, .int .i64 n, .int .u32 (a : Int), .int .i64 k, .int .i64 n] w fun e w' => e = .returned (.bool true) ∧ w = w' := by
  have hk : (k == k) = true := by simp
  have hn : (n == n) = true := by simp
  go_enter Tryz.func9, Tryz.ntmps9
  go_wp2_with fail
  refine (is32_yes a _).mono ?_; rintro e1 w1 ⟨rfl, rfl⟩
  go_wp2
  go_ret
  exact ⟨rfl, rfl⟩
end Go.Proofs.YtifgngmebnjfkaaGreatDoor
end

section
namespace Go.Proofs.YtifgngmebnjfkaaGreatDoor
open Go.RowKit
theorem sWord_less {m : Nat} (b : Bool) (e : Int) (h0 : m ≠ 0) (hm : m < 18446744073709551616) (mode : Int) : sWord b m e mode < 4294967296 := by
  have hs : sgnS b ≤ 2147483648 := by unfold sgnS; split <;> omega
  unfold sWord
  split
  · split <;> omega
  · rename_i ho
    have := num_ltS (sAmt_rep b e mode h0 hm (by simpa using ho)).1
    omega
theorem noughtW_lt (a b : Bool) (mode : Int) : noughtW a b mode < 4294967296 := by unfold noughtW; split <;> decide
theorem infS_lt (s : Bool) : infS s < 4294967296 := by unfold infS sgnS; split <;> decide
theorem addW_lt {A B : Int} (na nb : Bool) (mode : Int) (hR : Fp.Rep Ieee.double (sumS A B).natAbs) : addW A B na nb mode < 4294967296 := by
  unfold addW
  split
  · split <;> exact noughtW_lt _ _ _
  · rename_i h
    obtain ⟨b1, b2, _⟩ := nud_bounds (L := sumL A B) h hR
    exact sWord_less _ _ b1 b2 mode
theorem fusWd_lt {x y z : Nat} (hx : x < 4294967296) (hy : y < 4294967296) (hz : z < 4294967296) (mode : Int) : fusWd x y z mode < 4294967296 := by
  unfold fusWd
  rw [isN_k, isN_k, isN_k]
  by_cases hN : kS x = 2 ∨ kS y = 2 ∨ kS z = 2
  · have e : (decide (kS x = 2) || decide (kS y = 2) || decide (kS z = 2)) = true := by
      rcases hN with h | h | h <;> simp [h]
    rw [if_pos e]; decide
  · have nx : kS x ≠ 2 := fun h => hN (.inl h)
    have ny : kS y ≠ 2 := fun h => hN (.inr (.inl h))
    have nz : kS z ≠ 2 := fun h => hN (.inr (.inr h))
    have e : ¬ (decide (kS x = 2) || decide (kS y = 2) || decide (kS z = 2)) = true := by simp [nx, ny, nz]
    rw [if_neg e]
    rcases mul_cases hx hy nx ny with ⟨h, _⟩ | ⟨h, _, _⟩ | ⟨p, h, hp, kx, ky⟩
    · rw [h]; show (2143289344 : Nat) < 4294967296; decide
    · rw [h]
      show sumWd (infD _) (wD z) mode < _
      unfold sumWd
      rw [if_pos (is_inf _)]
      split
      · decide
      · exact infS_lt _
    · rw [h]
      show sumWd p (wD z) mode < _
      have hfp : Fi p := ⟨hp.1, by have := hp.2.1; rw [Fp.rg64, Fp.dI] at this; exact this⟩
      unfold sumWd
      rw [is_fi hfp, if_neg Bool.false_ne_true]
      by_cases hi : kS z = 1
      · rw [wD_inf hz (by rw [isI_k, decide_eq_true hi]), is_inf, if_pos rfl]; exact infS_lt _
      · have fz := k_fin nz hi
        obtain ⟨f1, f2, _⟩ := wD_fin hz (by rw [isN_k, decide_eq_false nz]) (by rw [isI_k, decide_eq_false hi])
        rw [is_fi f1, if_neg Bool.false_ne_true, f2]
        have hA : (Fp.un Ieee.double p).natAbs ≤ 2 ^ 1500 := prod_small hx hy (by rw [isN_k, decide_eq_false nx]) (by rw [isN_k, decide_eq_false ny]) p h (is_fi hfp)
        exact addW_lt _ _ mode (rep_rn (pow_le_flim (small_add hA (uS_small hz fz)).1 (by decide)))
set_option maxRecDepth 100000 in
set_option maxHeartbeats 600000 in
theorem fusions_core (x y z a : Nat) (mode k n : Int) (NX : Hid (∀ w, FmS w → Calls Tryz.prog 6 #[.float .f32 x, .float .f32 y, .float .f32 z, .int .i64 mode] w fun e' w' => e' = .returned (.tuple #[.float .f32 a, .int .i64 k, .int .i64 n]) ∧ Within w w')) (RX : Hid (∀ w, Calls Tryz.prog 8 #[.int .u32 (x : Int), .int .u32 (y : Int), .int .u32 (z : Int), .int .i64 mode] w fun e' w' => e' = .returned (.tuple #[.int .u32 (a : Int), .int .i64 k, .int .i64 n]) ∧ Within w w')) (w : World) (hT : FmS w) : Calls Tryz.prog 3 #[.int .u32 (x : Int), .int .u32 (y : Int), .int .u32 (z : Int), .int .i64 mode] w fun e' w' => e' = .returned (.bool true) ∧ Within w w' := by
  go_enter Tryz.func3, Tryz.ntmps3
  go_wp2_with fail
  refine (g_any x _).mono ?_; rintro e1 w1 ⟨rfl, rfl⟩
  go_wp2_with fail
  refine (g_any y _).mono ?_; rintro e2 w2 ⟨rfl, rfl⟩
  go_wp2_with fail
  refine (g_any z _).mono ?_; rintro e3 w3 ⟨rfl, rfl⟩
  go_wp2_with fail
  refine (NX.out _ (hT.of (by repeat (first | with_reducible exact Within.refl _ | with_reducible assumption | with_reducible refine Within.alloc ?_ _ | with_reducible refine Within.drew ?_ | with_reducible refine Within.setCell ?_ (by first | (simp; done) | (simp; omega)) _ | with_reducible refine Within.trans ?_ (by assumption))))).mono ?_; rintro e4 w4 ⟨rfl, hb4⟩
  go_wp2_with fail
  refine (RX.out _).mono ?_; rintro e5 w5 ⟨rfl, hb5⟩
  go_wp2_with fail
  refine (told_yes a k n _).mono ?_; rintro e6 w6 ⟨rfl, rfl⟩
  go_wp2_with fail
  refine (awake_true _ (hT.of (by repeat (first | with_reducible exact Within.refl _ | with_reducible assumption | with_reducible refine Within.alloc ?_ _ | with_reducible refine Within.drew ?_ | with_reducible refine Within.setCell ?_ (by first | (simp; done) | (simp; omega)) _ | with_reducible refine Within.trans ?_ (by assumption))))).mono ?_; rintro e7 w7 ⟨rfl, hb7⟩
  go_wp2
  go_ret
  exact ⟨rfl, (by repeat (first | with_reducible exact Within.refl _ | with_reducible assumption | with_reducible refine Within.alloc ?_ _ | with_reducible refine Within.drew ?_ | with_reducible refine Within.setCell ?_ (by first | (simp; done) | (simp; omega)) _ | with_reducible refine Within.trans ?_ (by assumption)))⟩
theorem fusions_walk (x y z : Nat) (mode : Int) (hx : x < 4294967296) (hy : y < 4294967296) (hz : z < 4294967296) (_ : -9223372036854775808 ≤ mode) (_ : mode < 9223372036854775808) (w : World) (hT : FmS w) : Calls Tryz.prog 3 #[.int .u32 (x : Int), .int .u32 (y : Int), .int .u32 (z : Int), .int .i64 mode] w fun e' w' => e' = .returned (.bool true) ∧ Within w w' := by
  obtain ⟨h1, h2⟩ := fus_word hx hy hz mode
  refine fusions_core x y z _ mode _ _ (Lib.hid fun w h => Fused_any x y z mode hx hy hz (fun nx ny p h1 h2 => prod_small hx hy nx ny p h1 h2) w h) (Lib.hid fun w => ?_) w hT
  refine (RFused32 x y z mode hx hy hz (by rw [← h1]; exact fusWd_lt hx hy hz mode) w).mono fun e w' h => ⟨h.1.trans ?_, h.2⟩
  unfold nErr
  rw [h1, h2]
end Go.Proofs.YtifgngmebnjfkaaGreatDoor
end

section
namespace Go.Proofs.YtifgngmebnjfkaaGreatDoor.Base
open Go.ChangeShapes Go.WideShapes Go.ChangeAt Go.RowKit
theorem own : ownKnob Tryz.prog.godebug = none := by kernel_rfl
theorem gS : Tryz.prog.globalNamed "binnacle/convert.single" = some 0 := by kernel_rfl
theorem gST : (Tryz.prog.globals[0]?).map (·.type) = some 104 := by kernel_rfl
theorem cellsI : Tryz.prog.cellsOf 3 = 1 := by kernel_rfl
theorem fmt_cells {W : World} {name : String} {g : Nat} {a b c : Int} {rest : List (String × DataW Unit)} {ps : List MemPlace}
    (hg : Tryz.prog.globalNamed name = some g) (hty : (Tryz.prog.globals[g]?).map (·.type) = some 104)
    (h : DataW.LaidVars Tryz.prog W ((name, .agg [.lit (.int .i64 a), .lit (.int .i64 b), .lit (.int .i64 c)]) :: rest) ps) :
    (W.cell? ⟨g, 0, none⟩ = some (.int .i64 a) ∧ W.cell? ⟨g, 1, none⟩ = some (.int .i64 b) ∧ W.cell? ⟨g, 2, none⟩ = some (.int .i64 c)) ∧ ∃ q, DataW.LaidVars Tryz.prog W rest q := by
  obtain ⟨g', t', cs, fuel, p, q, hg', ht', hvar, hd, hr, _⟩ := h
  obtain rfl := Option.some.inj (hg.symm.trans hg')
  obtain rfl := Option.some.inj (hty.symm.trans ht')
  obtain ⟨y0, y1, y2, n, hx, hl, h0, h1, h2⟩ := Go.Deep.trod_struct3 Tryz.underlying104 hd
  obtain ⟨c0, e0, x0, _⟩ := DataW.trod_int Tryz.underlying3 h0
  obtain ⟨c1, e1, x1, _⟩ := DataW.trod_int Tryz.underlying3 h1
  obtain ⟨c2, e2, x2, _⟩ := DataW.trod_int Tryz.underlying3 h2
  subst x0 x1 x2
  have hx1 := congrArg Prod.fst hx
  simp at hx1
  obtain ⟨rfl, rfl, rfl⟩ := hx1
  have v := World.var?_cell hg hvar
  refine ⟨⟨?_, ?_, ?_⟩, q, hr⟩
  · rw [v 0]
    have := congrArg (·[0]?) e0
    simpa [cellsI, List.getElem?_take, List.getElem?_drop] using this
  · rw [v 1]
    have := congrArg (·[0]?) e1
    simpa [cellsI, List.getElem?_take, List.getElem?_drop] using this
  · rw [v 2]
    have := congrArg (·[0]?) e2
    simpa [cellsI, List.getElem?_take, List.getElem?_drop] using this
theorem fmS {W : World} {rest : List (String × DataW Unit)} (h : laidMet Tryz.prog (("binnacle/convert.single", Rows.laid_binnacle_convert_single) :: rest) W) : FmS W := by
  obtain ⟨ps, h1, _⟩ := h
  exact (fmt_cells gS gST h1).1
theorem nat_of_u32 {n : Int} (h : (Lit.int .u32 n).wf = true) : ∃ a : Nat, n = a ∧ a < 4294967296 := by
  simp only [Lit.wf, Bool.and_eq_true, decide_eq_true_eq] at h
  have h1 : (0 : Int) ≤ n := h.1
  have h2 : n ≤ 4294967295 := h.2
  exact ⟨n.toNat, by omega, by omega⟩
theorem int_of_i64 {n : Int} (h : (Lit.int .i64 n).wf = true) : -9223372036854775808 ≤ n ∧ n < 9223372036854775808 := by
  simp only [Lit.wf, Bool.and_eq_true, decide_eq_true_eq] at h
  have h1 : (-9223372036854775808 : Int) ≤ n := h.1
  have h2 : n ≤ 9223372036854775807 := h.2
  exact ⟨h1, by omega⟩
def layVar (g : Nat) (cs : Array Value) (h : Array Obj) : Array Obj := h.modify g fun
  | .cells _ t frozen => .cells cs t frozen
  | o => o
noncomputable def laidWorld (os : Os) : World :=
  { World.holding Tryz.prog os ⟨#[], #[], []⟩ with heap := layVar 0 #[.int .i64 24, .int .i64 (-126), .int .i64 127] (World.holding Tryz.prog os ⟨#[], #[], []⟩).heap }
end Go.Proofs.YtifgngmebnjfkaaGreatDoor.Base
end

section
namespace Go.Proofs.YtifgngmebnjfkaaGreatDoor.convertFusions
open Go.ChangeShapes Go.WideShapes Go.ChangeAt Go.RowKit
set_option maxRecDepth 100000 in
theorem contract (H : Type) (enc : TypeId × Value → H) (W : World) (base : Nat) (args : Array Value) (ds gs : List (DataW H)) (before : List MemPlace)
    (hval : ∀ (j : Nat) t v, Tryz.f3.params[j]? = some t → args[j]? = some v → Value.okWide Tryz.prog W .any base t v)
    (hW : DataW.Whole enc Tryz.prog Tryz.f3.params.toList Rows.convertFusionsSpec.vars false W args.toList ds gs before) (hL : laidMetH Tryz.prog Rows.convertFusionsRow.laid W) :
    Calls Tryz.prog 3 args W fun e W' => ∃ v, e = .returned v ∧ Rows.convertFusionsSpec.post enc Tryz.prog Tryz.f3 false true false false W args v W' := by
  have hW' := hW
  obtain ⟨p, q, hA0, hV, rfl, hfz, hnd⟩ := hW
  have hA : DataW.TrodAll enc Tryz.prog W 0 (fun _ => true) true Tryz.f3.params.toList args.toList ds p := hA0
  rw [Tryz.params3] at hA hval
  obtain ⟨v0, vs0, d0, ds0, p0, q0, hargs, rfl, rfl, h0, r0⟩ := trodAll_cons hA
  obtain ⟨v1, vs1, d1, ds1, p1, q1, rfl, rfl, rfl, h1, r1⟩ := trodAll_cons r0
  obtain ⟨v2, vs2, d2, ds2, p2, q2, rfl, rfl, rfl, h2, r2⟩ := trodAll_cons r1
  obtain ⟨v3, vs3, d3, ds3, p3, q3, rfl, rfl, rfl, h3, r3⟩ := trodAll_cons r2
  obtain ⟨rfl, rfl, rfl⟩ := trodAll_nil r3
  obtain rfl : args = #[v0, v1, v2, v3] := by cases args; simp_all
  obtain ⟨rfl, rfl⟩ := trodVars_none hV
  obtain ⟨n0, rfl, rfl, rfl, w0⟩ := open_int Tryz.underlying22 (hval 0 22 v0 rfl rfl) h0
  obtain ⟨a0, rfl, ha0⟩ := Base.nat_of_u32 w0
  obtain ⟨n1, rfl, rfl, rfl, w1⟩ := open_int Tryz.underlying22 (hval 1 22 v1 rfl rfl) h1
  obtain ⟨a1, rfl, ha1⟩ := Base.nat_of_u32 w1
  obtain ⟨n2, rfl, rfl, rfl, w2⟩ := open_int Tryz.underlying22 (hval 2 22 v2 rfl rfl) h2
  obtain ⟨a2, rfl, ha2⟩ := Base.nat_of_u32 w2
  obtain ⟨n3, rfl, rfl, rfl, w3⟩ := open_int Tryz.underlying3 (hval 3 3 v3 rfl rfl) h3
  have hl3 := Base.int_of_i64 w3
  clear hA0
  simp only [List.append_nil] at hW'
  refine (fusions_walk a0 a1 a2 n3 ha0 ha1 ha2 hl3.1 hl3.2 W (Base.fmS hL)).mono fun e W' ⟨he, bel⟩ => ?_
  subst he
  exact ⟨_, rfl, _, _, _, [], _, [], hW', trodAll_mk1 (shut_bool Tryz.underlying4 _), (trodAll_cons_mk (shut_int Tryz.underlying22 w0) (trodAll_cons_mk (shut_int Tryz.underlying22 w1) (trodAll_cons_mk (shut_int Tryz.underlying22 w2) (trodAll_cons_mk (shut_int Tryz.underlying3 w3) trodAll_mk0)))), rfl, Below.frame bel _, fun h => by cases h⟩
theorem laid_met (os : Os) : laidMet Tryz.prog Rows.convertFusionsRow.laid ((Base.laidWorld os).forCall (fun _ _ => 0) ⟨#[], #[Value.int .u32 0, Value.int .u32 0, Value.int .u32 0, Value.int .i64 0], []⟩).memory :=
  laidMet_of_run' 8 (by kernel_rfl) (by kernel_rfl)
theorem reads (os : Os) {H : Type} (enc : TypeId × Value → H) : ∃ places, DataW.whole enc Tryz.prog ((Base.laidWorld os).forCall (fun _ _ => 0) ⟨#[], #[Value.int .u32 0, Value.int .u32 0, Value.int .u32 0, Value.int .i64 0], []⟩).memory Tryz.f3.params.toList Rows.convertFusionsSpec.vars false (#[Value.int .u32 0, Value.int .u32 0, Value.int .u32 0, Value.int .i64 0] : Array Value).toList 8 = some ([.lit (.int .u32 0), .lit (.int .u32 0), .lit (.int .u32 0), .lit (.int .i64 0)], [], places) :=
  ⟨[], by kernel_rfl⟩
set_option maxRecDepth 100000 in
theorem lifted (os : Os) (started : os.Started) (H : Type) (enc : TypeId × Value → H) (F : Stop.Interp) :
    ReturnsInHanded {} Tryz.checked os 3 .any ((OpenSpec.ofChange Rows.convertFusionsSpec).preRow enc Tryz.prog Tryz.f3 Rows.convertFusionsRow.domain false Rows.convertFusionsRow.laid) (((OpenSpec.ofChange Rows.convertFusionsSpec).at F).post enc Tryz.prog Tryz.f3 false true false false) := by
  obtain ⟨places, hx⟩ := reads os enc
  refine returnsInHanded_of_row (C := Tryz.checked) (s := OpenSpec.ofChange Rows.convertFusionsSpec) Base.own started (by kernel_rfl) Tryz.func3
    (witness_row_at (enc := enc) (C := Tryz.checked) false (Base.laidWorld os) #[Value.int .u32 0, Value.int .u32 0, Value.int .u32 0, Value.int .i64 0] rfl (by kernel_rfl) (by kernel_rfl) (by kernel_rfl)
      (OpenSpec.preRow_of_cond 8 hx (by kernel_rfl) (fun k hk => by cases hk) (by kernel_rfl) (laid_met os))) ?_
  intro W base args ds gs before hval hW _ _ _ hL _ _
  exact contract H enc W base args ds gs before hval hW hL
theorem said : Rows.ConvertFusionsSaid :=
  OpenClaim.holds_of_cond 3 Tryz.f3 rfl rfl rfl rfl rfl rfl rfl ⟨rfl, rfl, rfl, rfl, rfl⟩ rfl rfl rfl rfl rfl (by kernel_rfl) Tryz.func3 (by kernel_rfl)
    (of_decide_eq_true (by kernel_rfl)) (by unfold Func.isWrapper; first | (rw [if_pos (by decide +kernel)]; kernel_rfl) | (rw [if_neg (by decide +kernel)]; exact ⟨rfl, rfl⟩))
    (fun os started H enc _ F => by rw [OpenClaim.pre_eq_preRow]; exact lifted os started H enc F)
theorem plain (f : FuncId) (fn : Func) (hf : Tryz.pinned.checked.prog.funcNamed "binnacle/binnaclelaw02.ConvertFusions" = some f) (hfn : Tryz.pinned.checked.prog.funcs[f]? = some fn) :
    false = Tryz.pinned.checked.prog.looks [] ∧ ∀ (j : Nat) t, fn.params[j]? = some t → Tryz.pinned.checked.prog.wantsStandIn t = false := by
  obtain rfl : f = 3 := Option.some.inj ((show Tryz.prog.funcNamed "binnacle/binnaclelaw02.ConvertFusions" = some 3 by kernel_rfl).symm.trans hf) |>.symm
  obtain rfl : fn = Tryz.f3 := (Option.some.inj (Tryz.func3.symm.trans hfn)).symm
  refine ⟨by kernel_rfl, fun j t ht => ?_⟩
  rw [Tryz.params3] at ht
  have hm := Array.mem_of_getElem? ht
  have hm' : t = 22 ∨ t = 22 ∨ t = 22 ∨ t = 3 := by simpa using hm
  rcases hm' with rfl | rfl | rfl | rfl
  · exact (show Tryz.prog.wantsStandIn 22 = false by kernel_rfl)
  · exact (show Tryz.prog.wantsStandIn 22 = false by kernel_rfl)
  · exact (show Tryz.prog.wantsStandIn 22 = false by kernel_rfl)
  · exact (show Tryz.prog.wantsStandIn 3 = false by kernel_rfl)
theorem card : Rows.ConvertFusionsCardSaid :=
  Claim7.holds_tied_plain_at .later [] _ _ _ _ said (fun _ h => by cases h) (by kernel_rfl) (fun _ h => by cases h) convertFusions_row_tie rfl ⟨rfl, rfl⟩ (by kernel_rfl) rfl plain (by kernel_rfl)
#print axioms card
end Go.Proofs.YtifgngmebnjfkaaGreatDoor.convertFusions
end
