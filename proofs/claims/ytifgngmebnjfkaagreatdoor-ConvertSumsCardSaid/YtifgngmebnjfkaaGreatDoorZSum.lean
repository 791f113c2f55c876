/- The card of ConvertSums: whatever the input, the call returns true and the input reads as it did; the formats hold what the program's text lays. -/
import Derived.Test.YtifgngmebnjfkaaGreatDoorRows
import Ieee.Arith
import Derived.WalkKit
import Derived.WalkSpells
import Derived.WalkLawsBesides
import Derived.BigQuiet
import Derived.Lib.Hide
import Derived.Lib.TrailingZeros
import Derived.Lib.BitFns
import Derived.Lib.Strings
import Derived.Lib.Slices
import Derived.Lib.Small
import Derived.Lib.Walk
import Derived.Deep.OwnRows
import Derived.OwnWalk
import Derived.LoopTactic
import Derived.Outline
import Derived.IntWalk
import Derived.OrdersHeld
import Derived.StillTail
import Derived.Deep.RegionHeld3
import Derived.Maps.AppendAt
import Derived.Deep.DeepCutAuto
import Derived.Deep.QuietTactic
import Derived.Test.YtifgngmebnjfkaaGreatDoorCards
import Derived.Test.YtifgngmebnjfkaaGreatDoorTie
import Derived.ProofKit
import Derived.OpenShut
import Derived.ShutString
import Derived.ChangeOld
import Derived.Below
import Derived.Deep.DeepHandedRow
import Derived.Deep.Strs
import Derived.Lib.LaidTab
import Derived.Test.YtifgngmebnjfkaaGreatDoorZSum6
set_option linter.unusedVariables false
set_option linter.unusedSimpArgs false
section
namespace Go.Proofs.YtifgngmebnjfkaaGreatDoor
open Go.RowKit
set_option maxRecDepth 100000 in
set_option maxHeartbeats 600000 in
theorem Radd_nan1 (E1 E2 mode : Int) (b1 b2 : Bool) (g1 g2 : Nat) (k2 : Int) (w : World) : Calls Tryz.prog 67 #[fmS, .agg #[.int .i64 2, .bool b1, .pointer (some ⟨g1, 0, none⟩), .int .i64 E1], .agg #[.int .i64 k2, .bool b2, .pointer (some ⟨g2, 0, none⟩), .int .i64 E2], .int .i64 mode] w (fun e' w' => e' = .returned (.tuple #[.int .u64 (2143289344), .int .i64 0]) ∧ Within w w') := by
  go_enter Tryz.func67, Tryz.ntmps67
  go_wp2_with fail
  refine (RnoneS _).mono ?_; rintro e1 w1 ⟨rfl, hb1⟩
  go_wp2
  go_ret2
  exact ⟨rfl, (by repeat (with_reducible first | exact Within.refl _ | assumption | refine Within.alloc ?_ _ | refine Within.drew ?_ | refine Within.drewN ?_ _ | refine Within.setCell ?_ (by first | (simp; done) | (simp; omega)) _ | refine Within.trans ?_ (by assumption)))⟩
set_option maxRecDepth 100000 in
set_option maxHeartbeats 600000 in
theorem Radd_nan2 (E1 E2 mode : Int) (b1 b2 : Bool) (g1 g2 : Nat) (k1 : Int) (h1 : (k1 == 2) = false) (w : World) : Calls Tryz.prog 67 #[fmS, .agg #[.int .i64 k1, .bool b1, .pointer (some ⟨g1, 0, none⟩), .int .i64 E1], .agg #[.int .i64 2, .bool b2, .pointer (some ⟨g2, 0, none⟩), .int .i64 E2], .int .i64 mode] w (fun e' w' => e' = .returned (.tuple #[.int .u64 (2143289344), .int .i64 0]) ∧ Within w w') := by
  go_enter Tryz.func67, Tryz.ntmps67
  go_wp2_with fail
  refine (RnoneS _).mono ?_; rintro e1 w1 ⟨rfl, hb1⟩
  go_wp2
  go_ret2
  exact ⟨rfl, (by repeat (with_reducible first | exact Within.refl _ | assumption | refine Within.alloc ?_ _ | refine Within.drew ?_ | refine Within.drewN ?_ _ | refine Within.setCell ?_ (by first | (simp; done) | (simp; omega)) _ | refine Within.trans ?_ (by assumption)))⟩
set_option maxRecDepth 100000 in
set_option maxHeartbeats 600000 in
theorem Radd_inv (E1 E2 mode : Int) (b1 b2 : Bool) (g1 g2 : Nat) (h : (b1 == b2) = false) (w : World) : Calls Tryz.prog 67 #[fmS, .agg #[.int .i64 1, .bool b1, .pointer (some ⟨g1, 0, none⟩), .int .i64 E1], .agg #[.int .i64 1, .bool b2, .pointer (some ⟨g2, 0, none⟩), .int .i64 E2], .int .i64 mode] w (fun e' w' => e' = .returned (.tuple #[.int .u64 (2143289344), .int .i64 8]) ∧ Within w w') := by
  go_enter Tryz.func67, Tryz.ntmps67
  go_wp2_with fail
  refine (RnoneS _).mono ?_; rintro e1 w1 ⟨rfl, hb1⟩
  go_wp2
  go_ret2
  exact ⟨rfl, (by repeat (with_reducible first | exact Within.refl _ | assumption | refine Within.alloc ?_ _ | refine Within.drew ?_ | refine Within.drewN ?_ _ | refine Within.setCell ?_ (by first | (simp; done) | (simp; omega)) _ | refine Within.trans ?_ (by assumption)))⟩
set_option maxRecDepth 100000 in
set_option maxHeartbeats 600000 in
theorem Radd_inf1 (E1 E2 mode : Int) (b1 b2 : Bool) (g1 g2 : Nat) (k2 : Int) (h2 : (k2 == 2) = false) (h3 : ((k2 == 1) && !(b1 == b2)) = false) (w : World) : Calls Tryz.prog 67 #[fmS, .agg #[.int .i64 1, .bool b1, .pointer (some ⟨g1, 0, none⟩), .int .i64 E1], .agg #[.int .i64 k2, .bool b2, .pointer (some ⟨g2, 0, none⟩), .int .i64 E2], .int .i64 mode] w (fun e' w' => e' = .returned (.tuple #[.int .u64 ((2139095040 + nghtS b1 : Nat)), .int .i64 0]) ∧ Within w w') := by
  have h4 : (k2 == 1) = false ∨ ((k2 == 1) = true ∧ (b1 == b2) = true) := by revert h3; cases (k2 == 1) <;> cases (b1 == b2) <;> simp
  clear h3
  rcases h4 with h4 | ⟨h4, h5⟩
  all_goals
    go_enter Tryz.func67, Tryz.ntmps67
    go_wp2_with fail
    refine (RinfinityS b1 _).mono ?_; rintro e1 w1 ⟨rfl, hb1⟩
    go_wp2
    go_ret2
    exact ⟨rfl, (by repeat (with_reducible first | exact Within.refl _ | assumption | refine Within.alloc ?_ _ | refine Within.drew ?_ | refine Within.drewN ?_ _ | refine Within.setCell ?_ (by first | (simp; done) | (simp; omega)) _ | refine Within.trans ?_ (by assumption)))⟩
set_option maxRecDepth 100000 in
set_option maxHeartbeats 600000 in
theorem Radd_inf2 (E1 E2 mode : Int) (b1 b2 : Bool) (g1 g2 : Nat) (k1 : Int) (h1 : (k1 == 2) = false) (h2 : (k1 == 1) = false) (w : World) : Calls Tryz.prog 67 #[fmS, .agg #[.int .i64 k1, .bool b1, .pointer (some ⟨g1, 0, none⟩), .int .i64 E1], .agg #[.int .i64 1, .bool b2, .pointer (some ⟨g2, 0, none⟩), .int .i64 E2], .int .i64 mode] w (fun e' w' => e' = .returned (.tuple #[.int .u64 ((2139095040 + nghtS b2 : Nat)), .int .i64 0]) ∧ Within w w') := by
  go_enter Tryz.func67, Tryz.ntmps67
  go_wp2_with fail
  refine (RinfinityS b2 _).mono ?_; rintro e1 w1 ⟨rfl, hb1⟩
  go_wp2
  go_ret2
  exact ⟨rfl, (by repeat (with_reducible first | exact Within.refl _ | assumption | refine Within.alloc ?_ _ | refine Within.drew ?_ | refine Within.drewN ?_ _ | refine Within.setCell ?_ (by first | (simp; done) | (simp; omega)) _ | refine Within.trans ?_ (by assumption)))⟩
set_option maxRecDepth 100000 in
set_option maxHeartbeats 600000 in
theorem Radd_sum (E1 E2 mode : Int) (b1 b2 : Bool) (g1 g2 : Nat) (e v1 v2 v : Int) (M1 M2 : Nat) (he : min E1 E2 = e) (hv : v1 + v2 = v) (hl1 : (dg v1.natAbs).length ≤ 1400) (hl2 : (dg v2.natAbs).length ≤ 1400) (hlv : (dg v.natAbs).length ≤ 900) (SG1 : Hid (∀ w, IntB w g1 (M1 : Int) → Calls Tryz.prog 106 #[.agg #[.int .i64 0, .bool b1, .pointer (some ⟨g1, 0, none⟩), .int .i64 E1], .int .i64 e] w (fun en w' => ∃ h, en = .returned (.pointer (some ⟨h, 0, none⟩)) ∧ IntB w' h (v1) ∧ w.heap.size ≤ h ∧ Within w w'))) (SG2 : Hid (∀ w, IntB w g2 (M2 : Int) → Calls Tryz.prog 106 #[.agg #[.int .i64 0, .bool b2, .pointer (some ⟨g2, 0, none⟩), .int .i64 E2], .int .i64 e] w (fun en w' => ∃ h, en = .returned (.pointer (some ⟨h, 0, none⟩)) ∧ IntB w' h (v2) ∧ w.heap.size ≤ h ∧ Within w w'))) (hv0 : v ≠ 0) (hee : -50000 ≤ e ∧ e ≤ 50000) (w : World) (hI1 : IntB w g1 (M1 : Int)) (hI2 : IntB w g2 (M2 : Int)) : Calls Tryz.prog 67 #[fmS, .agg #[.int .i64 0, .bool b1, .pointer (some ⟨g1, 0, none⟩), .int .i64 E1], .agg #[.int .i64 0, .bool b2, .pointer (some ⟨g2, 0, none⟩), .int .i64 E2], .int .i64 mode] w (fun e' w' => e' = .returned (.tuple #[.int .u64 (gWord 24 (-149) 127 2139095039 2139095040 8388608 2147483648 (decide (v < 0)) v.natAbs e false mode), .int .i64 (gFlags 24 (-149) 127 (decide (v < 0)) v.natAbs e false mode)]) ∧ Within w w') := by
  have HL1 := Lib.hid hl1; have HL2 := Lib.hid hl2; have HLV := Lib.hid hlv; have HV := Lib.hid hv; have HV0 := Lib.hid hv0; have HE := Lib.hid hee; clear hl1 hl2 hlv hv hv0 hee
  go_enter Tryz.func67, Tryz.ntmps67
  go_upto_region 10 with fail
  go_cut [11] (fun s11 wx => PtrI (((w.alloc (.cells #[.int .i64 24, .int .i64 (-126), .int .i64 127, .int .i64 8] 60)).alloc (.cells #[.int .i64 0, .bool b1, .pointer (some ⟨g1, 0, none⟩), .int .i64 E1] 65)).alloc (.cells #[.int .i64 0, .bool b2, .pointer (some ⟨g2, 0, none⟩), .int .i64 E2] 65)) v s11 wx ∧ Within (((w.alloc (.cells #[.int .i64 24, .int .i64 (-126), .int .i64 127, .int .i64 8] 60)).alloc (.cells #[.int .i64 0, .bool b1, .pointer (some ⟨g1, 0, none⟩), .int .i64 E1] 65)).alloc (.cells #[.int .i64 0, .bool b2, .pointer (some ⟨g2, 0, none⟩), .int .i64 E2] 65)) wx)
  case first =>
    refine wp_region_schG (fun W => W.cell? ⟨w.heap.size + 1, 0, none⟩ = some (.int .i64 0) ∧ W.cell? ⟨w.heap.size + 1, 1, none⟩ = some (.bool b1) ∧ W.cell? ⟨w.heap.size + 1, 2, none⟩ = some (.pointer (some ⟨g1, 0, none⟩)) ∧ W.cell? ⟨w.heap.size + 1, 3, none⟩ = some (.int .i64 E1) ∧ W.cell? ⟨w.heap.size + 1 + 1, 0, none⟩ = some (.int .i64 0) ∧ W.cell? ⟨w.heap.size + 1 + 1, 1, none⟩ = some (.bool b2) ∧ W.cell? ⟨w.heap.size + 1 + 1, 2, none⟩ = some (.pointer (some ⟨g2, 0, none⟩)) ∧ W.cell? ⟨w.heap.size + 1 + 1, 3, none⟩ = some (.int .i64 E2) ∧ IntB W g1 (M1 : Int) ∧ IntB W g2 (M2 : Int) ∧ Within (((w.alloc (.cells #[.int .i64 24, .int .i64 (-126), .int .i64 127, .int .i64 8] 60)).alloc (.cells #[.int .i64 0, .bool b1, .pointer (some ⟨g1, 0, none⟩), .int .i64 E1] 65)).alloc (.cells #[.int .i64 0, .bool b2, .pointer (some ⟨g2, 0, none⟩), .int .i64 E2] 65)) W ∧ w.heap.size + 1 < W.heap.size ∧ w.heap.size + 1 + 1 < W.heap.size) 8 (.firm 1 (.firm 2 (.firm 4 (.firm 5 (.two 0 (.one 3 (.one 6 (.one 7 (.one 8 .nil)))) 3 (.two 0 (.one 6 (.one 7 (.one 8 .nil))) 6 (.one 0 (.one 7 (.one 8 .nil))))))))) (by kernel_rfl) (by kernel_rfl) ⟨by go_simp, by go_simp, by go_simp, by go_simp, by go_simp, by go_simp, by go_simp, by go_simp, (by repeat (with_reducible first | assumption | exact ib_new _ _ (by simp; done) | refine IntB.alloc ?_ _ | refine IntB.drew ?_ | refine IntB.drewN ?_ _)), (by repeat (with_reducible first | assumption | exact ib_new _ _ (by simp; done) | refine IntB.alloc ?_ _ | refine IntB.drew ?_ | refine IntB.drewN ?_ _)), Within.refl _, by first | (simp; done) | (simp; omega), by first | (simp; done) | (simp; omega)⟩ ?_
    rintro w0 ⟨c0, c1, c2, c3, c4, c5, c6, c7, hJ1, hJ2, hw0, hs0, hs1⟩
    try simp only [Act.put, List.setIfInBounds_toArray, List.set_cons_zero, List.set_cons_succ]
    repeat
      apply sch_firm rfl rfl (by repeat (with_reducible first | exact Within.refl _ | assumption | refine Within.alloc ?_ _ | refine Within.drew ?_ | refine Within.drewN ?_ _ | refine Within.setCell ?_ (by first | (simp; done) | (simp; omega)) _ | refine Within.trans ?_ (by assumption)))
      · intro wq hq
        have hcq := hq.cells
        clear hq
        go_simp
        rfl
      try simp only [Act.put, List.setIfInBounds_toArray, List.set_cons_zero, List.set_cons_succ]
    refine sch_two rfl rfl rfl rfl (fun K hK => ?_) (fun K hK => ?_)
    · go_simp
      refine hK _ _ (by repeat (with_reducible first | exact Within.refl _ | assumption | refine Within.alloc ?_ _ | refine Within.drew ?_ | refine Within.drewN ?_ _ | refine Within.setCell ?_ (by first | (simp; done) | (simp; omega)) _ | refine Within.trans ?_ (by assumption))) ?_
      clear hK K
      try simp only [Act.put, List.setIfInBounds_toArray, List.set_cons_zero, List.set_cons_succ]
      refine sch_one rfl rfl (fun K hK => ?_)
      go_simp
      refine (SG1.out _ (by repeat (with_reducible first | assumption | exact ib_new _ _ (by simp; done) | refine IntB.alloc ?_ _ | refine IntB.drew ?_ | refine IntB.drewN ?_ _))).mono ?_; rintro e4 w4 ⟨h1, rfl, hA1, hg1, hb4⟩
      have hv4 : Within w0 w4 := Within.trans (by repeat (with_reducible first | exact Within.refl _ | assumption | refine Within.alloc ?_ _ | refine Within.drew ?_ | refine Within.drewN ?_ _ | refine Within.setCell ?_ (by first | (simp; done) | (simp; omega)) _ | refine Within.trans ?_ (by assumption))) hb4
      have hT4 : IntTy w4 w0.heap.size := IntTy.of (by repeat (with_reducible first | assumption | exact ty_new _ _ _ _ (by simp; done) | refine ty_drew ?_ | refine ty_alloc ?_ _)) hb4
      refine hK _ _ (fun _ => (by repeat (with_reducible first | exact Within.refl _ | assumption | refine Within.alloc ?_ _ | refine Within.drew ?_ | refine Within.drewN ?_ _ | refine Within.setCell ?_ (by first | (simp; done) | (simp; omega)) _ | refine Within.trans ?_ (by assumption)))) ?_
      clear hK K
      try simp only [Act.put, List.setIfInBounds_toArray, List.set_cons_zero, List.set_cons_succ]
      refine sch_one rfl rfl (fun K hK => ?_)
      go_simp
      have hJ2' := hJ2.of hv4
      refine (SG2.out _ (by repeat (with_reducible first | assumption | exact ib_new _ _ (by simp; done) | refine IntB.alloc ?_ _ | refine IntB.drew ?_ | refine IntB.drewN ?_ _))).mono ?_; rintro e5 w5 ⟨h2, rfl, hA2, hg2, hb5⟩
      have hA1' : IntB w5 h1 v1 := IntB.of (by repeat (with_reducible first | assumption | exact ib_new _ _ (by simp; done) | refine IntB.alloc ?_ _ | refine IntB.drew ?_ | refine IntB.drewN ?_ _)) hb5
      have hv5 : Within w0 w5 := Within.trans (by repeat (with_reducible first | exact Within.refl _ | assumption | refine Within.alloc ?_ _ | refine Within.drew ?_ | refine Within.drewN ?_ _ | refine Within.setCell ?_ (by first | (simp; done) | (simp; omega)) _ | refine Within.trans ?_ (by assumption))) hb5
      have hT5 : IntTy w5 w0.heap.size := IntTy.of (by repeat (with_reducible first | assumption | exact ty_new _ _ _ _ (by simp; done) | refine ty_drew ?_ | refine ty_alloc ?_ _)) hb5
      refine hK _ _ (fun _ => (by repeat (with_reducible first | exact Within.refl _ | assumption | refine Within.alloc ?_ _ | refine Within.drew ?_ | refine Within.drewN ?_ _ | refine Within.setCell ?_ (by first | (simp; done) | (simp; omega)) _ | refine Within.trans ?_ (by assumption)))) ?_
      clear hK K
      try simp only [Act.put, List.setIfInBounds_toArray, List.set_cons_zero, List.set_cons_succ]
      refine sch_one rfl rfl (fun K hK => ?_)
      go_simp
      refine (BAdd _ h1 h2 v1 v2 (Nat.le_trans HL1.out (by decide)) (Nat.le_trans HL2.out (by decide)) _ (by repeat (with_reducible first | assumption | exact ty_new _ _ _ _ (by simp; done) | refine ty_drew ?_ | refine ty_alloc ?_ _)) (by repeat (with_reducible first | assumption | exact ib_new _ _ (by simp; done) | refine IntB.alloc ?_ _ | refine IntB.drew ?_ | refine IntB.drewN ?_ _)) (by repeat (with_reducible first | assumption | exact ib_new _ _ (by simp; done) | refine IntB.alloc ?_ _ | refine IntB.drew ?_ | refine IntB.drewN ?_ _))).mono ?_; rintro e6 w6 ⟨rfl, hA3, hG3⟩
      rw [HV.out] at hA3
      have hv3 : Within w0 w6 := Within.grown (by repeat (with_reducible first | exact Within.refl _ | assumption | refine Within.alloc ?_ _ | refine Within.drew ?_ | refine Within.drewN ?_ _ | refine Within.setCell ?_ (by first | (simp; done) | (simp; omega)) _ | refine Within.trans ?_ (by assumption))) hG3 (by first | (simp; done) | exact hv4.sizes | exact hv5.sizes)
      refine hK _ _ (fun _ => (by repeat (with_reducible first | exact Within.refl _ | assumption | refine Within.alloc ?_ _ | refine Within.drew ?_ | refine Within.drewN ?_ _ | refine Within.setCell ?_ (by first | (simp; done) | (simp; omega)) _ | refine Within.trans ?_ (by assumption)))) ?_
      clear hK K
      try simp only [Act.put, List.setIfInBounds_toArray, List.set_cons_zero, List.set_cons_succ]
      refine sch_one rfl rfl (fun K hK => ?_)
      go_simp
      refine hK _ _ (fun h => absurd h (by decide)) ?_
      clear hK K
      try simp only [Act.put, List.setIfInBounds_toArray, List.set_cons_zero, List.set_cons_succ]
      refine sch_nil ?_
      go_wp2_with fail
      go_meet
      exact ⟨⟨_, rfl, hA3, Nat.le_trans hw0.sizes (by first | (simp; done) | exact hv4.sizes | exact hv5.sizes)⟩, hw0.trans hv3⟩
    · go_simp
      refine (SG1.out _ (by repeat (with_reducible first | assumption | exact ib_new _ _ (by simp; done) | refine IntB.alloc ?_ _ | refine IntB.drew ?_ | refine IntB.drewN ?_ _))).mono ?_; rintro e4 w4 ⟨h1, rfl, hA1, hg1, hb4⟩
      have hv4 : Within w0 w4 := Within.trans (by repeat (with_reducible first | exact Within.refl _ | assumption | refine Within.alloc ?_ _ | refine Within.drew ?_ | refine Within.drewN ?_ _ | refine Within.setCell ?_ (by first | (simp; done) | (simp; omega)) _ | refine Within.trans ?_ (by assumption))) hb4
      refine hK _ _ (by repeat (with_reducible first | exact Within.refl _ | assumption | refine Within.alloc ?_ _ | refine Within.drew ?_ | refine Within.drewN ?_ _ | refine Within.setCell ?_ (by first | (simp; done) | (simp; omega)) _ | refine Within.trans ?_ (by assumption))) ?_
      clear hK K
      try simp only [Act.put, List.setIfInBounds_toArray, List.set_cons_zero, List.set_cons_succ]
      refine sch_two rfl rfl rfl rfl (fun K hK => ?_) (fun K hK => ?_)
      · go_simp
        refine hK _ _ (by repeat (with_reducible first | exact Within.refl _ | assumption | refine Within.alloc ?_ _ | refine Within.drew ?_ | refine Within.drewN ?_ _ | refine Within.setCell ?_ (by first | (simp; done) | (simp; omega)) _ | refine Within.trans ?_ (by assumption))) ?_
        clear hK K
        try simp only [Act.put, List.setIfInBounds_toArray, List.set_cons_zero, List.set_cons_succ]
        refine sch_one rfl rfl (fun K hK => ?_)
        go_simp
        have hJ2' := hJ2.of hv4
        refine (SG2.out _ (by repeat (with_reducible first | assumption | exact ib_new _ _ (by simp; done) | refine IntB.alloc ?_ _ | refine IntB.drew ?_ | refine IntB.drewN ?_ _))).mono ?_; rintro e5 w5 ⟨h2, rfl, hA2, hg2, hb5⟩
        have hA1' : IntB w5 h1 v1 := IntB.of (by repeat (with_reducible first | assumption | exact ib_new _ _ (by simp; done) | refine IntB.alloc ?_ _ | refine IntB.drew ?_ | refine IntB.drewN ?_ _)) hb5
        have hv5 : Within w0 w5 := Within.trans (by repeat (with_reducible first | exact Within.refl _ | assumption | refine Within.alloc ?_ _ | refine Within.drew ?_ | refine Within.drewN ?_ _ | refine Within.setCell ?_ (by first | (simp; done) | (simp; omega)) _ | refine Within.trans ?_ (by assumption))) hb5
        have hT5 : IntTy w5 w4.heap.size := IntTy.of (by repeat (with_reducible first | assumption | exact ty_new _ _ _ _ (by simp; done) | refine ty_drew ?_ | refine ty_alloc ?_ _)) hb5
        refine hK _ _ (fun _ => (by repeat (with_reducible first | exact Within.refl _ | assumption | refine Within.alloc ?_ _ | refine Within.drew ?_ | refine Within.drewN ?_ _ | refine Within.setCell ?_ (by first | (simp; done) | (simp; omega)) _ | refine Within.trans ?_ (by assumption)))) ?_
        clear hK K
        try simp only [Act.put, List.setIfInBounds_toArray, List.set_cons_zero, List.set_cons_succ]
        refine sch_one rfl rfl (fun K hK => ?_)
        go_simp
        refine (BAdd _ h1 h2 v1 v2 (Nat.le_trans HL1.out (by decide)) (Nat.le_trans HL2.out (by decide)) _ (by repeat (with_reducible first | assumption | exact ty_new _ _ _ _ (by simp; done) | refine ty_drew ?_ | refine ty_alloc ?_ _)) (by repeat (with_reducible first | assumption | exact ib_new _ _ (by simp; done) | refine IntB.alloc ?_ _ | refine IntB.drew ?_ | refine IntB.drewN ?_ _)) (by repeat (with_reducible first | assumption | exact ib_new _ _ (by simp; done) | refine IntB.alloc ?_ _ | refine IntB.drew ?_ | refine IntB.drewN ?_ _))).mono ?_; rintro e6 w6 ⟨rfl, hA3, hG3⟩
        rw [HV.out] at hA3
        have hv3 : Within w0 w6 := Within.grown (by repeat (with_reducible first | exact Within.refl _ | assumption | refine Within.alloc ?_ _ | refine Within.drew ?_ | refine Within.drewN ?_ _ | refine Within.setCell ?_ (by first | (simp; done) | (simp; omega)) _ | refine Within.trans ?_ (by assumption))) hG3 (by first | (simp; done) | exact hv4.sizes | exact hv5.sizes)
        refine hK _ _ (fun _ => (by repeat (with_reducible first | exact Within.refl _ | assumption | refine Within.alloc ?_ _ | refine Within.drew ?_ | refine Within.drewN ?_ _ | refine Within.setCell ?_ (by first | (simp; done) | (simp; omega)) _ | refine Within.trans ?_ (by assumption)))) ?_
        clear hK K
        try simp only [Act.put, List.setIfInBounds_toArray, List.set_cons_zero, List.set_cons_succ]
        refine sch_one rfl rfl (fun K hK => ?_)
        go_simp
        refine hK _ _ (fun h => absurd h (by decide)) ?_
        clear hK K
        try simp only [Act.put, List.setIfInBounds_toArray, List.set_cons_zero, List.set_cons_succ]
        refine sch_nil ?_
        go_wp2_with fail
        go_meet
        exact ⟨⟨_, rfl, hA3, Nat.le_trans hw0.sizes (by first | (simp; done) | exact hv4.sizes | exact hv5.sizes)⟩, hw0.trans hv3⟩
      · go_simp
        have hJ2' := hJ2.of hv4
        refine (SG2.out _ (by repeat (with_reducible first | assumption | exact ib_new _ _ (by simp; done) | refine IntB.alloc ?_ _ | refine IntB.drew ?_ | refine IntB.drewN ?_ _))).mono ?_; rintro e5 w5 ⟨h2, rfl, hA2, hg2, hb5⟩
        have hA1' : IntB w5 h1 v1 := IntB.of (by repeat (with_reducible first | assumption | exact ib_new _ _ (by simp; done) | refine IntB.alloc ?_ _ | refine IntB.drew ?_ | refine IntB.drewN ?_ _)) hb5
        have hv5 : Within w0 w5 := Within.trans (by repeat (with_reducible first | exact Within.refl _ | assumption | refine Within.alloc ?_ _ | refine Within.drew ?_ | refine Within.drewN ?_ _ | refine Within.setCell ?_ (by first | (simp; done) | (simp; omega)) _ | refine Within.trans ?_ (by assumption))) hb5
        refine hK _ _ (by repeat (with_reducible first | exact Within.refl _ | assumption | refine Within.alloc ?_ _ | refine Within.drew ?_ | refine Within.drewN ?_ _ | refine Within.setCell ?_ (by first | (simp; done) | (simp; omega)) _ | refine Within.trans ?_ (by assumption))) ?_
        clear hK K
        try simp only [Act.put, List.setIfInBounds_toArray, List.set_cons_zero, List.set_cons_succ]
        refine sch_one rfl rfl (fun K hK => ?_)
        go_simp
        refine hK _ _ (fun _ => (by repeat (with_reducible first | exact Within.refl _ | assumption | refine Within.alloc ?_ _ | refine Within.drew ?_ | refine Within.drewN ?_ _ | refine Within.setCell ?_ (by first | (simp; done) | (simp; omega)) _ | refine Within.trans ?_ (by assumption)))) ?_
        clear hK K
        try simp only [Act.put, List.setIfInBounds_toArray, List.set_cons_zero, List.set_cons_succ]
        refine sch_one rfl rfl (fun K hK => ?_)
        go_simp
        refine (BAdd _ h1 h2 v1 v2 (Nat.le_trans HL1.out (by decide)) (Nat.le_trans HL2.out (by decide)) _ (by repeat (with_reducible first | assumption | exact ty_new _ _ _ _ (by simp; done) | refine ty_drew ?_ | refine ty_alloc ?_ _)) (by repeat (with_reducible first | assumption | exact ib_new _ _ (by simp; done) | refine IntB.alloc ?_ _ | refine IntB.drew ?_ | refine IntB.drewN ?_ _)) (by repeat (with_reducible first | assumption | exact ib_new _ _ (by simp; done) | refine IntB.alloc ?_ _ | refine IntB.drew ?_ | refine IntB.drewN ?_ _))).mono ?_; rintro e6 w6 ⟨rfl, hA3, hG3⟩
        rw [HV.out] at hA3
        have hv3 : Within w0 w6 := Within.grown (by repeat (with_reducible first | exact Within.refl _ | assumption | refine Within.alloc ?_ _ | refine Within.drew ?_ | refine Within.drewN ?_ _ | refine Within.setCell ?_ (by first | (simp; done) | (simp; omega)) _ | refine Within.trans ?_ (by assumption))) hG3 (by first | (simp; done) | exact hv4.sizes | exact hv5.sizes)
        refine hK _ _ (fun _ => (by repeat (with_reducible first | exact Within.refl _ | assumption | refine Within.alloc ?_ _ | refine Within.drew ?_ | refine Within.drewN ?_ _ | refine Within.setCell ?_ (by first | (simp; done) | (simp; omega)) _ | refine Within.trans ?_ (by assumption)))) ?_
        clear hK K
        try simp only [Act.put, List.setIfInBounds_toArray, List.set_cons_zero, List.set_cons_succ]
        refine sch_one rfl rfl (fun K hK => ?_)
        go_simp
        refine hK _ _ (fun h => absurd h (by decide)) ?_
        clear hK K
        try simp only [Act.put, List.setIfInBounds_toArray, List.set_cons_zero, List.set_cons_succ]
        refine sch_nil ?_
        go_wp2_with fail
        go_meet
        exact ⟨⟨_, rfl, hA3, Nat.le_trans hw0.sizes (by first | (simp; done) | exact hv4.sizes | exact hv5.sizes)⟩, hw0.trans hv3⟩
  case rest =>
    obtain ⟨⟨z, rfl, hI, hz⟩, hw⟩ := hcut
    have hz3 : w.heap.size + 3 ≤ z := Nat.le_trans (by simp) hz
    clear hz
    have hsg := Lib.hid (sign_lt v)
    have hww : Within w wc := ((((Within.refl w).alloc _).alloc _).alloc _).trans hw
    have f0 : wc.cell? ⟨w.heap.size, 0, none⟩ = some (.int .i64 24) := (hw.cells _ _ (by simp; omega)).trans (by go_simp)
    have f1 : wc.cell? ⟨w.heap.size, 1, none⟩ = some (.int .i64 (-126)) := (hw.cells _ _ (by simp; omega)).trans (by go_simp)
    have f2 : wc.cell? ⟨w.heap.size, 2, none⟩ = some (.int .i64 127) := (hw.cells _ _ (by simp; omega)).trans (by go_simp)
    have f3 : wc.cell? ⟨w.heap.size, 3, none⟩ = some (.int .i64 8) := (hw.cells _ _ (by simp; omega)).trans (by go_simp)
    have fl : w.heap.size < wc.heap.size := World.block_lt_of_cell? _ _ f0
    have hs3 : w.heap.size + 3 ≤ wc.heap.size := by have := hw.sizes; simp at this; omega
    clear hw
    have d0 : (v.sign == 0) = false := by rw [beq_eq_false_iff_ne]; intro h; exact HV0.out (Int.sign_eq_zero_iff_zero.1 h)
    have d2 : decide (v.sign < 0) = decide (v < 0) := by rw [decide_eq_decide]; exact hsg.out
    go_wp2_with fail
    refine (Bsign z v _ hI).mono ?_; rintro e7 w7 ⟨rfl, rfl⟩
    go_wp2
    refine wp_region_schB ((w.heap.size + 3)) (fun W => W.cell? ⟨w.heap.size, 0, none⟩ = some (.int .i64 24) ∧ W.cell? ⟨w.heap.size, 1, none⟩ = some (.int .i64 (-126)) ∧ W.cell? ⟨w.heap.size, 2, none⟩ = some (.int .i64 127) ∧ W.cell? ⟨w.heap.size, 3, none⟩ = some (.int .i64 8) ∧ w.heap.size < W.heap.size ∧ IntB W z v ∧ w.heap.size + 3 ≤ W.heap.size ∧ Within w W) 13 (.firm 0 (.firm 1 (.firm 4 (.firm 5 (.firm 7 (.firm 8 (.one 2 (.firm 3 (.one 6 (.one 9 (.firm 10 (.firm 11 (.firm 12 (.one 13 .nil)))))))))))))) (by kernel_rfl) (by kernel_rfl) ⟨f0, f1, f2, f3, fl, hI, hs3, hww⟩ ?_
    rintro w0 ⟨f0, f1, f2, f3, fl, hI, hs3, hww⟩
    try simp only [Act.put, List.setIfInBounds_toArray, List.set_cons_zero, List.set_cons_succ]
    iterate 6
      apply sch_firm rfl rfl (by repeat (with_reducible first | exact Below.refl _ _ | assumption | refine Below.drew ?_ | refine Below.alloc ?_ (by first | assumption | (simp; omega)) _ | refine Below.trans ?_ (by assumption)))
      · intro wq hq
        have hcq : ∀ b o, b < (w.heap.size + 3) → wq.cell? ⟨b, o, none⟩ = w0.cell? ⟨b, o, none⟩ := fun b o hb => hq.cell (p := ⟨b, o, none⟩) hb
        clear hq
        go_simp
        rfl
      try simp only [Act.put, List.setIfInBounds_toArray, List.set_cons_zero, List.set_cons_succ]
    refine sch_one rfl rfl (fun K hK => ?_)
    go_simp
    refine (Bsign z v _ (by first | exact hI | exact hI.drew)).mono ?_; rintro e8 w8 ⟨rfl, hw8⟩
    subst hw8
    have hb8 : Below (w.heap.size + 3) w0 w0.drew := Below.drew (Below.refl _ _)
    refine hK _ _ (fun _ => (by repeat (with_reducible first | exact Below.refl _ _ | assumption | refine Below.drew ?_ | refine Below.alloc ?_ (by first | assumption | (simp; omega)) _ | refine Below.trans ?_ (by assumption)))) ?_
    clear hK K
    try simp only [Act.put, List.setIfInBounds_toArray, List.set_cons_zero, List.set_cons_succ]
    apply sch_firm rfl rfl (by repeat (with_reducible first | exact Below.refl _ _ | assumption | refine Below.drew ?_ | refine Below.alloc ?_ (by first | assumption | (simp; omega)) _ | refine Below.trans ?_ (by assumption)))
    · intro wq hq
      have hcq : ∀ b o, b < (w.heap.size + 3) → wq.cell? ⟨b, o, none⟩ = w0.cell? ⟨b, o, none⟩ := fun b o hb => hq.cell (p := ⟨b, o, none⟩) hb
      clear hq
      go_simp
      rfl
    try simp only [Act.put, List.setIfInBounds_toArray, List.set_cons_zero, List.set_cons_succ]
    refine sch_one rfl rfl (fun K hK => ?_)
    go_simp
    refine (Babs z z v (Nat.le_trans HLV.out (by decide)) _ (by exact hI.drew.ty) (by exact hI.drew)).mono ?_; rintro e9 w9 ⟨rfl, hA, hG⟩
    have hv9 : Below (w.heap.size + 3) w0 w9 := Below.grown hb8 hG (by exact hs3) (fun k e => by obtain rfl := Option.some.inj e; exact hz3)
    have hww9 : Within w w9 := Within.grown (by exact hww.drew) hG (by omega)
    clear hG
    refine hK _ _ (fun _ => (by repeat (with_reducible first | exact Below.refl _ _ | assumption | refine Below.drew ?_ | refine Below.alloc ?_ (by first | assumption | (simp; omega)) _ | refine Below.trans ?_ (by assumption)))) ?_
    clear hK K
    try simp only [Act.put, List.setIfInBounds_toArray, List.set_cons_zero, List.set_cons_succ]
    refine sch_one rfl rfl (fun K hK => ?_)
    go_simp
    refine (RroundS (decide (v < 0)) false z v.natAbs e mode HE.out HLV.out (by have := HV0.out; omega) _ hA).mono ?_; rintro e10 w10 ⟨rfl, h10⟩
    have hv10 : Below (w.heap.size + 3) w0 w10 := Below.trans hv9 (Below.mono h10 (Nat.le_trans hs3 (Below.size hv9)))
    refine hK _ _ (fun _ => (by repeat (with_reducible first | exact Below.refl _ _ | assumption | refine Below.drew ?_ | refine Below.alloc ?_ (by first | assumption | (simp; omega)) _ | refine Below.trans ?_ (by assumption)))) ?_
    clear hK K
    try simp only [Act.put, List.setIfInBounds_toArray, List.set_cons_zero, List.set_cons_succ]
    iterate 3
      apply sch_firm rfl rfl (by repeat (with_reducible first | exact Below.refl _ _ | assumption | refine Below.drew ?_ | refine Below.alloc ?_ (by first | assumption | (simp; omega)) _ | refine Below.trans ?_ (by assumption)))
      · intro wq hq
        have hcq : ∀ b o, b < (w.heap.size + 3) → wq.cell? ⟨b, o, none⟩ = w0.cell? ⟨b, o, none⟩ := fun b o hb => hq.cell (p := ⟨b, o, none⟩) hb
        clear hq
        go_simp
        rfl
      try simp only [Act.put, List.setIfInBounds_toArray, List.set_cons_zero, List.set_cons_succ]
    refine sch_one rfl rfl (fun K hK => ?_)
    go_simp
    refine hK _ _ (fun h => absurd h (by decide)) ?_
    clear hK K
    try simp only [Act.put, List.setIfInBounds_toArray, List.set_cons_zero, List.set_cons_succ]
    refine sch_nil ?_
    have hw10 := hww9.trans h10
    go_wp2
    go_ret2
    exact ⟨rfl, hw10⟩
set_option maxRecDepth 100000 in
set_option maxHeartbeats 600000 in
theorem Radd_zero_n (E1 E2 mode : Int) (b1 b2 : Bool) (g1 g2 : Nat) (e v1 v2 v : Int) (M1 M2 : Nat) (he : min E1 E2 = e) (hv : v1 + v2 = v) (hl1 : (dg v1.natAbs).length ≤ 1400) (hl2 : (dg v2.natAbs).length ≤ 1400) (hlv : (dg v.natAbs).length ≤ 900) (SG1 : Hid (∀ w, IntB w g1 (M1 : Int) → Calls Tryz.prog 106 #[.agg #[.int .i64 0, .bool b1, .pointer (some ⟨g1, 0, none⟩), .int .i64 E1], .int .i64 e] w (fun en w' => ∃ h, en = .returned (.pointer (some ⟨h, 0, none⟩)) ∧ IntB w' h (v1) ∧ w.heap.size ≤ h ∧ Within w w'))) (SG2 : Hid (∀ w, IntB w g2 (M2 : Int) → Calls Tryz.prog 106 #[.agg #[.int .i64 0, .bool b2, .pointer (some ⟨g2, 0, none⟩), .int .i64 E2], .int .i64 e] w (fun en w' => ∃ h, en = .returned (.pointer (some ⟨h, 0, none⟩)) ∧ IntB w' h (v2) ∧ w.heap.size ≤ h ∧ Within w w'))) (hv0 : v = 0) (hm1 : (M1 : Int) ≠ 0) (w : World) (hI1 : IntB w g1 (M1 : Int)) (hI2 : IntB w g2 (M2 : Int)) : Calls Tryz.prog 67 #[fmS, .agg #[.int .i64 0, .bool b1, .pointer (some ⟨g1, 0, none⟩), .int .i64 E1], .agg #[.int .i64 0, .bool b2, .pointer (some ⟨g2, 0, none⟩), .int .i64 E2], .int .i64 mode] w (fun e' w' => e' = .returned (.tuple #[.int .u64 ((nghtS (decide (mode = 4)) : Nat)), .int .i64 0]) ∧ Within w w') := by
  have HL1 := Lib.hid hl1; have HL2 := Lib.hid hl2; have HLV := Lib.hid hlv; have HV := Lib.hid hv; have HV0 := Lib.hid hv0; clear hl1 hl2 hlv hv hv0
  go_enter Tryz.func67, Tryz.ntmps67
  go_upto_region 10 with fail
  go_cut [11] (fun s11 wx => PtrI (((w.alloc (.cells #[.int .i64 24, .int .i64 (-126), .int .i64 127, .int .i64 8] 60)).alloc (.cells #[.int .i64 0, .bool b1, .pointer (some ⟨g1, 0, none⟩), .int .i64 E1] 65)).alloc (.cells #[.int .i64 0, .bool b2, .pointer (some ⟨g2, 0, none⟩), .int .i64 E2] 65)) v s11 wx ∧ Within (((w.alloc (.cells #[.int .i64 24, .int .i64 (-126), .int .i64 127, .int .i64 8] 60)).alloc (.cells #[.int .i64 0, .bool b1, .pointer (some ⟨g1, 0, none⟩), .int .i64 E1] 65)).alloc (.cells #[.int .i64 0, .bool b2, .pointer (some ⟨g2, 0, none⟩), .int .i64 E2] 65)) wx)
  case first =>
    refine wp_region_schG (fun W => W.cell? ⟨w.heap.size + 1, 0, none⟩ = some (.int .i64 0) ∧ W.cell? ⟨w.heap.size + 1, 1, none⟩ = some (.bool b1) ∧ W.cell? ⟨w.heap.size + 1, 2, none⟩ = some (.pointer (some ⟨g1, 0, none⟩)) ∧ W.cell? ⟨w.heap.size + 1, 3, none⟩ = some (.int .i64 E1) ∧ W.cell? ⟨w.heap.size + 1 + 1, 0, none⟩ = some (.int .i64 0) ∧ W.cell? ⟨w.heap.size + 1 + 1, 1, none⟩ = some (.bool b2) ∧ W.cell? ⟨w.heap.size + 1 + 1, 2, none⟩ = some (.pointer (some ⟨g2, 0, none⟩)) ∧ W.cell? ⟨w.heap.size + 1 + 1, 3, none⟩ = some (.int .i64 E2) ∧ IntB W g1 (M1 : Int) ∧ IntB W g2 (M2 : Int) ∧ Within (((w.alloc (.cells #[.int .i64 24, .int .i64 (-126), .int .i64 127, .int .i64 8] 60)).alloc (.cells #[.int .i64 0, .bool b1, .pointer (some ⟨g1, 0, none⟩), .int .i64 E1] 65)).alloc (.cells #[.int .i64 0, .bool b2, .pointer (some ⟨g2, 0, none⟩), .int .i64 E2] 65)) W ∧ w.heap.size + 1 < W.heap.size ∧ w.heap.size + 1 + 1 < W.heap.size) 8 (.firm 1 (.firm 2 (.firm 4 (.firm 5 (.two 0 (.one 3 (.one 6 (.one 7 (.one 8 .nil)))) 3 (.two 0 (.one 6 (.one 7 (.one 8 .nil))) 6 (.one 0 (.one 7 (.one 8 .nil))))))))) (by kernel_rfl) (by kernel_rfl) ⟨by go_simp, by go_simp, by go_simp, by go_simp, by go_simp, by go_simp, by go_simp, by go_simp, (by repeat (with_reducible first | assumption | exact ib_new _ _ (by simp; done) | refine IntB.alloc ?_ _ | refine IntB.drew ?_ | refine IntB.drewN ?_ _)), (by repeat (with_reducible first | assumption | exact ib_new _ _ (by simp; done) | refine IntB.alloc ?_ _ | refine IntB.drew ?_ | refine IntB.drewN ?_ _)), Within.refl _, by first | (simp; done) | (simp; omega), by first | (simp; done) | (simp; omega)⟩ ?_
    rintro w0 ⟨c0, c1, c2, c3, c4, c5, c6, c7, hJ1, hJ2, hw0, hs0, hs1⟩
    try simp only [Act.put, List.setIfInBounds_toArray, List.set_cons_zero, List.set_cons_succ]
    repeat
      apply sch_firm rfl rfl (by repeat (with_reducible first | exact Within.refl _ | assumption | refine Within.alloc ?_ _ | refine Within.drew ?_ | refine Within.drewN ?_ _ | refine Within.setCell ?_ (by first | (simp; done) | (simp; omega)) _ | refine Within.trans ?_ (by assumption)))
      · intro wq hq
        have hcq := hq.cells
        clear hq
        go_simp
        rfl
      try simp only [Act.put, List.setIfInBounds_toArray, List.set_cons_zero, List.set_cons_succ]
    refine sch_two rfl rfl rfl rfl (fun K hK => ?_) (fun K hK => ?_)
    · go_simp
      refine hK _ _ (by repeat (with_reducible first | exact Within.refl _ | assumption | refine Within.alloc ?_ _ | refine Within.drew ?_ | refine Within.drewN ?_ _ | refine Within.setCell ?_ (by first | (simp; done) | (simp; omega)) _ | refine Within.trans ?_ (by assumption))) ?_
      clear hK K
      try simp only [Act.put, List.setIfInBounds_toArray, List.set_cons_zero, List.set_cons_succ]
      refine sch_one rfl rfl (fun K hK => ?_)
      go_simp
      refine (SG1.out _ (by repeat (with_reducible first | assumption | exact ib_new _ _ (by simp; done) | refine IntB.alloc ?_ _ | refine IntB.drew ?_ | refine IntB.drewN ?_ _))).mono ?_; rintro e4 w4 ⟨h1, rfl, hA1, hg1, hb4⟩
      have hv4 : Within w0 w4 := Within.trans (by repeat (with_reducible first | exact Within.refl _ | assumption | refine Within.alloc ?_ _ | refine Within.drew ?_ | refine Within.drewN ?_ _ | refine Within.setCell ?_ (by first | (simp; done) | (simp; omega)) _ | refine Within.trans ?_ (by assumption))) hb4
      have hT4 : IntTy w4 w0.heap.size := IntTy.of (by repeat (with_reducible first | assumption | exact ty_new _ _ _ _ (by simp; done) | refine ty_drew ?_ | refine ty_alloc ?_ _)) hb4
      refine hK _ _ (fun _ => (by repeat (with_reducible first | exact Within.refl _ | assumption | refine Within.alloc ?_ _ | refine Within.drew ?_ | refine Within.drewN ?_ _ | refine Within.setCell ?_ (by first | (simp; done) | (simp; omega)) _ | refine Within.trans ?_ (by assumption)))) ?_
      clear hK K
      try simp only [Act.put, List.setIfInBounds_toArray, List.set_cons_zero, List.set_cons_succ]
      refine sch_one rfl rfl (fun K hK => ?_)
      go_simp
      have hJ2' := hJ2.of hv4
      refine (SG2.out _ (by repeat (with_reducible first | assumption | exact ib_new _ _ (by simp; done) | refine IntB.alloc ?_ _ | refine IntB.drew ?_ | refine IntB.drewN ?_ _))).mono ?_; rintro e5 w5 ⟨h2, rfl, hA2, hg2, hb5⟩
      have hA1' : IntB w5 h1 v1 := IntB.of (by repeat (with_reducible first | assumption | exact ib_new _ _ (by simp; done) | refine IntB.alloc ?_ _ | refine IntB.drew ?_ | refine IntB.drewN ?_ _)) hb5
      have hv5 : Within w0 w5 := Within.trans (by repeat (with_reducible first | exact Within.refl _ | assumption | refine Within.alloc ?_ _ | refine Within.drew ?_ | refine Within.drewN ?_ _ | refine Within.setCell ?_ (by first | (simp; done) | (simp; omega)) _ | refine Within.trans ?_ (by assumption))) hb5
      have hT5 : IntTy w5 w0.heap.size := IntTy.of (by repeat (with_reducible first | assumption | exact ty_new _ _ _ _ (by simp; done) | refine ty_drew ?_ | refine ty_alloc ?_ _)) hb5
      refine hK _ _ (fun _ => (by repeat (with_reducible first | exact Within.refl _ | assumption | refine Within.alloc ?_ _ | refine Within.drew ?_ | refine Within.drewN ?_ _ | refine Within.setCell ?_ (by first | (simp; done) | (simp; omega)) _ | refine Within.trans ?_ (by assumption)))) ?_
      clear hK K
      try simp only [Act.put, List.setIfInBounds_toArray, List.set_cons_zero, List.set_cons_succ]
      refine sch_one rfl rfl (fun K hK => ?_)
      go_simp
      refine (BAdd _ h1 h2 v1 v2 (Nat.le_trans HL1.out (by decide)) (Nat.le_trans HL2.out (by decide)) _ (by repeat (with_reducible first | assumption | exact ty_new _ _ _ _ (by simp; done) | refine ty_drew ?_ | refine ty_alloc ?_ _)) (by repeat (with_reducible first | assumption | exact ib_new _ _ (by simp; done) | refine IntB.alloc ?_ _ | refine IntB.drew ?_ | refine IntB.drewN ?_ _)) (by repeat (with_reducible first | assumption | exact ib_new _ _ (by simp; done) | refine IntB.alloc ?_ _ | refine IntB.drew ?_ | refine IntB.drewN ?_ _))).mono ?_; rintro e6 w6 ⟨rfl, hA3, hG3⟩
      rw [HV.out] at hA3
      have hv3 : Within w0 w6 := Within.grown (by repeat (with_reducible first | exact Within.refl _ | assumption | refine Within.alloc ?_ _ | refine Within.drew ?_ | refine Within.drewN ?_ _ | refine Within.setCell ?_ (by first | (simp; done) | (simp; omega)) _ | refine Within.trans ?_ (by assumption))) hG3 (by first | (simp; done) | exact hv4.sizes | exact hv5.sizes)
      refine hK _ _ (fun _ => (by repeat (with_reducible first | exact Within.refl _ | assumption | refine Within.alloc ?_ _ | refine Within.drew ?_ | refine Within.drewN ?_ _ | refine Within.setCell ?_ (by first | (simp; done) | (simp; omega)) _ | refine Within.trans ?_ (by assumption)))) ?_
      clear hK K
      try simp only [Act.put, List.setIfInBounds_toArray, List.set_cons_zero, List.set_cons_succ]
      refine sch_one rfl rfl (fun K hK => ?_)
      go_simp
      refine hK _ _ (fun h => absurd h (by decide)) ?_
      clear hK K
      try simp only [Act.put, List.setIfInBounds_toArray, List.set_cons_zero, List.set_cons_succ]
      refine sch_nil ?_
      go_wp2_with fail
      go_meet
      exact ⟨⟨_, rfl, hA3, Nat.le_trans hw0.sizes (by first | (simp; done) | exact hv4.sizes | exact hv5.sizes)⟩, hw0.trans hv3⟩
    · go_simp
      refine (SG1.out _ (by repeat (with_reducible first | assumption | exact ib_new _ _ (by simp; done) | refine IntB.alloc ?_ _ | refine IntB.drew ?_ | refine IntB.drewN ?_ _))).mono ?_; rintro e4 w4 ⟨h1, rfl, hA1, hg1, hb4⟩
      have hv4 : Within w0 w4 := Within.trans (by repeat (with_reducible first | exact Within.refl _ | assumption | refine Within.alloc ?_ _ | refine Within.drew ?_ | refine Within.drewN ?_ _ | refine Within.setCell ?_ (by first | (simp; done) | (simp; omega)) _ | refine Within.trans ?_ (by assumption))) hb4
      refine hK _ _ (by repeat (with_reducible first | exact Within.refl _ | assumption | refine Within.alloc ?_ _ | refine Within.drew ?_ | refine Within.drewN ?_ _ | refine Within.setCell ?_ (by first | (simp; done) | (simp; omega)) _ | refine Within.trans ?_ (by assumption))) ?_
      clear hK K
      try simp only [Act.put, List.setIfInBounds_toArray, List.set_cons_zero, List.set_cons_succ]
      refine sch_two rfl rfl rfl rfl (fun K hK => ?_) (fun K hK => ?_)
      · go_simp
        refine hK _ _ (by repeat (with_reducible first | exact Within.refl _ | assumption | refine Within.alloc ?_ _ | refine Within.drew ?_ | refine Within.drewN ?_ _ | refine Within.setCell ?_ (by first | (simp; done) | (simp; omega)) _ | refine Within.trans ?_ (by assumption))) ?_
        clear hK K
        try simp only [Act.put, List.setIfInBounds_toArray, List.set_cons_zero, List.set_cons_succ]
        refine sch_one rfl rfl (fun K hK => ?_)
        go_simp
        have hJ2' := hJ2.of hv4
        refine (SG2.out _ (by repeat (with_reducible first | assumption | exact ib_new _ _ (by simp; done) | refine IntB.alloc ?_ _ | refine IntB.drew ?_ | refine IntB.drewN ?_ _))).mono ?_; rintro e5 w5 ⟨h2, rfl, hA2, hg2, hb5⟩
        have hA1' : IntB w5 h1 v1 := IntB.of (by repeat (with_reducible first | assumption | exact ib_new _ _ (by simp; done) | refine IntB.alloc ?_ _ | refine IntB.drew ?_ | refine IntB.drewN ?_ _)) hb5
        have hv5 : Within w0 w5 := Within.trans (by repeat (with_reducible first | exact Within.refl _ | assumption | refine Within.alloc ?_ _ | refine Within.drew ?_ | refine Within.drewN ?_ _ | refine Within.setCell ?_ (by first | (simp; done) | (simp; omega)) _ | refine Within.trans ?_ (by assumption))) hb5
        have hT5 : IntTy w5 w4.heap.size := IntTy.of (by repeat (with_reducible first | assumption | exact ty_new _ _ _ _ (by simp; done) | refine ty_drew ?_ | refine ty_alloc ?_ _)) hb5
        refine hK _ _ (fun _ => (by repeat (with_reducible first | exact Within.refl _ | assumption | refine Within.alloc ?_ _ | refine Within.drew ?_ | refine Within.drewN ?_ _ | refine Within.setCell ?_ (by first | (simp; done) | (simp; omega)) _ | refine Within.trans ?_ (by assumption)))) ?_
        clear hK K
        try simp only [Act.put, List.setIfInBounds_toArray, List.set_cons_zero, List.set_cons_succ]
        refine sch_one rfl rfl (fun K hK => ?_)
        go_simp
        refine (BAdd _ h1 h2 v1 v2 (Nat.le_trans HL1.out (by decide)) (Nat.le_trans HL2.out (by decide)) _ (by repeat (with_reducible first | assumption | exact ty_new _ _ _ _ (by simp; done) | refine ty_drew ?_ | refine ty_alloc ?_ _)) (by repeat (with_reducible first | assumption | exact ib_new _ _ (by simp; done) | refine IntB.alloc ?_ _ | refine IntB.drew ?_ | refine IntB.drewN ?_ _)) (by repeat (with_reducible first | assumption | exact ib_new _ _ (by simp; done) | refine IntB.alloc ?_ _ | refine IntB.drew ?_ | refine IntB.drewN ?_ _))).mono ?_; rintro e6 w6 ⟨rfl, hA3, hG3⟩
        rw [HV.out] at hA3
        have hv3 : Within w0 w6 := Within.grown (by repeat (with_reducible first | exact Within.refl _ | assumption | refine Within.alloc ?_ _ | refine Within.drew ?_ | refine Within.drewN ?_ _ | refine Within.setCell ?_ (by first | (simp; done) | (simp; omega)) _ | refine Within.trans ?_ (by assumption))) hG3 (by first | (simp; done) | exact hv4.sizes | exact hv5.sizes)
        refine hK _ _ (fun _ => (by repeat (with_reducible first | exact Within.refl _ | assumption | refine Within.alloc ?_ _ | refine Within.drew ?_ | refine Within.drewN ?_ _ | refine Within.setCell ?_ (by first | (simp; done) | (simp; omega)) _ | refine Within.trans ?_ (by assumption)))) ?_
        clear hK K
        try simp only [Act.put, List.setIfInBounds_toArray, List.set_cons_zero, List.set_cons_succ]
        refine sch_one rfl rfl (fun K hK => ?_)
        go_simp
        refine hK _ _ (fun h => absurd h (by decide)) ?_
        clear hK K
        try simp only [Act.put, List.setIfInBounds_toArray, List.set_cons_zero, List.set_cons_succ]
        refine sch_nil ?_
        go_wp2_with fail
        go_meet
        exact ⟨⟨_, rfl, hA3, Nat.le_trans hw0.sizes (by first | (simp; done) | exact hv4.sizes | exact hv5.sizes)⟩, hw0.trans hv3⟩
      · go_simp
        have hJ2' := hJ2.of hv4
        refine (SG2.out _ (by repeat (with_reducible first | assumption | exact ib_new _ _ (by simp; done) | refine IntB.alloc ?_ _ | refine IntB.drew ?_ | refine IntB.drewN ?_ _))).mono ?_; rintro e5 w5 ⟨h2, rfl, hA2, hg2, hb5⟩
        have hA1' : IntB w5 h1 v1 := IntB.of (by repeat (with_reducible first | assumption | exact ib_new _ _ (by simp; done) | refine IntB.alloc ?_ _ | refine IntB.drew ?_ | refine IntB.drewN ?_ _)) hb5
        have hv5 : Within w0 w5 := Within.trans (by repeat (with_reducible first | exact Within.refl _ | assumption | refine Within.alloc ?_ _ | refine Within.drew ?_ | refine Within.drewN ?_ _ | refine Within.setCell ?_ (by first | (simp; done) | (simp; omega)) _ | refine Within.trans ?_ (by assumption))) hb5
        refine hK _ _ (by repeat (with_reducible first | exact Within.refl _ | assumption | refine Within.alloc ?_ _ | refine Within.drew ?_ | refine Within.drewN ?_ _ | refine Within.setCell ?_ (by first | (simp; done) | (simp; omega)) _ | refine Within.trans ?_ (by assumption))) ?_
        clear hK K
        try simp only [Act.put, List.setIfInBounds_toArray, List.set_cons_zero, List.set_cons_succ]
        refine sch_one rfl rfl (fun K hK => ?_)
        go_simp
        refine hK _ _ (fun _ => (by repeat (with_reducible first | exact Within.refl _ | assumption | refine Within.alloc ?_ _ | refine Within.drew ?_ | refine Within.drewN ?_ _ | refine Within.setCell ?_ (by first | (simp; done) | (simp; omega)) _ | refine Within.trans ?_ (by assumption)))) ?_
        clear hK K
        try simp only [Act.put, List.setIfInBounds_toArray, List.set_cons_zero, List.set_cons_succ]
        refine sch_one rfl rfl (fun K hK => ?_)
        go_simp
        refine (BAdd _ h1 h2 v1 v2 (Nat.le_trans HL1.out (by decide)) (Nat.le_trans HL2.out (by decide)) _ (by repeat (with_reducible first | assumption | exact ty_new _ _ _ _ (by simp; done) | refine ty_drew ?_ | refine ty_alloc ?_ _)) (by repeat (with_reducible first | assumption | exact ib_new _ _ (by simp; done) | refine IntB.alloc ?_ _ | refine IntB.drew ?_ | refine IntB.drewN ?_ _)) (by repeat (with_reducible first | assumption | exact ib_new _ _ (by simp; done) | refine IntB.alloc ?_ _ | refine IntB.drew ?_ | refine IntB.drewN ?_ _))).mono ?_; rintro e6 w6 ⟨rfl, hA3, hG3⟩
        rw [HV.out] at hA3
        have hv3 : Within w0 w6 := Within.grown (by repeat (with_reducible first | exact Within.refl _ | assumption | refine Within.alloc ?_ _ | refine Within.drew ?_ | refine Within.drewN ?_ _ | refine Within.setCell ?_ (by first | (simp; done) | (simp; omega)) _ | refine Within.trans ?_ (by assumption))) hG3 (by first | (simp; done) | exact hv4.sizes | exact hv5.sizes)
        refine hK _ _ (fun _ => (by repeat (with_reducible first | exact Within.refl _ | assumption | refine Within.alloc ?_ _ | refine Within.drew ?_ | refine Within.drewN ?_ _ | refine Within.setCell ?_ (by first | (simp; done) | (simp; omega)) _ | refine Within.trans ?_ (by assumption)))) ?_
        clear hK K
        try simp only [Act.put, List.setIfInBounds_toArray, List.set_cons_zero, List.set_cons_succ]
        refine sch_one rfl rfl (fun K hK => ?_)
        go_simp
        refine hK _ _ (fun h => absurd h (by decide)) ?_
        clear hK K
        try simp only [Act.put, List.setIfInBounds_toArray, List.set_cons_zero, List.set_cons_succ]
        refine sch_nil ?_
        go_wp2_with fail
        go_meet
        exact ⟨⟨_, rfl, hA3, Nat.le_trans hw0.sizes (by first | (simp; done) | exact hv4.sizes | exact hv5.sizes)⟩, hw0.trans hv3⟩
  case rest =>
    obtain ⟨⟨z, rfl, hI, hz⟩, hw⟩ := hcut
    have hz3 : w.heap.size + 3 ≤ z := Nat.le_trans (by simp) hz
    clear hz
    have hww : Within w wc := ((((Within.refl w).alloc _).alloc _).alloc _).trans hw
    have f0 : wc.cell? ⟨w.heap.size, 0, none⟩ = some (.int .i64 24) := (hw.cells _ _ (by simp; omega)).trans (by go_simp)
    have f1 : wc.cell? ⟨w.heap.size, 1, none⟩ = some (.int .i64 (-126)) := (hw.cells _ _ (by simp; omega)).trans (by go_simp)
    have f2 : wc.cell? ⟨w.heap.size, 2, none⟩ = some (.int .i64 127) := (hw.cells _ _ (by simp; omega)).trans (by go_simp)
    have f3 : wc.cell? ⟨w.heap.size, 3, none⟩ = some (.int .i64 8) := (hw.cells _ _ (by simp; omega)).trans (by go_simp)
    have c0 : wc.cell? ⟨w.heap.size + 1, 0, none⟩ = some (.int .i64 0) := (hw.cells _ _ (by simp)).trans (by go_simp)
    have c1 : wc.cell? ⟨w.heap.size + 1, 1, none⟩ = some (.bool b1) := (hw.cells _ _ (by simp)).trans (by go_simp)
    have c2 : wc.cell? ⟨w.heap.size + 1, 2, none⟩ = some (.pointer (some ⟨g1, 0, none⟩)) := (hw.cells _ _ (by simp)).trans (by go_simp)
    have c3 : wc.cell? ⟨w.heap.size + 1, 3, none⟩ = some (.int .i64 E1) := (hw.cells _ _ (by simp)).trans (by go_simp)
    have c4 : wc.cell? ⟨w.heap.size + 1 + 1, 0, none⟩ = some (.int .i64 0) := (hw.cells _ _ (by simp)).trans (by go_simp)
    have c5 : wc.cell? ⟨w.heap.size + 1 + 1, 1, none⟩ = some (.bool b2) := (hw.cells _ _ (by simp)).trans (by go_simp)
    have c6 : wc.cell? ⟨w.heap.size + 1 + 1, 2, none⟩ = some (.pointer (some ⟨g2, 0, none⟩)) := (hw.cells _ _ (by simp)).trans (by go_simp)
    have c7 : wc.cell? ⟨w.heap.size + 1 + 1, 3, none⟩ = some (.int .i64 E2) := (hw.cells _ _ (by simp)).trans (by go_simp)
    have fl : w.heap.size < wc.heap.size := World.block_lt_of_cell? _ _ f0
    have fl1 : w.heap.size + 1 < wc.heap.size := World.block_lt_of_cell? _ _ c0
    have fl2 : w.heap.size + 1 + 1 < wc.heap.size := World.block_lt_of_cell? _ _ c4
    have hJ1 : IntB wc g1 (M1 : Int) := hI1.of hww
    have hJ2 : IntB wc g2 (M2 : Int) := hI2.of hww
    clear hw
    have d0 : (v.sign == 0) = true := by rw [HV0.out]; rfl
    go_wp2_with fail
    refine (Bsign z v _ hI).mono ?_; rintro e7 w7 ⟨rfl, rfl⟩
    go_wp2
    refine wp_region_schG (fun W => W.cell? ⟨w.heap.size, 0, none⟩ = some (.int .i64 24) ∧ W.cell? ⟨w.heap.size, 1, none⟩ = some (.int .i64 (-126)) ∧ W.cell? ⟨w.heap.size, 2, none⟩ = some (.int .i64 127) ∧ W.cell? ⟨w.heap.size, 3, none⟩ = some (.int .i64 8) ∧ W.cell? ⟨w.heap.size + 1, 0, none⟩ = some (.int .i64 0) ∧ W.cell? ⟨w.heap.size + 1, 1, none⟩ = some (.bool b1) ∧ W.cell? ⟨w.heap.size + 1, 2, none⟩ = some (.pointer (some ⟨g1, 0, none⟩)) ∧ W.cell? ⟨w.heap.size + 1, 3, none⟩ = some (.int .i64 E1) ∧ W.cell? ⟨w.heap.size + 1 + 1, 0, none⟩ = some (.int .i64 0) ∧ W.cell? ⟨w.heap.size + 1 + 1, 1, none⟩ = some (.bool b2) ∧ W.cell? ⟨w.heap.size + 1 + 1, 2, none⟩ = some (.pointer (some ⟨g2, 0, none⟩)) ∧ W.cell? ⟨w.heap.size + 1 + 1, 3, none⟩ = some (.int .i64 E2) ∧ IntB W g1 (M1 : Int) ∧ IntB W g2 (M2 : Int) ∧ w.heap.size < W.heap.size ∧ w.heap.size + 1 < W.heap.size ∧ w.heap.size + 1 + 1 < W.heap.size ∧ Within w W) 19 (.firm 0 (.firm 1 (.firm 14 (.firm 15 (.firm 16 (.one 2 (.firm 3 (.firm 4 (.one 5 (.firm 6 (.firm 7 (.firm 8 (.firm 9 (.firm 10 (.firm 11 (.firm 12 (.firm 13 (.one 17 (.firm 18 (.one 19 .nil)))))))))))))))))))) (by kernel_rfl) (by kernel_rfl) ⟨f0, f1, f2, f3, c0, c1, c2, c3, c4, c5, c6, c7, hJ1, hJ2, fl, fl1, fl2, hww⟩ ?_
    rintro w0 ⟨f0, f1, f2, f3, c0, c1, c2, c3, c4, c5, c6, c7, hJ1, hJ2, fl, fl1, fl2, hww⟩
    try simp only [Act.put, List.setIfInBounds_toArray, List.set_cons_zero, List.set_cons_succ]
    iterate 5
      apply sch_firm rfl rfl (by repeat (with_reducible first | exact Within.refl _ | assumption | refine Within.alloc ?_ _ | refine Within.drew ?_ | refine Within.drewN ?_ _ | refine Within.setCell ?_ (by first | (simp; done) | (simp; omega)) _ | refine Within.trans ?_ (by assumption)))
      · intro wq hq
        have hcq := hq.cells
        clear hq
        go_simp
        rfl
      try simp only [Act.put, List.setIfInBounds_toArray, List.set_cons_zero, List.set_cons_succ]
    refine sch_one rfl rfl (fun K hK => ?_)
    go_simp
    refine (Riszero_some 0 E1 (M1 : Int) b1 g1 rfl hm1 _ (by exact hJ1.of (Within.refl _).drew)).mono ?_; rintro e8 w8 ⟨rfl, hv8'⟩
    have hv8 : Within w0 w8 := Within.trans (Within.refl w0).drew hv8'
    refine hK _ _ (fun _ => (by repeat (with_reducible first | exact Within.refl _ | assumption | refine Within.alloc ?_ _ | refine Within.drew ?_ | refine Within.drewN ?_ _ | refine Within.setCell ?_ (by first | (simp; done) | (simp; omega)) _ | refine Within.trans ?_ (by assumption)))) ?_
    clear hK K
    try simp only [Act.put, List.setIfInBounds_toArray, List.set_cons_zero, List.set_cons_succ]
    apply sch_firm rfl rfl (by repeat (with_reducible first | exact Within.refl _ | assumption | refine Within.alloc ?_ _ | refine Within.drew ?_ | refine Within.drewN ?_ _ | refine Within.setCell ?_ (by first | (simp; done) | (simp; omega)) _ | refine Within.trans ?_ (by assumption)))
    · intro wq hq
      have hcq := hq.cells
      clear hq
      go_simp
      rfl
    try simp only [Act.put, List.setIfInBounds_toArray, List.set_cons_zero, List.set_cons_succ]
    refine sch_skip rfl (by first | rfl | decide | (simp [Region.wanted, yielded]; done)) (by repeat (with_reducible first | exact Within.refl _ | assumption | refine Within.alloc ?_ _ | refine Within.drew ?_ | refine Within.drewN ?_ _ | refine Within.setCell ?_ (by first | (simp; done) | (simp; omega)) _ | refine Within.trans ?_ (by assumption))) ?_
    try simp only [Act.put, List.setIfInBounds_toArray, List.set_cons_zero, List.set_cons_succ]
    refine sch_one_skip rfl (by first | rfl | decide | (simp [Region.wanted, yielded]; done)) (by repeat (with_reducible first | exact Within.refl _ | assumption | refine Within.alloc ?_ _ | refine Within.drew ?_ | refine Within.drewN ?_ _ | refine Within.setCell ?_ (by first | (simp; done) | (simp; omega)) _ | refine Within.trans ?_ (by assumption))) ?_
    try simp only [Act.put, List.setIfInBounds_toArray, List.set_cons_zero, List.set_cons_succ]
    iterate 2
      apply sch_firm rfl rfl (by repeat (with_reducible first | exact Within.refl _ | assumption | refine Within.alloc ?_ _ | refine Within.drew ?_ | refine Within.drewN ?_ _ | refine Within.setCell ?_ (by first | (simp; done) | (simp; omega)) _ | refine Within.trans ?_ (by assumption)))
      · intro wq hq
        have hcq := hq.cells
        clear hq
        go_simp
        rfl
      try simp only [Act.put, List.setIfInBounds_toArray, List.set_cons_zero, List.set_cons_succ]
    iterate 5
      refine sch_skip rfl (by first | rfl | decide | (simp [Region.wanted, yielded]; done)) (by repeat (with_reducible first | exact Within.refl _ | assumption | refine Within.alloc ?_ _ | refine Within.drew ?_ | refine Within.drewN ?_ _ | refine Within.setCell ?_ (by first | (simp; done) | (simp; omega)) _ | refine Within.trans ?_ (by assumption))) ?_
      try simp only [Act.put, List.setIfInBounds_toArray, List.set_cons_zero, List.set_cons_succ]
    apply sch_firm rfl rfl (by repeat (with_reducible first | exact Within.refl _ | assumption | refine Within.alloc ?_ _ | refine Within.drew ?_ | refine Within.drewN ?_ _ | refine Within.setCell ?_ (by first | (simp; done) | (simp; omega)) _ | refine Within.trans ?_ (by assumption)))
    · intro wq hq
      have hcq := hq.cells
      clear hq
      go_simp
      rfl
    try simp only [Act.put, List.setIfInBounds_toArray, List.set_cons_zero, List.set_cons_succ]
    refine sch_one rfl rfl (fun K hK => ?_)
    go_simp
    refine (Rzero_two b1 mode _).mono ?_; rintro e10 w10 ⟨rfl, hv10'⟩
    have hv10 := hv8.trans hv10'
    refine hK _ _ (fun _ => (by repeat (with_reducible first | exact Within.refl _ | assumption | refine Within.alloc ?_ _ | refine Within.drew ?_ | refine Within.drewN ?_ _ | refine Within.setCell ?_ (by first | (simp; done) | (simp; omega)) _ | refine Within.trans ?_ (by assumption)))) ?_
    clear hK K
    try simp only [Act.put, List.setIfInBounds_toArray, List.set_cons_zero, List.set_cons_succ]
    apply sch_firm rfl rfl (by repeat (with_reducible first | exact Within.refl _ | assumption | refine Within.alloc ?_ _ | refine Within.drew ?_ | refine Within.drewN ?_ _ | refine Within.setCell ?_ (by first | (simp; done) | (simp; omega)) _ | refine Within.trans ?_ (by assumption)))
    · intro wq hq
      have hcq := hq.cells
      clear hq
      go_simp
      rfl
    try simp only [Act.put, List.setIfInBounds_toArray, List.set_cons_zero, List.set_cons_succ]
    refine sch_one rfl rfl (fun K hK => ?_)
    go_simp
    refine hK _ _ (fun h => absurd h (by decide)) ?_
    clear hK K
    try simp only [Act.put, List.setIfInBounds_toArray, List.set_cons_zero, List.set_cons_succ]
    refine sch_nil ?_
    have hw10 := hww.trans hv10
    go_wp2
    go_ret2
    exact ⟨rfl, hw10⟩
set_option maxRecDepth 100000 in
set_option maxHeartbeats 600000 in
theorem Radd_zero_z (E1 E2 mode : Int) (b1 b2 : Bool) (g1 g2 : Nat) (e v1 v2 v : Int) (M1 M2 : Nat) (he : min E1 E2 = e) (hv : v1 + v2 = v) (hl1 : (dg v1.natAbs).length ≤ 1400) (hl2 : (dg v2.natAbs).length ≤ 1400) (hlv : (dg v.natAbs).length ≤ 900) (SG1 : Hid (∀ w, IntB w g1 (M1 : Int) → Calls Tryz.prog 106 #[.agg #[.int .i64 0, .bool b1, .pointer (some ⟨g1, 0, none⟩), .int .i64 E1], .int .i64 e] w (fun en w' => ∃ h, en = .returned (.pointer (some ⟨h, 0, none⟩)) ∧ IntB w' h (v1) ∧ w.heap.size ≤ h ∧ Within w w'))) (SG2 : Hid (∀ w, IntB w g2 (M2 : Int) → Calls Tryz.prog 106 #[.agg #[.int .i64 0, .bool b2, .pointer (some ⟨g2, 0, none⟩), .int .i64 E2], .int .i64 e] w (fun en w' => ∃ h, en = .returned (.pointer (some ⟨h, 0, none⟩)) ∧ IntB w' h (v2) ∧ w.heap.size ≤ h ∧ Within w w'))) (hv0 : v = 0) (hm1 : (M1 : Int) = 0) (hm2 : (M2 : Int) = 0) (hb : (b1 == b2) = true) (w : World) (hI1 : IntB w g1 (M1 : Int)) (hI2 : IntB w g2 (M2 : Int)) : Calls Tryz.prog 67 #[fmS, .agg #[.int .i64 0, .bool b1, .pointer (some ⟨g1, 0, none⟩), .int .i64 E1], .agg #[.int .i64 0, .bool b2, .pointer (some ⟨g2, 0, none⟩), .int .i64 E2], .int .i64 mode] w (fun e' w' => e' = .returned (.tuple #[.int .u64 ((nghtS b1 : Nat)), .int .i64 0]) ∧ Within w w') := by
  have HL1 := Lib.hid hl1; have HL2 := Lib.hid hl2; have HLV := Lib.hid hlv; have HV := Lib.hid hv; have HV0 := Lib.hid hv0; clear hl1 hl2 hlv hv hv0
  go_enter Tryz.func67, Tryz.ntmps67
  go_upto_region 10 with fail
  go_cut [11] (fun s11 wx => PtrI (((w.alloc (.cells #[.int .i64 24, .int .i64 (-126), .int .i64 127, .int .i64 8] 60)).alloc (.cells #[.int .i64 0, .bool b1, .pointer (some ⟨g1, 0, none⟩), .int .i64 E1] 65)).alloc (.cells #[.int .i64 0, .bool b2, .pointer (some ⟨g2, 0, none⟩), .int .i64 E2] 65)) v s11 wx ∧ Within (((w.alloc (.cells #[.int .i64 24, .int .i64 (-126), .int .i64 127, .int .i64 8] 60)).alloc (.cells #[.int .i64 0, .bool b1, .pointer (some ⟨g1, 0, none⟩), .int .i64 E1] 65)).alloc (.cells #[.int .i64 0, .bool b2, .pointer (some ⟨g2, 0, none⟩), .int .i64 E2] 65)) wx)
  case first =>
    refine wp_region_schG (fun W => W.cell? ⟨w.heap.size + 1, 0, none⟩ = some (.int .i64 0) ∧ W.cell? ⟨w.heap.size + 1, 1, none⟩ = some (.bool b1) ∧ W.cell? ⟨w.heap.size + 1, 2, none⟩ = some (.pointer (some ⟨g1, 0, none⟩)) ∧ W.cell? ⟨w.heap.size + 1, 3, none⟩ = some (.int .i64 E1) ∧ W.cell? ⟨w.heap.size + 1 + 1, 0, none⟩ = some (.int .i64 0) ∧ W.cell? ⟨w.heap.size + 1 + 1, 1, none⟩ = some (.bool b2) ∧ W.cell? ⟨w.heap.size + 1 + 1, 2, none⟩ = some (.pointer (some ⟨g2, 0, none⟩)) ∧ W.cell? ⟨w.heap.size + 1 + 1, 3, none⟩ = some (.int .i64 E2) ∧ IntB W g1 (M1 : Int) ∧ IntB W g2 (M2 : Int) ∧ Within (((w.alloc (.cells #[.int .i64 24, .int .i64 (-126), .int .i64 127, .int .i64 8] 60)).alloc (.cells #[.int .i64 0, .bool b1, .pointer (some ⟨g1, 0, none⟩), .int .i64 E1] 65)).alloc (.cells #[.int .i64 0, .bool b2, .pointer (some ⟨g2, 0, none⟩), .int .i64 E2] 65)) W ∧ w.heap.size + 1 < W.heap.size ∧ w.heap.size + 1 + 1 < W.heap.size) 8 (.firm 1 (.firm 2 (.firm 4 (.firm 5 (.two 0 (.one 3 (.one 6 (.one 7 (.one 8 .nil)))) 3 (.two 0 (.one 6 (.one 7 (.one 8 .nil))) 6 (.one 0 (.one 7 (.one 8 .nil))))))))) (by kernel_rfl) (by kernel_rfl) ⟨by go_simp, by go_simp, by go_simp, by go_simp, by go_simp, by go_simp, by go_simp, by go_simp, (by repeat (with_reducible first | assumption | exact ib_new _ _ (by simp; done) | refine IntB.alloc ?_ _ | refine IntB.drew ?_ | refine IntB.drewN ?_ _)), (by repeat (with_reducible first | assumption | exact ib_new _ _ (by simp; done) | refine IntB.alloc ?_ _ | refine IntB.drew ?_ | refine IntB.drewN ?_ _)), Within.refl _, by first | (simp; done) | (simp; omega), by first | (simp; done) | (simp; omega)⟩ ?_
    rintro w0 ⟨c0, c1, c2, c3, c4, c5, c6, c7, hJ1, hJ2, hw0, hs0, hs1⟩
    try simp only [Act.put, List.setIfInBounds_toArray, List.set_cons_zero, List.set_cons_succ]
    repeat
      apply sch_firm rfl rfl (by repeat (with_reducible first | exact Within.refl _ | assumption | refine Within.alloc ?_ _ | refine Within.drew ?_ | refine Within.drewN ?_ _ | refine Within.setCell ?_ (by first | (simp; done) | (simp; omega)) _ | refine Within.trans ?_ (by assumption)))
      · intro wq hq
        have hcq := hq.cells
        clear hq
        go_simp
        rfl
      try simp only [Act.put, List.setIfInBounds_toArray, List.set_cons_zero, List.set_cons_succ]
    refine sch_two rfl rfl rfl rfl (fun K hK => ?_) (fun K hK => ?_)
    · go_simp
      refine hK _ _ (by repeat (with_reducible first | exact Within.refl _ | assumption | refine Within.alloc ?_ _ | refine Within.drew ?_ | refine Within.drewN ?_ _ | refine Within.setCell ?_ (by first | (simp; done) | (simp; omega)) _ | refine Within.trans ?_ (by assumption))) ?_
      clear hK K
      try simp only [Act.put, List.setIfInBounds_toArray, List.set_cons_zero, List.set_cons_succ]
      refine sch_one rfl rfl (fun K hK => ?_)
      go_simp
      refine (SG1.out _ (by repeat (with_reducible first | assumption | exact ib_new _ _ (by simp; done) | refine IntB.alloc ?_ _ | refine IntB.drew ?_ | refine IntB.drewN ?_ _))).mono ?_; rintro e4 w4 ⟨h1, rfl, hA1, hg1, hb4⟩
      have hv4 : Within w0 w4 := Within.trans (by repeat (with_reducible first | exact Within.refl _ | assumption | refine Within.alloc ?_ _ | refine Within.drew ?_ | refine Within.drewN ?_ _ | refine Within.setCell ?_ (by first | (simp; done) | (simp; omega)) _ | refine Within.trans ?_ (by assumption))) hb4
      have hT4 : IntTy w4 w0.heap.size := IntTy.of (by repeat (with_reducible first | assumption | exact ty_new _ _ _ _ (by simp; done) | refine ty_drew ?_ | refine ty_alloc ?_ _)) hb4
      refine hK _ _ (fun _ => (by repeat (with_reducible first | exact Within.refl _ | assumption | refine Within.alloc ?_ _ | refine Within.drew ?_ | refine Within.drewN ?_ _ | refine Within.setCell ?_ (by first | (simp; done) | (simp; omega)) _ | refine Within.trans ?_ (by assumption)))) ?_
      clear hK K
      try simp only [Act.put, List.setIfInBounds_toArray, List.set_cons_zero, List.set_cons_succ]
      refine sch_one rfl rfl (fun K hK => ?_)
      go_simp
      have hJ2' := hJ2.of hv4
      refine (SG2.out _ (by repeat (with_reducible first | assumption | exact ib_new _ _ (by simp; done) | refine IntB.alloc ?_ _ | refine IntB.drew ?_ | refine IntB.drewN ?_ _))).mono ?_; rintro e5 w5 ⟨h2, rfl, hA2, hg2, hb5⟩
      have hA1' : IntB w5 h1 v1 := IntB.of (by repeat (with_reducible first | assumption | exact ib_new _ _ (by simp; done) | refine IntB.alloc ?_ _ | refine IntB.drew ?_ | refine IntB.drewN ?_ _)) hb5
      have hv5 : Within w0 w5 := Within.trans (by repeat (with_reducible first | exact Within.refl _ | assumption | refine Within.alloc ?_ _ | refine Within.drew ?_ | refine Within.drewN ?_ _ | refine Within.setCell ?_ (by first | (simp; done) | (simp; omega)) _ | refine Within.trans ?_ (by assumption))) hb5
      have hT5 : IntTy w5 w0.heap.size := IntTy.of (by repeat (with_reducible first | assumption | exact ty_new _ _ _ _ (by simp; done) | refine ty_drew ?_ | refine ty_alloc ?_ _)) hb5
      refine hK _ _ (fun _ => (by repeat (with_reducible first | exact Within.refl _ | assumption | refine Within.alloc ?_ _ | refine Within.drew ?_ | refine Within.drewN ?_ _ | refine Within.setCell ?_ (by first | (simp; done) | (simp; omega)) _ | refine Within.trans ?_ (by assumption)))) ?_
      clear hK K
      try simp only [Act.put, List.setIfInBounds_toArray, List.set_cons_zero, List.set_cons_succ]
      refine sch_one rfl rfl (fun K hK => ?_)
      go_simp
      refine (BAdd _ h1 h2 v1 v2 (Nat.le_trans HL1.out (by decide)) (Nat.le_trans HL2.out (by decide)) _ (by repeat (with_reducible first | assumption | exact ty_new _ _ _ _ (by simp; done) | refine ty_drew ?_ | refine ty_alloc ?_ _)) (by repeat (with_reducible first | assumption | exact ib_new _ _ (by simp; done) | refine IntB.alloc ?_ _ | refine IntB.drew ?_ | refine IntB.drewN ?_ _)) (by repeat (with_reducible first | assumption | exact ib_new _ _ (by simp; done) | refine IntB.alloc ?_ _ | refine IntB.drew ?_ | refine IntB.drewN ?_ _))).mono ?_; rintro e6 w6 ⟨rfl, hA3, hG3⟩
      rw [HV.out] at hA3
      have hv3 : Within w0 w6 := Within.grown (by repeat (with_reducible first | exact Within.refl _ | assumption | refine Within.alloc ?_ _ | refine Within.drew ?_ | refine Within.drewN ?_ _ | refine Within.setCell ?_ (by first | (simp; done) | (simp; omega)) _ | refine Within.trans ?_ (by assumption))) hG3 (by first | (simp; done) | exact hv4.sizes | exact hv5.sizes)
      refine hK _ _ (fun _ => (by repeat (with_reducible first | exact Within.refl _ | assumption | refine Within.alloc ?_ _ | refine Within.drew ?_ | refine Within.drewN ?_ _ | refine Within.setCell ?_ (by first | (simp; done) | (simp; omega)) _ | refine Within.trans ?_ (by assumption)))) ?_
      clear hK K
      try simp only [Act.put, List.setIfInBounds_toArray, List.set_cons_zero, List.set_cons_succ]
      refine sch_one rfl rfl (fun K hK => ?_)
      go_simp
      refine hK _ _ (fun h => absurd h (by decide)) ?_
      clear hK K
      try simp only [Act.put, List.setIfInBounds_toArray, List.set_cons_zero, List.set_cons_succ]
      refine sch_nil ?_
      go_wp2_with fail
      go_meet
      exact ⟨⟨_, rfl, hA3, Nat.le_trans hw0.sizes (by first | (simp; done) | exact hv4.sizes | exact hv5.sizes)⟩, hw0.trans hv3⟩
    · go_simp
      refine (SG1.out _ (by repeat (with_reducible first | assumption | exact ib_new _ _ (by simp; done) | refine IntB.alloc ?_ _ | refine IntB.drew ?_ | refine IntB.drewN ?_ _))).mono ?_; rintro e4 w4 ⟨h1, rfl, hA1, hg1, hb4⟩
      have hv4 : Within w0 w4 := Within.trans (by repeat (with_reducible first | exact Within.refl _ | assumption | refine Within.alloc ?_ _ | refine Within.drew ?_ | refine Within.drewN ?_ _ | refine Within.setCell ?_ (by first | (simp; done) | (simp; omega)) _ | refine Within.trans ?_ (by assumption))) hb4
      refine hK _ _ (by repeat (with_reducible first | exact Within.refl _ | assumption | refine Within.alloc ?_ _ | refine Within.drew ?_ | refine Within.drewN ?_ _ | refine Within.setCell ?_ (by first | (simp; done) | (simp; omega)) _ | refine Within.trans ?_ (by assumption))) ?_
      clear hK K
      try simp only [Act.put, List.setIfInBounds_toArray, List.set_cons_zero, List.set_cons_succ]
      refine sch_two rfl rfl rfl rfl (fun K hK => ?_) (fun K hK => ?_)
      · go_simp
        refine hK _ _ (by repeat (with_reducible first | exact Within.refl _ | assumption | refine Within.alloc ?_ _ | refine Within.drew ?_ | refine Within.drewN ?_ _ | refine Within.setCell ?_ (by first | (simp; done) | (simp; omega)) _ | refine Within.trans ?_ (by assumption))) ?_
        clear hK K
        try simp only [Act.put, List.setIfInBounds_toArray, List.set_cons_zero, List.set_cons_succ]
        refine sch_one rfl rfl (fun K hK => ?_)
        go_simp
        have hJ2' := hJ2.of hv4
        refine (SG2.out _ (by repeat (with_reducible first | assumption | exact ib_new _ _ (by simp; done) | refine IntB.alloc ?_ _ | refine IntB.drew ?_ | refine IntB.drewN ?_ _))).mono ?_; rintro e5 w5 ⟨h2, rfl, hA2, hg2, hb5⟩
        have hA1' : IntB w5 h1 v1 := IntB.of (by repeat (with_reducible first | assumption | exact ib_new _ _ (by simp; done) | refine IntB.alloc ?_ _ | refine IntB.drew ?_ | refine IntB.drewN ?_ _)) hb5
        have hv5 : Within w0 w5 := Within.trans (by repeat (with_reducible first | exact Within.refl _ | assumption | refine Within.alloc ?_ _ | refine Within.drew ?_ | refine Within.drewN ?_ _ | refine Within.setCell ?_ (by first | (simp; done) | (simp; omega)) _ | refine Within.trans ?_ (by assumption))) hb5
        have hT5 : IntTy w5 w4.heap.size := IntTy.of (by repeat (with_reducible first | assumption | exact ty_new _ _ _ _ (by simp; done) | refine ty_drew ?_ | refine ty_alloc ?_ _)) hb5
        refine hK _ _ (fun _ => (by repeat (with_reducible first | exact Within.refl _ | assumption | refine Within.alloc ?_ _ | refine Within.drew ?_ | refine Within.drewN ?_ _ | refine Within.setCell ?_ (by first | (simp; done) | (simp; omega)) _ | refine Within.trans ?_ (by assumption)))) ?_
        clear hK K
        try simp only [Act.put, List.setIfInBounds_toArray, List.set_cons_zero, List.set_cons_succ]
        refine sch_one rfl rfl (fun K hK => ?_)
        go_simp
        refine (BAdd _ h1 h2 v1 v2 (Nat.le_trans HL1.out (by decide)) (Nat.le_trans HL2.out (by decide)) _ (by repeat (with_reducible first | assumption | exact ty_new _ _ _ _ (by simp; done) | refine ty_drew ?_ | refine ty_alloc ?_ _)) (by repeat (with_reducible first | assumption | exact ib_new _ _ (by simp; done) | refine IntB.alloc ?_ _ | refine IntB.drew ?_ | refine IntB.drewN ?_ _)) (by repeat (with_reducible first | assumption | exact ib_new _ _ (by simp; done) | refine IntB.alloc ?_ _ | refine IntB.drew ?_ | refine IntB.drewN ?_ _))).mono ?_; rintro e6 w6 ⟨rfl, hA3, hG3⟩
        rw [HV.out] at hA3
        have hv3 : Within w0 w6 := Within.grown (by repeat (with_reducible first | exact Within.refl _ | assumption | refine Within.alloc ?_ _ | refine Within.drew ?_ | refine Within.drewN ?_ _ | refine Within.setCell ?_ (by first | (simp; done) | (simp; omega)) _ | refine Within.trans ?_ (by assumption))) hG3 (by first | (simp; done) | exact hv4.sizes | exact hv5.sizes)
        refine hK _ _ (fun _ => (by repeat (with_reducible first | exact Within.refl _ | assumption | refine Within.alloc ?_ _ | refine Within.drew ?_ | refine Within.drewN ?_ _ | refine Within.setCell ?_ (by first | (simp; done) | (simp; omega)) _ | refine Within.trans ?_ (by assumption)))) ?_
        clear hK K
        try simp only [Act.put, List.setIfInBounds_toArray, List.set_cons_zero, List.set_cons_succ]
        refine sch_one rfl rfl (fun K hK => ?_)
        go_simp
        refine hK _ _ (fun h => absurd h (by decide)) ?_
        clear hK K
        try simp only [Act.put, List.setIfInBounds_toArray, List.set_cons_zero, List.set_cons_succ]
        refine sch_nil ?_
        go_wp2_with fail
        go_meet
        exact ⟨⟨_, rfl, hA3, Nat.le_trans hw0.sizes (by first | (simp; done) | exact hv4.sizes | exact hv5.sizes)⟩, hw0.trans hv3⟩
      · go_simp
        have hJ2' := hJ2.of hv4
        refine (SG2.out _ (by repeat (with_reducible first | assumption | exact ib_new _ _ (by simp; done) | refine IntB.alloc ?_ _ | refine IntB.drew ?_ | refine IntB.drewN ?_ _))).mono ?_; rintro e5 w5 ⟨h2, rfl, hA2, hg2, hb5⟩
        have hA1' : IntB w5 h1 v1 := IntB.of (by repeat (with_reducible first | assumption | exact ib_new _ _ (by simp; done) | refine IntB.alloc ?_ _ | refine IntB.drew ?_ | refine IntB.drewN ?_ _)) hb5
        have hv5 : Within w0 w5 := Within.trans (by repeat (with_reducible first | exact Within.refl _ | assumption | refine Within.alloc ?_ _ | refine Within.drew ?_ | refine Within.drewN ?_ _ | refine Within.setCell ?_ (by first | (simp; done) | (simp; omega)) _ | refine Within.trans ?_ (by assumption))) hb5
        refine hK _ _ (by repeat (with_reducible first | exact Within.refl _ | assumption | refine Within.alloc ?_ _ | refine Within.drew ?_ | refine Within.drewN ?_ _ | refine Within.setCell ?_ (by first | (simp; done) | (simp; omega)) _ | refine Within.trans ?_ (by assumption))) ?_
        clear hK K
        try simp only [Act.put, List.setIfInBounds_toArray, List.set_cons_zero, List.set_cons_succ]
        refine sch_one rfl rfl (fun K hK => ?_)
        go_simp
        refine hK _ _ (fun _ => (by repeat (with_reducible first | exact Within.refl _ | assumption | refine Within.alloc ?_ _ | refine Within.drew ?_ | refine Within.drewN ?_ _ | refine Within.setCell ?_ (by first | (simp; done) | (simp; omega)) _ | refine Within.trans ?_ (by assumption)))) ?_
        clear hK K
        try simp only [Act.put, List.setIfInBounds_toArray, List.set_cons_zero, List.set_cons_succ]
        refine sch_one rfl rfl (fun K hK => ?_)
        go_simp
        refine (BAdd _ h1 h2 v1 v2 (Nat.le_trans HL1.out (by decide)) (Nat.le_trans HL2.out (by decide)) _ (by repeat (with_reducible first | assumption | exact ty_new _ _ _ _ (by simp; done) | refine ty_drew ?_ | refine ty_alloc ?_ _)) (by repeat (with_reducible first | assumption | exact ib_new _ _ (by simp; done) | refine IntB.alloc ?_ _ | refine IntB.drew ?_ | refine IntB.drewN ?_ _)) (by repeat (with_reducible first | assumption | exact ib_new _ _ (by simp; done) | refine IntB.alloc ?_ _ | refine IntB.drew ?_ | refine IntB.drewN ?_ _))).mono ?_; rintro e6 w6 ⟨rfl, hA3, hG3⟩
        rw [HV.out] at hA3
        have hv3 : Within w0 w6 := Within.grown (by repeat (with_reducible first | exact Within.refl _ | assumption | refine Within.alloc ?_ _ | refine Within.drew ?_ | refine Within.drewN ?_ _ | refine Within.setCell ?_ (by first | (simp; done) | (simp; omega)) _ | refine Within.trans ?_ (by assumption))) hG3 (by first | (simp; done) | exact hv4.sizes | exact hv5.sizes)
        refine hK _ _ (fun _ => (by repeat (with_reducible first | exact Within.refl _ | assumption | refine Within.alloc ?_ _ | refine Within.drew ?_ | refine Within.drewN ?_ _ | refine Within.setCell ?_ (by first | (simp; done) | (simp; omega)) _ | refine Within.trans ?_ (by assumption)))) ?_
        clear hK K
        try simp only [Act.put, List.setIfInBounds_toArray, List.set_cons_zero, List.set_cons_succ]
        refine sch_one rfl rfl (fun K hK => ?_)
        go_simp
        refine hK _ _ (fun h => absurd h (by decide)) ?_
        clear hK K
        try simp only [Act.put, List.setIfInBounds_toArray, List.set_cons_zero, List.set_cons_succ]
        refine sch_nil ?_
        go_wp2_with fail
        go_meet
        exact ⟨⟨_, rfl, hA3, Nat.le_trans hw0.sizes (by first | (simp; done) | exact hv4.sizes | exact hv5.sizes)⟩, hw0.trans hv3⟩
  case rest =>
    obtain ⟨⟨z, rfl, hI, hz⟩, hw⟩ := hcut
    have hz3 : w.heap.size + 3 ≤ z := Nat.le_trans (by simp) hz
    clear hz
    have hww : Within w wc := ((((Within.refl w).alloc _).alloc _).alloc _).trans hw
    have f0 : wc.cell? ⟨w.heap.size, 0, none⟩ = some (.int .i64 24) := (hw.cells _ _ (by simp; omega)).trans (by go_simp)
    have f1 : wc.cell? ⟨w.heap.size, 1, none⟩ = some (.int .i64 (-126)) := (hw.cells _ _ (by simp; omega)).trans (by go_simp)
    have f2 : wc.cell? ⟨w.heap.size, 2, none⟩ = some (.int .i64 127) := (hw.cells _ _ (by simp; omega)).trans (by go_simp)
    have f3 : wc.cell? ⟨w.heap.size, 3, none⟩ = some (.int .i64 8) := (hw.cells _ _ (by simp; omega)).trans (by go_simp)
    have c0 : wc.cell? ⟨w.heap.size + 1, 0, none⟩ = some (.int .i64 0) := (hw.cells _ _ (by simp)).trans (by go_simp)
    have c1 : wc.cell? ⟨w.heap.size + 1, 1, none⟩ = some (.bool b1) := (hw.cells _ _ (by simp)).trans (by go_simp)
    have c2 : wc.cell? ⟨w.heap.size + 1, 2, none⟩ = some (.pointer (some ⟨g1, 0, none⟩)) := (hw.cells _ _ (by simp)).trans (by go_simp)
    have c3 : wc.cell? ⟨w.heap.size + 1, 3, none⟩ = some (.int .i64 E1) := (hw.cells _ _ (by simp)).trans (by go_simp)
    have c4 : wc.cell? ⟨w.heap.size + 1 + 1, 0, none⟩ = some (.int .i64 0) := (hw.cells _ _ (by simp)).trans (by go_simp)
    have c5 : wc.cell? ⟨w.heap.size + 1 + 1, 1, none⟩ = some (.bool b2) := (hw.cells _ _ (by simp)).trans (by go_simp)
    have c6 : wc.cell? ⟨w.heap.size + 1 + 1, 2, none⟩ = some (.pointer (some ⟨g2, 0, none⟩)) := (hw.cells _ _ (by simp)).trans (by go_simp)
    have c7 : wc.cell? ⟨w.heap.size + 1 + 1, 3, none⟩ = some (.int .i64 E2) := (hw.cells _ _ (by simp)).trans (by go_simp)
    have fl : w.heap.size < wc.heap.size := World.block_lt_of_cell? _ _ f0
    have fl1 : w.heap.size + 1 < wc.heap.size := World.block_lt_of_cell? _ _ c0
    have fl2 : w.heap.size + 1 + 1 < wc.heap.size := World.block_lt_of_cell? _ _ c4
    have hJ1 : IntB wc g1 (M1 : Int) := hI1.of hww
    have hJ2 : IntB wc g2 (M2 : Int) := hI2.of hww
    clear hw
    have d0 : (v.sign == 0) = true := by rw [HV0.out]; rfl
    go_wp2_with fail
    refine (Bsign z v _ hI).mono ?_; rintro e7 w7 ⟨rfl, rfl⟩
    go_wp2
    refine wp_region_schG (fun W => W.cell? ⟨w.heap.size, 0, none⟩ = some (.int .i64 24) ∧ W.cell? ⟨w.heap.size, 1, none⟩ = some (.int .i64 (-126)) ∧ W.cell? ⟨w.heap.size, 2, none⟩ = some (.int .i64 127) ∧ W.cell? ⟨w.heap.size, 3, none⟩ = some (.int .i64 8) ∧ W.cell? ⟨w.heap.size + 1, 0, none⟩ = some (.int .i64 0) ∧ W.cell? ⟨w.heap.size + 1, 1, none⟩ = some (.bool b1) ∧ W.cell? ⟨w.heap.size + 1, 2, none⟩ = some (.pointer (some ⟨g1, 0, none⟩)) ∧ W.cell? ⟨w.heap.size + 1, 3, none⟩ = some (.int .i64 E1) ∧ W.cell? ⟨w.heap.size + 1 + 1, 0, none⟩ = some (.int .i64 0) ∧ W.cell? ⟨w.heap.size + 1 + 1, 1, none⟩ = some (.bool b2) ∧ W.cell? ⟨w.heap.size + 1 + 1, 2, none⟩ = some (.pointer (some ⟨g2, 0, none⟩)) ∧ W.cell? ⟨w.heap.size + 1 + 1, 3, none⟩ = some (.int .i64 E2) ∧ IntB W g1 (M1 : Int) ∧ IntB W g2 (M2 : Int) ∧ w.heap.size < W.heap.size ∧ w.heap.size + 1 < W.heap.size ∧ w.heap.size + 1 + 1 < W.heap.size ∧ Within w W) 19 (.firm 0 (.firm 1 (.firm 14 (.firm 15 (.firm 16 (.one 2 (.firm 3 (.firm 4 (.one 5 (.firm 6 (.firm 7 (.firm 8 (.firm 9 (.firm 10 (.firm 11 (.firm 12 (.firm 13 (.one 17 (.firm 18 (.one 19 .nil)))))))))))))))))))) (by kernel_rfl) (by kernel_rfl) ⟨f0, f1, f2, f3, c0, c1, c2, c3, c4, c5, c6, c7, hJ1, hJ2, fl, fl1, fl2, hww⟩ ?_
    rintro w0 ⟨f0, f1, f2, f3, c0, c1, c2, c3, c4, c5, c6, c7, hJ1, hJ2, fl, fl1, fl2, hww⟩
    try simp only [Act.put, List.setIfInBounds_toArray, List.set_cons_zero, List.set_cons_succ]
    iterate 5
      apply sch_firm rfl rfl (by repeat (with_reducible first | exact Within.refl _ | assumption | refine Within.alloc ?_ _ | refine Within.drew ?_ | refine Within.drewN ?_ _ | refine Within.setCell ?_ (by first | (simp; done) | (simp; omega)) _ | refine Within.trans ?_ (by assumption)))
      · intro wq hq
        have hcq := hq.cells
        clear hq
        go_simp
        rfl
      try simp only [Act.put, List.setIfInBounds_toArray, List.set_cons_zero, List.set_cons_succ]
    refine sch_one rfl rfl (fun K hK => ?_)
    go_simp
    refine (Riszero_zero 0 E1 (M1 : Int) b1 g1 rfl hm1 _ (by exact hJ1)).mono ?_; rintro e8 w8 ⟨rfl, hv8'⟩
    have hv8 : Within w0 w8 := Within.trans (Within.refl w0).drew hv8'
    have hJ2' := hJ2.of hv8
    refine hK _ _ (fun _ => (by repeat (with_reducible first | exact Within.refl _ | assumption | refine Within.alloc ?_ _ | refine Within.drew ?_ | refine Within.drewN ?_ _ | refine Within.setCell ?_ (by first | (simp; done) | (simp; omega)) _ | refine Within.trans ?_ (by assumption)))) ?_
    clear hK K
    try simp only [Act.put, List.setIfInBounds_toArray, List.set_cons_zero, List.set_cons_succ]
    apply sch_firm rfl rfl (by repeat (with_reducible first | exact Within.refl _ | assumption | refine Within.alloc ?_ _ | refine Within.drew ?_ | refine Within.drewN ?_ _ | refine Within.setCell ?_ (by first | (simp; done) | (simp; omega)) _ | refine Within.trans ?_ (by assumption)))
    · intro wq hq
      have hcq := hq.cells
      clear hq
      go_simp
      rfl
    try simp only [Act.put, List.setIfInBounds_toArray, List.set_cons_zero, List.set_cons_succ]
    apply sch_want rfl (by first | rfl | decide | (simp [Region.wanted, yielded]; done)) (by repeat (with_reducible first | exact Within.refl _ | assumption | refine Within.alloc ?_ _ | refine Within.drew ?_ | refine Within.drewN ?_ _ | refine Within.setCell ?_ (by first | (simp; done) | (simp; omega)) _ | refine Within.trans ?_ (by assumption)))
    · intro wq hq
      have hcq := hq.cells
      clear hq
      go_simp
      rfl
    try simp only [Act.put, List.setIfInBounds_toArray, List.set_cons_zero, List.set_cons_succ]
    refine sch_one_want rfl (by first | rfl | decide | (simp [Region.wanted, yielded]; done)) (fun K hK => ?_)
    go_simp
    refine (Riszero_zero 0 E2 (M2 : Int) b2 g2 rfl hm2 _ (by exact hJ2')).mono ?_; rintro e9 w9 ⟨rfl, hv9'⟩
    have hv9 := hv8.trans hv9'
    refine hK _ _ (fun _ => (by repeat (with_reducible first | exact Within.refl _ | assumption | refine Within.alloc ?_ _ | refine Within.drew ?_ | refine Within.drewN ?_ _ | refine Within.setCell ?_ (by first | (simp; done) | (simp; omega)) _ | refine Within.trans ?_ (by assumption)))) ?_
    clear hK K
    try simp only [Act.put, List.setIfInBounds_toArray, List.set_cons_zero, List.set_cons_succ]
    iterate 2
      apply sch_firm rfl rfl (by repeat (with_reducible first | exact Within.refl _ | assumption | refine Within.alloc ?_ _ | refine Within.drew ?_ | refine Within.drewN ?_ _ | refine Within.setCell ?_ (by first | (simp; done) | (simp; omega)) _ | refine Within.trans ?_ (by assumption)))
      · intro wq hq
        have hcq := hq.cells
        clear hq
        go_simp
        rfl
      try simp only [Act.put, List.setIfInBounds_toArray, List.set_cons_zero, List.set_cons_succ]
    iterate 5
      apply sch_want rfl (by first | rfl | decide | (simp [Region.wanted, yielded]; done)) (by repeat (with_reducible first | exact Within.refl _ | assumption | refine Within.alloc ?_ _ | refine Within.drew ?_ | refine Within.drewN ?_ _ | refine Within.setCell ?_ (by first | (simp; done) | (simp; omega)) _ | refine Within.trans ?_ (by assumption)))
      · intro wq hq
        have hcq := hq.cells
        clear hq
        go_simp
        rfl
      try simp only [Act.put, List.setIfInBounds_toArray, List.set_cons_zero, List.set_cons_succ]
    apply sch_firm rfl rfl (by repeat (with_reducible first | exact Within.refl _ | assumption | refine Within.alloc ?_ _ | refine Within.drew ?_ | refine Within.drewN ?_ _ | refine Within.setCell ?_ (by first | (simp; done) | (simp; omega)) _ | refine Within.trans ?_ (by assumption)))
    · intro wq hq
      have hcq := hq.cells
      clear hq
      go_simp
      rfl
    try simp only [Act.put, List.setIfInBounds_toArray, List.set_cons_zero, List.set_cons_succ]
    refine sch_one rfl rfl (fun K hK => ?_)
    go_simp
    refine (Rzero_one b1 mode _).mono ?_; rintro e10 w10 ⟨rfl, hv10'⟩
    have hv10 := hv9.trans hv10'
    refine hK _ _ (fun _ => (by repeat (with_reducible first | exact Within.refl _ | assumption | refine Within.alloc ?_ _ | refine Within.drew ?_ | refine Within.drewN ?_ _ | refine Within.setCell ?_ (by first | (simp; done) | (simp; omega)) _ | refine Within.trans ?_ (by assumption)))) ?_
    clear hK K
    try simp only [Act.put, List.setIfInBounds_toArray, List.set_cons_zero, List.set_cons_succ]
    apply sch_firm rfl rfl (by repeat (with_reducible first | exact Within.refl _ | assumption | refine Within.alloc ?_ _ | refine Within.drew ?_ | refine Within.drewN ?_ _ | refine Within.setCell ?_ (by first | (simp; done) | (simp; omega)) _ | refine Within.trans ?_ (by assumption)))
    · intro wq hq
      have hcq := hq.cells
      clear hq
      go_simp
      rfl
    try simp only [Act.put, List.setIfInBounds_toArray, List.set_cons_zero, List.set_cons_succ]
    refine sch_one rfl rfl (fun K hK => ?_)
    go_simp
    refine hK _ _ (fun h => absurd h (by decide)) ?_
    clear hK K
    try simp only [Act.put, List.setIfInBounds_toArray, List.set_cons_zero, List.set_cons_succ]
    refine sch_nil ?_
    have hw10 := hww.trans hv10
    go_wp2
    go_ret2
    exact ⟨rfl, hw10⟩
set_option maxRecDepth 100000 in
set_option maxHeartbeats 600000 in
theorem Radd_zero_y (E1 E2 mode : Int) (b1 b2 : Bool) (g1 g2 : Nat) (e v1 v2 v : Int) (M1 M2 : Nat) (he : min E1 E2 = e) (hv : v1 + v2 = v) (hl1 : (dg v1.natAbs).length ≤ 1400) (hl2 : (dg v2.natAbs).length ≤ 1400) (hlv : (dg v.natAbs).length ≤ 900) (SG1 : Hid (∀ w, IntB w g1 (M1 : Int) → Calls Tryz.prog 106 #[.agg #[.int .i64 0, .bool b1, .pointer (some ⟨g1, 0, none⟩), .int .i64 E1], .int .i64 e] w (fun en w' => ∃ h, en = .returned (.pointer (some ⟨h, 0, none⟩)) ∧ IntB w' h (v1) ∧ w.heap.size ≤ h ∧ Within w w'))) (SG2 : Hid (∀ w, IntB w g2 (M2 : Int) → Calls Tryz.prog 106 #[.agg #[.int .i64 0, .bool b2, .pointer (some ⟨g2, 0, none⟩), .int .i64 E2], .int .i64 e] w (fun en w' => ∃ h, en = .returned (.pointer (some ⟨h, 0, none⟩)) ∧ IntB w' h (v2) ∧ w.heap.size ≤ h ∧ Within w w'))) (hv0 : v = 0) (hm1 : (M1 : Int) = 0) (hm2 : (M2 : Int) = 0) (hb : (b1 == b2) = false) (w : World) (hI1 : IntB w g1 (M1 : Int)) (hI2 : IntB w g2 (M2 : Int)) : Calls Tryz.prog 67 #[fmS, .agg #[.int .i64 0, .bool b1, .pointer (some ⟨g1, 0, none⟩), .int .i64 E1], .agg #[.int .i64 0, .bool b2, .pointer (some ⟨g2, 0, none⟩), .int .i64 E2], .int .i64 mode] w (fun e' w' => e' = .returned (.tuple #[.int .u64 ((nghtS (decide (mode = 4)) : Nat)), .int .i64 0]) ∧ Within w w') := by
  have HL1 := Lib.hid hl1; have HL2 := Lib.hid hl2; have HLV := Lib.hid hlv; have HV := Lib.hid hv; have HV0 := Lib.hid hv0; clear hl1 hl2 hlv hv hv0
  go_enter Tryz.func67, Tryz.ntmps67
  go_upto_region 10 with fail
  go_cut [11] (fun s11 wx => PtrI (((w.alloc (.cells #[.int .i64 24, .int .i64 (-126), .int .i64 127, .int .i64 8] 60)).alloc (.cells #[.int .i64 0, .bool b1, .pointer (some ⟨g1, 0, none⟩), .int .i64 E1] 65)).alloc (.cells #[.int .i64 0, .bool b2, .pointer (some ⟨g2, 0, none⟩), .int .i64 E2] 65)) v s11 wx ∧ Within (((w.alloc (.cells #[.int .i64 24, .int .i64 (-126), .int .i64 127, .int .i64 8] 60)).alloc (.cells #[.int .i64 0, .bool b1, .pointer (some ⟨g1, 0, none⟩), .int .i64 E1] 65)).alloc (.cells #[.int .i64 0, .bool b2, .pointer (some ⟨g2, 0, none⟩), .int .i64 E2] 65)) wx)
  case first =>
    refine wp_region_schG (fun W => W.cell? ⟨w.heap.size + 1, 0, none⟩ = some (.int .i64 0) ∧ W.cell? ⟨w.heap.size + 1, 1, none⟩ = some (.bool b1) ∧ W.cell? ⟨w.heap.size + 1, 2, none⟩ = some (.pointer (some ⟨g1, 0, none⟩)) ∧ W.cell? ⟨w.heap.size + 1, 3, none⟩ = some (.int .i64 E1) ∧ W.cell? ⟨w.heap.size + 1 + 1, 0, none⟩ = some (.int .i64 0) ∧ W.cell? ⟨w.heap.size + 1 + 1, 1, none⟩ = some (.bool b2) ∧ W.cell? ⟨w.heap.size + 1 + 1, 2, none⟩ = some (.pointer (some ⟨g2, 0, none⟩)) ∧ W.cell? ⟨w.heap.size + 1 + 1, 3, none⟩ = some (.int .i64 E2) ∧ IntB W g1 (M1 : Int) ∧ IntB W g2 (M2 : Int) ∧ Within (((w.alloc (.cells #[.int .i64 24, .int .i64 (-126), .int .i64 127, .int .i64 8] 60)).alloc (.cells #[.int .i64 0, .bool b1, .pointer (some ⟨g1, 0, none⟩), .int .i64 E1] 65)).alloc (.cells #[.int .i64 0, .bool b2, .pointer (some ⟨g2, 0, none⟩), .int .i64 E2] 65)) W ∧ w.heap.size + 1 < W.heap.size ∧ w.heap.size + 1 + 1 < W.heap.size) 8 (.firm 1 (.firm 2 (.firm 4 (.firm 5 (.two 0 (.one 3 (.one 6 (.one 7 (.one 8 .nil)))) 3 (.two 0 (.one 6 (.one 7 (.one 8 .nil))) 6 (.one 0 (.one 7 (.one 8 .nil))))))))) (by kernel_rfl) (by kernel_rfl) ⟨by go_simp, by go_simp, by go_simp, by go_simp, by go_simp, by go_simp, by go_simp, by go_simp, (by repeat (with_reducible first | assumption | exact ib_new _ _ (by simp; done) | refine IntB.alloc ?_ _ | refine IntB.drew ?_ | refine IntB.drewN ?_ _)), (by repeat (with_reducible first | assumption | exact ib_new _ _ (by simp; done) | refine IntB.alloc ?_ _ | refine IntB.drew ?_ | refine IntB.drewN ?_ _)), Within.refl _, by first | (simp; done) | (simp; omega), by first | (simp; done) | (simp; omega)⟩ ?_
    rintro w0 ⟨c0, c1, c2, c3, c4, c5, c6, c7, hJ1, hJ2, hw0, hs0, hs1⟩
    try simp only [Act.put, List.setIfInBounds_toArray, List.set_cons_zero, List.set_cons_succ]
    repeat
      apply sch_firm rfl rfl (by repeat (with_reducible first | exact Within.refl _ | assumption | refine Within.alloc ?_ _ | refine Within.drew ?_ | refine Within.drewN ?_ _ | refine Within.setCell ?_ (by first | (simp; done) | (simp; omega)) _ | refine Within.trans ?_ (by assumption)))
      · intro wq hq
        have hcq := hq.cells
        clear hq
        go_simp
        rfl
      try simp only [Act.put, List.setIfInBounds_toArray, List.set_cons_zero, List.set_cons_succ]
    refine sch_two rfl rfl rfl rfl (fun K hK => ?_) (fun K hK => ?_)
    · go_simp
      refine hK _ _ (by repeat (with_reducible first | exact Within.refl _ | assumption | refine Within.alloc ?_ _ | refine Within.drew ?_ | refine Within.drewN ?_ _ | refine Within.setCell ?_ (by first | (simp; done) | (simp; omega)) _ | refine Within.trans ?_ (by assumption))) ?_
      clear hK K
      try simp only [Act.put, List.setIfInBounds_toArray, List.set_cons_zero, List.set_cons_succ]
      refine sch_one rfl rfl (fun K hK => ?_)
      go_simp
      refine (SG1.out _ (by repeat (with_reducible first | assumption | exact ib_new _ _ (by simp; done) | refine IntB.alloc ?_ _ | refine IntB.drew ?_ | refine IntB.drewN ?_ _))).mono ?_; rintro e4 w4 ⟨h1, rfl, hA1, hg1, hb4⟩
      have hv4 : Within w0 w4 := Within.trans (by repeat (with_reducible first | exact Within.refl _ | assumption | refine Within.alloc ?_ _ | refine Within.drew ?_ | refine Within.drewN ?_ _ | refine Within.setCell ?_ (by first | (simp; done) | (simp; omega)) _ | refine Within.trans ?_ (by assumption))) hb4
      have hT4 : IntTy w4 w0.heap.size := IntTy.of (by repeat (with_reducible first | assumption | exact ty_new _ _ _ _ (by simp; done) | refine ty_drew ?_ | refine ty_alloc ?_ _)) hb4
      refine hK _ _ (fun _ => (by repeat (with_reducible first | exact Within.refl _ | assumption | refine Within.alloc ?_ _ | refine Within.drew ?_ | refine Within.drewN ?_ _ | refine Within.setCell ?_ (by first | (simp; done) | (simp; omega)) _ | refine Within.trans ?_ (by assumption)))) ?_
      clear hK K
      try simp only [Act.put, List.setIfInBounds_toArray, List.set_cons_zero, List.set_cons_succ]
      refine sch_one rfl rfl (fun K hK => ?_)
      go_simp
      have hJ2' := hJ2.of hv4
      refine (SG2.out _ (by repeat (with_reducible first | assumption | exact ib_new _ _ (by simp; done) | refine IntB.alloc ?_ _ | refine IntB.drew ?_ | refine IntB.drewN ?_ _))).mono ?_; rintro e5 w5 ⟨h2, rfl, hA2, hg2, hb5⟩
      have hA1' : IntB w5 h1 v1 := IntB.of (by repeat (with_reducible first | assumption | exact ib_new _ _ (by simp; done) | refine IntB.alloc ?_ _ | refine IntB.drew ?_ | refine IntB.drewN ?_ _)) hb5
      have hv5 : Within w0 w5 := Within.trans (by repeat (with_reducible first | exact Within.refl _ | assumption | refine Within.alloc ?_ _ | refine Within.drew ?_ | refine Within.drewN ?_ _ | refine Within.setCell ?_ (by first | (simp; done) | (simp; omega)) _ | refine Within.trans ?_ (by assumption))) hb5
      have hT5 : IntTy w5 w0.heap.size := IntTy.of (by repeat (with_reducible first | assumption | exact ty_new _ _ _ _ (by simp; done) | refine ty_drew ?_ | refine ty_alloc ?_ _)) hb5
      refine hK _ _ (fun _ => (by repeat (with_reducible first | exact Within.refl _ | assumption | refine Within.alloc ?_ _ | refine Within.drew ?_ | refine Within.drewN ?_ _ | refine Within.setCell ?_ (by first | (simp; done) | (simp; omega)) _ | refine Within.trans ?_ (by assumption)))) ?_
      clear hK K
      try simp only [Act.put, List.setIfInBounds_toArray, List.set_cons_zero, List.set_cons_succ]
      refine sch_one rfl rfl (fun K hK => ?_)
      go_simp
      refine (BAdd _ h1 h2 v1 v2 (Nat.le_trans HL1.out (by decide)) (Nat.le_trans HL2.out (by decide)) _ (by repeat (with_reducible first | assumption | exact ty_new _ _ _ _ (by simp; done) | refine ty_drew ?_ | refine ty_alloc ?_ _)) (by repeat (with_reducible first | assumption | exact ib_new _ _ (by simp; done) | refine IntB.alloc ?_ _ | refine IntB.drew ?_ | refine IntB.drewN ?_ _)) (by repeat (with_reducible first | assumption | exact ib_new _ _ (by simp; done) | refine IntB.alloc ?_ _ | refine IntB.drew ?_ | refine IntB.drewN ?_ _))).mono ?_; rintro e6 w6 ⟨rfl, hA3, hG3⟩
      rw [HV.out] at hA3
      have hv3 : Within w0 w6 := Within.grown (by repeat (with_reducible first | exact Within.refl _ | assumption | refine Within.alloc ?_ _ | refine Within.drew ?_ | refine Within.drewN ?_ _ | refine Within.setCell ?_ (by first | (simp; done) | (simp; omega)) _ | refine Within.trans ?_ (by assumption))) hG3 (by first | (simp; done) | exact hv4.sizes | exact hv5.sizes)
      refine hK _ _ (fun _ => (by repeat (with_reducible first | exact Within.refl _ | assumption | refine Within.alloc ?_ _ | refine Within.drew ?_ | refine Within.drewN ?_ _ | refine Within.setCell ?_ (by first | (simp; done) | (simp; omega)) _ | refine Within.trans ?_ (by assumption)))) ?_
      clear hK K
      try simp only [Act.put, List.setIfInBounds_toArray, List.set_cons_zero, List.set_cons_succ]
      refine sch_one rfl rfl (fun K hK => ?_)
      go_simp
      refine hK _ _ (fun h => absurd h (by decide)) ?_
      clear hK K
      try simp only [Act.put, List.setIfInBounds_toArray, List.set_cons_zero, List.set_cons_succ]
      refine sch_nil ?_
      go_wp2_with fail
      go_meet
      exact ⟨⟨_, rfl, hA3, Nat.le_trans hw0.sizes (by first | (simp; done) | exact hv4.sizes | exact hv5.sizes)⟩, hw0.trans hv3⟩
    · go_simp
      refine (SG1.out _ (by repeat (with_reducible first | assumption | exact ib_new _ _ (by simp; done) | refine IntB.alloc ?_ _ | refine IntB.drew ?_ | refine IntB.drewN ?_ _))).mono ?_; rintro e4 w4 ⟨h1, rfl, hA1, hg1, hb4⟩
      have hv4 : Within w0 w4 := Within.trans (by repeat (with_reducible first | exact Within.refl _ | assumption | refine Within.alloc ?_ _ | refine Within.drew ?_ | refine Within.drewN ?_ _ | refine Within.setCell ?_ (by first | (simp; done) | (simp; omega)) _ | refine Within.trans ?_ (by assumption))) hb4
      refine hK _ _ (by repeat (with_reducible first | exact Within.refl _ | assumption | refine Within.alloc ?_ _ | refine Within.drew ?_ | refine Within.drewN ?_ _ | refine Within.setCell ?_ (by first | (simp; done) | (simp; omega)) _ | refine Within.trans ?_ (by assumption))) ?_
      clear hK K
      try simp only [Act.put, List.setIfInBounds_toArray, List.set_cons_zero, List.set_cons_succ]
      refine sch_two rfl rfl rfl rfl (fun K hK => ?_) (fun K hK => ?_)
      · go_simp
        refine hK _ _ (by repeat (with_reducible first | exact Within.refl _ | assumption | refine Within.alloc ?_ _ | refine Within.drew ?_ | refine Within.drewN ?_ _ | refine Within.setCell ?_ (by first | (simp; done) | (simp; omega)) _ | refine Within.trans ?_ (by assumption))) ?_
        clear hK K
        try simp only [Act.put, List.setIfInBounds_toArray, List.set_cons_zero, List.set_cons_succ]
        refine sch_one rfl rfl (fun K hK => ?_)
        go_simp
        have hJ2' := hJ2.of hv4
        refine (SG2.out _ (by repeat (with_reducible first | assumption | exact ib_new _ _ (by simp; done) | refine IntB.alloc ?_ _ | refine IntB.drew ?_ | refine IntB.drewN ?_ _))).mono ?_; rintro e5 w5 ⟨h2, rfl, hA2, hg2, hb5⟩
        have hA1' : IntB w5 h1 v1 := IntB.of (by repeat (with_reducible first | assumption | exact ib_new _ _ (by simp; done) | refine IntB.alloc ?_ _ | refine IntB.drew ?_ | refine IntB.drewN ?_ _)) hb5
        have hv5 : Within w0 w5 := Within.trans (by repeat (with_reducible first | exact Within.refl _ | assumption | refine Within.alloc ?_ _ | refine Within.drew ?_ | refine Within.drewN ?_ _ | refine Within.setCell ?_ (by first | (simp; done) | (simp; omega)) _ | refine Within.trans ?_ (by assumption))) hb5
        have hT5 : IntTy w5 w4.heap.size := IntTy.of (by repeat (with_reducible first | assumption | exact ty_new _ _ _ _ (by simp; done) | refine ty_drew ?_ | refine ty_alloc ?_ _)) hb5
        refine hK _ _ (fun _ => (by repeat (with_reducible first | exact Within.refl _ | assumption | refine Within.alloc ?_ _ | refine Within.drew ?_ | refine Within.drewN ?_ _ | refine Within.setCell ?_ (by first | (simp; done) | (simp; omega)) _ | refine Within.trans ?_ (by assumption)))) ?_
        clear hK K
        try simp only [Act.put, List.setIfInBounds_toArray, List.set_cons_zero, List.set_cons_succ]
        refine sch_one rfl rfl (fun K hK => ?_)
        go_simp
        refine (BAdd _ h1 h2 v1 v2 (Nat.le_trans HL1.out (by decide)) (Nat.le_trans HL2.out (by decide)) _ (by repeat (with_reducible first | assumption | exact ty_new _ _ _ _ (by simp; done) | refine ty_drew ?_ | refine ty_alloc ?_ _)) (by repeat (with_reducible first | assumption | exact ib_new _ _ (by simp; done) | refine IntB.alloc ?_ _ | refine IntB.drew ?_ | refine IntB.drewN ?_ _)) (by repeat (with_reducible first | assumption | exact ib_new _ _ (by simp; done) | refine IntB.alloc ?_ _ | refine IntB.drew ?_ | refine IntB.drewN ?_ _))).mono ?_; rintro e6 w6 ⟨rfl, hA3, hG3⟩
        rw [HV.out] at hA3
        have hv3 : Within w0 w6 := Within.grown (by repeat (with_reducible first | exact Within.refl _ | assumption | refine Within.alloc ?_ _ | refine Within.drew ?_ | refine Within.drewN ?_ _ | refine Within.setCell ?_ (by first | (simp; done) | (simp; omega)) _ | refine Within.trans ?_ (by assumption))) hG3 (by first | (simp; done) | exact hv4.sizes | exact hv5.sizes)
        refine hK _ _ (fun _ => (by repeat (with_reducible first | exact Within.refl _ | assumption | refine Within.alloc ?_ _ | refine Within.drew ?_ | refine Within.drewN ?_ _ | refine Within.setCell ?_ (by first | (simp; done) | (simp; omega)) _ | refine Within.trans ?_ (by assumption)))) ?_
        clear hK K
        try simp only [Act.put, List.setIfInBounds_toArray, List.set_cons_zero, List.set_cons_succ]
        refine sch_one rfl rfl (fun K hK => ?_)
        go_simp
        refine hK _ _ (fun h => absurd h (by decide)) ?_
        clear hK K
        try simp only [Act.put, List.setIfInBounds_toArray, List.set_cons_zero, List.set_cons_succ]
        refine sch_nil ?_
        go_wp2_with fail
        go_meet
        exact ⟨⟨_, rfl, hA3, Nat.le_trans hw0.sizes (by first | (simp; done) | exact hv4.sizes | exact hv5.sizes)⟩, hw0.trans hv3⟩
      · go_simp
        have hJ2' := hJ2.of hv4
        refine (SG2.out _ (by repeat (with_reducible first | assumption | exact ib_new _ _ (by simp; done) | refine IntB.alloc ?_ _ | refine IntB.drew ?_ | refine IntB.drewN ?_ _))).mono ?_; rintro e5 w5 ⟨h2, rfl, hA2, hg2, hb5⟩
        have hA1' : IntB w5 h1 v1 := IntB.of (by repeat (with_reducible first | assumption | exact ib_new _ _ (by simp; done) | refine IntB.alloc ?_ _ | refine IntB.drew ?_ | refine IntB.drewN ?_ _)) hb5
        have hv5 : Within w0 w5 := Within.trans (by repeat (with_reducible first | exact Within.refl _ | assumption | refine Within.alloc ?_ _ | refine Within.drew ?_ | refine Within.drewN ?_ _ | refine Within.setCell ?_ (by first | (simp; done) | (simp; omega)) _ | refine Within.trans ?_ (by assumption))) hb5
        refine hK _ _ (by repeat (with_reducible first | exact Within.refl _ | assumption | refine Within.alloc ?_ _ | refine Within.drew ?_ | refine Within.drewN ?_ _ | refine Within.setCell ?_ (by first | (simp; done) | (simp; omega)) _ | refine Within.trans ?_ (by assumption))) ?_
        clear hK K
        try simp only [Act.put, List.setIfInBounds_toArray, List.set_cons_zero, List.set_cons_succ]
        refine sch_one rfl rfl (fun K hK => ?_)
        go_simp
        refine hK _ _ (fun _ => (by repeat (with_reducible first | exact Within.refl _ | assumption | refine Within.alloc ?_ _ | refine Within.drew ?_ | refine Within.drewN ?_ _ | refine Within.setCell ?_ (by first | (simp; done) | (simp; omega)) _ | refine Within.trans ?_ (by assumption)))) ?_
        clear hK K
        try simp only [Act.put, List.setIfInBounds_toArray, List.set_cons_zero, List.set_cons_succ]
        refine sch_one rfl rfl (fun K hK => ?_)
        go_simp
        refine (BAdd _ h1 h2 v1 v2 (Nat.le_trans HL1.out (by decide)) (Nat.le_trans HL2.out (by decide)) _ (by repeat (with_reducible first | assumption | exact ty_new _ _ _ _ (by simp; done) | refine ty_drew ?_ | refine ty_alloc ?_ _)) (by repeat (with_reducible first | assumption | exact ib_new _ _ (by simp; done) | refine IntB.alloc ?_ _ | refine IntB.drew ?_ | refine IntB.drewN ?_ _)) (by repeat (with_reducible first | assumption | exact ib_new _ _ (by simp; done) | refine IntB.alloc ?_ _ | refine IntB.drew ?_ | refine IntB.drewN ?_ _))).mono ?_; rintro e6 w6 ⟨rfl, hA3, hG3⟩
        rw [HV.out] at hA3
        have hv3 : Within w0 w6 := Within.grown (by repeat (with_reducible first | exact Within.refl _ | assumption | refine Within.alloc ?_ _ | refine Within.drew ?_ | refine Within.drewN ?_ _ | refine Within.setCell ?_ (by first | (simp; done) | (simp; omega)) _ | refine Within.trans ?_ (by assumption))) hG3 (by first | (simp; done) | exact hv4.sizes | exact hv5.sizes)
        refine hK _ _ (fun _ => (by repeat (with_reducible first | exact Within.refl _ | assumption | refine Within.alloc ?_ _ | refine Within.drew ?_ | refine Within.drewN ?_ _ | refine Within.setCell ?_ (by first | (simp; done) | (simp; omega)) _ | refine Within.trans ?_ (by assumption)))) ?_
        clear hK K
        try simp only [Act.put, List.setIfInBounds_toArray, List.set_cons_zero, List.set_cons_succ]
        refine sch_one rfl rfl (fun K hK => ?_)
        go_simp
        refine hK _ _ (fun h => absurd h (by decide)) ?_
        clear hK K
        try simp only [Act.put, List.setIfInBounds_toArray, List.set_cons_zero, List.set_cons_succ]
        refine sch_nil ?_
        go_wp2_with fail
        go_meet
        exact ⟨⟨_, rfl, hA3, Nat.le_trans hw0.sizes (by first | (simp; done) | exact hv4.sizes | exact hv5.sizes)⟩, hw0.trans hv3⟩
  case rest =>
    obtain ⟨⟨z, rfl, hI, hz⟩, hw⟩ := hcut
    have hz3 : w.heap.size + 3 ≤ z := Nat.le_trans (by simp) hz
    clear hz
    have hww : Within w wc := ((((Within.refl w).alloc _).alloc _).alloc _).trans hw
    have f0 : wc.cell? ⟨w.heap.size, 0, none⟩ = some (.int .i64 24) := (hw.cells _ _ (by simp; omega)).trans (by go_simp)
    have f1 : wc.cell? ⟨w.heap.size, 1, none⟩ = some (.int .i64 (-126)) := (hw.cells _ _ (by simp; omega)).trans (by go_simp)
    have f2 : wc.cell? ⟨w.heap.size, 2, none⟩ = some (.int .i64 127) := (hw.cells _ _ (by simp; omega)).trans (by go_simp)
    have f3 : wc.cell? ⟨w.heap.size, 3, none⟩ = some (.int .i64 8) := (hw.cells _ _ (by simp; omega)).trans (by go_simp)
    have c0 : wc.cell? ⟨w.heap.size + 1, 0, none⟩ = some (.int .i64 0) := (hw.cells _ _ (by simp)).trans (by go_simp)
    have c1 : wc.cell? ⟨w.heap.size + 1, 1, none⟩ = some (.bool b1) := (hw.cells _ _ (by simp)).trans (by go_simp)
    have c2 : wc.cell? ⟨w.heap.size + 1, 2, none⟩ = some (.pointer (some ⟨g1, 0, none⟩)) := (hw.cells _ _ (by simp)).trans (by go_simp)
    have c3 : wc.cell? ⟨w.heap.size + 1, 3, none⟩ = some (.int .i64 E1) := (hw.cells _ _ (by simp)).trans (by go_simp)
    have c4 : wc.cell? ⟨w.heap.size + 1 + 1, 0, none⟩ = some (.int .i64 0) := (hw.cells _ _ (by simp)).trans (by go_simp)
    have c5 : wc.cell? ⟨w.heap.size + 1 + 1, 1, none⟩ = some (.bool b2) := (hw.cells _ _ (by simp)).trans (by go_simp)
    have c6 : wc.cell? ⟨w.heap.size + 1 + 1, 2, none⟩ = some (.pointer (some ⟨g2, 0, none⟩)) := (hw.cells _ _ (by simp)).trans (by go_simp)
    have c7 : wc.cell? ⟨w.heap.size + 1 + 1, 3, none⟩ = some (.int .i64 E2) := (hw.cells _ _ (by simp)).trans (by go_simp)
    have fl : w.heap.size < wc.heap.size := World.block_lt_of_cell? _ _ f0
    have fl1 : w.heap.size + 1 < wc.heap.size := World.block_lt_of_cell? _ _ c0
    have fl2 : w.heap.size + 1 + 1 < wc.heap.size := World.block_lt_of_cell? _ _ c4
    have hJ1 : IntB wc g1 (M1 : Int) := hI1.of hww
    have hJ2 : IntB wc g2 (M2 : Int) := hI2.of hww
    clear hw
    have d0 : (v.sign == 0) = true := by rw [HV0.out]; rfl
    go_wp2_with fail
    refine (Bsign z v _ hI).mono ?_; rintro e7 w7 ⟨rfl, rfl⟩
    go_wp2
    refine wp_region_schG (fun W => W.cell? ⟨w.heap.size, 0, none⟩ = some (.int .i64 24) ∧ W.cell? ⟨w.heap.size, 1, none⟩ = some (.int .i64 (-126)) ∧ W.cell? ⟨w.heap.size, 2, none⟩ = some (.int .i64 127) ∧ W.cell? ⟨w.heap.size, 3, none⟩ = some (.int .i64 8) ∧ W.cell? ⟨w.heap.size + 1, 0, none⟩ = some (.int .i64 0) ∧ W.cell? ⟨w.heap.size + 1, 1, none⟩ = some (.bool b1) ∧ W.cell? ⟨w.heap.size + 1, 2, none⟩ = some (.pointer (some ⟨g1, 0, none⟩)) ∧ W.cell? ⟨w.heap.size + 1, 3, none⟩ = some (.int .i64 E1) ∧ W.cell? ⟨w.heap.size + 1 + 1, 0, none⟩ = some (.int .i64 0) ∧ W.cell? ⟨w.heap.size + 1 + 1, 1, none⟩ = some (.bool b2) ∧ W.cell? ⟨w.heap.size + 1 + 1, 2, none⟩ = some (.pointer (some ⟨g2, 0, none⟩)) ∧ W.cell? ⟨w.heap.size + 1 + 1, 3, none⟩ = some (.int .i64 E2) ∧ IntB W g1 (M1 : Int) ∧ IntB W g2 (M2 : Int) ∧ w.heap.size < W.heap.size ∧ w.heap.size + 1 < W.heap.size ∧ w.heap.size + 1 + 1 < W.heap.size ∧ Within w W) 19 (.firm 0 (.firm 1 (.firm 14 (.firm 15 (.firm 16 (.one 2 (.firm 3 (.firm 4 (.one 5 (.firm 6 (.firm 7 (.firm 8 (.firm 9 (.firm 10 (.firm 11 (.firm 12 (.firm 13 (.one 17 (.firm 18 (.one 19 .nil)))))))))))))))))))) (by kernel_rfl) (by kernel_rfl) ⟨f0, f1, f2, f3, c0, c1, c2, c3, c4, c5, c6, c7, hJ1, hJ2, fl, fl1, fl2, hww⟩ ?_
    rintro w0 ⟨f0, f1, f2, f3, c0, c1, c2, c3, c4, c5, c6, c7, hJ1, hJ2, fl, fl1, fl2, hww⟩
    try simp only [Act.put, List.setIfInBounds_toArray, List.set_cons_zero, List.set_cons_succ]
    iterate 5
      apply sch_firm rfl rfl (by repeat (with_reducible first | exact Within.refl _ | assumption | refine Within.alloc ?_ _ | refine Within.drew ?_ | refine Within.drewN ?_ _ | refine Within.setCell ?_ (by first | (simp; done) | (simp; omega)) _ | refine Within.trans ?_ (by assumption)))
      · intro wq hq
        have hcq := hq.cells
        clear hq
        go_simp
        rfl
      try simp only [Act.put, List.setIfInBounds_toArray, List.set_cons_zero, List.set_cons_succ]
    refine sch_one rfl rfl (fun K hK => ?_)
    go_simp
    refine (Riszero_zero 0 E1 (M1 : Int) b1 g1 rfl hm1 _ (by exact hJ1)).mono ?_; rintro e8 w8 ⟨rfl, hv8'⟩
    have hv8 : Within w0 w8 := Within.trans (Within.refl w0).drew hv8'
    have hJ2' := hJ2.of hv8
    refine hK _ _ (fun _ => (by repeat (with_reducible first | exact Within.refl _ | assumption | refine Within.alloc ?_ _ | refine Within.drew ?_ | refine Within.drewN ?_ _ | refine Within.setCell ?_ (by first | (simp; done) | (simp; omega)) _ | refine Within.trans ?_ (by assumption)))) ?_
    clear hK K
    try simp only [Act.put, List.setIfInBounds_toArray, List.set_cons_zero, List.set_cons_succ]
    apply sch_firm rfl rfl (by repeat (with_reducible first | exact Within.refl _ | assumption | refine Within.alloc ?_ _ | refine Within.drew ?_ | refine Within.drewN ?_ _ | refine Within.setCell ?_ (by first | (simp; done) | (simp; omega)) _ | refine Within.trans ?_ (by assumption)))
    · intro wq hq
      have hcq := hq.cells
      clear hq
      go_simp
      rfl
    try simp only [Act.put, List.setIfInBounds_toArray, List.set_cons_zero, List.set_cons_succ]
    apply sch_want rfl (by first | rfl | decide | (simp [Region.wanted, yielded]; done)) (by repeat (with_reducible first | exact Within.refl _ | assumption | refine Within.alloc ?_ _ | refine Within.drew ?_ | refine Within.drewN ?_ _ | refine Within.setCell ?_ (by first | (simp; done) | (simp; omega)) _ | refine Within.trans ?_ (by assumption)))
    · intro wq hq
      have hcq := hq.cells
      clear hq
      go_simp
      rfl
    try simp only [Act.put, List.setIfInBounds_toArray, List.set_cons_zero, List.set_cons_succ]
    refine sch_one_want rfl (by first | rfl | decide | (simp [Region.wanted, yielded]; done)) (fun K hK => ?_)
    go_simp
    refine (Riszero_zero 0 E2 (M2 : Int) b2 g2 rfl hm2 _ (by exact hJ2')).mono ?_; rintro e9 w9 ⟨rfl, hv9'⟩
    have hv9 := hv8.trans hv9'
    refine hK _ _ (fun _ => (by repeat (with_reducible first | exact Within.refl _ | assumption | refine Within.alloc ?_ _ | refine Within.drew ?_ | refine Within.drewN ?_ _ | refine Within.setCell ?_ (by first | (simp; done) | (simp; omega)) _ | refine Within.trans ?_ (by assumption)))) ?_
    clear hK K
    try simp only [Act.put, List.setIfInBounds_toArray, List.set_cons_zero, List.set_cons_succ]
    iterate 2
      apply sch_firm rfl rfl (by repeat (with_reducible first | exact Within.refl _ | assumption | refine Within.alloc ?_ _ | refine Within.drew ?_ | refine Within.drewN ?_ _ | refine Within.setCell ?_ (by first | (simp; done) | (simp; omega)) _ | refine Within.trans ?_ (by assumption)))
      · intro wq hq
        have hcq := hq.cells
        clear hq
        go_simp
        rfl
      try simp only [Act.put, List.setIfInBounds_toArray, List.set_cons_zero, List.set_cons_succ]
    iterate 5
      apply sch_want rfl (by first | rfl | decide | (simp [Region.wanted, yielded]; done)) (by repeat (with_reducible first | exact Within.refl _ | assumption | refine Within.alloc ?_ _ | refine Within.drew ?_ | refine Within.drewN ?_ _ | refine Within.setCell ?_ (by first | (simp; done) | (simp; omega)) _ | refine Within.trans ?_ (by assumption)))
      · intro wq hq
        have hcq := hq.cells
        clear hq
        go_simp
        rfl
      try simp only [Act.put, List.setIfInBounds_toArray, List.set_cons_zero, List.set_cons_succ]
    apply sch_firm rfl rfl (by repeat (with_reducible first | exact Within.refl _ | assumption | refine Within.alloc ?_ _ | refine Within.drew ?_ | refine Within.drewN ?_ _ | refine Within.setCell ?_ (by first | (simp; done) | (simp; omega)) _ | refine Within.trans ?_ (by assumption)))
    · intro wq hq
      have hcq := hq.cells
      clear hq
      go_simp
      rfl
    try simp only [Act.put, List.setIfInBounds_toArray, List.set_cons_zero, List.set_cons_succ]
    refine sch_one rfl rfl (fun K hK => ?_)
    go_simp
    refine (Rzero_two b1 mode _).mono ?_; rintro e10 w10 ⟨rfl, hv10'⟩
    have hv10 := hv9.trans hv10'
    refine hK _ _ (fun _ => (by repeat (with_reducible first | exact Within.refl _ | assumption | refine Within.alloc ?_ _ | refine Within.drew ?_ | refine Within.drewN ?_ _ | refine Within.setCell ?_ (by first | (simp; done) | (simp; omega)) _ | refine Within.trans ?_ (by assumption)))) ?_
    clear hK K
    try simp only [Act.put, List.setIfInBounds_toArray, List.set_cons_zero, List.set_cons_succ]
    apply sch_firm rfl rfl (by repeat (with_reducible first | exact Within.refl _ | assumption | refine Within.alloc ?_ _ | refine Within.drew ?_ | refine Within.drewN ?_ _ | refine Within.setCell ?_ (by first | (simp; done) | (simp; omega)) _ | refine Within.trans ?_ (by assumption)))
    · intro wq hq
      have hcq := hq.cells
      clear hq
      go_simp
      rfl
    try simp only [Act.put, List.setIfInBounds_toArray, List.set_cons_zero, List.set_cons_succ]
    refine sch_one rfl rfl (fun K hK => ?_)
    go_simp
    refine hK _ _ (fun h => absurd h (by decide)) ?_
    clear hK K
    try simp only [Act.put, List.setIfInBounds_toArray, List.set_cons_zero, List.set_cons_succ]
    refine sch_nil ?_
    have hw10 := hww.trans hv10
    go_wp2
    go_ret2
    exact ⟨rfl, hw10⟩
theorem infS_is (b : Bool) : infS b = 2139095040 + nghtS b := rfl
theorem Radd (k1 k2 E1 E2 mode : Int) (b1 b2 : Bool) (g1 g2 M1 M2 : Nat) (hk1 : k1 = 0 ∨ k1 = 1 ∨ k1 = 2) (hk2 : k2 = 0 ∨ k2 = 1 ∨ k2 = 2) (h1 : -5000 ≤ E1 ∧ E1 ≤ 5000) (h2 : -5000 ≤ E2 ∧ E2 ≤ 5000) (l1 : (dg M1).length ≤ 400) (l2 : (dg M2).length ≤ 400) (w : World) (hI1 : IntB w g1 (M1 : Int)) (hI2 : IntB w g2 (M2 : Int)) : Calls Tryz.prog 67 #[fmS, .agg #[.int .i64 k1, .bool b1, .pointer (some ⟨g1, 0, none⟩), .int .i64 E1], .agg #[.int .i64 k2, .bool b2, .pointer (some ⟨g2, 0, none⟩), .int .i64 E2], .int .i64 mode] w (fun e' w' => e' = .returned (.tuple #[.int .u64 ((addRW k1 b1 M1 E1 k2 b2 M2 E2 mode : Nat)), .int .i64 (addRF k1 b1 M1 E1 k2 b2 M2 E2 mode)]) ∧ Within w w') := by
  unfold addRW addRF
  by_cases n : k1 = 2 ∨ k2 = 2
  · rw [if_pos n, if_pos n]
    by_cases n1 : k1 = 2
    · subst n1; exact Radd_nan1 E1 E2 mode b1 b2 g1 g2 k2 w
    · have n2 : k2 = 2 := n.resolve_left n1
      subst n2; exact Radd_nan2 E1 E2 mode b1 b2 g1 g2 k1 (beq_eq_false_iff_ne.2 n1) w
  have n1 : k1 ≠ 2 := fun h => n (.inl h)
  have n2 : k2 ≠ 2 := fun h => n (.inr h)
  rw [if_neg n, if_neg n]
  by_cases i : k1 = 1 ∧ k2 = 1 ∧ b1 ≠ b2
  · rw [if_pos i, if_pos i]
    obtain ⟨rfl, rfl, h⟩ := i
    exact Radd_inv E1 E2 mode b1 b2 g1 g2 (beq_eq_false_iff_ne.2 h) w
  rw [if_neg i, if_neg i]
  by_cases i1 : k1 = 1
  · rw [if_pos i1, if_pos i1, infS_is]
    subst i1
    refine Radd_inf1 E1 E2 mode b1 b2 g1 g2 k2 (beq_eq_false_iff_ne.2 n2) ?_ w
    by_cases h : k2 = 1
    · by_cases hb : b1 = b2
      · subst hb; simp
      · exact absurd ⟨rfl, h, hb⟩ i
    · rw [beq_eq_false_iff_ne.2 h, Bool.false_and]
  rw [if_neg i1, if_neg i1]
  by_cases i2 : k2 = 1
  · rw [if_pos i2, if_pos i2, infS_is]
    subst i2
    exact Radd_inf2 E1 E2 mode b1 b2 g1 g2 k1 (beq_eq_false_iff_ne.2 n1) (beq_eq_false_iff_ne.2 i1) w
  rw [if_neg i2, if_neg i2]
  have z1 : k1 = 0 := by rcases hk1 with h | h | h; exact h; exact absurd h i1; exact absurd h n1
  have z2 : k2 = 0 := by rcases hk2 with h | h | h; exact h; exact absurd h i2; exact absurd h n2
  subst z1 z2
  obtain ⟨e, he⟩ : ∃ e, min E1 E2 = e := ⟨_, rfl⟩
  rw [he]
  obtain ⟨v1, hv1⟩ : ∃ v1, v1 = sgI b1 M1 (E1 - e).toNat := ⟨_, rfl⟩
  obtain ⟨v2, hv2⟩ : ∃ v2, v2 = sgI b2 M2 (E2 - e).toNat := ⟨_, rfl⟩
  obtain ⟨v, hv⟩ : ∃ v, v1 + v2 = v := ⟨_, rfl⟩
  have j1 : (dg v1.natAbs).length ≤ 713 := by rw [hv1, sgI_abs']; exact Nat.le_trans (dg_shl_le (k := 313) l1 (by omega)) (by omega)
  have j2 : (dg v2.natAbs).length ≤ 713 := by rw [hv2, sgI_abs']; exact Nat.le_trans (dg_shl_le (k := 313) l2 (by omega)) (by omega)
  have j3 : (dg v.natAbs).length ≤ 714 := hv ▸ dg_sum_len j1 j2
  have SG1 := Lib.hid fun (w : World) (hI : IntB w g1 (M1 : Int)) => Rsigned 0 E1 e b1 g1 M1 (E1 - e).toNat (by omega) (by omega) (Nat.le_trans l1 (by decide)) w hI
  have SG2 := Lib.hid fun (w : World) (hI : IntB w g2 (M2 : Int)) => Rsigned 0 E2 e b2 g2 M2 (E2 - e).toNat (by omega) (by omega) (Nat.le_trans l2 (by decide)) w hI
  rw [← hv1] at SG1 ⊢
  rw [← hv2] at SG2 ⊢
  rw [hv]
  have q1 : (dg v1.natAbs).length ≤ 1400 := Nat.le_trans j1 (by decide)
  have q2 : (dg v2.natAbs).length ≤ 1400 := Nat.le_trans j2 (by decide)
  have q3 : (dg v.natAbs).length ≤ 900 := Nat.le_trans j3 (by decide)
  by_cases h0 : v = 0
  · rw [if_pos h0, if_pos h0]
    by_cases m1 : M1 = 0
    · have m2 : M2 = 0 := by
        have e1 : v1 = 0 := by have := sgI_abs' b1 M1 (E1 - e).toNat; rw [← hv1, m1, Nat.zero_mul] at this; omega
        have e2 : v2.natAbs = 0 := by omega
        rw [hv2, sgI_abs'] at e2
        rcases Nat.mul_eq_zero.1 e2 with h | h
        · exact h
        · exact absurd h (Nat.ne_of_gt (Nat.two_pow_pos _))
      by_cases hb : b1 = b2
      · rw [if_pos ⟨m1, m2, hb⟩]
        exact Radd_zero_z E1 E2 mode b1 b2 g1 g2 e v1 v2 v M1 M2 he hv q1 q2 q3 SG1 SG2 h0 (by omega) (by omega) (by rw [beq_iff_eq]; exact hb) w hI1 hI2
      · rw [if_neg (fun h => hb h.2.2)]
        exact Radd_zero_y E1 E2 mode b1 b2 g1 g2 e v1 v2 v M1 M2 he hv q1 q2 q3 SG1 SG2 h0 (by omega) (by omega) (beq_eq_false_iff_ne.2 hb) w hI1 hI2
    · rw [if_neg (fun h => m1 h.1)]
      exact Radd_zero_n E1 E2 mode b1 b2 g1 g2 e v1 v2 v M1 M2 he hv q1 q2 q3 SG1 SG2 h0 (by omega) w hI1 hI2
  · rw [if_neg h0, if_neg h0]
    exact Radd_sum E1 E2 mode b1 b2 g1 g2 e v1 v2 v M1 M2 he hv q1 q2 q3 SG1 SG2 h0 (by omega) w hI1 hI2
end Go.Proofs.YtifgngmebnjfkaaGreatDoor
end

section
namespace Go.Proofs.YtifgngmebnjfkaaGreatDoor
open Go.RowKit
def Bx1 (w W : World) (k1 : Int) (b1 : Bool) (g1 : Nat) (E1 : Int) : Prop := W.cell? ⟨w.heap.size, 0, none⟩ = some (.int .i64 24) ∧ W.cell? ⟨w.heap.size, 1, none⟩ = some (.int .i64 (-126)) ∧ W.cell? ⟨w.heap.size, 2, none⟩ = some (.int .i64 127) ∧ W.cell? ⟨w.heap.size, 3, none⟩ = some (.int .i64 8) ∧ W.cell? ⟨w.heap.size + 1, 0, none⟩ = some (.int .i64 k1) ∧ W.cell? ⟨w.heap.size + 1, 1, none⟩ = some (.bool b1) ∧ W.cell? ⟨w.heap.size + 1, 2, none⟩ = some (.pointer (some ⟨g1, 0, none⟩)) ∧ W.cell? ⟨w.heap.size + 1, 3, none⟩ = some (.int .i64 E1) ∧ w.heap.size < W.heap.size ∧ w.heap.size + 1 < W.heap.size
theorem Bx1.mk {w W : World} {k1 : Int} {b1 : Bool} {g1 : Nat} {E1 : Int} (h : Within ((w.alloc (.cells #[.int .i64 24, .int .i64 (-126), .int .i64 127, .int .i64 8] 60)).alloc (.cells #[.int .i64 k1, .bool b1, .pointer (some ⟨g1, 0, none⟩), .int .i64 E1] 65)) W) : Bx1 w W k1 b1 g1 E1 :=
  ⟨(h.cells _ _ (by first | (simp; done) | (simp; omega))).trans (by go_simp), (h.cells _ _ (by first | (simp; done) | (simp; omega))).trans (by go_simp), (h.cells _ _ (by first | (simp; done) | (simp; omega))).trans (by go_simp), (h.cells _ _ (by first | (simp; done) | (simp; omega))).trans (by go_simp), (h.cells _ _ (by first | (simp; done) | (simp; omega))).trans (by go_simp), (h.cells _ _ (by first | (simp; done) | (simp; omega))).trans (by go_simp), (h.cells _ _ (by first | (simp; done) | (simp; omega))).trans (by go_simp), (h.cells _ _ (by first | (simp; done) | (simp; omega))).trans (by go_simp), Nat.lt_of_lt_of_le (by first | (simp; done) | (simp; omega)) h.sizes, Nat.lt_of_lt_of_le (by first | (simp; done) | (simp; omega)) h.sizes⟩
theorem Bx1.of {w W : World} {k1 : Int} {b1 : Bool} {g1 : Nat} {E1 : Int} {W' : World} (h : Bx1 w W k1 b1 g1 E1) (k : Within W W') : Bx1 w W' k1 b1 g1 E1 := by
  obtain ⟨q0, q1, q2, q3, q4, q5, q6, q7, z0, z1⟩ := h
  exact ⟨(k.cells _ _ z0).trans q0, (k.cells _ _ z0).trans q1, (k.cells _ _ z0).trans q2, (k.cells _ _ z0).trans q3, (k.cells _ _ z1).trans q4, (k.cells _ _ z1).trans q5, (k.cells _ _ z1).trans q6, (k.cells _ _ z1).trans q7, Nat.lt_of_lt_of_le z0 k.sizes, Nat.lt_of_lt_of_le z1 k.sizes⟩
set_option maxRecDepth 100000 in
set_option maxHeartbeats 600000 in
theorem Rroot_nan (E1 mode : Int) (b1 : Bool) (g1 : Nat) (w : World) : Calls Tryz.prog 75 #[fmS, .agg #[.int .i64 2, .bool b1, .pointer (some ⟨g1, 0, none⟩), .int .i64 E1], .int .i64 mode] w (fun e' w' => e' = .returned (.tuple #[.int .u64 (2143289344), .int .i64 0]) ∧ Within w w') := by
  go_enter Tryz.func75, Tryz.ntmps75
  go_wp2_with fail
  refine (RnoneS _).mono ?_; rintro e1 w1 ⟨rfl, hb1⟩
  go_wp2
  go_ret2
  exact ⟨rfl, (by repeat (with_reducible first | exact Within.refl _ | assumption | refine Within.alloc ?_ _ | refine Within.drew ?_ | refine Within.drewN ?_ _ | refine Within.setCell ?_ (by first | (simp; done) | (simp; omega)) _ | refine Within.trans ?_ (by assumption)))⟩
set_option maxRecDepth 100000 in
set_option maxHeartbeats 600000 in
theorem Rroot_zero (E1 mode : Int) (b1 : Bool) (g1 : Nat) (M1 : Nat) (hm1 : (M1 : Int) = 0) (w : World) (hI1 : IntB w g1 (M1 : Int)) : Calls Tryz.prog 75 #[fmS, .agg #[.int .i64 0, .bool b1, .pointer (some ⟨g1, 0, none⟩), .int .i64 E1], .int .i64 mode] w (fun e' w' => e' = .returned (.tuple #[.int .u64 ((nghtS b1 : Nat)), .int .i64 0]) ∧ Within w w') := by
  go_enter Tryz.func75, Tryz.ntmps75
  go_wp2_with fail
  refine (Riszero_zero 0 E1 (M1 : Int) b1 g1 rfl hm1 _ (by repeat (with_reducible first | assumption | exact ib_new _ _ (by simp; done) | refine IntB.alloc ?_ _ | refine IntB.drew ?_ | refine IntB.drewN ?_ _))).mono ?_; rintro e1 w1 ⟨rfl, hb1⟩
  have B1 := Lib.hid (Bx1.mk hb1)
  obtain ⟨q1_0, q1_1, q1_2, q1_3, q1_4, q1_5, q1_6, q1_7, z1_0, z1_1⟩ := B1.out
  go_wp2_with fail
  refine (RnoughtS b1 _).mono ?_; rintro e2 w2 ⟨rfl, hb2⟩
  go_wp2
  go_ret2
  exact ⟨rfl, (by repeat (with_reducible first | exact Within.refl _ | assumption | refine Within.alloc ?_ _ | refine Within.drew ?_ | refine Within.drewN ?_ _ | refine Within.setCell ?_ (by first | (simp; done) | (simp; omega)) _ | refine Within.trans ?_ (by assumption)))⟩
set_option maxRecDepth 100000 in
set_option maxHeartbeats 600000 in
theorem Rroot_neg1 (E1 mode : Int) (b1 : Bool) (g1 : Nat) (M1 : Nat) (w : World) (hI1 : IntB w g1 (M1 : Int)) : Calls Tryz.prog 75 #[fmS, .agg #[.int .i64 1, .bool true, .pointer (some ⟨g1, 0, none⟩), .int .i64 E1], .int .i64 mode] w (fun e' w' => e' = .returned (.tuple #[.int .u64 (2143289344), .int .i64 8]) ∧ Within w w') := by
  go_enter Tryz.func75, Tryz.ntmps75
  go_wp2_with fail
  refine (Riszero_no 1 E1 (M1 : Int) true g1 rfl _ (by repeat (with_reducible first | assumption | exact ib_new _ _ (by simp; done) | refine IntB.alloc ?_ _ | refine IntB.drew ?_ | refine IntB.drewN ?_ _))).mono ?_; rintro e1 w1 ⟨rfl, hb1⟩
  have B1 := Lib.hid (Bx1.mk hb1)
  obtain ⟨q1_0, q1_1, q1_2, q1_3, q1_4, q1_5, q1_6, q1_7, z1_0, z1_1⟩ := B1.out
  go_wp2_with fail
  refine (RnoneS _).mono ?_; rintro e2 w2 ⟨rfl, hb2⟩
  go_wp2
  go_ret2
  exact ⟨rfl, (by repeat (with_reducible first | exact Within.refl _ | assumption | refine Within.alloc ?_ _ | refine Within.drew ?_ | refine Within.drewN ?_ _ | refine Within.setCell ?_ (by first | (simp; done) | (simp; omega)) _ | refine Within.trans ?_ (by assumption)))⟩
set_option maxRecDepth 100000 in
set_option maxHeartbeats 600000 in
theorem Rroot_neg0 (E1 mode : Int) (b1 : Bool) (g1 : Nat) (M1 : Nat) (hm1 : (M1 : Int) ≠ 0) (w : World) (hI1 : IntB w g1 (M1 : Int)) : Calls Tryz.prog 75 #[fmS, .agg #[.int .i64 0, .bool true, .pointer (some ⟨g1, 0, none⟩), .int .i64 E1], .int .i64 mode] w (fun e' w' => e' = .returned (.tuple #[.int .u64 (2143289344), .int .i64 8]) ∧ Within w w') := by
  go_enter Tryz.func75, Tryz.ntmps75
  go_wp2_with fail
  refine (Riszero_some 0 E1 (M1 : Int) true g1 rfl hm1 _ (by repeat (with_reducible first | assumption | exact ib_new _ _ (by simp; done) | refine IntB.alloc ?_ _ | refine IntB.drew ?_ | refine IntB.drewN ?_ _))).mono ?_; rintro e1 w1 ⟨rfl, hb1⟩
  have B1 := Lib.hid (Bx1.mk hb1)
  obtain ⟨q1_0, q1_1, q1_2, q1_3, q1_4, q1_5, q1_6, q1_7, z1_0, z1_1⟩ := B1.out
  go_wp2_with fail
  refine (RnoneS _).mono ?_; rintro e2 w2 ⟨rfl, hb2⟩
  go_wp2
  go_ret2
  exact ⟨rfl, (by repeat (with_reducible first | exact Within.refl _ | assumption | refine Within.alloc ?_ _ | refine Within.drew ?_ | refine Within.drewN ?_ _ | refine Within.setCell ?_ (by first | (simp; done) | (simp; omega)) _ | refine Within.trans ?_ (by assumption)))⟩
set_option maxRecDepth 100000 in
set_option maxHeartbeats 600000 in
theorem Rroot_inf (E1 mode : Int) (b1 : Bool) (g1 : Nat) (M1 : Nat) (w : World) (hI1 : IntB w g1 (M1 : Int)) : Calls Tryz.prog 75 #[fmS, .agg #[.int .i64 1, .bool false, .pointer (some ⟨g1, 0, none⟩), .int .i64 E1], .int .i64 mode] w (fun e' w' => e' = .returned (.tuple #[.int .u64 ((2139095040 + nghtS false : Nat)), .int .i64 0]) ∧ Within w w') := by
  go_enter Tryz.func75, Tryz.ntmps75
  go_wp2_with fail
  refine (Riszero_no 1 E1 (M1 : Int) false g1 rfl _ (by repeat (with_reducible first | assumption | exact ib_new _ _ (by simp; done) | refine IntB.alloc ?_ _ | refine IntB.drew ?_ | refine IntB.drewN ?_ _))).mono ?_; rintro e1 w1 ⟨rfl, hb1⟩
  have B1 := Lib.hid (Bx1.mk hb1)
  obtain ⟨q1_0, q1_1, q1_2, q1_3, q1_4, q1_5, q1_6, q1_7, z1_0, z1_1⟩ := B1.out
  go_wp2_with fail
  refine (RinfinityS false _).mono ?_; rintro e2 w2 ⟨rfl, hb2⟩
  go_wp2
  go_ret2
  exact ⟨rfl, (by repeat (with_reducible first | exact Within.refl _ | assumption | refine Within.alloc ?_ _ | refine Within.drew ?_ | refine Within.drewN ?_ _ | refine Within.setCell ?_ (by first | (simp; done) | (simp; omega)) _ | refine Within.trans ?_ (by assumption)))⟩
theorem BsqrtI (z x n : Nat) (hn : (dg n).length ≤ 100000) (w : World) (hz : IntTy w z) (hx : IntB w x (n : Int)) : Calls Tryz.prog 113 #[.pointer (some ⟨z, 0, none⟩), .pointer (some ⟨x, 0, none⟩)] w (PutI w z (isq n : Int)) :=
  (Bsqrt z x n hn w hz hx).mono fun e w' h => by
    obtain ⟨r, hr, hp⟩ := h
    rw [(isq_is n).uniq hr]; exact hp
theorem cmp_self (a b : Nat) : (cmpI (a : Int) (b : Int) != 0) = (a != b) := by
  rw [Bool.eq_iff_iff, bne_iff_ne, bne_iff_ne]
  unfold cmpI
  repeat' split
  all_goals omega
set_option maxRecDepth 100000 in
set_option maxHeartbeats 600000 in
theorem Rroot_main280 (E1 mode : Int) (b1 : Bool) (g1 : Nat) (M1 S : Nat) (h_ : Int) (hS : S = 280) (h1 : -5000 ≤ E1 ∧ E1 ≤ 5000) (hh : E1 - 280 = 2 * h_) (l1 : (dg M1).length ≤ 400) (hq : isq (M1 * 2 ^ S) ≠ 0) (hm1 : (M1 : Int) ≠ 0) (w : World) (hI1 : IntB w g1 (M1 : Int)) : Calls Tryz.prog 75 #[fmS, .agg #[.int .i64 0, .bool false, .pointer (some ⟨g1, 0, none⟩), .int .i64 E1], .int .i64 mode] w (fun e' w' => e' = .returned (.tuple #[.int .u64 ((gWord 24 (-149) 127 2139095039 2139095040 8388608 2147483648 false (isq (M1 * 2 ^ S)) h_ (isq (M1 * 2 ^ S) * isq (M1 * 2 ^ S) != M1 * 2 ^ S) mode : Nat)), .int .i64 (gFlags 24 (-149) 127 false (isq (M1 * 2 ^ S)) h_ (isq (M1 * 2 ^ S) * isq (M1 * 2 ^ S) != M1 * 2 ^ S) mode)]) ∧ Within w w') := by
  have hS' : (S : Int) = 280 := by rw [hS]; rfl
  obtain ⟨V, hV⟩ : ∃ V, V = M1 * 2 ^ S := ⟨_, rfl⟩
  have hVi : (M1 : Int) * 2 ^ S = (V : Int) := by rw [hV]; simp
  have hVl : (dg V).length ≤ 410 := by rw [hV]; exact dg_shl_le (k := 10) l1 (by omega)
  have BL := Lib.hid (fun (z : Nat) (w : World) (hz : IntTy w z) (hx : IntB w g1 (M1 : Int)) => Blsh z g1 S (M1 : Int) (by rw [Int.natAbs_natCast]; omega) (by omega) w hz hx)
  rw [hVi, hS'] at BL
  rw [← hV] at hq ⊢
  have hql : (dg (isq V)).length ≤ 900 := Nat.le_trans (dg_len_mono (Nat.le_trans (Nat.le_mul_self _) (isq_is V).1)) (by omega)
  have BS := Lib.hid (fun (z x : Nat) (w : World) (hz : IntTy w z) (hx : IntB w x (V : Int)) => BsqrtI z x V (by omega) w hz hx)
  obtain ⟨Q, hQe⟩ : ∃ Q, Q = isq V := ⟨_, rfl⟩
  rw [← hQe] at BS hql hq ⊢
  have hQQ : (Q : Int) * (Q : Int) = ((Q * Q : Nat) : Int) := by simp
  have BM := Lib.hid (fun (z x : Nat) (w : World) (hz : IntTy w z) (hx : IntB w x (Q : Int)) => Bmul z x x (Q : Int) (Q : Int) (by rw [Int.natAbs_natCast]; omega) (by rw [Int.natAbs_natCast]; omega) w hz hx hx)
  rw [hQQ] at BM
  have hqq : (dg (Q * Q)).length ≤ 1800 := Nat.le_trans (dg_mul_len hql hql) (by omega)
  obtain ⟨QQ, hQQe⟩ : ∃ q, q = Q * Q := ⟨_, rfl⟩
  rw [← hQQe] at BM hqq ⊢
  have BC := Lib.hid (fun (x y : Nat) (w : World) (hx : IntB w x (QQ : Int)) (hy : IntB w y (V : Int)) => Bcmp x y (QQ : Int) (V : Int) (by rw [Int.natAbs_natCast]; omega) (by rw [Int.natAbs_natCast]; omega) w hx hy)
  have dmore := cmp_self QQ V
  obtain ⟨mr, hmr⟩ : ∃ b, b = (QQ != V) := ⟨_, rfl⟩
  rw [← hmr] at dmore ⊢
  have RR := Lib.hid (fun (z : Nat) (w : World) (hI : IntB w z (Q : Int)) => RroundS false mr z Q h_ mode (by omega) hql hq w hI)
  obtain ⟨cc, hcc⟩ : ∃ c, c = cmpI (QQ : Int) (V : Int) := ⟨_, rfl⟩
  rw [← hcc] at BC dmore
  have wE : IntKind.i64.wrap (E1 - 280) = E1 - 280 := IntWalk.i64_in _ ⟨by omega, by omega⟩
  have wE' : IntKind.i64.wrap (E1 - 281) = E1 - 281 := IntWalk.i64_in _ ⟨by omega, by omega⟩
  have wh : IntKind.i64.wrap h_ = h_ := IntWalk.i64_in _ ⟨by omega, by omega⟩
  have tq : Int.tdiv (E1 - 280) 2 = h_ := by rw [show E1 - 280 = 2 * h_ by omega]; exact Int.mul_tdiv_cancel_left _ (by decide)
  have tm : Int.tmod (E1 - 280) 2 = 0 := by rw [show E1 - 280 = 2 * h_ by omega]; exact Int.mul_tmod_right _ _
  generalize gWord 24 (-149) 127 2139095039 2139095040 8388608 2147483648 false Q h_ mr mode = WW at *
  generalize gFlags 24 (-149) 127 false Q h_ mr mode = FF at *
  clear hV hVi hVl hql hq hQe hQQ hqq hQQe hmr hcc hS hS' l1 h1 hh
  go_enter Tryz.func75, Tryz.ntmps75
  go_wp2_with fail
  refine (Riszero_some 0 E1 (M1 : Int) false g1 rfl hm1 _ (by repeat (with_reducible first | assumption | exact ib_new _ _ (by simp; done) | refine IntB.alloc ?_ _ | refine IntB.drew ?_ | refine IntB.drewN ?_ _))).mono ?_; rintro e1 w1 ⟨rfl, hb1⟩
  have hI1 : IntB w1 g1 (M1 : Int) := IntB.of (by repeat (with_reducible first | assumption | exact ib_new _ _ (by simp; done) | refine IntB.alloc ?_ _ | refine IntB.drew ?_ | refine IntB.drewN ?_ _)) hb1
  have B1 := Lib.hid (Bx1.mk hb1)
  obtain ⟨q1_0, q1_1, q1_2, q1_3, q1_4, q1_5, q1_6, q1_7, z1_0, z1_1⟩ := B1.out
  go_wp2_with fail
  refine (BL.out _ _ (by repeat (with_reducible first | assumption | exact ty_new _ _ _ _ (by simp; done) | refine ty_drew ?_ | refine ty_alloc ?_ _)) (hI1.of ((Within.refl w1).alloc _))).mono ?_; rintro e2 w2 ⟨rfl, hA2, hG2⟩
  have hb2 : Within w1 w2 := Within.grown ((Within.refl w1).alloc _) hG2 (Nat.le_refl _)
  have B2 := Lib.hid (B1.out.of hb2)
  obtain ⟨q2_0, q2_1, q2_2, q2_3, q2_4, q2_5, q2_6, q2_7, z2_0, z2_1⟩ := B2.out
  go_wp2_with fail
  refine (BS.out _ _ _ (by repeat (with_reducible first | assumption | exact ty_new _ _ _ _ (by simp; done) | refine ty_drew ?_ | refine ty_alloc ?_ _)) (hA2.of ((Within.refl w2).alloc _))).mono ?_; rintro e3 w3 ⟨rfl, hA3, hG3⟩
  have hb3 : Within w2 w3 := Within.grown ((Within.refl w2).alloc _) hG3 (Nat.le_refl _)
  have B3 := Lib.hid (B2.out.of hb3)
  obtain ⟨q3_0, q3_1, q3_2, q3_3, q3_4, q3_5, q3_6, q3_7, z3_0, z3_1⟩ := B3.out
  have hA2 := hA2.of hb3
  go_wp2_with fail
  refine (BM.out _ _ _ (by repeat (with_reducible first | assumption | exact ty_new _ _ _ _ (by simp; done) | refine ty_drew ?_ | refine ty_alloc ?_ _)) (hA3.of ((Within.refl w3).alloc _))).mono ?_; rintro e4 w4 ⟨rfl, hA4, hG4⟩
  have hb4 : Within w3 w4 := Within.grown ((Within.refl w3).alloc _) hG4 (Nat.le_refl _)
  have B4 := Lib.hid (B3.out.of hb4)
  obtain ⟨q4_0, q4_1, q4_2, q4_3, q4_4, q4_5, q4_6, q4_7, z4_0, z4_1⟩ := B4.out
  have hA2 := hA2.of hb4
  have hA3 := hA3.of hb4
  go_wp2_with fail
  refine (BC.out _ _ _ hA4 hA2).mono ?_; rintro e5 w5 ⟨rfl, hb5⟩
  have B5 := Lib.hid (B4.out.of hb5)
  obtain ⟨q5_0, q5_1, q5_2, q5_3, q5_4, q5_5, q5_6, q5_7, z5_0, z5_1⟩ := B5.out
  have hA3 := hA3.of hb5
  go_wp2_with fail
  refine (RR.out _ _ hA3).mono ?_; rintro e6 w6 ⟨rfl, hb6⟩
  have hz := Within.trans (Within.trans (Within.trans (Within.trans (Within.trans (Within.trans (((Within.refl w).alloc _).alloc _) hb1) hb2) hb3) hb4) hb5) hb6
  go_wp2
  go_ret2
  exact ⟨rfl, hz⟩
set_option maxRecDepth 100000 in
set_option maxHeartbeats 600000 in
theorem Rroot_main281 (E1 mode : Int) (b1 : Bool) (g1 : Nat) (M1 S : Nat) (h_ : Int) (hS : S = 281) (h1 : -5000 ≤ E1 ∧ E1 ≤ 5000) (hh : E1 - 281 = 2 * h_) (l1 : (dg M1).length ≤ 400) (hq : isq (M1 * 2 ^ S) ≠ 0) (hm1 : (M1 : Int) ≠ 0) (w : World) (hI1 : IntB w g1 (M1 : Int)) : Calls Tryz.prog 75 #[fmS, .agg #[.int .i64 0, .bool false, .pointer (some ⟨g1, 0, none⟩), .int .i64 E1], .int .i64 mode] w (fun e' w' => e' = .returned (.tuple #[.int .u64 ((gWord 24 (-149) 127 2139095039 2139095040 8388608 2147483648 false (isq (M1 * 2 ^ S)) h_ (isq (M1 * 2 ^ S) * isq (M1 * 2 ^ S) != M1 * 2 ^ S) mode : Nat)), .int .i64 (gFlags 24 (-149) 127 false (isq (M1 * 2 ^ S)) h_ (isq (M1 * 2 ^ S) * isq (M1 * 2 ^ S) != M1 * 2 ^ S) mode)]) ∧ Within w w') := by
  have hS' : (S : Int) = 281 := by rw [hS]; rfl
  obtain ⟨V, hV⟩ : ∃ V, V = M1 * 2 ^ S := ⟨_, rfl⟩
  have hVi : (M1 : Int) * 2 ^ S = (V : Int) := by rw [hV]; simp
  have hVl : (dg V).length ≤ 410 := by rw [hV]; exact dg_shl_le (k := 10) l1 (by omega)
  have BL := Lib.hid (fun (z : Nat) (w : World) (hz : IntTy w z) (hx : IntB w g1 (M1 : Int)) => Blsh z g1 S (M1 : Int) (by rw [Int.natAbs_natCast]; omega) (by omega) w hz hx)
  rw [hVi, hS'] at BL
  rw [← hV] at hq ⊢
  have hql : (dg (isq V)).length ≤ 900 := Nat.le_trans (dg_len_mono (Nat.le_trans (Nat.le_mul_self _) (isq_is V).1)) (by omega)
  have BS := Lib.hid (fun (z x : Nat) (w : World) (hz : IntTy w z) (hx : IntB w x (V : Int)) => BsqrtI z x V (by omega) w hz hx)
  obtain ⟨Q, hQe⟩ : ∃ Q, Q = isq V := ⟨_, rfl⟩
  rw [← hQe] at BS hql hq ⊢
  have hQQ : (Q : Int) * (Q : Int) = ((Q * Q : Nat) : Int) := by simp
  have BM := Lib.hid (fun (z x : Nat) (w : World) (hz : IntTy w z) (hx : IntB w x (Q : Int)) => Bmul z x x (Q : Int) (Q : Int) (by rw [Int.natAbs_natCast]; omega) (by rw [Int.natAbs_natCast]; omega) w hz hx hx)
  rw [hQQ] at BM
  have hqq : (dg (Q * Q)).length ≤ 1800 := Nat.le_trans (dg_mul_len hql hql) (by omega)
  obtain ⟨QQ, hQQe⟩ : ∃ q, q = Q * Q := ⟨_, rfl⟩
  rw [← hQQe] at BM hqq ⊢
  have BC := Lib.hid (fun (x y : Nat) (w : World) (hx : IntB w x (QQ : Int)) (hy : IntB w y (V : Int)) => Bcmp x y (QQ : Int) (V : Int) (by rw [Int.natAbs_natCast]; omega) (by rw [Int.natAbs_natCast]; omega) w hx hy)
  have dmore := cmp_self QQ V
  obtain ⟨mr, hmr⟩ : ∃ b, b = (QQ != V) := ⟨_, rfl⟩
  rw [← hmr] at dmore ⊢
  have RR := Lib.hid (fun (z : Nat) (w : World) (hI : IntB w z (Q : Int)) => RroundS false mr z Q h_ mode (by omega) hql hq w hI)
  obtain ⟨cc, hcc⟩ : ∃ c, c = cmpI (QQ : Int) (V : Int) := ⟨_, rfl⟩
  rw [← hcc] at BC dmore
  have wE : IntKind.i64.wrap (E1 - 280) = E1 - 280 := IntWalk.i64_in _ ⟨by omega, by omega⟩
  have wE' : IntKind.i64.wrap (E1 - 281) = E1 - 281 := IntWalk.i64_in _ ⟨by omega, by omega⟩
  have wh : IntKind.i64.wrap h_ = h_ := IntWalk.i64_in _ ⟨by omega, by omega⟩
  have tq : Int.tdiv (E1 - 281) 2 = h_ := by rw [show E1 - 281 = 2 * h_ by omega]; exact Int.mul_tdiv_cancel_left _ (by decide)
  have tm : (Int.tmod (E1 - 280) 2 != 0) = true := by rw [bne_iff_ne]; intro hc; have := Int.dvd_of_tmod_eq_zero hc; omega
  generalize gWord 24 (-149) 127 2139095039 2139095040 8388608 2147483648 false Q h_ mr mode = WW at *
  generalize gFlags 24 (-149) 127 false Q h_ mr mode = FF at *
  clear hV hVi hVl hql hq hQe hQQ hqq hQQe hmr hcc hS hS' l1 h1 hh
  go_enter Tryz.func75, Tryz.ntmps75
  go_wp2_with fail
  refine (Riszero_some 0 E1 (M1 : Int) false g1 rfl hm1 _ (by repeat (with_reducible first | assumption | exact ib_new _ _ (by simp; done) | refine IntB.alloc ?_ _ | refine IntB.drew ?_ | refine IntB.drewN ?_ _))).mono ?_; rintro e1 w1 ⟨rfl, hb1⟩
  have hI1 : IntB w1 g1 (M1 : Int) := IntB.of (by repeat (with_reducible first | assumption | exact ib_new _ _ (by simp; done) | refine IntB.alloc ?_ _ | refine IntB.drew ?_ | refine IntB.drewN ?_ _)) hb1
  have B1 := Lib.hid (Bx1.mk hb1)
  obtain ⟨q1_0, q1_1, q1_2, q1_3, q1_4, q1_5, q1_6, q1_7, z1_0, z1_1⟩ := B1.out
  go_wp2_with fail
  refine (BL.out _ _ (by repeat (with_reducible first | assumption | exact ty_new _ _ _ _ (by simp; done) | refine ty_drew ?_ | refine ty_alloc ?_ _)) (hI1.of ((Within.refl w1).alloc _))).mono ?_; rintro e2 w2 ⟨rfl, hA2, hG2⟩
  have hb2 : Within w1 w2 := Within.grown ((Within.refl w1).alloc _) hG2 (Nat.le_refl _)
  have B2 := Lib.hid (B1.out.of hb2)
  obtain ⟨q2_0, q2_1, q2_2, q2_3, q2_4, q2_5, q2_6, q2_7, z2_0, z2_1⟩ := B2.out
  go_wp2_with fail
  refine (BS.out _ _ _ (by repeat (with_reducible first | assumption | exact ty_new _ _ _ _ (by simp; done) | refine ty_drew ?_ | refine ty_alloc ?_ _)) (hA2.of ((Within.refl w2).alloc _))).mono ?_; rintro e3 w3 ⟨rfl, hA3, hG3⟩
  have hb3 : Within w2 w3 := Within.grown ((Within.refl w2).alloc _) hG3 (Nat.le_refl _)
  have B3 := Lib.hid (B2.out.of hb3)
  obtain ⟨q3_0, q3_1, q3_2, q3_3, q3_4, q3_5, q3_6, q3_7, z3_0, z3_1⟩ := B3.out
  have hA2 := hA2.of hb3
  go_wp2_with fail
  refine (BM.out _ _ _ (by repeat (with_reducible first | assumption | exact ty_new _ _ _ _ (by simp; done) | refine ty_drew ?_ | refine ty_alloc ?_ _)) (hA3.of ((Within.refl w3).alloc _))).mono ?_; rintro e4 w4 ⟨rfl, hA4, hG4⟩
  have hb4 : Within w3 w4 := Within.grown ((Within.refl w3).alloc _) hG4 (Nat.le_refl _)
  have B4 := Lib.hid (B3.out.of hb4)
  obtain ⟨q4_0, q4_1, q4_2, q4_3, q4_4, q4_5, q4_6, q4_7, z4_0, z4_1⟩ := B4.out
  have hA2 := hA2.of hb4
  have hA3 := hA3.of hb4
  go_wp2_with fail
  refine (BC.out _ _ _ hA4 hA2).mono ?_; rintro e5 w5 ⟨rfl, hb5⟩
  have B5 := Lib.hid (B4.out.of hb5)
  obtain ⟨q5_0, q5_1, q5_2, q5_3, q5_4, q5_5, q5_6, q5_7, z5_0, z5_1⟩ := B5.out
  have hA3 := hA3.of hb5
  go_wp2_with fail
  refine (RR.out _ _ hA3).mono ?_; rintro e6 w6 ⟨rfl, hb6⟩
  have hz := Within.trans (Within.trans (Within.trans (Within.trans (Within.trans (Within.trans (((Within.refl w).alloc _).alloc _) hb1) hb2) hb3) hb4) hb5) hb6
  go_wp2
  go_ret2
  exact ⟨rfl, hz⟩
end Go.Proofs.YtifgngmebnjfkaaGreatDoor
end

section
namespace Go.Proofs.YtifgngmebnjfkaaGreatDoor
open Go.RowKit
theorem RdivS (x y g1 g2 : Nat) (mode : Int) (w : World) (hI1 : IntB w g1 (mS x : Int)) (hI2 : IntB w g2 (mS y : Int)) : Calls Tryz.prog 73 #[fmS, .agg #[.int .i64 (kS x), .bool (nS x), .pointer (some ⟨g1, 0, none⟩), .int .i64 (eS x)], .agg #[.int .i64 (kS y), .bool (nS y), .pointer (some ⟨g2, 0, none⟩), .int .i64 (eS y)], .int .i64 mode] w (fun e' w' => e' = .returned (.tuple #[.int .u64 ((refDW x y mode : Nat)), .int .i64 (refDF x y mode)]) ∧ Within w w') := by
  unfold refDW refDF
  have mx := mS_lt x
  have my := mS_lt y
  have hf : ∀ {n : Nat}, n < 4294967296 → (dg n).length ≤ 400 := fun h => Nat.le_trans (dg_small (k := 1) h) (by decide)
  have ex : -5000 ≤ eS x ∧ eS x ≤ 5000 := by have := eS_range x; omega
  have ey : -5000 ≤ eS y ∧ eS y ≤ 5000 := by have := eS_range y; omega
  have nb : ∀ a b : Bool, (a != b) = !(a == b) := fun a b => by cases a <;> cases b <;> rfl
  have hX := kS_range x
  have hY := kS_range y
  by_cases n1 : kS x = 2
  · rw [if_pos (.inl n1), if_pos (.inl n1), n1]; exact Rdiv_nan1 (eS x) (eS y) mode (nS x) (nS y) g1 g2 (kS y) w
  by_cases n2 : kS y = 2
  · rw [if_pos (.inr n2), if_pos (.inr n2), n2]; exact Rdiv_nan2 (eS x) (eS y) mode (nS x) (nS y) g1 g2 (kS x) (beq_eq_false_iff_ne.2 n1) w
  have n : ¬ (kS x = 2 ∨ kS y = 2) := by omega
  rw [if_neg n, if_neg n]
  by_cases j1 : kS x = 1
  · by_cases j2 : kS y = 1
    · rw [if_pos (.inl ⟨j1, j2⟩), if_pos (.inl ⟨j1, j2⟩), j1, j2]; exact Rdiv_inv11 (eS x) (eS y) mode (nS x) (nS y) g1 g2 w
    · have j3 : kS y = 0 := by omega
      have i : ¬ ((kS x = 1 ∧ kS y = 1) ∨ ((kS x = 0 ∧ mS x = 0) ∧ (kS y = 0 ∧ mS y = 0))) := by omega
      rw [if_neg i, if_neg i, if_pos j1, if_pos j1, nb, j1, j3]
      exact Rdiv_inf10 (eS x) (eS y) mode (nS x) (nS y) g1 g2 (mS x) (mS y) w hI1 hI2
  have j3 : kS x = 0 := by omega
  by_cases zx : mS x = 0
  · by_cases j2 : kS y = 1
    · have i : ¬ ((kS x = 1 ∧ kS y = 1) ∨ ((kS x = 0 ∧ mS x = 0) ∧ (kS y = 0 ∧ mS y = 0))) := by omega
      have g : ¬ (kS y = 0 ∧ mS y = 0) := by omega
      rw [if_neg i, if_neg i, if_neg j1, if_neg j1, if_neg g, if_neg g, if_pos (.inl j2), if_pos (.inl j2), nb, j3, j2]
      exact Rdiv_zinf (eS x) (eS y) mode (nS x) (nS y) g1 g2 (mS x) (mS y) (by omega) w hI1 hI2
    · have j4 : kS y = 0 := by omega
      by_cases zy : mS y = 0
      · have i : (kS x = 1 ∧ kS y = 1) ∨ ((kS x = 0 ∧ mS x = 0) ∧ (kS y = 0 ∧ mS y = 0)) := .inr ⟨⟨j3, zx⟩, j4, zy⟩
        rw [if_pos i, if_pos i, j3, j4]
        exact Rdiv_inv00 (eS x) (eS y) mode (nS x) (nS y) g1 g2 (mS x) (mS y) (by omega) (by omega) w hI1 hI2
      · have i : ¬ ((kS x = 1 ∧ kS y = 1) ∨ ((kS x = 0 ∧ mS x = 0) ∧ (kS y = 0 ∧ mS y = 0))) := by omega
        have g : ¬ (kS y = 0 ∧ mS y = 0) := by omega
        rw [if_neg i, if_neg i, if_neg j1, if_neg j1, if_neg g, if_neg g, if_pos (.inr ⟨j3, zx⟩), if_pos (.inr ⟨j3, zx⟩), nb, j3, j4]
        exact Rdiv_zero (eS x) (eS y) mode (nS x) (nS y) g1 g2 (mS x) (mS y) (by omega) (by omega) w hI1 hI2
  have i : ¬ ((kS x = 1 ∧ kS y = 1) ∨ ((kS x = 0 ∧ mS x = 0) ∧ (kS y = 0 ∧ mS y = 0))) := by omega
  rw [if_neg i, if_neg i, if_neg j1, if_neg j1]
  by_cases j2 : kS y = 1
  · have g : ¬ (kS y = 0 ∧ mS y = 0) := by omega
    rw [if_neg g, if_neg g, if_pos (.inl j2), if_pos (.inl j2), nb, j3, j2]
    exact Rdiv_ninf (eS x) (eS y) mode (nS x) (nS y) g1 g2 (mS x) (mS y) (by omega) w hI1 hI2
  have j4 : kS y = 0 := by omega
  by_cases zy : mS y = 0
  · rw [if_pos ⟨j4, zy⟩, if_pos ⟨j4, zy⟩, nb, j3, j4]
    exact Rdiv_by0 (eS x) (eS y) mode (nS x) (nS y) g1 g2 (mS x) (mS y) (by omega) (by omega) w hI1 hI2
  have g : ¬ (kS y = 0 ∧ mS y = 0) := by omega
  have g3 : ¬ (kS y = 1 ∨ (kS x = 0 ∧ mS x = 0)) := by omega
  have hq : mS x * 2 ^ (140 : Nat) / mS y ≠ 0 := by
    have a2 : 1 * 2 ^ (140 : Nat) ≤ mS x * 2 ^ (140 : Nat) := Nat.mul_le_mul_right _ (by omega)
    have a3 : (16777216 : Nat) ≤ 1 * 2 ^ (140 : Nat) := by decide
    have := (Nat.le_div_iff_mul_le (show 0 < mS y by omega)).2 (show 1 * mS y ≤ mS x * 2 ^ (140 : Nat) by omega)
    omega
  rw [if_neg g, if_neg g, if_neg g3, if_neg g3, j3, j4]
  exact Rdiv_main (eS x) (eS y) mode (nS x) (nS y) g1 g2 (mS x) (mS y) ex ey (hf (by omega)) (hf (by omega)) zy hq (by omega) (by omega) w hI1 hI2
theorem RrootS (x g1 : Nat) (mode : Int) (w : World) (hI1 : IntB w g1 (mS x : Int)) : Calls Tryz.prog 75 #[fmS, .agg #[.int .i64 (kS x), .bool (nS x), .pointer (some ⟨g1, 0, none⟩), .int .i64 (eS x)], .int .i64 mode] w (fun e' w' => e' = .returned (.tuple #[.int .u64 ((refRW x mode : Nat)), .int .i64 (refRF x mode)]) ∧ Within w w') := by
  unfold refRW refRF
  have mx := mS_lt x
  have hf : ∀ {n : Nat}, n < 4294967296 → (dg n).length ≤ 400 := fun h => Nat.le_trans (dg_small (k := 1) h) (by decide)
  have ex : -5000 ≤ eS x ∧ eS x ≤ 5000 := by have := eS_range x; omega
  have hX := kS_range x
  by_cases n1 : kS x = 2
  · have hn : nS x = nS x := rfl
    rw [if_pos n1, if_pos n1, n1]; exact Rroot_nan (eS x) mode (nS x) g1 w
  rw [if_neg n1, if_neg n1]
  by_cases j1 : kS x = 1
  · have g : ¬ (kS x = 0 ∧ mS x = 0) := by omega
    rw [if_neg g, if_neg g]
    cases hn : nS x
    · rw [if_neg Bool.false_ne_true, if_neg Bool.false_ne_true, if_pos j1, if_pos j1, j1]
      exact Rroot_inf (eS x) mode false g1 (mS x) w hI1
    · rw [if_pos rfl, if_pos rfl, j1]
      exact Rroot_neg1 (eS x) mode true g1 (mS x) w hI1
  have j3 : kS x = 0 := by omega
  by_cases zx : mS x = 0
  · rw [if_pos ⟨j3, zx⟩, if_pos ⟨j3, zx⟩, j3]
    exact Rroot_zero (eS x) mode (nS x) g1 (mS x) (by omega) w hI1
  have g : ¬ (kS x = 0 ∧ mS x = 0) := by omega
  rw [if_neg g, if_neg g]
  cases hn : nS x
  · rw [if_neg Bool.false_ne_true, if_neg Bool.false_ne_true, if_neg j1, if_neg j1, j3]
    obtain ⟨h, hh, hh2, hr1, hr2⟩ := rtS_even (eS x)
    rw [hh2]
    have hq : isq (mS x * 2 ^ rtS (eS x)) ≠ 0 := by
      have h1 : 1 * 1 ≤ mS x * 2 ^ rtS (eS x) := Nat.mul_le_mul (by omega) (Nat.two_pow_pos _)
      have := (isq_is (mS x * 2 ^ rtS (eS x))).le (s := 1) h1
      omega
    by_cases hs : rtS (eS x) = 280
    · exact Rroot_main280 (eS x) mode false g1 (mS x) (rtS (eS x)) h hs ex (by omega) (hf (by omega)) hq (by omega) w hI1
    · exact Rroot_main281 (eS x) mode false g1 (mS x) (rtS (eS x)) h (by omega) ex (by omega) (hf (by omega)) hq (by omega) w hI1
  · rw [if_pos rfl, if_pos rfl, j3]
    exact Rroot_neg0 (eS x) mode true g1 (mS x) (by omega) w hI1
theorem RaddS (x y g1 g2 : Nat) (mode : Int) (w : World) (hI1 : IntB w g1 (mS x : Int)) (hI2 : IntB w g2 (mS y : Int)) : Calls Tryz.prog 67 #[fmS, .agg #[.int .i64 (kS x), .bool (nS x), .pointer (some ⟨g1, 0, none⟩), .int .i64 (eS x)], .agg #[.int .i64 (kS y), .bool (nS y), .pointer (some ⟨g2, 0, none⟩), .int .i64 (eS y)], .int .i64 mode] w (fun e' w' => e' = .returned (.tuple #[.int .u64 ((addRW (kS x) (nS x) (mS x) (eS x) (kS y) (nS y) (mS y) (eS y) mode : Nat)), .int .i64 (addRF (kS x) (nS x) (mS x) (eS x) (kS y) (nS y) (mS y) (eS y) mode)]) ∧ Within w w') := by
  have mx := mS_lt x
  have my := mS_lt y
  have ex := eS_range x
  have ey := eS_range y
  have hf : ∀ {n : Nat}, n < 4294967296 → (dg n).length ≤ 400 := fun h => Nat.le_trans (dg_small (k := 1) h) (by decide)
  exact Radd (kS x) (kS y) (eS x) (eS y) mode (nS x) (nS y) g1 g2 (mS x) (mS y) (kS_range x) (kS_range y) (by omega) (by omega) (hf (by omega)) (hf (by omega)) w hI1 hI2
theorem gWordS_lt {ng more : Bool} {M : Nat} {e mode : Int} (hM : M ≠ 0) : gWord 24 (-149) 127 2139095039 2139095040 8388608 2147483648 ng M e more mode < 4294967296 := by
  have hQ := gQ_le 24 (-149) ng M e more mode
  have hK : (-149 : Int) ≤ gK 24 (-149) M e := Int.le_max_right _ _
  have hsg : (if ng then 2147483648 else 0) ≤ 2147483648 := by split <;> omega
  unfold gWord
  by_cases ho : gOver 24 (-149) 127 ng M e more mode = true
  · rw [if_pos ho]
    split <;> omega
  · rw [if_neg ho]
    unfold gOver at ho
    rw [decide_eq_true_iff] at ho
    have hQ2 : gQ 24 (-149) ng M e more mode ≤ 16777216 := hQ
    by_cases hk : -149 < gK 24 (-149) M e
    · have hf := gQ_full (D := 24) (lo := -149) ng (M := M) (e := e) more mode hM (by decide) hk
      have hf2 : 8388608 ≤ gQ 24 (-149) ng M e more mode := hf
      have hb : 24 ≤ blen (gQ 24 (-149) ng M e more mode) := by
        rw [blen_pos (by omega)]
        have := (Nat.le_log2 (n := gQ 24 (-149) ng M e more mode) (k := 23) (by omega)).2 hf2
        omega
      have h3 : (gK 24 (-149) M e - -149).toNat ≤ 253 := by omega
      omega
    · have h3 : (gK 24 (-149) M e - -149).toNat = 0 := by omega
      rw [h3]; omega
theorem nghtS_lt (b : Bool) : sgnS b < 4294967296 := by cases b <;> decide
theorem inS_lt (b : Bool) : infS b < 4294967296 := by cases b <;> decide
theorem refMW_lt (x y : Nat) (mode : Int) : refMW x y mode < 4294967296 := by
  unfold refMW
  split
  · decide
  split
  · decide
  split
  · exact inS_lt _
  unfold sWS
  rw [if_neg (by decide), if_neg (by decide)]
  split
  · split <;> decide
  · exact gWordS_lt (by assumption)
theorem refDW_lt (x y : Nat) (mode : Int) : refDW x y mode < 4294967296 := by
  unfold refDW
  split
  · decide
  split
  · decide
  split
  · exact inS_lt _
  split
  · exact inS_lt _
  split
  · exact nghtS_lt _
  rename_i n1 n2 n3 n4 n5
  have my := mS_lt y
  have kx := kS_range x
  have ky := kS_range y
  refine gWordS_lt ?_
  have a2 : 1 * 2 ^ (140 : Nat) ≤ mS x * 2 ^ (140 : Nat) := Nat.mul_le_mul_right _ (by omega)
  have a3 : (16777216 : Nat) ≤ 1 * 2 ^ (140 : Nat) := by decide
  have := (Nat.le_div_iff_mul_le (show 0 < mS y by omega)).2 (show 1 * mS y ≤ mS x * 2 ^ (140 : Nat) by omega)
  omega
theorem refRW_lt (x : Nat) (mode : Int) : refRW x mode < 4294967296 := by
  unfold refRW
  split
  · decide
  split
  · exact nghtS_lt _
  split
  · decide
  split
  · exact inS_lt _
  rename_i n1 n2 n3 n4
  have kx := kS_range x
  refine gWordS_lt ?_
  have h1 : 1 * 1 ≤ mS x * 2 ^ rtS (eS x) := Nat.mul_le_mul (by omega) (Nat.two_pow_pos _)
  have := (isq_is (mS x * 2 ^ rtS (eS x))).le (s := 1) h1
  omega
theorem addRW_lt (ka : Int) (na : Bool) (ma : Nat) (ea kb : Int) (nb : Bool) (mb : Nat) (eb mode : Int) : addRW ka na ma ea kb nb mb eb mode < 4294967296 := by
  unfold addRW
  split
  · decide
  split
  · decide
  split
  · exact inS_lt _
  split
  · exact inS_lt _
  split
  · split <;> exact nghtS_lt _
  · rename_i h
    exact gWordS_lt (by omega)
set_option maxRecDepth 100000 in
set_option maxHeartbeats 600000 in
theorem RAdd320 (x y W : Nat) (F mode A B C : Int) (hx : x < 4294967296) (hy : y < 4294967296) (FH : Hid (∀ w g1 g2, IntB w g1 (mS x : Int) → IntB w g2 (mS y : Int) → Calls Tryz.prog 67 #[fmS, .agg #[.int .i64 (kS x), .bool (nS x), .pointer (some ⟨g1, 0, none⟩), .int .i64 (eS x)], .agg #[.int .i64 (kS y), .bool (nS y), .pointer (some ⟨g2, 0, none⟩), .int .i64 (eS y)], .int .i64 mode] w (fun e' w' => e' = .returned (.tuple #[.int .u64 ((W : Int)), .int .i64 F]) ∧ Within w w'))) (DH : Hid (∀ w, Calls Tryz.prog 36 #[.int .u64 (W : Int), .int .i64 F, .int .i64 mode] w (fun e w' => e = .returned (.tuple #[.int .u32 A, .int .i64 B, .int .i64 C]) ∧ Within w w'))) (w : World) : Calls Tryz.prog 20 #[.int .u32 (x : Int), .int .u32 (y : Int), .int .i64 mode] w (fun e w' => e = .returned (.tuple #[.int .u32 A, .int .i64 B, .int .i64 C]) ∧ Within w w') := by
  have Sx := Lib.hid (fun w' => Rsingle x hx w')
  have Sy := Lib.hid (fun w' => Rsingle y hy w')
  clear hx hy
  go_enter Tryz.func20, Tryz.ntmps20
  go_wp2_with fail
  refine (RSingle _).mono ?_; rintro e1 w1 ⟨rfl, hb1⟩
  go_wp2_with fail
  refine (Sx.out _).mono ?_; rintro e2 w2 ⟨g1, rfl, hI1, hg1, hb2⟩
  go_wp2_with fail
  refine (Sy.out _).mono ?_; rintro e3 w3 ⟨g2, rfl, hI2, hg2, hb3⟩
  have hI1 := hI1.of hb3
  clear hg1 hg2
  go_wp2_with fail
  refine (FH.out _ _ _ hI1 hI2).mono ?_; rintro e5 w5 ⟨rfl, hb5⟩
  go_wp2_with fail
  refine (DH.out _).mono ?_; rintro e6 w6 ⟨rfl, hb6⟩
  go_wp2
  go_ret3
  exact ⟨rfl, (by repeat (with_reducible first | exact Within.refl _ | assumption | refine Within.alloc ?_ _ | refine Within.drew ?_ | refine Within.drewN ?_ _ | refine Within.setCell ?_ (by first | (simp; done) | (simp; omega)) _ | refine Within.trans ?_ (by assumption)))⟩
theorem RAdd32 (x y : Nat) (mode : Int) (hx : x < 4294967296) (hy : y < 4294967296) (w : World) : Calls Tryz.prog 20 #[.int .u32 (x : Int), .int .u32 (y : Int), .int .i64 mode] w (fun e w' => e = .returned (.tuple #[.int .u32 ((nW mode (addRW (kS x) (nS x) (mS x) (eS x) (kS y) (nS y) (mS y) (eS y) mode) : Nat) : Int), .int .i64 (nF mode (addRF (kS x) (nS x) (mS x) (eS x) (kS y) (nS y) (mS y) (eS y) mode)), .int .i64 (nErr mode)]) ∧ Within w w') := by
  have FH := Lib.hid (fun (w : World) (g1 g2 : Nat) (h1 : IntB w g1 (mS x : Int)) (h2 : IntB w g2 (mS y : Int)) => RaddS x y g1 g2 mode w h1 h2)
  unfold nW nF nErr
  by_cases hm : 0 ≤ mode ∧ mode ≤ 4
  · rw [if_pos hm, if_pos hm, if_pos hm]
    exact RAdd320 x y _ _ mode _ _ _ hx hy FH (Lib.hid fun w => Rdone_yes _ (addRW_lt _ _ _ _ _ _ _ _ _) _ mode hm w) w
  · rw [if_neg hm, if_neg hm, if_neg hm]
    exact RAdd320 x y _ _ mode _ _ _ hx hy FH (Lib.hid fun w => Rdone_no _ _ mode hm w) w
set_option maxRecDepth 100000 in
set_option maxHeartbeats 600000 in
theorem RMul320 (x y W : Nat) (F mode A B C : Int) (hx : x < 4294967296) (hy : y < 4294967296) (FH : Hid (∀ w g1 g2, IntB w g1 (mS x : Int) → IntB w g2 (mS y : Int) → Calls Tryz.prog 69 #[fmS, .agg #[.int .i64 (kS x), .bool (nS x), .pointer (some ⟨g1, 0, none⟩), .int .i64 (eS x)], .agg #[.int .i64 (kS y), .bool (nS y), .pointer (some ⟨g2, 0, none⟩), .int .i64 (eS y)], .int .i64 mode] w (fun e' w' => e' = .returned (.tuple #[.int .u64 ((W : Int)), .int .i64 F]) ∧ Within w w'))) (DH : Hid (∀ w, Calls Tryz.prog 36 #[.int .u64 (W : Int), .int .i64 F, .int .i64 mode] w (fun e w' => e = .returned (.tuple #[.int .u32 A, .int .i64 B, .int .i64 C]) ∧ Within w w'))) (w : World) : Calls Tryz.prog 24 #[.int .u32 (x : Int), .int .u32 (y : Int), .int .i64 mode] w (fun e w' => e = .returned (.tuple #[.int .u32 A, .int .i64 B, .int .i64 C]) ∧ Within w w') := by
  have Sx := Lib.hid (fun w' => Rsingle x hx w')
  have Sy := Lib.hid (fun w' => Rsingle y hy w')
  clear hx hy
  go_enter Tryz.func24, Tryz.ntmps24
  go_wp2_with fail
  refine (RSingle _).mono ?_; rintro e1 w1 ⟨rfl, hb1⟩
  go_wp2_with fail
  refine (Sx.out _).mono ?_; rintro e2 w2 ⟨g1, rfl, hI1, hg1, hb2⟩
  go_wp2_with fail
  refine (Sy.out _).mono ?_; rintro e3 w3 ⟨g2, rfl, hI2, hg2, hb3⟩
  have hI1 := hI1.of hb3
  clear hg1 hg2
  go_wp2_with fail
  refine (FH.out _ _ _ hI1 hI2).mono ?_; rintro e5 w5 ⟨rfl, hb5⟩
  go_wp2_with fail
  refine (DH.out _).mono ?_; rintro e6 w6 ⟨rfl, hb6⟩
  go_wp2
  go_ret3
  exact ⟨rfl, (by repeat (with_reducible first | exact Within.refl _ | assumption | refine Within.alloc ?_ _ | refine Within.drew ?_ | refine Within.drewN ?_ _ | refine Within.setCell ?_ (by first | (simp; done) | (simp; omega)) _ | refine Within.trans ?_ (by assumption)))⟩
theorem RMul32 (x y : Nat) (mode : Int) (hx : x < 4294967296) (hy : y < 4294967296) (w : World) : Calls Tryz.prog 24 #[.int .u32 (x : Int), .int .u32 (y : Int), .int .i64 mode] w (fun e w' => e = .returned (.tuple #[.int .u32 ((nW mode (refMW x y mode) : Nat) : Int), .int .i64 (nF mode (refMF x y mode)), .int .i64 (nErr mode)]) ∧ Within w w') := by
  have FH := Lib.hid (fun (w : World) (g1 g2 : Nat) (h1 : IntB w g1 (mS x : Int)) (h2 : IntB w g2 (mS y : Int)) => RmulS x y g1 g2 mode w h1 h2)
  unfold nW nF nErr
  by_cases hm : 0 ≤ mode ∧ mode ≤ 4
  · rw [if_pos hm, if_pos hm, if_pos hm]
    exact RMul320 x y _ _ mode _ _ _ hx hy FH (Lib.hid fun w => Rdone_yes _ (refMW_lt x y mode) _ mode hm w) w
  · rw [if_neg hm, if_neg hm, if_neg hm]
    exact RMul320 x y _ _ mode _ _ _ hx hy FH (Lib.hid fun w => Rdone_no _ _ mode hm w) w
set_option maxRecDepth 100000 in
set_option maxHeartbeats 600000 in
theorem RDiv320 (x y W : Nat) (F mode A B C : Int) (hx : x < 4294967296) (hy : y < 4294967296) (FH : Hid (∀ w g1 g2, IntB w g1 (mS x : Int) → IntB w g2 (mS y : Int) → Calls Tryz.prog 73 #[fmS, .agg #[.int .i64 (kS x), .bool (nS x), .pointer (some ⟨g1, 0, none⟩), .int .i64 (eS x)], .agg #[.int .i64 (kS y), .bool (nS y), .pointer (some ⟨g2, 0, none⟩), .int .i64 (eS y)], .int .i64 mode] w (fun e' w' => e' = .returned (.tuple #[.int .u64 ((W : Int)), .int .i64 F]) ∧ Within w w'))) (DH : Hid (∀ w, Calls Tryz.prog 36 #[.int .u64 (W : Int), .int .i64 F, .int .i64 mode] w (fun e w' => e = .returned (.tuple #[.int .u32 A, .int .i64 B, .int .i64 C]) ∧ Within w w'))) (w : World) : Calls Tryz.prog 26 #[.int .u32 (x : Int), .int .u32 (y : Int), .int .i64 mode] w (fun e w' => e = .returned (.tuple #[.int .u32 A, .int .i64 B, .int .i64 C]) ∧ Within w w') := by
  have Sx := Lib.hid (fun w' => Rsingle x hx w')
  have Sy := Lib.hid (fun w' => Rsingle y hy w')
  clear hx hy
  go_enter Tryz.func26, Tryz.ntmps26
  go_wp2_with fail
  refine (RSingle _).mono ?_; rintro e1 w1 ⟨rfl, hb1⟩
  go_wp2_with fail
  refine (Sx.out _).mono ?_; rintro e2 w2 ⟨g1, rfl, hI1, hg1, hb2⟩
  go_wp2_with fail
  refine (Sy.out _).mono ?_; rintro e3 w3 ⟨g2, rfl, hI2, hg2, hb3⟩
  have hI1 := hI1.of hb3
  clear hg1 hg2
  go_wp2_with fail
  refine (FH.out _ _ _ hI1 hI2).mono ?_; rintro e5 w5 ⟨rfl, hb5⟩
  go_wp2_with fail
  refine (DH.out _).mono ?_; rintro e6 w6 ⟨rfl, hb6⟩
  go_wp2
  go_ret3
  exact ⟨rfl, (by repeat (with_reducible first | exact Within.refl _ | assumption | refine Within.alloc ?_ _ | refine Within.drew ?_ | refine Within.drewN ?_ _ | refine Within.setCell ?_ (by first | (simp; done) | (simp; omega)) _ | refine Within.trans ?_ (by assumption)))⟩
theorem RDiv32 (x y : Nat) (mode : Int) (hx : x < 4294967296) (hy : y < 4294967296) (w : World) : Calls Tryz.prog 26 #[.int .u32 (x : Int), .int .u32 (y : Int), .int .i64 mode] w (fun e w' => e = .returned (.tuple #[.int .u32 ((nW mode (refDW x y mode) : Nat) : Int), .int .i64 (nF mode (refDF x y mode)), .int .i64 (nErr mode)]) ∧ Within w w') := by
  have FH := Lib.hid (fun (w : World) (g1 g2 : Nat) (h1 : IntB w g1 (mS x : Int)) (h2 : IntB w g2 (mS y : Int)) => RdivS x y g1 g2 mode w h1 h2)
  unfold nW nF nErr
  by_cases hm : 0 ≤ mode ∧ mode ≤ 4
  · rw [if_pos hm, if_pos hm, if_pos hm]
    exact RDiv320 x y _ _ mode _ _ _ hx hy FH (Lib.hid fun w => Rdone_yes _ (refDW_lt x y mode) _ mode hm w) w
  · rw [if_neg hm, if_neg hm, if_neg hm]
    exact RDiv320 x y _ _ mode _ _ _ hx hy FH (Lib.hid fun w => Rdone_no _ _ mode hm w) w
set_option maxRecDepth 100000 in
set_option maxHeartbeats 600000 in
theorem RRoot320 (x W : Nat) (F mode A B C : Int) (hx : x < 4294967296) (FH : Hid (∀ w g1, IntB w g1 (mS x : Int) → Calls Tryz.prog 75 #[fmS, .agg #[.int .i64 (kS x), .bool (nS x), .pointer (some ⟨g1, 0, none⟩), .int .i64 (eS x)], .int .i64 mode] w (fun e' w' => e' = .returned (.tuple #[.int .u64 ((W : Int)), .int .i64 F]) ∧ Within w w'))) (DH : Hid (∀ w, Calls Tryz.prog 36 #[.int .u64 (W : Int), .int .i64 F, .int .i64 mode] w (fun e w' => e = .returned (.tuple #[.int .u32 A, .int .i64 B, .int .i64 C]) ∧ Within w w'))) (w : World) : Calls Tryz.prog 28 #[.int .u32 (x : Int), .int .i64 mode] w (fun e w' => e = .returned (.tuple #[.int .u32 A, .int .i64 B, .int .i64 C]) ∧ Within w w') := by
  have Sx := Lib.hid (fun w' => Rsingle x hx w')
  clear hx
  go_enter Tryz.func28, Tryz.ntmps28
  go_wp2_with fail
  refine (RSingle _).mono ?_; rintro e1 w1 ⟨rfl, hb1⟩
  go_wp2_with fail
  refine (Sx.out _).mono ?_; rintro e2 w2 ⟨g1, rfl, hI1, hg1, hb2⟩
  clear hg1
  go_wp2_with fail
  refine (FH.out _ _ hI1).mono ?_; rintro e5 w5 ⟨rfl, hb5⟩
  go_wp2_with fail
  refine (DH.out _).mono ?_; rintro e6 w6 ⟨rfl, hb6⟩
  go_wp2
  go_ret3
  exact ⟨rfl, (by repeat (with_reducible first | exact Within.refl _ | assumption | refine Within.alloc ?_ _ | refine Within.drew ?_ | refine Within.drewN ?_ _ | refine Within.setCell ?_ (by first | (simp; done) | (simp; omega)) _ | refine Within.trans ?_ (by assumption)))⟩
theorem RRoot32 (x : Nat) (mode : Int) (hx : x < 4294967296) (w : World) : Calls Tryz.prog 28 #[.int .u32 (x : Int), .int .i64 mode] w (fun e w' => e = .returned (.tuple #[.int .u32 ((nW mode (refRW x mode) : Nat) : Int), .int .i64 (nF mode (refRF x mode)), .int .i64 (nErr mode)]) ∧ Within w w') := by
  have FH := Lib.hid (fun (w : World) (g1 : Nat) (h1 : IntB w g1 (mS x : Int)) => RrootS x g1 mode w h1)
  unfold nW nF nErr
  by_cases hm : 0 ≤ mode ∧ mode ≤ 4
  · rw [if_pos hm, if_pos hm, if_pos hm]
    exact RRoot320 x _ _ mode _ _ _ hx FH (Lib.hid fun w => Rdone_yes _ (refRW_lt x mode) _ mode hm w) w
  · rw [if_neg hm, if_neg hm, if_neg hm]
    exact RRoot320 x _ _ mode _ _ _ hx FH (Lib.hid fun w => Rdone_no _ _ mode hm w) w
set_option maxRecDepth 100000 in
set_option maxHeartbeats 600000 in
theorem RSub320 (x y yn : Nat) (mode A B C : Int) (hyn : bits .xor .u32 (y : Int) 2147483648 = (yn : Int)) (AH : Hid (∀ w, Calls Tryz.prog 20 #[.int .u32 (x : Int), .int .u32 (yn : Int), .int .i64 mode] w (fun e w' => e = .returned (.tuple #[.int .u32 A, .int .i64 B, .int .i64 C]) ∧ Within w w'))) (w : World) : Calls Tryz.prog 22 #[.int .u32 (x : Int), .int .u32 (y : Int), .int .i64 mode] w (fun e w' => e = .returned (.tuple #[.int .u32 A, .int .i64 B, .int .i64 C]) ∧ Within w w') := by
  go_enter Tryz.func22, Tryz.ntmps22
  go_wp2_with fail
  refine (AH.out _).mono ?_; rintro e1 w1 ⟨rfl, hb1⟩
  go_wp2
  go_ret3
  exact ⟨rfl, (by repeat (with_reducible first | exact Within.refl _ | assumption | refine Within.alloc ?_ _ | refine Within.drew ?_ | refine Within.drewN ?_ _ | refine Within.setCell ?_ (by first | (simp; done) | (simp; omega)) _ | refine Within.trans ?_ (by assumption)))⟩
theorem xor_u32 {y : Nat} (hy : y < 4294967296) : bits .xor .u32 (y : Int) 2147483648 = ((tuS y : Nat) : Int) := by
  have h := xor_tuS hy
  have e : bits .xor .u32 (y : Int) ((2147483648 : Nat) : Int) = ((y ^^^ 2147483648 : Nat) : Int) := u32_xor_nat _ _ (by omega) (by omega)
  rw [show (2 : Nat) ^ 31 = 2147483648 from rfl] at h
  rw [h] at e
  exact e
theorem RSub32 (x y : Nat) (mode : Int) (hx : x < 4294967296) (hy : y < 4294967296) (w : World) : Calls Tryz.prog 22 #[.int .u32 (x : Int), .int .u32 (y : Int), .int .i64 mode] w (fun e w' => e = .returned (.tuple #[.int .u32 ((nW mode (addRW (kS x) (nS x) (mS x) (eS x) (kS (tuS y)) (nS (tuS y)) (mS (tuS y)) (eS (tuS y)) mode) : Nat) : Int), .int .i64 (nF mode (addRF (kS x) (nS x) (mS x) (eS x) (kS (tuS y)) (nS (tuS y)) (mS (tuS y)) (eS (tuS y)) mode)), .int .i64 (nErr mode)]) ∧ Within w w') :=
  RSub320 x y (tuS y) mode _ _ _ (xor_u32 hy) (Lib.hid fun w => RAdd32 x (tuS y) mode hx (tuS_lt hy) w) w
end Go.Proofs.YtifgngmebnjfkaaGreatDoor
end

section
namespace Go.Proofs.YtifgngmebnjfkaaGreatDoor
open Go.RowKit
theorem is32_yes (a : Nat) (w : World) : Calls Tryz.prog 37 #[.float .f32 a, .int .u32 (a : Int)] w fun e w' => e = .returned (.bool true) ∧ w = w' := by
  have := is32_any a a w
  rwa [show ((a : Int) == (a : Int)) = true by simp] at this
set_option maxRecDepth 100000 in
set_option maxHeartbeats 600000 in
theorem told_yes (a : Nat) (k n : Int) (w : World) : Calls Tryz.prog 9 #[.float .f32 a, .int .i64 k, .int .i64 n, .int .u32 (a : Int), .int .i64 k, .int .i64 n] w fun e w' => e = .returned (.bool true) ∧ w = w' := by
  have hk : (k == k) = true := by simp
  have hn : (n == n) = true := by simp
  go_enter Tryz.func9, Tryz.ntmps9
  go_wp2_with fail
  refine (is32_yes a _).mono ?_; rintro e1 w1 ⟨rfl, rfl⟩
  go_wp2
  go_ret
  exact ⟨rfl, rfl⟩
end Go.Proofs.YtifgngmebnjfkaaGreatDoor
end

section
namespace Go.Proofs.YtifgngmebnjfkaaGreatDoor
open Go.RowKit
set_option maxRecDepth 100000 in
set_option maxHeartbeats 2000000 in
theorem sums_core (x y a0 a1 a2 a3 a4 : Nat) (mode k0 k1 k2 k3 k4 n : Int) (P0 : Hid (∀ w, FmS w → Calls Tryz.prog 19 #[.float .f32 x, .float .f32 y, .int .i64 mode] w fun e' w' => e' = .returned (.tuple #[.float .f32 a0, .int .i64 k0, .int .i64 n]) ∧ Within w w')) (R0 : Hid (∀ w, Calls Tryz.prog 20 #[.int .u32 (x : Int), .int .u32 (y : Int), .int .i64 mode] w fun e' w' => e' = .returned (.tuple #[.int .u32 (a0 : Int), .int .i64 k0, .int .i64 n]) ∧ Within w w')) (P1 : Hid (∀ w, FmS w → Calls Tryz.prog 21 #[.float .f32 x, .float .f32 y, .int .i64 mode] w fun e' w' => e' = .returned (.tuple #[.float .f32 a1, .int .i64 k1, .int .i64 n]) ∧ Within w w')) (R1 : Hid (∀ w, Calls Tryz.prog 22 #[.int .u32 (x : Int), .int .u32 (y : Int), .int .i64 mode] w fun e' w' => e' = .returned (.tuple #[.int .u32 (a1 : Int), .int .i64 k1, .int .i64 n]) ∧ Within w w')) (P2 : Hid (∀ w, FmS w → Calls Tryz.prog 23 #[.float .f32 x, .float .f32 y, .int .i64 mode] w fun e' w' => e' = .returned (.tuple #[.float .f32 a2, .int .i64 k2, .int .i64 n]) ∧ Within w w')) (R2 : Hid (∀ w, Calls Tryz.prog 24 #[.int .u32 (x : Int), .int .u32 (y : Int), .int .i64 mode] w fun e' w' => e' = .returned (.tuple #[.int .u32 (a2 : Int), .int .i64 k2, .int .i64 n]) ∧ Within w w')) (P3 : Hid (∀ w, FmS w → Calls Tryz.prog 25 #[.float .f32 x, .float .f32 y, .int .i64 mode] w fun e' w' => e' = .returned (.tuple #[.float .f32 a3, .int .i64 k3, .int .i64 n]) ∧ Within w w')) (R3 : Hid (∀ w, Calls Tryz.prog 26 #[.int .u32 (x : Int), .int .u32 (y : Int), .int .i64 mode] w fun e' w' => e' = .returned (.tuple #[.int .u32 (a3 : Int), .int .i64 k3, .int .i64 n]) ∧ Within w w')) (P4 : Hid (∀ w, FmS w → Calls Tryz.prog 27 #[.float .f32 x, .int .i64 mode] w fun e' w' => e' = .returned (.tuple #[.float .f32 a4, .int .i64 k4, .int .i64 n]) ∧ Within w w')) (R4 : Hid (∀ w, Calls Tryz.prog 28 #[.int .u32 (x : Int), .int .i64 mode] w fun e' w' => e' = .returned (.tuple #[.int .u32 (a4 : Int), .int .i64 k4, .int .i64 n]) ∧ Within w w')) (w : World) (hT : FmS w) : Calls Tryz.prog 5 #[.int .u32 (x : Int), .int .u32 (y : Int), .int .i64 mode] w fun e' w' => e' = .returned (.bool true) ∧ Within w w' := by
  go_enter Tryz.func5, Tryz.ntmps5
  go_wp2_with fail
  refine (g_any x _).mono ?_; rintro e100 w100 ⟨rfl, rfl⟩
  go_wp2_with fail
  refine (g_any y _).mono ?_; rintro e101 w101 ⟨rfl, rfl⟩
  go_wp2_with fail
  refine (P0.out _ (hT.of (by repeat (with_reducible first | exact Within.refl _ | assumption | refine Within.alloc ?_ _ | refine Within.drew ?_ | refine Within.setCell ?_ (by first | (simp; done) | (simp; omega)) _ | refine Within.trans ?_ (by assumption))))).mono ?_; rintro e1 w1 ⟨rfl, hb1⟩
  go_wp2_with fail
  refine (R0.out _).mono ?_; rintro e2 w2 ⟨rfl, hb2⟩
  go_wp2_with fail
  refine (told_yes a0 k0 n _).mono ?_; rintro e200 w200 ⟨rfl, rfl⟩
  go_wp2_with fail
  refine (g_any x _).mono ?_; rintro e102 w102 ⟨rfl, rfl⟩
  go_wp2_with fail
  refine (g_any y _).mono ?_; rintro e103 w103 ⟨rfl, rfl⟩
  go_wp2_with fail
  refine (P1.out _ (hT.of (by repeat (with_reducible first | exact Within.refl _ | assumption | refine Within.alloc ?_ _ | refine Within.drew ?_ | refine Within.setCell ?_ (by first | (simp; done) | (simp; omega)) _ | refine Within.trans ?_ (by assumption))))).mono ?_; rintro e3 w3 ⟨rfl, hb3⟩
  go_wp2_with fail
  refine (R1.out _).mono ?_; rintro e4 w4 ⟨rfl, hb4⟩
  go_wp2_with fail
  refine (told_yes a1 k1 n _).mono ?_; rintro e201 w201 ⟨rfl, rfl⟩
  go_wp2_with fail
  refine (g_any x _).mono ?_; rintro e104 w104 ⟨rfl, rfl⟩
  go_wp2_with fail
  refine (g_any y _).mono ?_; rintro e105 w105 ⟨rfl, rfl⟩
  go_wp2_with fail
  refine (P2.out _ (hT.of (by repeat (with_reducible first | exact Within.refl _ | assumption | refine Within.alloc ?_ _ | refine Within.drew ?_ | refine Within.setCell ?_ (by first | (simp; done) | (simp; omega)) _ | refine Within.trans ?_ (by assumption))))).mono ?_; rintro e5 w5 ⟨rfl, hb5⟩
  go_wp2_with fail
  refine (R2.out _).mono ?_; rintro e6 w6 ⟨rfl, hb6⟩
  go_wp2_with fail
  refine (told_yes a2 k2 n _).mono ?_; rintro e202 w202 ⟨rfl, rfl⟩
  go_wp2_with fail
  refine (g_any x _).mono ?_; rintro e106 w106 ⟨rfl, rfl⟩
  go_wp2_with fail
  refine (g_any y _).mono ?_; rintro e107 w107 ⟨rfl, rfl⟩
  go_wp2_with fail
  refine (P3.out _ (hT.of (by repeat (with_reducible first | exact Within.refl _ | assumption | refine Within.alloc ?_ _ | refine Within.drew ?_ | refine Within.setCell ?_ (by first | (simp; done) | (simp; omega)) _ | refine Within.trans ?_ (by assumption))))).mono ?_; rintro e7 w7 ⟨rfl, hb7⟩
  go_wp2_with fail
  refine (R3.out _).mono ?_; rintro e8 w8 ⟨rfl, hb8⟩
  go_wp2_with fail
  refine (told_yes a3 k3 n _).mono ?_; rintro e203 w203 ⟨rfl, rfl⟩
  go_wp2_with fail
  refine (g_any x _).mono ?_; rintro e108 w108 ⟨rfl, rfl⟩
  go_wp2_with fail
  refine (P4.out _ (hT.of (by repeat (with_reducible first | exact Within.refl _ | assumption | refine Within.alloc ?_ _ | refine Within.drew ?_ | refine Within.setCell ?_ (by first | (simp; done) | (simp; omega)) _ | refine Within.trans ?_ (by assumption))))).mono ?_; rintro e9 w9 ⟨rfl, hb9⟩
  go_wp2_with fail
  refine (R4.out _).mono ?_; rintro e10 w10 ⟨rfl, hb10⟩
  go_wp2_with fail
  refine (told_yes a4 k4 n _).mono ?_; rintro e204 w204 ⟨rfl, rfl⟩
  go_wp2_with fail
  refine (awake_true _ (hT.of (by repeat (with_reducible first | exact Within.refl _ | assumption | refine Within.alloc ?_ _ | refine Within.drew ?_ | refine Within.setCell ?_ (by first | (simp; done) | (simp; omega)) _ | refine Within.trans ?_ (by assumption))))).mono ?_; rintro e20 w20 ⟨rfl, hb20⟩
  go_wp2
  go_ret
  exact ⟨rfl, (by repeat (with_reducible first | exact Within.refl _ | assumption | refine Within.alloc ?_ _ | refine Within.drew ?_ | refine Within.setCell ?_ (by first | (simp; done) | (simp; omega)) _ | refine Within.trans ?_ (by assumption)))⟩
theorem sums_walk (x y : Nat) (mode : Int) (hx : x < 4294967296) (hy : y < 4294967296) (_ : -9223372036854775808 ≤ mode) (_ : mode < 9223372036854775808) (w : World) (hT : FmS w) : Calls Tryz.prog 5 #[.int .u32 (x : Int), .int .u32 (y : Int), .int .i64 mode] w fun e' w' => e' = .returned (.bool true) ∧ Within w w' := by
  obtain ⟨a1, a2⟩ := add_ref hx hy mode
  obtain ⟨b1, b2⟩ := add_ref hx (tuS_lt hy) mode
  obtain ⟨d1, d2⟩ := div_ref hx hy mode
  obtain ⟨r1, r2⟩ := root_ref hx mode
  have hm : nW mode (mulWd x y mode) = nW mode (refMW x y mode) ∧ nF mode (mulFl x y mode) = nF mode (refMF x y mode) := by
    unfold nW nF
    by_cases h : 0 ≤ mode ∧ mode ≤ 4
    · rw [if_pos h, if_pos h, if_pos h, if_pos h]; exact mul_ref hx hy h
    · rw [if_neg h, if_neg h, if_neg h, if_neg h]; exact ⟨rfl, rfl⟩
  have A := fun (w : World) h => Add_any x y mode hx hy w h
  have S := fun (w : World) h => Sub_any x y mode hx hy w h
  have M := fun (w : World) h => Mul_any x y mode hx hy w h
  have D := fun (w : World) h => Div_any x y mode hx hy w h
  have T := fun (w : World) h => Root_any x mode hx w h
  rw [a1, a2] at A
  rw [b1, b2] at S
  rw [hm.1, hm.2] at M
  rw [d1, d2] at D
  rw [r1, r2] at T
  exact sums_core x y _ _ _ _ _ mode _ _ _ _ _ _ (Lib.hid A) (Lib.hid fun w => RAdd32 x y mode hx hy w) (Lib.hid S) (Lib.hid fun w => RSub32 x y mode hx hy w) (Lib.hid M) (Lib.hid fun w => RMul32 x y mode hx hy w) (Lib.hid D) (Lib.hid fun w => RDiv32 x y mode hx hy w) (Lib.hid T) (Lib.hid fun w => RRoot32 x mode hx w) w hT
end Go.Proofs.YtifgngmebnjfkaaGreatDoor
end

section
namespace Go.Proofs.YtifgngmebnjfkaaGreatDoor.Base
open Go.ChangeShapes Go.WideShapes Go.ChangeAt Go.RowKit
theorem own : ownKnob Tryz.prog.godebug = none := by kernel_rfl
theorem gS : Tryz.prog.globalNamed "binnacle/convert.single" = some 0 := by kernel_rfl
theorem gST : (Tryz.prog.globals[0]?).map (·.type) = some 104 := by kernel_rfl
theorem cellsI : Tryz.prog.cellsOf 3 = 1 := by kernel_rfl
theorem fmt_cells {W : World} {name : String} {g : Nat} {a b c : Int} {rest : List (String × DataW Unit)} {ps : List MemPlace}
    (hg : Tryz.prog.globalNamed name = some g) (hty : (Tryz.prog.globals[g]?).map (·.type) = some 104)
    (h : DataW.LaidVars Tryz.prog W ((name, .agg [.lit (.int .i64 a), .lit (.int .i64 b), .lit (.int .i64 c)]) :: rest) ps) :
    (W.cell? ⟨g, 0, none⟩ = some (.int .i64 a) ∧ W.cell? ⟨g, 1, none⟩ = some (.int .i64 b) ∧ W.cell? ⟨g, 2, none⟩ = some (.int .i64 c)) ∧ ∃ q, DataW.LaidVars Tryz.prog W rest q := by
  obtain ⟨g', t', cs, fuel, p, q, hg', ht', hvar, hd, hr, _⟩ := h
  obtain rfl := Option.some.inj (hg.symm.trans hg')
  obtain rfl := Option.some.inj (hty.symm.trans ht')
  obtain ⟨y0, y1, y2, n, hx, hl, h0, h1, h2⟩ := Go.Deep.trod_struct3 Tryz.underlying104 hd
  obtain ⟨c0, e0, x0, _⟩ := DataW.trod_int Tryz.underlying3 h0
  obtain ⟨c1, e1, x1, _⟩ := DataW.trod_int Tryz.underlying3 h1
  obtain ⟨c2, e2, x2, _⟩ := DataW.trod_int Tryz.underlying3 h2
  subst x0 x1 x2
  have hx1 := congrArg Prod.fst hx
  simp at hx1
  obtain ⟨rfl, rfl, rfl⟩ := hx1
  have v := World.var?_cell hg hvar
  refine ⟨⟨?_, ?_, ?_⟩, q, hr⟩
  · rw [v 0]
    have := congrArg (·[0]?) e0
    simpa [cellsI, List.getElem?_take, List.getElem?_drop] using this
  · rw [v 1]
    have := congrArg (·[0]?) e1
    simpa [cellsI, List.getElem?_take, List.getElem?_drop] using this
  · rw [v 2]
    have := congrArg (·[0]?) e2
    simpa [cellsI, List.getElem?_take, List.getElem?_drop] using this
theorem fmS {W : World} {rest : List (String × DataW Unit)} (h : laidMet Tryz.prog (("binnacle/convert.single", Rows.laid_binnacle_convert_single) :: rest) W) : FmS W := by
  obtain ⟨ps, h1, _⟩ := h
  exact (fmt_cells gS gST h1).1
theorem nat_of_u32 {n : Int} (h : (Lit.int .u32 n).wf = true) : ∃ a : Nat, n = a ∧ a < 4294967296 := by
  simp only [Lit.wf, Bool.and_eq_true, decide_eq_true_eq] at h
  have h1 : (0 : Int) ≤ n := h.1
  have h2 : n ≤ 4294967295 := h.2
  exact ⟨n.toNat, by omega, by omega⟩
theorem int_of_i64 {n : Int} (h : (Lit.int .i64 n).wf = true) : -9223372036854775808 ≤ n ∧ n < 9223372036854775808 := by
  simp only [Lit.wf, Bool.and_eq_true, decide_eq_true_eq] at h
  have h1 : (-9223372036854775808 : Int) ≤ n := h.1
  have h2 : n ≤ 9223372036854775807 := h.2
  exact ⟨h1, by omega⟩
def layVar (g : Nat) (cs : Array Value) (h : Array Obj) : Array Obj := h.modify g fun
  | .cells _ t frozen => .cells cs t frozen
  | o => o
noncomputable def laidWorld (os : Os) : World :=
  { World.holding Tryz.prog os ⟨#[], #[], []⟩ with heap := layVar 0 #[.int .i64 24, .int .i64 (-126), .int .i64 127] (World.holding Tryz.prog os ⟨#[], #[], []⟩).heap }
end Go.Proofs.YtifgngmebnjfkaaGreatDoor.Base
end

section
namespace Go.Proofs.YtifgngmebnjfkaaGreatDoor.convertSums
open Go.ChangeShapes Go.WideShapes Go.ChangeAt Go.RowKit
set_option maxRecDepth 100000 in
theorem contract (H : Type) (enc : TypeId × Value → H) (W : World) (base : Nat) (args : Array Value) (ds gs : List (DataW H)) (before : List MemPlace)
    (hval : ∀ (j : Nat) t v, Tryz.f5.params[j]? = some t → args[j]? = some v → Value.okWide Tryz.prog W .any base t v)
    (hW : DataW.Whole enc Tryz.prog Tryz.f5.params.toList Rows.convertSumsSpec.vars false W args.toList ds gs before) (hL : laidMetH Tryz.prog Rows.convertSumsRow.laid W) :
    Calls Tryz.prog 5 args W fun e W' => ∃ v, e = .returned v ∧ Rows.convertSumsSpec.post enc Tryz.prog Tryz.f5 false true false false W args v W' := by
  have hW' := hW
  obtain ⟨p, q, hA0, hV, rfl, hfz, hnd⟩ := hW
  have hA : DataW.TrodAll enc Tryz.prog W 0 (fun _ => true) true Tryz.f5.params.toList args.toList ds p := hA0
  rw [Tryz.params5] at hA hval
  obtain ⟨v0, vs0, d0, ds0, p0, q0, hargs, rfl, rfl, h0, r0⟩ := trodAll_cons hA
  obtain ⟨v1, vs1, d1, ds1, p1, q1, rfl, rfl, rfl, h1, r1⟩ := trodAll_cons r0
  obtain ⟨v2, vs2, d2, ds2, p2, q2, rfl, rfl, rfl, h2, r2⟩ := trodAll_cons r1
  obtain ⟨rfl, rfl, rfl⟩ := trodAll_nil r2
  obtain rfl : args = #[v0, v1, v2] := by cases args; simp_all
  obtain ⟨rfl, rfl⟩ := trodVars_none hV
  obtain ⟨n0, rfl, rfl, rfl, w0⟩ := open_int Tryz.underlying22 (hval 0 22 v0 rfl rfl) h0
  obtain ⟨a0, rfl, ha0⟩ := Base.nat_of_u32 w0
  obtain ⟨n1, rfl, rfl, rfl, w1⟩ := open_int Tryz.underlying22 (hval 1 22 v1 rfl rfl) h1
  obtain ⟨a1, rfl, ha1⟩ := Base.nat_of_u32 w1
  obtain ⟨n2, rfl, rfl, rfl, w2⟩ := open_int Tryz.underlying3 (hval 2 3 v2 rfl rfl) h2
  have hl2 := Base.int_of_i64 w2
  clear hA0
  simp only [List.append_nil] at hW'
  refine (sums_walk a0 a1 n2 ha0 ha1 hl2.1 hl2.2 W (Base.fmS hL)).mono fun e W' ⟨he, bel⟩ => ?_
  subst he
  exact ⟨_, rfl, _, _, _, [], _, [], hW', trodAll_mk1 (shut_bool Tryz.underlying4 _), (trodAll_cons_mk (shut_int Tryz.underlying22 w0) (trodAll_cons_mk (shut_int Tryz.underlying22 w1) (trodAll_cons_mk (shut_int Tryz.underlying3 w2) trodAll_mk0))), rfl, Below.frame bel _, fun h => by cases h⟩
theorem laid_met (os : Os) : laidMet Tryz.prog Rows.convertSumsRow.laid ((Base.laidWorld os).forCall (fun _ _ => 0) ⟨#[], #[Value.int .u32 0, Value.int .u32 0, Value.int .i64 0], []⟩).memory :=
  laidMet_of_run' 8 (by kernel_rfl) (by kernel_rfl)
theorem reads (os : Os) {H : Type} (enc : TypeId × Value → H) : ∃ places, DataW.whole enc Tryz.prog ((Base.laidWorld os).forCall (fun _ _ => 0) ⟨#[], #[Value.int .u32 0, Value.int .u32 0, Value.int .i64 0], []⟩).memory Tryz.f5.params.toList Rows.convertSumsSpec.vars false (#[Value.int .u32 0, Value.int .u32 0, Value.int .i64 0] : Array Value).toList 8 = some ([.lit (.int .u32 0), .lit (.int .u32 0), .lit (.int .i64 0)], [], places) :=
  ⟨[], by kernel_rfl⟩
set_option maxRecDepth 100000 in
theorem lifted (os : Os) (started : os.Started) (H : Type) (enc : TypeId × Value → H) (F : Stop.Interp) :
    ReturnsInHanded {} Tryz.checked os 5 .any ((OpenSpec.ofChange Rows.convertSumsSpec).preRow enc Tryz.prog Tryz.f5 Rows.convertSumsRow.domain false Rows.convertSumsRow.laid) (((OpenSpec.ofChange Rows.convertSumsSpec).at F).post enc Tryz.prog Tryz.f5 false true false false) := by
  obtain ⟨places, hx⟩ := reads os enc
  refine returnsInHanded_of_row (C := Tryz.checked) (s := OpenSpec.ofChange Rows.convertSumsSpec) Base.own started (by kernel_rfl) Tryz.func5
    (witness_row_at (enc := enc) (C := Tryz.checked) false (Base.laidWorld os) #[Value.int .u32 0, Value.int .u32 0, Value.int .i64 0] rfl (by kernel_rfl) (by kernel_rfl) (by kernel_rfl)
      (OpenSpec.preRow_of_cond 8 hx (by kernel_rfl) (fun k hk => by cases hk) (by kernel_rfl) (laid_met os))) ?_
  intro W base args ds gs before hval hW _ _ _ hL _ _
  exact contract H enc W base args ds gs before hval hW hL
theorem said : Rows.ConvertSumsSaid :=
  OpenClaim.holds_of_cond 5 Tryz.f5 rfl rfl rfl rfl rfl rfl rfl ⟨rfl, rfl, rfl, rfl, rfl⟩ rfl rfl rfl rfl rfl (by kernel_rfl) Tryz.func5 (by kernel_rfl)
    (of_decide_eq_true (by kernel_rfl)) (by unfold Func.isWrapper; first | (rw [if_pos (by decide +kernel)]; kernel_rfl) | (rw [if_neg (by decide +kernel)]; exact ⟨rfl, rfl⟩))
    (fun os started H enc _ F => by rw [OpenClaim.pre_eq_preRow]; exact lifted os started H enc F)
theorem plain (f : FuncId) (fn : Func) (hf : Tryz.pinned.checked.prog.funcNamed "binnacle/binnaclelaw02.ConvertSums" = some f) (hfn : Tryz.pinned.checked.prog.funcs[f]? = some fn) :
    false = Tryz.pinned.checked.prog.looks [] ∧ ∀ (j : Nat) t, fn.params[j]? = some t → Tryz.pinned.checked.prog.wantsStandIn t = false := by
  obtain rfl : f = 5 := Option.some.inj ((show Tryz.prog.funcNamed "binnacle/binnaclelaw02.ConvertSums" = some 5 by kernel_rfl).symm.trans hf) |>.symm
  obtain rfl : fn = Tryz.f5 := (Option.some.inj (Tryz.func5.symm.trans hfn)).symm
  refine ⟨by kernel_rfl, fun j t ht => ?_⟩
  rw [Tryz.params5] at ht
  have hm := Array.mem_of_getElem? ht
  have hm' : t = 22 ∨ t = 22 ∨ t = 3 := by simpa using hm
  rcases hm' with rfl | rfl | rfl
  · exact (show Tryz.prog.wantsStandIn 22 = false by kernel_rfl)
  · exact (show Tryz.prog.wantsStandIn 22 = false by kernel_rfl)
  · exact (show Tryz.prog.wantsStandIn 3 = false by kernel_rfl)
theorem card : Rows.ConvertSumsCardSaid :=
  Claim7.holds_tied_plain_at .later [] _ _ _ _ said (fun _ h => by cases h) (by kernel_rfl) (fun _ h => by cases h) convertSums_row_tie rfl ⟨rfl, rfl⟩ (by kernel_rfl) rfl plain (by kernel_rfl)
#print axioms card
end Go.Proofs.YtifgngmebnjfkaaGreatDoor.convertSums
end
