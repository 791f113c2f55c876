/- What the law's walk rests on, part 2: contracts of functions and plain facts. -/
import Derived.Test.YtpmjlaiafgbjgaaGreatDoorRows
import Derived.WalkKit
import Derived.WalkSpells
import Derived.WalkLawsBesides
import Derived.BigQuiet
import Derived.Lib.Hide
import Ieee.Arith
import Derived.Lib.TrailingZeros
import Derived.Lib.BitFns
import Derived.Lib.Strings
import Derived.Lib.Slices
import Derived.Lib.Small
import Derived.Lib.Walk
import Derived.OwnWalk
import Derived.Maps.AppendAt
import Derived.Laws.OwnMore
import Derived.Deep.AppendLies
import Derived.Deep.Draws
import Derived.OrdersHeld
import Derived.StillTail
import Derived.Deep.RegionHeld3
import Derived.Deep.DeepCutAuto
import Derived.IntWalk
import Derived.Maps.Range
import Derived.Maps.RangeWalk
import Derived.Laws.BytesArg
import Derived.Laws.Strings
import Derived.Lib.SlBytesConst
import Derived.RangeFuncNested
import Derived.RangeFuncBound
import Derived.RangeFuncCalls
import Derived.RangeFuncLeaves
import Derived.OwnWalkIn
import Derived.Shelf.Abstract
import Derived.Shelf.RegionOpen
import Derived.TacticsInMore
import Derived.LoopNIn
import Derived.LoopIn
import Derived.RangeFuncBox
import Derived.Laws.IdiomStrings
import Derived.ProofKit
import Derived.OpenShut
import Derived.ShutString
import Derived.ChangeOld
import Derived.ChangeSlices
import Derived.Below
import Derived.Carry
import Derived.SizedLaws
import Derived.Deep.DeepHandedRow
import Derived.Deep.Strs
import Derived.Lib.LaidTab
import Derived.Lib.SmallJoins
import Derived.Deep.Slices
import Derived.Test.YtpmjlaiafgbjgaaGreatDoorZFresh1
set_option linter.unusedVariables false
set_option linter.unusedSimpArgs false
section
namespace Go.Proofs.YtpmjlaiafgbjgaaGreatDoor
open Go.RowKit
set_option maxRecDepth 100000 in
set_option maxHeartbeats 600000 in
theorem round_S_in0 (neg : Bool) (m L q Lq : Nat) (e k : Int) (mode : Int) (h1 : -20000 ≤ e) (h2 : e ≤ 20000) (hL : L ≤ 64) (hLq : Lq ≤ 64) (hk : max (e + (L : Int) - 24) (-149) = k) (LM : Hid (∀ w, Calls Tryz.prog 106 #[.int .u64 m] w fun e' w' => e' = .returned (.int .i64 (L : Nat)) ∧ w = w')) (DR : Hid (∀ w, Calls Tryz.prog 107 #[.agg #[.bool neg, .int .u64 m, .int .i64 e], .int .i64 (k - e), .int .i64 mode] w fun e' w' => e' = .returned (.tuple #[.int .u64 q, .bool false]) ∧ Within w w')) (LQ : Hid (∀ w, Calls Tryz.prog 106 #[.int .u64 q] w fun e' w' => e' = .returned (.int .i64 (Lq : Nat)) ∧ w = w')) (x y z : Nat) (hin : k + (Lq : Int) ≤ 128) (hcv : floatOfInt .f64 (q : Int) = x) (LD : Hid (∀ w, Calls Tryz.prog 105 #[.float .f64 x, .int .i64 k] w fun e' w' => e' = .returned (.float .f64 y) ∧ w = w')) (SG : Hid (∀ w, Calls Tryz.prog 108 #[.float .f64 y, .bool neg] w fun e' w' => e' = .returned (.float .f64 z) ∧ w = w')) (w : World) : Calls Tryz.prog 94 #[.agg #[.bool neg, .int .u64 m, .int .i64 e], .agg #[.int .i64 24, .int .i64 (-126), .int .i64 127], .int .i64 mode] w fun e' w' => e' = .returned (.tuple #[.float .f64 z, .int .i64 0]) ∧ Within w w' := by
  have kl : -20100 ≤ k := by omega
  have ku : k ≤ 20100 := by omega
  have gw1 : IntKind.i64.wrap (e + (L : Int)) = e + (L : Int) := by rw [IntKind.wrap_i64]; omega
  have gw2 : IntKind.i64.wrap (k + (Lq : Int)) = k + (Lq : Int) := by rw [IntKind.wrap_i64]; omega
  have gw3 : IntKind.i64.wrap 128 = 128 := by decide
  have hcv' := fun (w : World) => run_convert_int_float (P := Tryz.prog) w 109 68 .u64 .f64 (q : Int) (by kernel_rfl) (by kernel_rfl)
  rw [hcv] at hcv'
  have d : decide (k + (Lq : Int) ≤ 128) = true := decide_eq_true (by omega)
  clear hcv hin
  go_enter Tryz.func94, Tryz.ntmps94
  go_wp2
  refine wp_region_within (by kernel_rfl) (by kernel_rfl) ?_
  repeat
    apply wpq_step rfl
    · intro wq hCq
      have q0 : wq.cell? ⟨w.heap.size, 0, none⟩ = some (.bool neg) := (hCq.cells _ _ (by first | (simp; done) | (simp; omega) | omega)).trans (by simp)
      have q1 : wq.cell? ⟨w.heap.size, 1, none⟩ = some (.int .u64 m) := (hCq.cells _ _ (by first | (simp; done) | (simp; omega) | omega)).trans (by simp)
      have q2 : wq.cell? ⟨w.heap.size, 2, none⟩ = some (.int .i64 e) := (hCq.cells _ _ (by first | (simp; done) | (simp; omega) | omega)).trans (by simp)
      have q3 : wq.cell? ⟨(w.heap.size + 1), 0, none⟩ = some (.int .i64 (24)) := (hCq.cells _ _ (by first | (simp; done) | (simp; omega) | omega)).trans (by simp)
      have q4 : wq.cell? ⟨(w.heap.size + 1), 1, none⟩ = some (.int .i64 (-126)) := (hCq.cells _ _ (by first | (simp; done) | (simp; omega) | omega)).trans (by simp)
      have q5 : wq.cell? ⟨(w.heap.size + 1), 2, none⟩ = some (.int .i64 (127)) := (hCq.cells _ _ (by first | (simp; done) | (simp; omega) | omega)).trans (by simp)
      have qz : w.heap.size + 1 < wq.heap.size := World.block_lt_of_cell? _ _ q3
      go_simp
      first | rfl | exact hCq.same (LM.out _) | (trace_state; fail)
    simp only [Act.put, List.setIfInBounds_toArray, List.set_cons_zero, List.set_cons_succ]
  refine wpQuiet_nil ?_
  intro w1 hb1
  have r0 : w1.cell? ⟨w.heap.size, 0, none⟩ = some (.bool neg) := (hb1.cells _ _ (by first | (simp; done) | (simp; omega) | omega)).trans (by simp)
  have r1 : w1.cell? ⟨w.heap.size, 1, none⟩ = some (.int .u64 m) := (hb1.cells _ _ (by first | (simp; done) | (simp; omega) | omega)).trans (by simp)
  have r2 : w1.cell? ⟨w.heap.size, 2, none⟩ = some (.int .i64 e) := (hb1.cells _ _ (by first | (simp; done) | (simp; omega) | omega)).trans (by simp)
  have r3 : w1.cell? ⟨(w.heap.size + 1), 0, none⟩ = some (.int .i64 (24)) := (hb1.cells _ _ (by first | (simp; done) | (simp; omega) | omega)).trans (by simp)
  have r4 : w1.cell? ⟨(w.heap.size + 1), 1, none⟩ = some (.int .i64 (-126)) := (hb1.cells _ _ (by first | (simp; done) | (simp; omega) | omega)).trans (by simp)
  have r5 : w1.cell? ⟨(w.heap.size + 1), 2, none⟩ = some (.int .i64 (127)) := (hb1.cells _ _ (by first | (simp; done) | (simp; omega) | omega)).trans (by simp)
  have rz : w.heap.size + 1 < w1.heap.size := World.block_lt_of_cell? _ _ r3
  go_wp2_with fail
  refine (DR.out _).mono ?_; rintro e2 w2 ⟨rfl, hb2⟩
  have s0 : w2.cell? ⟨w.heap.size, 0, none⟩ = some (.bool neg) := (hb2.cells _ _ (by first | (simp; done) | (simp; omega) | omega)).trans r0
  have s1 : w2.cell? ⟨w.heap.size, 1, none⟩ = some (.int .u64 m) := (hb2.cells _ _ (by first | (simp; done) | (simp; omega) | omega)).trans r1
  have s2 : w2.cell? ⟨w.heap.size, 2, none⟩ = some (.int .i64 e) := (hb2.cells _ _ (by first | (simp; done) | (simp; omega) | omega)).trans r2
  have s3 : w2.cell? ⟨(w.heap.size + 1), 0, none⟩ = some (.int .i64 (24)) := (hb2.cells _ _ (by first | (simp; done) | (simp; omega) | omega)).trans r3
  have s4 : w2.cell? ⟨(w.heap.size + 1), 1, none⟩ = some (.int .i64 (-126)) := (hb2.cells _ _ (by first | (simp; done) | (simp; omega) | omega)).trans r4
  have s5 : w2.cell? ⟨(w.heap.size + 1), 2, none⟩ = some (.int .i64 (127)) := (hb2.cells _ _ (by first | (simp; done) | (simp; omega) | omega)).trans r5
  have sz : w.heap.size + 1 < w2.heap.size := World.block_lt_of_cell? _ _ s3
  clear r0 r1 r2 r3 r4 r5 rz
  go_wp2
  refine wp_region_within (by kernel_rfl) (by kernel_rfl) ?_
  repeat
    apply wpq_step rfl
    · intro wq hCq
      have q0 : wq.cell? ⟨w.heap.size, 0, none⟩ = some (.bool neg) := (hCq.cells _ _ (by first | (simp; done) | (simp; omega) | omega)).trans s0
      have q1 : wq.cell? ⟨w.heap.size, 1, none⟩ = some (.int .u64 m) := (hCq.cells _ _ (by first | (simp; done) | (simp; omega) | omega)).trans s1
      have q2 : wq.cell? ⟨w.heap.size, 2, none⟩ = some (.int .i64 e) := (hCq.cells _ _ (by first | (simp; done) | (simp; omega) | omega)).trans s2
      have q3 : wq.cell? ⟨(w.heap.size + 1), 0, none⟩ = some (.int .i64 (24)) := (hCq.cells _ _ (by first | (simp; done) | (simp; omega) | omega)).trans s3
      have q4 : wq.cell? ⟨(w.heap.size + 1), 1, none⟩ = some (.int .i64 (-126)) := (hCq.cells _ _ (by first | (simp; done) | (simp; omega) | omega)).trans s4
      have q5 : wq.cell? ⟨(w.heap.size + 1), 2, none⟩ = some (.int .i64 (127)) := (hCq.cells _ _ (by first | (simp; done) | (simp; omega) | omega)).trans s5
      have qz : w.heap.size + 1 < wq.heap.size := World.block_lt_of_cell? _ _ q3
      go_simp
      first | rfl | exact hCq.same (LQ.out _) | (trace_state; fail)
    simp only [Act.put, List.setIfInBounds_toArray, List.set_cons_zero, List.set_cons_succ]
  refine wpQuiet_nil ?_
  intro w3 hb3
  have t0 : w3.cell? ⟨w.heap.size, 0, none⟩ = some (.bool neg) := (hb3.cells _ _ (by first | (simp; done) | (simp; omega) | omega)).trans s0
  have t1 : w3.cell? ⟨w.heap.size, 1, none⟩ = some (.int .u64 m) := (hb3.cells _ _ (by first | (simp; done) | (simp; omega) | omega)).trans s1
  have t2 : w3.cell? ⟨w.heap.size, 2, none⟩ = some (.int .i64 e) := (hb3.cells _ _ (by first | (simp; done) | (simp; omega) | omega)).trans s2
  have t3 : w3.cell? ⟨(w.heap.size + 1), 0, none⟩ = some (.int .i64 (24)) := (hb3.cells _ _ (by first | (simp; done) | (simp; omega) | omega)).trans s3
  have t4 : w3.cell? ⟨(w.heap.size + 1), 1, none⟩ = some (.int .i64 (-126)) := (hb3.cells _ _ (by first | (simp; done) | (simp; omega) | omega)).trans s4
  have t5 : w3.cell? ⟨(w.heap.size + 1), 2, none⟩ = some (.int .i64 (127)) := (hb3.cells _ _ (by first | (simp; done) | (simp; omega) | omega)).trans s5
  have tz : w.heap.size + 1 < w3.heap.size := World.block_lt_of_cell? _ _ t3
  clear s0 s1 s2 s3 s4 s5 sz
  go_wp2
  refine wp_region_within (by kernel_rfl) (by kernel_rfl) ?_
  repeat
    apply wpq_step rfl
    · intro wq hCq
      have q0 : wq.cell? ⟨w.heap.size, 0, none⟩ = some (.bool neg) := (hCq.cells _ _ (by first | (simp; done) | (simp; omega) | omega)).trans t0
      have q1 : wq.cell? ⟨w.heap.size, 1, none⟩ = some (.int .u64 m) := (hCq.cells _ _ (by first | (simp; done) | (simp; omega) | omega)).trans t1
      have q2 : wq.cell? ⟨w.heap.size, 2, none⟩ = some (.int .i64 e) := (hCq.cells _ _ (by first | (simp; done) | (simp; omega) | omega)).trans t2
      have q3 : wq.cell? ⟨(w.heap.size + 1), 0, none⟩ = some (.int .i64 (24)) := (hCq.cells _ _ (by first | (simp; done) | (simp; omega) | omega)).trans t3
      have q4 : wq.cell? ⟨(w.heap.size + 1), 1, none⟩ = some (.int .i64 (-126)) := (hCq.cells _ _ (by first | (simp; done) | (simp; omega) | omega)).trans t4
      have q5 : wq.cell? ⟨(w.heap.size + 1), 2, none⟩ = some (.int .i64 (127)) := (hCq.cells _ _ (by first | (simp; done) | (simp; omega) | omega)).trans t5
      have qz : w.heap.size + 1 < wq.heap.size := World.block_lt_of_cell? _ _ q3
      go_simp
      first | rfl | exact hCq.same (LD.out _) | exact hCq.same (SG.out _) | (trace_state; fail)
    simp only [Act.put, List.setIfInBounds_toArray, List.set_cons_zero, List.set_cons_succ]
  refine wpQuiet_nil ?_
  intro w4 hb4
  go_wp2
  go_ret2
  exact ⟨rfl, (by repeat (first | with_reducible exact Within.refl _ | with_reducible assumption | with_reducible refine Within.alloc ?_ _ | with_reducible refine Within.drew ?_ | with_reducible refine Within.setCell ?_ (by first | (simp; done) | (simp; omega)) _ | with_reducible refine Within.trans ?_ (by assumption)))⟩
set_option maxRecDepth 100000 in
set_option maxHeartbeats 600000 in
theorem round_S_in1 (neg : Bool) (m L q Lq : Nat) (e k : Int) (mode : Int) (h1 : -20000 ≤ e) (h2 : e ≤ 20000) (hL : L ≤ 64) (hLq : Lq ≤ 64) (hk : max (e + (L : Int) - 24) (-149) = k) (LM : Hid (∀ w, Calls Tryz.prog 106 #[.int .u64 m] w fun e' w' => e' = .returned (.int .i64 (L : Nat)) ∧ w = w')) (DR : Hid (∀ w, Calls Tryz.prog 107 #[.agg #[.bool neg, .int .u64 m, .int .i64 e], .int .i64 (k - e), .int .i64 mode] w fun e' w' => e' = .returned (.tuple #[.int .u64 q, .bool true]) ∧ Within w w')) (LQ : Hid (∀ w, Calls Tryz.prog 106 #[.int .u64 q] w fun e' w' => e' = .returned (.int .i64 (Lq : Nat)) ∧ w = w')) (x y z : Nat) (hin : k + (Lq : Int) ≤ 128) (hcv : floatOfInt .f64 (q : Int) = x) (LD : Hid (∀ w, Calls Tryz.prog 105 #[.float .f64 x, .int .i64 k] w fun e' w' => e' = .returned (.float .f64 y) ∧ w = w')) (SG : Hid (∀ w, Calls Tryz.prog 108 #[.float .f64 y, .bool neg] w fun e' w' => e' = .returned (.float .f64 z) ∧ w = w')) (hs : decide (e + (L : Int) - 1 < -126) = false) (w : World) : Calls Tryz.prog 94 #[.agg #[.bool neg, .int .u64 m, .int .i64 e], .agg #[.int .i64 24, .int .i64 (-126), .int .i64 127], .int .i64 mode] w fun e' w' => e' = .returned (.tuple #[.float .f64 z, .int .i64 1]) ∧ Within w w' := by
  have kl : -20100 ≤ k := by omega
  have ku : k ≤ 20100 := by omega
  have gw1 : IntKind.i64.wrap (e + (L : Int)) = e + (L : Int) := by rw [IntKind.wrap_i64]; omega
  have gw2 : IntKind.i64.wrap (k + (Lq : Int)) = k + (Lq : Int) := by rw [IntKind.wrap_i64]; omega
  have gw3 : IntKind.i64.wrap 128 = 128 := by decide
  have hcv' := fun (w : World) => run_convert_int_float (P := Tryz.prog) w 109 68 .u64 .f64 (q : Int) (by kernel_rfl) (by kernel_rfl)
  rw [hcv] at hcv'
  have d : decide (k + (Lq : Int) ≤ 128) = true := decide_eq_true (by omega)
  clear hcv hin
  go_enter Tryz.func94, Tryz.ntmps94
  go_wp2
  refine wp_region_within (by kernel_rfl) (by kernel_rfl) ?_
  repeat
    apply wpq_step rfl
    · intro wq hCq
      have q0 : wq.cell? ⟨w.heap.size, 0, none⟩ = some (.bool neg) := (hCq.cells _ _ (by first | (simp; done) | (simp; omega) | omega)).trans (by simp)
      have q1 : wq.cell? ⟨w.heap.size, 1, none⟩ = some (.int .u64 m) := (hCq.cells _ _ (by first | (simp; done) | (simp; omega) | omega)).trans (by simp)
      have q2 : wq.cell? ⟨w.heap.size, 2, none⟩ = some (.int .i64 e) := (hCq.cells _ _ (by first | (simp; done) | (simp; omega) | omega)).trans (by simp)
      have q3 : wq.cell? ⟨(w.heap.size + 1), 0, none⟩ = some (.int .i64 (24)) := (hCq.cells _ _ (by first | (simp; done) | (simp; omega) | omega)).trans (by simp)
      have q4 : wq.cell? ⟨(w.heap.size + 1), 1, none⟩ = some (.int .i64 (-126)) := (hCq.cells _ _ (by first | (simp; done) | (simp; omega) | omega)).trans (by simp)
      have q5 : wq.cell? ⟨(w.heap.size + 1), 2, none⟩ = some (.int .i64 (127)) := (hCq.cells _ _ (by first | (simp; done) | (simp; omega) | omega)).trans (by simp)
      have qz : w.heap.size + 1 < wq.heap.size := World.block_lt_of_cell? _ _ q3
      go_simp
      first | rfl | exact hCq.same (LM.out _) | (trace_state; fail)
    simp only [Act.put, List.setIfInBounds_toArray, List.set_cons_zero, List.set_cons_succ]
  refine wpQuiet_nil ?_
  intro w1 hb1
  have r0 : w1.cell? ⟨w.heap.size, 0, none⟩ = some (.bool neg) := (hb1.cells _ _ (by first | (simp; done) | (simp; omega) | omega)).trans (by simp)
  have r1 : w1.cell? ⟨w.heap.size, 1, none⟩ = some (.int .u64 m) := (hb1.cells _ _ (by first | (simp; done) | (simp; omega) | omega)).trans (by simp)
  have r2 : w1.cell? ⟨w.heap.size, 2, none⟩ = some (.int .i64 e) := (hb1.cells _ _ (by first | (simp; done) | (simp; omega) | omega)).trans (by simp)
  have r3 : w1.cell? ⟨(w.heap.size + 1), 0, none⟩ = some (.int .i64 (24)) := (hb1.cells _ _ (by first | (simp; done) | (simp; omega) | omega)).trans (by simp)
  have r4 : w1.cell? ⟨(w.heap.size + 1), 1, none⟩ = some (.int .i64 (-126)) := (hb1.cells _ _ (by first | (simp; done) | (simp; omega) | omega)).trans (by simp)
  have r5 : w1.cell? ⟨(w.heap.size + 1), 2, none⟩ = some (.int .i64 (127)) := (hb1.cells _ _ (by first | (simp; done) | (simp; omega) | omega)).trans (by simp)
  have rz : w.heap.size + 1 < w1.heap.size := World.block_lt_of_cell? _ _ r3
  go_wp2_with fail
  refine (DR.out _).mono ?_; rintro e2 w2 ⟨rfl, hb2⟩
  have s0 : w2.cell? ⟨w.heap.size, 0, none⟩ = some (.bool neg) := (hb2.cells _ _ (by first | (simp; done) | (simp; omega) | omega)).trans r0
  have s1 : w2.cell? ⟨w.heap.size, 1, none⟩ = some (.int .u64 m) := (hb2.cells _ _ (by first | (simp; done) | (simp; omega) | omega)).trans r1
  have s2 : w2.cell? ⟨w.heap.size, 2, none⟩ = some (.int .i64 e) := (hb2.cells _ _ (by first | (simp; done) | (simp; omega) | omega)).trans r2
  have s3 : w2.cell? ⟨(w.heap.size + 1), 0, none⟩ = some (.int .i64 (24)) := (hb2.cells _ _ (by first | (simp; done) | (simp; omega) | omega)).trans r3
  have s4 : w2.cell? ⟨(w.heap.size + 1), 1, none⟩ = some (.int .i64 (-126)) := (hb2.cells _ _ (by first | (simp; done) | (simp; omega) | omega)).trans r4
  have s5 : w2.cell? ⟨(w.heap.size + 1), 2, none⟩ = some (.int .i64 (127)) := (hb2.cells _ _ (by first | (simp; done) | (simp; omega) | omega)).trans r5
  have sz : w.heap.size + 1 < w2.heap.size := World.block_lt_of_cell? _ _ s3
  clear r0 r1 r2 r3 r4 r5 rz
  go_wp2
  refine wp_region_within (by kernel_rfl) (by kernel_rfl) ?_
  repeat
    apply wpq_step rfl
    · intro wq hCq
      have q0 : wq.cell? ⟨w.heap.size, 0, none⟩ = some (.bool neg) := (hCq.cells _ _ (by first | (simp; done) | (simp; omega) | omega)).trans s0
      have q1 : wq.cell? ⟨w.heap.size, 1, none⟩ = some (.int .u64 m) := (hCq.cells _ _ (by first | (simp; done) | (simp; omega) | omega)).trans s1
      have q2 : wq.cell? ⟨w.heap.size, 2, none⟩ = some (.int .i64 e) := (hCq.cells _ _ (by first | (simp; done) | (simp; omega) | omega)).trans s2
      have q3 : wq.cell? ⟨(w.heap.size + 1), 0, none⟩ = some (.int .i64 (24)) := (hCq.cells _ _ (by first | (simp; done) | (simp; omega) | omega)).trans s3
      have q4 : wq.cell? ⟨(w.heap.size + 1), 1, none⟩ = some (.int .i64 (-126)) := (hCq.cells _ _ (by first | (simp; done) | (simp; omega) | omega)).trans s4
      have q5 : wq.cell? ⟨(w.heap.size + 1), 2, none⟩ = some (.int .i64 (127)) := (hCq.cells _ _ (by first | (simp; done) | (simp; omega) | omega)).trans s5
      have qz : w.heap.size + 1 < wq.heap.size := World.block_lt_of_cell? _ _ q3
      go_simp
      first | rfl | exact hCq.same (LQ.out _) | (trace_state; fail)
    simp only [Act.put, List.setIfInBounds_toArray, List.set_cons_zero, List.set_cons_succ]
  refine wpQuiet_nil ?_
  intro w3 hb3
  have t0 : w3.cell? ⟨w.heap.size, 0, none⟩ = some (.bool neg) := (hb3.cells _ _ (by first | (simp; done) | (simp; omega) | omega)).trans s0
  have t1 : w3.cell? ⟨w.heap.size, 1, none⟩ = some (.int .u64 m) := (hb3.cells _ _ (by first | (simp; done) | (simp; omega) | omega)).trans s1
  have t2 : w3.cell? ⟨w.heap.size, 2, none⟩ = some (.int .i64 e) := (hb3.cells _ _ (by first | (simp; done) | (simp; omega) | omega)).trans s2
  have t3 : w3.cell? ⟨(w.heap.size + 1), 0, none⟩ = some (.int .i64 (24)) := (hb3.cells _ _ (by first | (simp; done) | (simp; omega) | omega)).trans s3
  have t4 : w3.cell? ⟨(w.heap.size + 1), 1, none⟩ = some (.int .i64 (-126)) := (hb3.cells _ _ (by first | (simp; done) | (simp; omega) | omega)).trans s4
  have t5 : w3.cell? ⟨(w.heap.size + 1), 2, none⟩ = some (.int .i64 (127)) := (hb3.cells _ _ (by first | (simp; done) | (simp; omega) | omega)).trans s5
  have tz : w.heap.size + 1 < w3.heap.size := World.block_lt_of_cell? _ _ t3
  clear s0 s1 s2 s3 s4 s5 sz
  go_wp2
  refine wp_region_within (by kernel_rfl) (by kernel_rfl) ?_
  repeat
    apply wpq_step rfl
    · intro wq hCq
      have q0 : wq.cell? ⟨w.heap.size, 0, none⟩ = some (.bool neg) := (hCq.cells _ _ (by first | (simp; done) | (simp; omega) | omega)).trans t0
      have q1 : wq.cell? ⟨w.heap.size, 1, none⟩ = some (.int .u64 m) := (hCq.cells _ _ (by first | (simp; done) | (simp; omega) | omega)).trans t1
      have q2 : wq.cell? ⟨w.heap.size, 2, none⟩ = some (.int .i64 e) := (hCq.cells _ _ (by first | (simp; done) | (simp; omega) | omega)).trans t2
      have q3 : wq.cell? ⟨(w.heap.size + 1), 0, none⟩ = some (.int .i64 (24)) := (hCq.cells _ _ (by first | (simp; done) | (simp; omega) | omega)).trans t3
      have q4 : wq.cell? ⟨(w.heap.size + 1), 1, none⟩ = some (.int .i64 (-126)) := (hCq.cells _ _ (by first | (simp; done) | (simp; omega) | omega)).trans t4
      have q5 : wq.cell? ⟨(w.heap.size + 1), 2, none⟩ = some (.int .i64 (127)) := (hCq.cells _ _ (by first | (simp; done) | (simp; omega) | omega)).trans t5
      have qz : w.heap.size + 1 < wq.heap.size := World.block_lt_of_cell? _ _ q3
      go_simp
      first | rfl | exact hCq.same (LD.out _) | exact hCq.same (SG.out _) | (trace_state; fail)
    simp only [Act.put, List.setIfInBounds_toArray, List.set_cons_zero, List.set_cons_succ]
  refine wpQuiet_nil ?_
  intro w4 hb4
  go_wp2
  go_ret2
  exact ⟨rfl, (by repeat (first | with_reducible exact Within.refl _ | with_reducible assumption | with_reducible refine Within.alloc ?_ _ | with_reducible refine Within.drew ?_ | with_reducible refine Within.setCell ?_ (by first | (simp; done) | (simp; omega)) _ | with_reducible refine Within.trans ?_ (by assumption)))⟩
set_option maxRecDepth 100000 in
set_option maxHeartbeats 600000 in
theorem round_S_in3 (neg : Bool) (m L q Lq : Nat) (e k : Int) (mode : Int) (h1 : -20000 ≤ e) (h2 : e ≤ 20000) (hL : L ≤ 64) (hLq : Lq ≤ 64) (hk : max (e + (L : Int) - 24) (-149) = k) (LM : Hid (∀ w, Calls Tryz.prog 106 #[.int .u64 m] w fun e' w' => e' = .returned (.int .i64 (L : Nat)) ∧ w = w')) (DR : Hid (∀ w, Calls Tryz.prog 107 #[.agg #[.bool neg, .int .u64 m, .int .i64 e], .int .i64 (k - e), .int .i64 mode] w fun e' w' => e' = .returned (.tuple #[.int .u64 q, .bool true]) ∧ Within w w')) (LQ : Hid (∀ w, Calls Tryz.prog 106 #[.int .u64 q] w fun e' w' => e' = .returned (.int .i64 (Lq : Nat)) ∧ w = w')) (x y z : Nat) (hin : k + (Lq : Int) ≤ 128) (hcv : floatOfInt .f64 (q : Int) = x) (LD : Hid (∀ w, Calls Tryz.prog 105 #[.float .f64 x, .int .i64 k] w fun e' w' => e' = .returned (.float .f64 y) ∧ w = w')) (SG : Hid (∀ w, Calls Tryz.prog 108 #[.float .f64 y, .bool neg] w fun e' w' => e' = .returned (.float .f64 z) ∧ w = w')) (hs : decide (e + (L : Int) - 1 < -126) = true) (w : World) : Calls Tryz.prog 94 #[.agg #[.bool neg, .int .u64 m, .int .i64 e], .agg #[.int .i64 24, .int .i64 (-126), .int .i64 127], .int .i64 mode] w fun e' w' => e' = .returned (.tuple #[.float .f64 z, .int .i64 3]) ∧ Within w w' := by
  have kl : -20100 ≤ k := by omega
  have ku : k ≤ 20100 := by omega
  have gw1 : IntKind.i64.wrap (e + (L : Int)) = e + (L : Int) := by rw [IntKind.wrap_i64]; omega
  have gw2 : IntKind.i64.wrap (k + (Lq : Int)) = k + (Lq : Int) := by rw [IntKind.wrap_i64]; omega
  have gw3 : IntKind.i64.wrap 128 = 128 := by decide
  have hcv' := fun (w : World) => run_convert_int_float (P := Tryz.prog) w 109 68 .u64 .f64 (q : Int) (by kernel_rfl) (by kernel_rfl)
  rw [hcv] at hcv'
  have d : decide (k + (Lq : Int) ≤ 128) = true := decide_eq_true (by omega)
  clear hcv hin
  go_enter Tryz.func94, Tryz.ntmps94
  go_wp2
  refine wp_region_within (by kernel_rfl) (by kernel_rfl) ?_
  repeat
    apply wpq_step rfl
    · intro wq hCq
      have q0 : wq.cell? ⟨w.heap.size, 0, none⟩ = some (.bool neg) := (hCq.cells _ _ (by first | (simp; done) | (simp; omega) | omega)).trans (by simp)
      have q1 : wq.cell? ⟨w.heap.size, 1, none⟩ = some (.int .u64 m) := (hCq.cells _ _ (by first | (simp; done) | (simp; omega) | omega)).trans (by simp)
      have q2 : wq.cell? ⟨w.heap.size, 2, none⟩ = some (.int .i64 e) := (hCq.cells _ _ (by first | (simp; done) | (simp; omega) | omega)).trans (by simp)
      have q3 : wq.cell? ⟨(w.heap.size + 1), 0, none⟩ = some (.int .i64 (24)) := (hCq.cells _ _ (by first | (simp; done) | (simp; omega) | omega)).trans (by simp)
      have q4 : wq.cell? ⟨(w.heap.size + 1), 1, none⟩ = some (.int .i64 (-126)) := (hCq.cells _ _ (by first | (simp; done) | (simp; omega) | omega)).trans (by simp)
      have q5 : wq.cell? ⟨(w.heap.size + 1), 2, none⟩ = some (.int .i64 (127)) := (hCq.cells _ _ (by first | (simp; done) | (simp; omega) | omega)).trans (by simp)
      have qz : w.heap.size + 1 < wq.heap.size := World.block_lt_of_cell? _ _ q3
      go_simp
      first | rfl | exact hCq.same (LM.out _) | (trace_state; fail)
    simp only [Act.put, List.setIfInBounds_toArray, List.set_cons_zero, List.set_cons_succ]
  refine wpQuiet_nil ?_
  intro w1 hb1
  have r0 : w1.cell? ⟨w.heap.size, 0, none⟩ = some (.bool neg) := (hb1.cells _ _ (by first | (simp; done) | (simp; omega) | omega)).trans (by simp)
  have r1 : w1.cell? ⟨w.heap.size, 1, none⟩ = some (.int .u64 m) := (hb1.cells _ _ (by first | (simp; done) | (simp; omega) | omega)).trans (by simp)
  have r2 : w1.cell? ⟨w.heap.size, 2, none⟩ = some (.int .i64 e) := (hb1.cells _ _ (by first | (simp; done) | (simp; omega) | omega)).trans (by simp)
  have r3 : w1.cell? ⟨(w.heap.size + 1), 0, none⟩ = some (.int .i64 (24)) := (hb1.cells _ _ (by first | (simp; done) | (simp; omega) | omega)).trans (by simp)
  have r4 : w1.cell? ⟨(w.heap.size + 1), 1, none⟩ = some (.int .i64 (-126)) := (hb1.cells _ _ (by first | (simp; done) | (simp; omega) | omega)).trans (by simp)
  have r5 : w1.cell? ⟨(w.heap.size + 1), 2, none⟩ = some (.int .i64 (127)) := (hb1.cells _ _ (by first | (simp; done) | (simp; omega) | omega)).trans (by simp)
  have rz : w.heap.size + 1 < w1.heap.size := World.block_lt_of_cell? _ _ r3
  go_wp2_with fail
  refine (DR.out _).mono ?_; rintro e2 w2 ⟨rfl, hb2⟩
  have s0 : w2.cell? ⟨w.heap.size, 0, none⟩ = some (.bool neg) := (hb2.cells _ _ (by first | (simp; done) | (simp; omega) | omega)).trans r0
  have s1 : w2.cell? ⟨w.heap.size, 1, none⟩ = some (.int .u64 m) := (hb2.cells _ _ (by first | (simp; done) | (simp; omega) | omega)).trans r1
  have s2 : w2.cell? ⟨w.heap.size, 2, none⟩ = some (.int .i64 e) := (hb2.cells _ _ (by first | (simp; done) | (simp; omega) | omega)).trans r2
  have s3 : w2.cell? ⟨(w.heap.size + 1), 0, none⟩ = some (.int .i64 (24)) := (hb2.cells _ _ (by first | (simp; done) | (simp; omega) | omega)).trans r3
  have s4 : w2.cell? ⟨(w.heap.size + 1), 1, none⟩ = some (.int .i64 (-126)) := (hb2.cells _ _ (by first | (simp; done) | (simp; omega) | omega)).trans r4
  have s5 : w2.cell? ⟨(w.heap.size + 1), 2, none⟩ = some (.int .i64 (127)) := (hb2.cells _ _ (by first | (simp; done) | (simp; omega) | omega)).trans r5
  have sz : w.heap.size + 1 < w2.heap.size := World.block_lt_of_cell? _ _ s3
  clear r0 r1 r2 r3 r4 r5 rz
  go_wp2
  refine wp_region_within (by kernel_rfl) (by kernel_rfl) ?_
  repeat
    apply wpq_step rfl
    · intro wq hCq
      have q0 : wq.cell? ⟨w.heap.size, 0, none⟩ = some (.bool neg) := (hCq.cells _ _ (by first | (simp; done) | (simp; omega) | omega)).trans s0
      have q1 : wq.cell? ⟨w.heap.size, 1, none⟩ = some (.int .u64 m) := (hCq.cells _ _ (by first | (simp; done) | (simp; omega) | omega)).trans s1
      have q2 : wq.cell? ⟨w.heap.size, 2, none⟩ = some (.int .i64 e) := (hCq.cells _ _ (by first | (simp; done) | (simp; omega) | omega)).trans s2
      have q3 : wq.cell? ⟨(w.heap.size + 1), 0, none⟩ = some (.int .i64 (24)) := (hCq.cells _ _ (by first | (simp; done) | (simp; omega) | omega)).trans s3
      have q4 : wq.cell? ⟨(w.heap.size + 1), 1, none⟩ = some (.int .i64 (-126)) := (hCq.cells _ _ (by first | (simp; done) | (simp; omega) | omega)).trans s4
      have q5 : wq.cell? ⟨(w.heap.size + 1), 2, none⟩ = some (.int .i64 (127)) := (hCq.cells _ _ (by first | (simp; done) | (simp; omega) | omega)).trans s5
      have qz : w.heap.size + 1 < wq.heap.size := World.block_lt_of_cell? _ _ q3
      go_simp
      first | rfl | exact hCq.same (LQ.out _) | (trace_state; fail)
    simp only [Act.put, List.setIfInBounds_toArray, List.set_cons_zero, List.set_cons_succ]
  refine wpQuiet_nil ?_
  intro w3 hb3
  have t0 : w3.cell? ⟨w.heap.size, 0, none⟩ = some (.bool neg) := (hb3.cells _ _ (by first | (simp; done) | (simp; omega) | omega)).trans s0
  have t1 : w3.cell? ⟨w.heap.size, 1, none⟩ = some (.int .u64 m) := (hb3.cells _ _ (by first | (simp; done) | (simp; omega) | omega)).trans s1
  have t2 : w3.cell? ⟨w.heap.size, 2, none⟩ = some (.int .i64 e) := (hb3.cells _ _ (by first | (simp; done) | (simp; omega) | omega)).trans s2
  have t3 : w3.cell? ⟨(w.heap.size + 1), 0, none⟩ = some (.int .i64 (24)) := (hb3.cells _ _ (by first | (simp; done) | (simp; omega) | omega)).trans s3
  have t4 : w3.cell? ⟨(w.heap.size + 1), 1, none⟩ = some (.int .i64 (-126)) := (hb3.cells _ _ (by first | (simp; done) | (simp; omega) | omega)).trans s4
  have t5 : w3.cell? ⟨(w.heap.size + 1), 2, none⟩ = some (.int .i64 (127)) := (hb3.cells _ _ (by first | (simp; done) | (simp; omega) | omega)).trans s5
  have tz : w.heap.size + 1 < w3.heap.size := World.block_lt_of_cell? _ _ t3
  clear s0 s1 s2 s3 s4 s5 sz
  go_wp2
  refine wp_region_within (by kernel_rfl) (by kernel_rfl) ?_
  repeat
    apply wpq_step rfl
    · intro wq hCq
      have q0 : wq.cell? ⟨w.heap.size, 0, none⟩ = some (.bool neg) := (hCq.cells _ _ (by first | (simp; done) | (simp; omega) | omega)).trans t0
      have q1 : wq.cell? ⟨w.heap.size, 1, none⟩ = some (.int .u64 m) := (hCq.cells _ _ (by first | (simp; done) | (simp; omega) | omega)).trans t1
      have q2 : wq.cell? ⟨w.heap.size, 2, none⟩ = some (.int .i64 e) := (hCq.cells _ _ (by first | (simp; done) | (simp; omega) | omega)).trans t2
      have q3 : wq.cell? ⟨(w.heap.size + 1), 0, none⟩ = some (.int .i64 (24)) := (hCq.cells _ _ (by first | (simp; done) | (simp; omega) | omega)).trans t3
      have q4 : wq.cell? ⟨(w.heap.size + 1), 1, none⟩ = some (.int .i64 (-126)) := (hCq.cells _ _ (by first | (simp; done) | (simp; omega) | omega)).trans t4
      have q5 : wq.cell? ⟨(w.heap.size + 1), 2, none⟩ = some (.int .i64 (127)) := (hCq.cells _ _ (by first | (simp; done) | (simp; omega) | omega)).trans t5
      have qz : w.heap.size + 1 < wq.heap.size := World.block_lt_of_cell? _ _ q3
      go_simp
      first | rfl | exact hCq.same (LD.out _) | exact hCq.same (SG.out _) | (trace_state; fail)
    simp only [Act.put, List.setIfInBounds_toArray, List.set_cons_zero, List.set_cons_succ]
  refine wpQuiet_nil ?_
  intro w4 hb4
  go_wp2
  go_ret2
  exact ⟨rfl, (by repeat (first | with_reducible exact Within.refl _ | with_reducible assumption | with_reducible refine Within.alloc ?_ _ | with_reducible refine Within.drew ?_ | with_reducible refine Within.setCell ?_ (by first | (simp; done) | (simp; omega)) _ | with_reducible refine Within.trans ?_ (by assumption)))⟩
set_option maxRecDepth 100000 in
set_option maxHeartbeats 600000 in
theorem round_S_top0_2 (neg : Bool) (m L q Lq : Nat) (e k : Int) (h1 : -20000 ≤ e) (h2 : e ≤ 20000) (hL : L ≤ 64) (hLq : Lq ≤ 64) (hk : max (e + (L : Int) - 24) (-149) = k) (LM : Hid (∀ w, Calls Tryz.prog 106 #[.int .u64 m] w fun e' w' => e' = .returned (.int .i64 (L : Nat)) ∧ w = w')) (DR : Hid (∀ w, Calls Tryz.prog 107 #[.agg #[.bool neg, .int .u64 m, .int .i64 e], .int .i64 (k - e), .int .i64 2] w fun e' w' => e' = .returned (.tuple #[.int .u64 q, .bool false]) ∧ Within w w')) (LQ : Hid (∀ w, Calls Tryz.prog 106 #[.int .u64 q] w fun e' w' => e' = .returned (.int .i64 (Lq : Nat)) ∧ w = w')) (x g z : Nat) (hin : 128 < k + (Lq : Int)) (hcv : floatOfInt .f64 (16777215 : Int) = x) (LD : Hid (∀ w, Calls Tryz.prog 105 #[.float .f64 x, .int .i64 104] w fun e' w' => e' = .returned (.float .f64 g) ∧ w = w'))  (SG : Hid (∀ w, Calls Tryz.prog 108 #[.float .f64 g, .bool neg] w fun e' w' => e' = .returned (.float .f64 z) ∧ w = w')) (w : World) : Calls Tryz.prog 94 #[.agg #[.bool neg, .int .u64 m, .int .i64 e], .agg #[.int .i64 24, .int .i64 (-126), .int .i64 127], .int .i64 2] w fun e' w' => e' = .returned (.tuple #[.float .f64 z, .int .i64 5]) ∧ Within w w' := by
  have kl : -20100 ≤ k := by omega
  have ku : k ≤ 20100 := by omega
  have gw1 : IntKind.i64.wrap (e + (L : Int)) = e + (L : Int) := by rw [IntKind.wrap_i64]; omega
  have gw2 : IntKind.i64.wrap (k + (Lq : Int)) = k + (Lq : Int) := by rw [IntKind.wrap_i64]; omega
  have gw3 : IntKind.i64.wrap 128 = 128 := by decide
  have hcv' := fun (w : World) => run_convert_int_float (P := Tryz.prog) w 109 68 .u64 .f64 (16777215 : Int) (by kernel_rfl) (by kernel_rfl)
  rw [hcv] at hcv'
  have d : decide (k + (Lq : Int) ≤ 128) = false := decide_eq_false (by omega)
  clear hcv hin
  go_enter Tryz.func94, Tryz.ntmps94
  go_wp2
  refine wp_region_within (by kernel_rfl) (by kernel_rfl) ?_
  repeat
    apply wpq_step rfl
    · intro wq hCq
      have q0 : wq.cell? ⟨w.heap.size, 0, none⟩ = some (.bool neg) := (hCq.cells _ _ (by first | (simp; done) | (simp; omega) | omega)).trans (by simp)
      have q1 : wq.cell? ⟨w.heap.size, 1, none⟩ = some (.int .u64 m) := (hCq.cells _ _ (by first | (simp; done) | (simp; omega) | omega)).trans (by simp)
      have q2 : wq.cell? ⟨w.heap.size, 2, none⟩ = some (.int .i64 e) := (hCq.cells _ _ (by first | (simp; done) | (simp; omega) | omega)).trans (by simp)
      have q3 : wq.cell? ⟨(w.heap.size + 1), 0, none⟩ = some (.int .i64 (24)) := (hCq.cells _ _ (by first | (simp; done) | (simp; omega) | omega)).trans (by simp)
      have q4 : wq.cell? ⟨(w.heap.size + 1), 1, none⟩ = some (.int .i64 (-126)) := (hCq.cells _ _ (by first | (simp; done) | (simp; omega) | omega)).trans (by simp)
      have q5 : wq.cell? ⟨(w.heap.size + 1), 2, none⟩ = some (.int .i64 (127)) := (hCq.cells _ _ (by first | (simp; done) | (simp; omega) | omega)).trans (by simp)
      have qz : w.heap.size + 1 < wq.heap.size := World.block_lt_of_cell? _ _ q3
      go_simp
      first | rfl | exact hCq.same (LM.out _) | (trace_state; fail)
    simp only [Act.put, List.setIfInBounds_toArray, List.set_cons_zero, List.set_cons_succ]
  refine wpQuiet_nil ?_
  intro w1 hb1
  have r0 : w1.cell? ⟨w.heap.size, 0, none⟩ = some (.bool neg) := (hb1.cells _ _ (by first | (simp; done) | (simp; omega) | omega)).trans (by simp)
  have r1 : w1.cell? ⟨w.heap.size, 1, none⟩ = some (.int .u64 m) := (hb1.cells _ _ (by first | (simp; done) | (simp; omega) | omega)).trans (by simp)
  have r2 : w1.cell? ⟨w.heap.size, 2, none⟩ = some (.int .i64 e) := (hb1.cells _ _ (by first | (simp; done) | (simp; omega) | omega)).trans (by simp)
  have r3 : w1.cell? ⟨(w.heap.size + 1), 0, none⟩ = some (.int .i64 (24)) := (hb1.cells _ _ (by first | (simp; done) | (simp; omega) | omega)).trans (by simp)
  have r4 : w1.cell? ⟨(w.heap.size + 1), 1, none⟩ = some (.int .i64 (-126)) := (hb1.cells _ _ (by first | (simp; done) | (simp; omega) | omega)).trans (by simp)
  have r5 : w1.cell? ⟨(w.heap.size + 1), 2, none⟩ = some (.int .i64 (127)) := (hb1.cells _ _ (by first | (simp; done) | (simp; omega) | omega)).trans (by simp)
  have rz : w.heap.size + 1 < w1.heap.size := World.block_lt_of_cell? _ _ r3
  go_wp2_with fail
  refine (DR.out _).mono ?_; rintro e2 w2 ⟨rfl, hb2⟩
  have s0 : w2.cell? ⟨w.heap.size, 0, none⟩ = some (.bool neg) := (hb2.cells _ _ (by first | (simp; done) | (simp; omega) | omega)).trans r0
  have s1 : w2.cell? ⟨w.heap.size, 1, none⟩ = some (.int .u64 m) := (hb2.cells _ _ (by first | (simp; done) | (simp; omega) | omega)).trans r1
  have s2 : w2.cell? ⟨w.heap.size, 2, none⟩ = some (.int .i64 e) := (hb2.cells _ _ (by first | (simp; done) | (simp; omega) | omega)).trans r2
  have s3 : w2.cell? ⟨(w.heap.size + 1), 0, none⟩ = some (.int .i64 (24)) := (hb2.cells _ _ (by first | (simp; done) | (simp; omega) | omega)).trans r3
  have s4 : w2.cell? ⟨(w.heap.size + 1), 1, none⟩ = some (.int .i64 (-126)) := (hb2.cells _ _ (by first | (simp; done) | (simp; omega) | omega)).trans r4
  have s5 : w2.cell? ⟨(w.heap.size + 1), 2, none⟩ = some (.int .i64 (127)) := (hb2.cells _ _ (by first | (simp; done) | (simp; omega) | omega)).trans r5
  have sz : w.heap.size + 1 < w2.heap.size := World.block_lt_of_cell? _ _ s3
  clear r0 r1 r2 r3 r4 r5 rz
  go_wp2
  refine wp_region_within (by kernel_rfl) (by kernel_rfl) ?_
  repeat
    apply wpq_step rfl
    · intro wq hCq
      have q0 : wq.cell? ⟨w.heap.size, 0, none⟩ = some (.bool neg) := (hCq.cells _ _ (by first | (simp; done) | (simp; omega) | omega)).trans s0
      have q1 : wq.cell? ⟨w.heap.size, 1, none⟩ = some (.int .u64 m) := (hCq.cells _ _ (by first | (simp; done) | (simp; omega) | omega)).trans s1
      have q2 : wq.cell? ⟨w.heap.size, 2, none⟩ = some (.int .i64 e) := (hCq.cells _ _ (by first | (simp; done) | (simp; omega) | omega)).trans s2
      have q3 : wq.cell? ⟨(w.heap.size + 1), 0, none⟩ = some (.int .i64 (24)) := (hCq.cells _ _ (by first | (simp; done) | (simp; omega) | omega)).trans s3
      have q4 : wq.cell? ⟨(w.heap.size + 1), 1, none⟩ = some (.int .i64 (-126)) := (hCq.cells _ _ (by first | (simp; done) | (simp; omega) | omega)).trans s4
      have q5 : wq.cell? ⟨(w.heap.size + 1), 2, none⟩ = some (.int .i64 (127)) := (hCq.cells _ _ (by first | (simp; done) | (simp; omega) | omega)).trans s5
      have qz : w.heap.size + 1 < wq.heap.size := World.block_lt_of_cell? _ _ q3
      go_simp
      first | rfl | exact hCq.same (LQ.out _) | (trace_state; fail)
    simp only [Act.put, List.setIfInBounds_toArray, List.set_cons_zero, List.set_cons_succ]
  refine wpQuiet_nil ?_
  intro w3 hb3
  have t0 : w3.cell? ⟨w.heap.size, 0, none⟩ = some (.bool neg) := (hb3.cells _ _ (by first | (simp; done) | (simp; omega) | omega)).trans s0
  have t1 : w3.cell? ⟨w.heap.size, 1, none⟩ = some (.int .u64 m) := (hb3.cells _ _ (by first | (simp; done) | (simp; omega) | omega)).trans s1
  have t2 : w3.cell? ⟨w.heap.size, 2, none⟩ = some (.int .i64 e) := (hb3.cells _ _ (by first | (simp; done) | (simp; omega) | omega)).trans s2
  have t3 : w3.cell? ⟨(w.heap.size + 1), 0, none⟩ = some (.int .i64 (24)) := (hb3.cells _ _ (by first | (simp; done) | (simp; omega) | omega)).trans s3
  have t4 : w3.cell? ⟨(w.heap.size + 1), 1, none⟩ = some (.int .i64 (-126)) := (hb3.cells _ _ (by first | (simp; done) | (simp; omega) | omega)).trans s4
  have t5 : w3.cell? ⟨(w.heap.size + 1), 2, none⟩ = some (.int .i64 (127)) := (hb3.cells _ _ (by first | (simp; done) | (simp; omega) | omega)).trans s5
  have tz : w.heap.size + 1 < w3.heap.size := World.block_lt_of_cell? _ _ t3
  clear s0 s1 s2 s3 s4 s5 sz
  go_wp2_with fail
  refine (LD.out _).mono ?_; rintro e4 w4 ⟨rfl, rfl⟩
  go_wp2_with fail
  refine (SG.out _).mono ?_; rintro e5 w5 ⟨rfl, rfl⟩
  go_wp2
  go_ret2
  exact ⟨rfl, (by repeat (first | with_reducible exact Within.refl _ | with_reducible assumption | with_reducible refine Within.alloc ?_ _ | with_reducible refine Within.drew ?_ | with_reducible refine Within.setCell ?_ (by first | (simp; done) | (simp; omega)) _ | with_reducible refine Within.trans ?_ (by assumption)))⟩
set_option maxRecDepth 100000 in
set_option maxHeartbeats 600000 in
theorem round_S_top0_3 (m L q Lq : Nat) (e k : Int) (h1 : -20000 ≤ e) (h2 : e ≤ 20000) (hL : L ≤ 64) (hLq : Lq ≤ 64) (hk : max (e + (L : Int) - 24) (-149) = k) (LM : Hid (∀ w, Calls Tryz.prog 106 #[.int .u64 m] w fun e' w' => e' = .returned (.int .i64 (L : Nat)) ∧ w = w')) (DR : Hid (∀ w, Calls Tryz.prog 107 #[.agg #[.bool true, .int .u64 m, .int .i64 e], .int .i64 (k - e), .int .i64 3] w fun e' w' => e' = .returned (.tuple #[.int .u64 q, .bool false]) ∧ Within w w')) (LQ : Hid (∀ w, Calls Tryz.prog 106 #[.int .u64 q] w fun e' w' => e' = .returned (.int .i64 (Lq : Nat)) ∧ w = w')) (x g z : Nat) (hin : 128 < k + (Lq : Int)) (hcv : floatOfInt .f64 (16777215 : Int) = x) (LD : Hid (∀ w, Calls Tryz.prog 105 #[.float .f64 x, .int .i64 104] w fun e' w' => e' = .returned (.float .f64 g) ∧ w = w'))  (SG : Hid (∀ w, Calls Tryz.prog 108 #[.float .f64 g, .bool true] w fun e' w' => e' = .returned (.float .f64 z) ∧ w = w')) (w : World) : Calls Tryz.prog 94 #[.agg #[.bool true, .int .u64 m, .int .i64 e], .agg #[.int .i64 24, .int .i64 (-126), .int .i64 127], .int .i64 3] w fun e' w' => e' = .returned (.tuple #[.float .f64 z, .int .i64 5]) ∧ Within w w' := by
  have kl : -20100 ≤ k := by omega
  have ku : k ≤ 20100 := by omega
  have gw1 : IntKind.i64.wrap (e + (L : Int)) = e + (L : Int) := by rw [IntKind.wrap_i64]; omega
  have gw2 : IntKind.i64.wrap (k + (Lq : Int)) = k + (Lq : Int) := by rw [IntKind.wrap_i64]; omega
  have gw3 : IntKind.i64.wrap 128 = 128 := by decide
  have hcv' := fun (w : World) => run_convert_int_float (P := Tryz.prog) w 109 68 .u64 .f64 (16777215 : Int) (by kernel_rfl) (by kernel_rfl)
  rw [hcv] at hcv'
  have d : decide (k + (Lq : Int) ≤ 128) = false := decide_eq_false (by omega)
  clear hcv hin
  go_enter Tryz.func94, Tryz.ntmps94
  go_wp2
  refine wp_region_within (by kernel_rfl) (by kernel_rfl) ?_
  repeat
    apply wpq_step rfl
    · intro wq hCq
      have q0 : wq.cell? ⟨w.heap.size, 0, none⟩ = some (.bool true) := (hCq.cells _ _ (by first | (simp; done) | (simp; omega) | omega)).trans (by simp)
      have q1 : wq.cell? ⟨w.heap.size, 1, none⟩ = some (.int .u64 m) := (hCq.cells _ _ (by first | (simp; done) | (simp; omega) | omega)).trans (by simp)
      have q2 : wq.cell? ⟨w.heap.size, 2, none⟩ = some (.int .i64 e) := (hCq.cells _ _ (by first | (simp; done) | (simp; omega) | omega)).trans (by simp)
      have q3 : wq.cell? ⟨(w.heap.size + 1), 0, none⟩ = some (.int .i64 (24)) := (hCq.cells _ _ (by first | (simp; done) | (simp; omega) | omega)).trans (by simp)
      have q4 : wq.cell? ⟨(w.heap.size + 1), 1, none⟩ = some (.int .i64 (-126)) := (hCq.cells _ _ (by first | (simp; done) | (simp; omega) | omega)).trans (by simp)
      have q5 : wq.cell? ⟨(w.heap.size + 1), 2, none⟩ = some (.int .i64 (127)) := (hCq.cells _ _ (by first | (simp; done) | (simp; omega) | omega)).trans (by simp)
      have qz : w.heap.size + 1 < wq.heap.size := World.block_lt_of_cell? _ _ q3
      go_simp
      first | rfl | exact hCq.same (LM.out _) | (trace_state; fail)
    simp only [Act.put, List.setIfInBounds_toArray, List.set_cons_zero, List.set_cons_succ]
  refine wpQuiet_nil ?_
  intro w1 hb1
  have r0 : w1.cell? ⟨w.heap.size, 0, none⟩ = some (.bool true) := (hb1.cells _ _ (by first | (simp; done) | (simp; omega) | omega)).trans (by simp)
  have r1 : w1.cell? ⟨w.heap.size, 1, none⟩ = some (.int .u64 m) := (hb1.cells _ _ (by first | (simp; done) | (simp; omega) | omega)).trans (by simp)
  have r2 : w1.cell? ⟨w.heap.size, 2, none⟩ = some (.int .i64 e) := (hb1.cells _ _ (by first | (simp; done) | (simp; omega) | omega)).trans (by simp)
  have r3 : w1.cell? ⟨(w.heap.size + 1), 0, none⟩ = some (.int .i64 (24)) := (hb1.cells _ _ (by first | (simp; done) | (simp; omega) | omega)).trans (by simp)
  have r4 : w1.cell? ⟨(w.heap.size + 1), 1, none⟩ = some (.int .i64 (-126)) := (hb1.cells _ _ (by first | (simp; done) | (simp; omega) | omega)).trans (by simp)
  have r5 : w1.cell? ⟨(w.heap.size + 1), 2, none⟩ = some (.int .i64 (127)) := (hb1.cells _ _ (by first | (simp; done) | (simp; omega) | omega)).trans (by simp)
  have rz : w.heap.size + 1 < w1.heap.size := World.block_lt_of_cell? _ _ r3
  go_wp2_with fail
  refine (DR.out _).mono ?_; rintro e2 w2 ⟨rfl, hb2⟩
  have s0 : w2.cell? ⟨w.heap.size, 0, none⟩ = some (.bool true) := (hb2.cells _ _ (by first | (simp; done) | (simp; omega) | omega)).trans r0
  have s1 : w2.cell? ⟨w.heap.size, 1, none⟩ = some (.int .u64 m) := (hb2.cells _ _ (by first | (simp; done) | (simp; omega) | omega)).trans r1
  have s2 : w2.cell? ⟨w.heap.size, 2, none⟩ = some (.int .i64 e) := (hb2.cells _ _ (by first | (simp; done) | (simp; omega) | omega)).trans r2
  have s3 : w2.cell? ⟨(w.heap.size + 1), 0, none⟩ = some (.int .i64 (24)) := (hb2.cells _ _ (by first | (simp; done) | (simp; omega) | omega)).trans r3
  have s4 : w2.cell? ⟨(w.heap.size + 1), 1, none⟩ = some (.int .i64 (-126)) := (hb2.cells _ _ (by first | (simp; done) | (simp; omega) | omega)).trans r4
  have s5 : w2.cell? ⟨(w.heap.size + 1), 2, none⟩ = some (.int .i64 (127)) := (hb2.cells _ _ (by first | (simp; done) | (simp; omega) | omega)).trans r5
  have sz : w.heap.size + 1 < w2.heap.size := World.block_lt_of_cell? _ _ s3
  clear r0 r1 r2 r3 r4 r5 rz
  go_wp2
  refine wp_region_within (by kernel_rfl) (by kernel_rfl) ?_
  repeat
    apply wpq_step rfl
    · intro wq hCq
      have q0 : wq.cell? ⟨w.heap.size, 0, none⟩ = some (.bool true) := (hCq.cells _ _ (by first | (simp; done) | (simp; omega) | omega)).trans s0
      have q1 : wq.cell? ⟨w.heap.size, 1, none⟩ = some (.int .u64 m) := (hCq.cells _ _ (by first | (simp; done) | (simp; omega) | omega)).trans s1
      have q2 : wq.cell? ⟨w.heap.size, 2, none⟩ = some (.int .i64 e) := (hCq.cells _ _ (by first | (simp; done) | (simp; omega) | omega)).trans s2
      have q3 : wq.cell? ⟨(w.heap.size + 1), 0, none⟩ = some (.int .i64 (24)) := (hCq.cells _ _ (by first | (simp; done) | (simp; omega) | omega)).trans s3
      have q4 : wq.cell? ⟨(w.heap.size + 1), 1, none⟩ = some (.int .i64 (-126)) := (hCq.cells _ _ (by first | (simp; done) | (simp; omega) | omega)).trans s4
      have q5 : wq.cell? ⟨(w.heap.size + 1), 2, none⟩ = some (.int .i64 (127)) := (hCq.cells _ _ (by first | (simp; done) | (simp; omega) | omega)).trans s5
      have qz : w.heap.size + 1 < wq.heap.size := World.block_lt_of_cell? _ _ q3
      go_simp
      first | rfl | exact hCq.same (LQ.out _) | (trace_state; fail)
    simp only [Act.put, List.setIfInBounds_toArray, List.set_cons_zero, List.set_cons_succ]
  refine wpQuiet_nil ?_
  intro w3 hb3
  have t0 : w3.cell? ⟨w.heap.size, 0, none⟩ = some (.bool true) := (hb3.cells _ _ (by first | (simp; done) | (simp; omega) | omega)).trans s0
  have t1 : w3.cell? ⟨w.heap.size, 1, none⟩ = some (.int .u64 m) := (hb3.cells _ _ (by first | (simp; done) | (simp; omega) | omega)).trans s1
  have t2 : w3.cell? ⟨w.heap.size, 2, none⟩ = some (.int .i64 e) := (hb3.cells _ _ (by first | (simp; done) | (simp; omega) | omega)).trans s2
  have t3 : w3.cell? ⟨(w.heap.size + 1), 0, none⟩ = some (.int .i64 (24)) := (hb3.cells _ _ (by first | (simp; done) | (simp; omega) | omega)).trans s3
  have t4 : w3.cell? ⟨(w.heap.size + 1), 1, none⟩ = some (.int .i64 (-126)) := (hb3.cells _ _ (by first | (simp; done) | (simp; omega) | omega)).trans s4
  have t5 : w3.cell? ⟨(w.heap.size + 1), 2, none⟩ = some (.int .i64 (127)) := (hb3.cells _ _ (by first | (simp; done) | (simp; omega) | omega)).trans s5
  have tz : w.heap.size + 1 < w3.heap.size := World.block_lt_of_cell? _ _ t3
  clear s0 s1 s2 s3 s4 s5 sz
  go_wp2_with fail
  refine (LD.out _).mono ?_; rintro e4 w4 ⟨rfl, rfl⟩
  go_wp2_with fail
  refine (SG.out _).mono ?_; rintro e5 w5 ⟨rfl, rfl⟩
  go_wp2
  go_ret2
  exact ⟨rfl, (by repeat (first | with_reducible exact Within.refl _ | with_reducible assumption | with_reducible refine Within.alloc ?_ _ | with_reducible refine Within.drew ?_ | with_reducible refine Within.setCell ?_ (by first | (simp; done) | (simp; omega)) _ | with_reducible refine Within.trans ?_ (by assumption)))⟩
set_option maxRecDepth 100000 in
set_option maxHeartbeats 600000 in
theorem round_S_top0_4 (m L q Lq : Nat) (e k : Int) (h1 : -20000 ≤ e) (h2 : e ≤ 20000) (hL : L ≤ 64) (hLq : Lq ≤ 64) (hk : max (e + (L : Int) - 24) (-149) = k) (LM : Hid (∀ w, Calls Tryz.prog 106 #[.int .u64 m] w fun e' w' => e' = .returned (.int .i64 (L : Nat)) ∧ w = w')) (DR : Hid (∀ w, Calls Tryz.prog 107 #[.agg #[.bool false, .int .u64 m, .int .i64 e], .int .i64 (k - e), .int .i64 4] w fun e' w' => e' = .returned (.tuple #[.int .u64 q, .bool false]) ∧ Within w w')) (LQ : Hid (∀ w, Calls Tryz.prog 106 #[.int .u64 q] w fun e' w' => e' = .returned (.int .i64 (Lq : Nat)) ∧ w = w')) (x g z : Nat) (hin : 128 < k + (Lq : Int)) (hcv : floatOfInt .f64 (16777215 : Int) = x) (LD : Hid (∀ w, Calls Tryz.prog 105 #[.float .f64 x, .int .i64 104] w fun e' w' => e' = .returned (.float .f64 g) ∧ w = w'))  (SG : Hid (∀ w, Calls Tryz.prog 108 #[.float .f64 g, .bool false] w fun e' w' => e' = .returned (.float .f64 z) ∧ w = w')) (w : World) : Calls Tryz.prog 94 #[.agg #[.bool false, .int .u64 m, .int .i64 e], .agg #[.int .i64 24, .int .i64 (-126), .int .i64 127], .int .i64 4] w fun e' w' => e' = .returned (.tuple #[.float .f64 z, .int .i64 5]) ∧ Within w w' := by
  have kl : -20100 ≤ k := by omega
  have ku : k ≤ 20100 := by omega
  have gw1 : IntKind.i64.wrap (e + (L : Int)) = e + (L : Int) := by rw [IntKind.wrap_i64]; omega
  have gw2 : IntKind.i64.wrap (k + (Lq : Int)) = k + (Lq : Int) := by rw [IntKind.wrap_i64]; omega
  have gw3 : IntKind.i64.wrap 128 = 128 := by decide
  have hcv' := fun (w : World) => run_convert_int_float (P := Tryz.prog) w 109 68 .u64 .f64 (16777215 : Int) (by kernel_rfl) (by kernel_rfl)
  rw [hcv] at hcv'
  have d : decide (k + (Lq : Int) ≤ 128) = false := decide_eq_false (by omega)
  clear hcv hin
  go_enter Tryz.func94, Tryz.ntmps94
  go_wp2
  refine wp_region_within (by kernel_rfl) (by kernel_rfl) ?_
  repeat
    apply wpq_step rfl
    · intro wq hCq
      have q0 : wq.cell? ⟨w.heap.size, 0, none⟩ = some (.bool false) := (hCq.cells _ _ (by first | (simp; done) | (simp; omega) | omega)).trans (by simp)
      have q1 : wq.cell? ⟨w.heap.size, 1, none⟩ = some (.int .u64 m) := (hCq.cells _ _ (by first | (simp; done) | (simp; omega) | omega)).trans (by simp)
      have q2 : wq.cell? ⟨w.heap.size, 2, none⟩ = some (.int .i64 e) := (hCq.cells _ _ (by first | (simp; done) | (simp; omega) | omega)).trans (by simp)
      have q3 : wq.cell? ⟨(w.heap.size + 1), 0, none⟩ = some (.int .i64 (24)) := (hCq.cells _ _ (by first | (simp; done) | (simp; omega) | omega)).trans (by simp)
      have q4 : wq.cell? ⟨(w.heap.size + 1), 1, none⟩ = some (.int .i64 (-126)) := (hCq.cells _ _ (by first | (simp; done) | (simp; omega) | omega)).trans (by simp)
      have q5 : wq.cell? ⟨(w.heap.size + 1), 2, none⟩ = some (.int .i64 (127)) := (hCq.cells _ _ (by first | (simp; done) | (simp; omega) | omega)).trans (by simp)
      have qz : w.heap.size + 1 < wq.heap.size := World.block_lt_of_cell? _ _ q3
      go_simp
      first | rfl | exact hCq.same (LM.out _) | (trace_state; fail)
    simp only [Act.put, List.setIfInBounds_toArray, List.set_cons_zero, List.set_cons_succ]
  refine wpQuiet_nil ?_
  intro w1 hb1
  have r0 : w1.cell? ⟨w.heap.size, 0, none⟩ = some (.bool false) := (hb1.cells _ _ (by first | (simp; done) | (simp; omega) | omega)).trans (by simp)
  have r1 : w1.cell? ⟨w.heap.size, 1, none⟩ = some (.int .u64 m) := (hb1.cells _ _ (by first | (simp; done) | (simp; omega) | omega)).trans (by simp)
  have r2 : w1.cell? ⟨w.heap.size, 2, none⟩ = some (.int .i64 e) := (hb1.cells _ _ (by first | (simp; done) | (simp; omega) | omega)).trans (by simp)
  have r3 : w1.cell? ⟨(w.heap.size + 1), 0, none⟩ = some (.int .i64 (24)) := (hb1.cells _ _ (by first | (simp; done) | (simp; omega) | omega)).trans (by simp)
  have r4 : w1.cell? ⟨(w.heap.size + 1), 1, none⟩ = some (.int .i64 (-126)) := (hb1.cells _ _ (by first | (simp; done) | (simp; omega) | omega)).trans (by simp)
  have r5 : w1.cell? ⟨(w.heap.size + 1), 2, none⟩ = some (.int .i64 (127)) := (hb1.cells _ _ (by first | (simp; done) | (simp; omega) | omega)).trans (by simp)
  have rz : w.heap.size + 1 < w1.heap.size := World.block_lt_of_cell? _ _ r3
  go_wp2_with fail
  refine (DR.out _).mono ?_; rintro e2 w2 ⟨rfl, hb2⟩
  have s0 : w2.cell? ⟨w.heap.size, 0, none⟩ = some (.bool false) := (hb2.cells _ _ (by first | (simp; done) | (simp; omega) | omega)).trans r0
  have s1 : w2.cell? ⟨w.heap.size, 1, none⟩ = some (.int .u64 m) := (hb2.cells _ _ (by first | (simp; done) | (simp; omega) | omega)).trans r1
  have s2 : w2.cell? ⟨w.heap.size, 2, none⟩ = some (.int .i64 e) := (hb2.cells _ _ (by first | (simp; done) | (simp; omega) | omega)).trans r2
  have s3 : w2.cell? ⟨(w.heap.size + 1), 0, none⟩ = some (.int .i64 (24)) := (hb2.cells _ _ (by first | (simp; done) | (simp; omega) | omega)).trans r3
  have s4 : w2.cell? ⟨(w.heap.size + 1), 1, none⟩ = some (.int .i64 (-126)) := (hb2.cells _ _ (by first | (simp; done) | (simp; omega) | omega)).trans r4
  have s5 : w2.cell? ⟨(w.heap.size + 1), 2, none⟩ = some (.int .i64 (127)) := (hb2.cells _ _ (by first | (simp; done) | (simp; omega) | omega)).trans r5
  have sz : w.heap.size + 1 < w2.heap.size := World.block_lt_of_cell? _ _ s3
  clear r0 r1 r2 r3 r4 r5 rz
  go_wp2
  refine wp_region_within (by kernel_rfl) (by kernel_rfl) ?_
  repeat
    apply wpq_step rfl
    · intro wq hCq
      have q0 : wq.cell? ⟨w.heap.size, 0, none⟩ = some (.bool false) := (hCq.cells _ _ (by first | (simp; done) | (simp; omega) | omega)).trans s0
      have q1 : wq.cell? ⟨w.heap.size, 1, none⟩ = some (.int .u64 m) := (hCq.cells _ _ (by first | (simp; done) | (simp; omega) | omega)).trans s1
      have q2 : wq.cell? ⟨w.heap.size, 2, none⟩ = some (.int .i64 e) := (hCq.cells _ _ (by first | (simp; done) | (simp; omega) | omega)).trans s2
      have q3 : wq.cell? ⟨(w.heap.size + 1), 0, none⟩ = some (.int .i64 (24)) := (hCq.cells _ _ (by first | (simp; done) | (simp; omega) | omega)).trans s3
      have q4 : wq.cell? ⟨(w.heap.size + 1), 1, none⟩ = some (.int .i64 (-126)) := (hCq.cells _ _ (by first | (simp; done) | (simp; omega) | omega)).trans s4
      have q5 : wq.cell? ⟨(w.heap.size + 1), 2, none⟩ = some (.int .i64 (127)) := (hCq.cells _ _ (by first | (simp; done) | (simp; omega) | omega)).trans s5
      have qz : w.heap.size + 1 < wq.heap.size := World.block_lt_of_cell? _ _ q3
      go_simp
      first | rfl | exact hCq.same (LQ.out _) | (trace_state; fail)
    simp only [Act.put, List.setIfInBounds_toArray, List.set_cons_zero, List.set_cons_succ]
  refine wpQuiet_nil ?_
  intro w3 hb3
  have t0 : w3.cell? ⟨w.heap.size, 0, none⟩ = some (.bool false) := (hb3.cells _ _ (by first | (simp; done) | (simp; omega) | omega)).trans s0
  have t1 : w3.cell? ⟨w.heap.size, 1, none⟩ = some (.int .u64 m) := (hb3.cells _ _ (by first | (simp; done) | (simp; omega) | omega)).trans s1
  have t2 : w3.cell? ⟨w.heap.size, 2, none⟩ = some (.int .i64 e) := (hb3.cells _ _ (by first | (simp; done) | (simp; omega) | omega)).trans s2
  have t3 : w3.cell? ⟨(w.heap.size + 1), 0, none⟩ = some (.int .i64 (24)) := (hb3.cells _ _ (by first | (simp; done) | (simp; omega) | omega)).trans s3
  have t4 : w3.cell? ⟨(w.heap.size + 1), 1, none⟩ = some (.int .i64 (-126)) := (hb3.cells _ _ (by first | (simp; done) | (simp; omega) | omega)).trans s4
  have t5 : w3.cell? ⟨(w.heap.size + 1), 2, none⟩ = some (.int .i64 (127)) := (hb3.cells _ _ (by first | (simp; done) | (simp; omega) | omega)).trans s5
  have tz : w.heap.size + 1 < w3.heap.size := World.block_lt_of_cell? _ _ t3
  clear s0 s1 s2 s3 s4 s5 sz
  go_wp2_with fail
  refine (LD.out _).mono ?_; rintro e4 w4 ⟨rfl, rfl⟩
  go_wp2_with fail
  refine (SG.out _).mono ?_; rintro e5 w5 ⟨rfl, rfl⟩
  go_wp2
  go_ret2
  exact ⟨rfl, (by repeat (first | with_reducible exact Within.refl _ | with_reducible assumption | with_reducible refine Within.alloc ?_ _ | with_reducible refine Within.drew ?_ | with_reducible refine Within.setCell ?_ (by first | (simp; done) | (simp; omega)) _ | with_reducible refine Within.trans ?_ (by assumption)))⟩
set_option maxRecDepth 100000 in
set_option maxHeartbeats 600000 in
theorem round_S_inf0 (neg : Bool) (m L q Lq : Nat) (e k : Int) (mode : Int) (h1 : -20000 ≤ e) (h2 : e ≤ 20000) (hL : L ≤ 64) (hLq : Lq ≤ 64) (hk : max (e + (L : Int) - 24) (-149) = k) (LM : Hid (∀ w, Calls Tryz.prog 106 #[.int .u64 m] w fun e' w' => e' = .returned (.int .i64 (L : Nat)) ∧ w = w')) (DR : Hid (∀ w, Calls Tryz.prog 107 #[.agg #[.bool neg, .int .u64 m, .int .i64 e], .int .i64 (k - e), .int .i64 mode] w fun e' w' => e' = .returned (.tuple #[.int .u64 q, .bool false]) ∧ Within w w')) (LQ : Hid (∀ w, Calls Tryz.prog 106 #[.int .u64 q] w fun e' w' => e' = .returned (.int .i64 (Lq : Nat)) ∧ w = w')) (x g y z : Nat) (hin : 128 < k + (Lq : Int)) (hcv : floatOfInt .f64 (16777215 : Int) = x) (LD : Hid (∀ w, Calls Tryz.prog 105 #[.float .f64 x, .int .i64 104] w fun e' w' => e' = .returned (.float .f64 g) ∧ w = w')) (IN : Hid (∀ w, Calls Tryz.prog 109 #[.int .i64 1] w fun e' w' => e' = .returned (.float .f64 y) ∧ w = w')) (SG : Hid (∀ w, Calls Tryz.prog 108 #[.float .f64 y, .bool neg] w fun e' w' => e' = .returned (.float .f64 z) ∧ w = w')) (m2 : (mode == 2) = false) (m3 : (mode == 3) = false) (m4 : (mode == 4) = false) (w : World) : Calls Tryz.prog 94 #[.agg #[.bool neg, .int .u64 m, .int .i64 e], .agg #[.int .i64 24, .int .i64 (-126), .int .i64 127], .int .i64 mode] w fun e' w' => e' = .returned (.tuple #[.float .f64 z, .int .i64 5]) ∧ Within w w' := by
  have kl : -20100 ≤ k := by omega
  have ku : k ≤ 20100 := by omega
  have gw1 : IntKind.i64.wrap (e + (L : Int)) = e + (L : Int) := by rw [IntKind.wrap_i64]; omega
  have gw2 : IntKind.i64.wrap (k + (Lq : Int)) = k + (Lq : Int) := by rw [IntKind.wrap_i64]; omega
  have gw3 : IntKind.i64.wrap 128 = 128 := by decide
  have hcv' := fun (w : World) => run_convert_int_float (P := Tryz.prog) w 109 68 .u64 .f64 (16777215 : Int) (by kernel_rfl) (by kernel_rfl)
  rw [hcv] at hcv'
  have d : decide (k + (Lq : Int) ≤ 128) = false := decide_eq_false (by omega)
  clear hcv hin
  go_enter Tryz.func94, Tryz.ntmps94
  go_wp2
  refine wp_region_within (by kernel_rfl) (by kernel_rfl) ?_
  repeat
    apply wpq_step rfl
    · intro wq hCq
      have q0 : wq.cell? ⟨w.heap.size, 0, none⟩ = some (.bool neg) := (hCq.cells _ _ (by first | (simp; done) | (simp; omega) | omega)).trans (by simp)
      have q1 : wq.cell? ⟨w.heap.size, 1, none⟩ = some (.int .u64 m) := (hCq.cells _ _ (by first | (simp; done) | (simp; omega) | omega)).trans (by simp)
      have q2 : wq.cell? ⟨w.heap.size, 2, none⟩ = some (.int .i64 e) := (hCq.cells _ _ (by first | (simp; done) | (simp; omega) | omega)).trans (by simp)
      have q3 : wq.cell? ⟨(w.heap.size + 1), 0, none⟩ = some (.int .i64 (24)) := (hCq.cells _ _ (by first | (simp; done) | (simp; omega) | omega)).trans (by simp)
      have q4 : wq.cell? ⟨(w.heap.size + 1), 1, none⟩ = some (.int .i64 (-126)) := (hCq.cells _ _ (by first | (simp; done) | (simp; omega) | omega)).trans (by simp)
      have q5 : wq.cell? ⟨(w.heap.size + 1), 2, none⟩ = some (.int .i64 (127)) := (hCq.cells _ _ (by first | (simp; done) | (simp; omega) | omega)).trans (by simp)
      have qz : w.heap.size + 1 < wq.heap.size := World.block_lt_of_cell? _ _ q3
      go_simp
      first | rfl | exact hCq.same (LM.out _) | (trace_state; fail)
    simp only [Act.put, List.setIfInBounds_toArray, List.set_cons_zero, List.set_cons_succ]
  refine wpQuiet_nil ?_
  intro w1 hb1
  have r0 : w1.cell? ⟨w.heap.size, 0, none⟩ = some (.bool neg) := (hb1.cells _ _ (by first | (simp; done) | (simp; omega) | omega)).trans (by simp)
  have r1 : w1.cell? ⟨w.heap.size, 1, none⟩ = some (.int .u64 m) := (hb1.cells _ _ (by first | (simp; done) | (simp; omega) | omega)).trans (by simp)
  have r2 : w1.cell? ⟨w.heap.size, 2, none⟩ = some (.int .i64 e) := (hb1.cells _ _ (by first | (simp; done) | (simp; omega) | omega)).trans (by simp)
  have r3 : w1.cell? ⟨(w.heap.size + 1), 0, none⟩ = some (.int .i64 (24)) := (hb1.cells _ _ (by first | (simp; done) | (simp; omega) | omega)).trans (by simp)
  have r4 : w1.cell? ⟨(w.heap.size + 1), 1, none⟩ = some (.int .i64 (-126)) := (hb1.cells _ _ (by first | (simp; done) | (simp; omega) | omega)).trans (by simp)
  have r5 : w1.cell? ⟨(w.heap.size + 1), 2, none⟩ = some (.int .i64 (127)) := (hb1.cells _ _ (by first | (simp; done) | (simp; omega) | omega)).trans (by simp)
  have rz : w.heap.size + 1 < w1.heap.size := World.block_lt_of_cell? _ _ r3
  go_wp2_with fail
  refine (DR.out _).mono ?_; rintro e2 w2 ⟨rfl, hb2⟩
  have s0 : w2.cell? ⟨w.heap.size, 0, none⟩ = some (.bool neg) := (hb2.cells _ _ (by first | (simp; done) | (simp; omega) | omega)).trans r0
  have s1 : w2.cell? ⟨w.heap.size, 1, none⟩ = some (.int .u64 m) := (hb2.cells _ _ (by first | (simp; done) | (simp; omega) | omega)).trans r1
  have s2 : w2.cell? ⟨w.heap.size, 2, none⟩ = some (.int .i64 e) := (hb2.cells _ _ (by first | (simp; done) | (simp; omega) | omega)).trans r2
  have s3 : w2.cell? ⟨(w.heap.size + 1), 0, none⟩ = some (.int .i64 (24)) := (hb2.cells _ _ (by first | (simp; done) | (simp; omega) | omega)).trans r3
  have s4 : w2.cell? ⟨(w.heap.size + 1), 1, none⟩ = some (.int .i64 (-126)) := (hb2.cells _ _ (by first | (simp; done) | (simp; omega) | omega)).trans r4
  have s5 : w2.cell? ⟨(w.heap.size + 1), 2, none⟩ = some (.int .i64 (127)) := (hb2.cells _ _ (by first | (simp; done) | (simp; omega) | omega)).trans r5
  have sz : w.heap.size + 1 < w2.heap.size := World.block_lt_of_cell? _ _ s3
  clear r0 r1 r2 r3 r4 r5 rz
  go_wp2
  refine wp_region_within (by kernel_rfl) (by kernel_rfl) ?_
  repeat
    apply wpq_step rfl
    · intro wq hCq
      have q0 : wq.cell? ⟨w.heap.size, 0, none⟩ = some (.bool neg) := (hCq.cells _ _ (by first | (simp; done) | (simp; omega) | omega)).trans s0
      have q1 : wq.cell? ⟨w.heap.size, 1, none⟩ = some (.int .u64 m) := (hCq.cells _ _ (by first | (simp; done) | (simp; omega) | omega)).trans s1
      have q2 : wq.cell? ⟨w.heap.size, 2, none⟩ = some (.int .i64 e) := (hCq.cells _ _ (by first | (simp; done) | (simp; omega) | omega)).trans s2
      have q3 : wq.cell? ⟨(w.heap.size + 1), 0, none⟩ = some (.int .i64 (24)) := (hCq.cells _ _ (by first | (simp; done) | (simp; omega) | omega)).trans s3
      have q4 : wq.cell? ⟨(w.heap.size + 1), 1, none⟩ = some (.int .i64 (-126)) := (hCq.cells _ _ (by first | (simp; done) | (simp; omega) | omega)).trans s4
      have q5 : wq.cell? ⟨(w.heap.size + 1), 2, none⟩ = some (.int .i64 (127)) := (hCq.cells _ _ (by first | (simp; done) | (simp; omega) | omega)).trans s5
      have qz : w.heap.size + 1 < wq.heap.size := World.block_lt_of_cell? _ _ q3
      go_simp
      first | rfl | exact hCq.same (LQ.out _) | (trace_state; fail)
    simp only [Act.put, List.setIfInBounds_toArray, List.set_cons_zero, List.set_cons_succ]
  refine wpQuiet_nil ?_
  intro w3 hb3
  have t0 : w3.cell? ⟨w.heap.size, 0, none⟩ = some (.bool neg) := (hb3.cells _ _ (by first | (simp; done) | (simp; omega) | omega)).trans s0
  have t1 : w3.cell? ⟨w.heap.size, 1, none⟩ = some (.int .u64 m) := (hb3.cells _ _ (by first | (simp; done) | (simp; omega) | omega)).trans s1
  have t2 : w3.cell? ⟨w.heap.size, 2, none⟩ = some (.int .i64 e) := (hb3.cells _ _ (by first | (simp; done) | (simp; omega) | omega)).trans s2
  have t3 : w3.cell? ⟨(w.heap.size + 1), 0, none⟩ = some (.int .i64 (24)) := (hb3.cells _ _ (by first | (simp; done) | (simp; omega) | omega)).trans s3
  have t4 : w3.cell? ⟨(w.heap.size + 1), 1, none⟩ = some (.int .i64 (-126)) := (hb3.cells _ _ (by first | (simp; done) | (simp; omega) | omega)).trans s4
  have t5 : w3.cell? ⟨(w.heap.size + 1), 2, none⟩ = some (.int .i64 (127)) := (hb3.cells _ _ (by first | (simp; done) | (simp; omega) | omega)).trans s5
  have tz : w.heap.size + 1 < w3.heap.size := World.block_lt_of_cell? _ _ t3
  clear s0 s1 s2 s3 s4 s5 sz
  go_wp2_with fail
  refine (LD.out _).mono ?_; rintro e4 w4 ⟨rfl, rfl⟩
  go_wp2
  refine wp_region_within (by kernel_rfl) (by kernel_rfl) ?_
  repeat
    apply wpq_step rfl
    · intro wq hCq
      have q0 : wq.cell? ⟨w.heap.size, 0, none⟩ = some (.bool neg) := (hCq.cells _ _ (by first | (simp; done) | (simp; omega) | omega)).trans t0
      have q1 : wq.cell? ⟨w.heap.size, 1, none⟩ = some (.int .u64 m) := (hCq.cells _ _ (by first | (simp; done) | (simp; omega) | omega)).trans t1
      have q2 : wq.cell? ⟨w.heap.size, 2, none⟩ = some (.int .i64 e) := (hCq.cells _ _ (by first | (simp; done) | (simp; omega) | omega)).trans t2
      have q3 : wq.cell? ⟨(w.heap.size + 1), 0, none⟩ = some (.int .i64 (24)) := (hCq.cells _ _ (by first | (simp; done) | (simp; omega) | omega)).trans t3
      have q4 : wq.cell? ⟨(w.heap.size + 1), 1, none⟩ = some (.int .i64 (-126)) := (hCq.cells _ _ (by first | (simp; done) | (simp; omega) | omega)).trans t4
      have q5 : wq.cell? ⟨(w.heap.size + 1), 2, none⟩ = some (.int .i64 (127)) := (hCq.cells _ _ (by first | (simp; done) | (simp; omega) | omega)).trans t5
      have qz : w.heap.size + 1 < wq.heap.size := World.block_lt_of_cell? _ _ q3
      go_simp
      first | rfl | exact hCq.same (IN.out _) | exact hCq.same (SG.out _) | (trace_state; fail)
    simp only [Act.put, List.setIfInBounds_toArray, List.set_cons_zero, List.set_cons_succ]
  refine wpQuiet_nil ?_
  intro w5 hb5
  go_wp2
  go_ret2
  exact ⟨rfl, (by repeat (first | with_reducible exact Within.refl _ | with_reducible assumption | with_reducible refine Within.alloc ?_ _ | with_reducible refine Within.drew ?_ | with_reducible refine Within.setCell ?_ (by first | (simp; done) | (simp; omega)) _ | with_reducible refine Within.trans ?_ (by assumption)))⟩
set_option maxRecDepth 100000 in
set_option maxHeartbeats 600000 in
theorem round_S_inf0_3 (m L q Lq : Nat) (e k : Int) (h1 : -20000 ≤ e) (h2 : e ≤ 20000) (hL : L ≤ 64) (hLq : Lq ≤ 64) (hk : max (e + (L : Int) - 24) (-149) = k) (LM : Hid (∀ w, Calls Tryz.prog 106 #[.int .u64 m] w fun e' w' => e' = .returned (.int .i64 (L : Nat)) ∧ w = w')) (DR : Hid (∀ w, Calls Tryz.prog 107 #[.agg #[.bool false, .int .u64 m, .int .i64 e], .int .i64 (k - e), .int .i64 3] w fun e' w' => e' = .returned (.tuple #[.int .u64 q, .bool false]) ∧ Within w w')) (LQ : Hid (∀ w, Calls Tryz.prog 106 #[.int .u64 q] w fun e' w' => e' = .returned (.int .i64 (Lq : Nat)) ∧ w = w')) (x g y z : Nat) (hin : 128 < k + (Lq : Int)) (hcv : floatOfInt .f64 (16777215 : Int) = x) (LD : Hid (∀ w, Calls Tryz.prog 105 #[.float .f64 x, .int .i64 104] w fun e' w' => e' = .returned (.float .f64 g) ∧ w = w')) (IN : Hid (∀ w, Calls Tryz.prog 109 #[.int .i64 1] w fun e' w' => e' = .returned (.float .f64 y) ∧ w = w')) (SG : Hid (∀ w, Calls Tryz.prog 108 #[.float .f64 y, .bool false] w fun e' w' => e' = .returned (.float .f64 z) ∧ w = w')) (w : World) : Calls Tryz.prog 94 #[.agg #[.bool false, .int .u64 m, .int .i64 e], .agg #[.int .i64 24, .int .i64 (-126), .int .i64 127], .int .i64 3] w fun e' w' => e' = .returned (.tuple #[.float .f64 z, .int .i64 5]) ∧ Within w w' := by
  have kl : -20100 ≤ k := by omega
  have ku : k ≤ 20100 := by omega
  have gw1 : IntKind.i64.wrap (e + (L : Int)) = e + (L : Int) := by rw [IntKind.wrap_i64]; omega
  have gw2 : IntKind.i64.wrap (k + (Lq : Int)) = k + (Lq : Int) := by rw [IntKind.wrap_i64]; omega
  have gw3 : IntKind.i64.wrap 128 = 128 := by decide
  have hcv' := fun (w : World) => run_convert_int_float (P := Tryz.prog) w 109 68 .u64 .f64 (16777215 : Int) (by kernel_rfl) (by kernel_rfl)
  rw [hcv] at hcv'
  have d : decide (k + (Lq : Int) ≤ 128) = false := decide_eq_false (by omega)
  clear hcv hin
  go_enter Tryz.func94, Tryz.ntmps94
  go_wp2
  refine wp_region_within (by kernel_rfl) (by kernel_rfl) ?_
  repeat
    apply wpq_step rfl
    · intro wq hCq
      have q0 : wq.cell? ⟨w.heap.size, 0, none⟩ = some (.bool false) := (hCq.cells _ _ (by first | (simp; done) | (simp; omega) | omega)).trans (by simp)
      have q1 : wq.cell? ⟨w.heap.size, 1, none⟩ = some (.int .u64 m) := (hCq.cells _ _ (by first | (simp; done) | (simp; omega) | omega)).trans (by simp)
      have q2 : wq.cell? ⟨w.heap.size, 2, none⟩ = some (.int .i64 e) := (hCq.cells _ _ (by first | (simp; done) | (simp; omega) | omega)).trans (by simp)
      have q3 : wq.cell? ⟨(w.heap.size + 1), 0, none⟩ = some (.int .i64 (24)) := (hCq.cells _ _ (by first | (simp; done) | (simp; omega) | omega)).trans (by simp)
      have q4 : wq.cell? ⟨(w.heap.size + 1), 1, none⟩ = some (.int .i64 (-126)) := (hCq.cells _ _ (by first | (simp; done) | (simp; omega) | omega)).trans (by simp)
      have q5 : wq.cell? ⟨(w.heap.size + 1), 2, none⟩ = some (.int .i64 (127)) := (hCq.cells _ _ (by first | (simp; done) | (simp; omega) | omega)).trans (by simp)
      have qz : w.heap.size + 1 < wq.heap.size := World.block_lt_of_cell? _ _ q3
      go_simp
      first | rfl | exact hCq.same (LM.out _) | (trace_state; fail)
    simp only [Act.put, List.setIfInBounds_toArray, List.set_cons_zero, List.set_cons_succ]
  refine wpQuiet_nil ?_
  intro w1 hb1
  have r0 : w1.cell? ⟨w.heap.size, 0, none⟩ = some (.bool false) := (hb1.cells _ _ (by first | (simp; done) | (simp; omega) | omega)).trans (by simp)
  have r1 : w1.cell? ⟨w.heap.size, 1, none⟩ = some (.int .u64 m) := (hb1.cells _ _ (by first | (simp; done) | (simp; omega) | omega)).trans (by simp)
  have r2 : w1.cell? ⟨w.heap.size, 2, none⟩ = some (.int .i64 e) := (hb1.cells _ _ (by first | (simp; done) | (simp; omega) | omega)).trans (by simp)
  have r3 : w1.cell? ⟨(w.heap.size + 1), 0, none⟩ = some (.int .i64 (24)) := (hb1.cells _ _ (by first | (simp; done) | (simp; omega) | omega)).trans (by simp)
  have r4 : w1.cell? ⟨(w.heap.size + 1), 1, none⟩ = some (.int .i64 (-126)) := (hb1.cells _ _ (by first | (simp; done) | (simp; omega) | omega)).trans (by simp)
  have r5 : w1.cell? ⟨(w.heap.size + 1), 2, none⟩ = some (.int .i64 (127)) := (hb1.cells _ _ (by first | (simp; done) | (simp; omega) | omega)).trans (by simp)
  have rz : w.heap.size + 1 < w1.heap.size := World.block_lt_of_cell? _ _ r3
  go_wp2_with fail
  refine (DR.out _).mono ?_; rintro e2 w2 ⟨rfl, hb2⟩
  have s0 : w2.cell? ⟨w.heap.size, 0, none⟩ = some (.bool false) := (hb2.cells _ _ (by first | (simp; done) | (simp; omega) | omega)).trans r0
  have s1 : w2.cell? ⟨w.heap.size, 1, none⟩ = some (.int .u64 m) := (hb2.cells _ _ (by first | (simp; done) | (simp; omega) | omega)).trans r1
  have s2 : w2.cell? ⟨w.heap.size, 2, none⟩ = some (.int .i64 e) := (hb2.cells _ _ (by first | (simp; done) | (simp; omega) | omega)).trans r2
  have s3 : w2.cell? ⟨(w.heap.size + 1), 0, none⟩ = some (.int .i64 (24)) := (hb2.cells _ _ (by first | (simp; done) | (simp; omega) | omega)).trans r3
  have s4 : w2.cell? ⟨(w.heap.size + 1), 1, none⟩ = some (.int .i64 (-126)) := (hb2.cells _ _ (by first | (simp; done) | (simp; omega) | omega)).trans r4
  have s5 : w2.cell? ⟨(w.heap.size + 1), 2, none⟩ = some (.int .i64 (127)) := (hb2.cells _ _ (by first | (simp; done) | (simp; omega) | omega)).trans r5
  have sz : w.heap.size + 1 < w2.heap.size := World.block_lt_of_cell? _ _ s3
  clear r0 r1 r2 r3 r4 r5 rz
  go_wp2
  refine wp_region_within (by kernel_rfl) (by kernel_rfl) ?_
  repeat
    apply wpq_step rfl
    · intro wq hCq
      have q0 : wq.cell? ⟨w.heap.size, 0, none⟩ = some (.bool false) := (hCq.cells _ _ (by first | (simp; done) | (simp; omega) | omega)).trans s0
      have q1 : wq.cell? ⟨w.heap.size, 1, none⟩ = some (.int .u64 m) := (hCq.cells _ _ (by first | (simp; done) | (simp; omega) | omega)).trans s1
      have q2 : wq.cell? ⟨w.heap.size, 2, none⟩ = some (.int .i64 e) := (hCq.cells _ _ (by first | (simp; done) | (simp; omega) | omega)).trans s2
      have q3 : wq.cell? ⟨(w.heap.size + 1), 0, none⟩ = some (.int .i64 (24)) := (hCq.cells _ _ (by first | (simp; done) | (simp; omega) | omega)).trans s3
      have q4 : wq.cell? ⟨(w.heap.size + 1), 1, none⟩ = some (.int .i64 (-126)) := (hCq.cells _ _ (by first | (simp; done) | (simp; omega) | omega)).trans s4
      have q5 : wq.cell? ⟨(w.heap.size + 1), 2, none⟩ = some (.int .i64 (127)) := (hCq.cells _ _ (by first | (simp; done) | (simp; omega) | omega)).trans s5
      have qz : w.heap.size + 1 < wq.heap.size := World.block_lt_of_cell? _ _ q3
      go_simp
      first | rfl | exact hCq.same (LQ.out _) | (trace_state; fail)
    simp only [Act.put, List.setIfInBounds_toArray, List.set_cons_zero, List.set_cons_succ]
  refine wpQuiet_nil ?_
  intro w3 hb3
  have t0 : w3.cell? ⟨w.heap.size, 0, none⟩ = some (.bool false) := (hb3.cells _ _ (by first | (simp; done) | (simp; omega) | omega)).trans s0
  have t1 : w3.cell? ⟨w.heap.size, 1, none⟩ = some (.int .u64 m) := (hb3.cells _ _ (by first | (simp; done) | (simp; omega) | omega)).trans s1
  have t2 : w3.cell? ⟨w.heap.size, 2, none⟩ = some (.int .i64 e) := (hb3.cells _ _ (by first | (simp; done) | (simp; omega) | omega)).trans s2
  have t3 : w3.cell? ⟨(w.heap.size + 1), 0, none⟩ = some (.int .i64 (24)) := (hb3.cells _ _ (by first | (simp; done) | (simp; omega) | omega)).trans s3
  have t4 : w3.cell? ⟨(w.heap.size + 1), 1, none⟩ = some (.int .i64 (-126)) := (hb3.cells _ _ (by first | (simp; done) | (simp; omega) | omega)).trans s4
  have t5 : w3.cell? ⟨(w.heap.size + 1), 2, none⟩ = some (.int .i64 (127)) := (hb3.cells _ _ (by first | (simp; done) | (simp; omega) | omega)).trans s5
  have tz : w.heap.size + 1 < w3.heap.size := World.block_lt_of_cell? _ _ t3
  clear s0 s1 s2 s3 s4 s5 sz
  go_wp2_with fail
  refine (LD.out _).mono ?_; rintro e4 w4 ⟨rfl, rfl⟩
  go_wp2
  refine wp_region_within (by kernel_rfl) (by kernel_rfl) ?_
  repeat
    apply wpq_step rfl
    · intro wq hCq
      have q0 : wq.cell? ⟨w.heap.size, 0, none⟩ = some (.bool false) := (hCq.cells _ _ (by first | (simp; done) | (simp; omega) | omega)).trans t0
      have q1 : wq.cell? ⟨w.heap.size, 1, none⟩ = some (.int .u64 m) := (hCq.cells _ _ (by first | (simp; done) | (simp; omega) | omega)).trans t1
      have q2 : wq.cell? ⟨w.heap.size, 2, none⟩ = some (.int .i64 e) := (hCq.cells _ _ (by first | (simp; done) | (simp; omega) | omega)).trans t2
      have q3 : wq.cell? ⟨(w.heap.size + 1), 0, none⟩ = some (.int .i64 (24)) := (hCq.cells _ _ (by first | (simp; done) | (simp; omega) | omega)).trans t3
      have q4 : wq.cell? ⟨(w.heap.size + 1), 1, none⟩ = some (.int .i64 (-126)) := (hCq.cells _ _ (by first | (simp; done) | (simp; omega) | omega)).trans t4
      have q5 : wq.cell? ⟨(w.heap.size + 1), 2, none⟩ = some (.int .i64 (127)) := (hCq.cells _ _ (by first | (simp; done) | (simp; omega) | omega)).trans t5
      have qz : w.heap.size + 1 < wq.heap.size := World.block_lt_of_cell? _ _ q3
      go_simp
      first | rfl | exact hCq.same (IN.out _) | exact hCq.same (SG.out _) | (trace_state; fail)
    simp only [Act.put, List.setIfInBounds_toArray, List.set_cons_zero, List.set_cons_succ]
  refine wpQuiet_nil ?_
  intro w5 hb5
  go_wp2
  go_ret2
  exact ⟨rfl, (by repeat (first | with_reducible exact Within.refl _ | with_reducible assumption | with_reducible refine Within.alloc ?_ _ | with_reducible refine Within.drew ?_ | with_reducible refine Within.setCell ?_ (by first | (simp; done) | (simp; omega)) _ | with_reducible refine Within.trans ?_ (by assumption)))⟩
set_option maxRecDepth 100000 in
set_option maxHeartbeats 600000 in
theorem round_S_inf0_4 (m L q Lq : Nat) (e k : Int) (h1 : -20000 ≤ e) (h2 : e ≤ 20000) (hL : L ≤ 64) (hLq : Lq ≤ 64) (hk : max (e + (L : Int) - 24) (-149) = k) (LM : Hid (∀ w, Calls Tryz.prog 106 #[.int .u64 m] w fun e' w' => e' = .returned (.int .i64 (L : Nat)) ∧ w = w')) (DR : Hid (∀ w, Calls Tryz.prog 107 #[.agg #[.bool true, .int .u64 m, .int .i64 e], .int .i64 (k - e), .int .i64 4] w fun e' w' => e' = .returned (.tuple #[.int .u64 q, .bool false]) ∧ Within w w')) (LQ : Hid (∀ w, Calls Tryz.prog 106 #[.int .u64 q] w fun e' w' => e' = .returned (.int .i64 (Lq : Nat)) ∧ w = w')) (x g y z : Nat) (hin : 128 < k + (Lq : Int)) (hcv : floatOfInt .f64 (16777215 : Int) = x) (LD : Hid (∀ w, Calls Tryz.prog 105 #[.float .f64 x, .int .i64 104] w fun e' w' => e' = .returned (.float .f64 g) ∧ w = w')) (IN : Hid (∀ w, Calls Tryz.prog 109 #[.int .i64 1] w fun e' w' => e' = .returned (.float .f64 y) ∧ w = w')) (SG : Hid (∀ w, Calls Tryz.prog 108 #[.float .f64 y, .bool true] w fun e' w' => e' = .returned (.float .f64 z) ∧ w = w')) (w : World) : Calls Tryz.prog 94 #[.agg #[.bool true, .int .u64 m, .int .i64 e], .agg #[.int .i64 24, .int .i64 (-126), .int .i64 127], .int .i64 4] w fun e' w' => e' = .returned (.tuple #[.float .f64 z, .int .i64 5]) ∧ Within w w' := by
  have kl : -20100 ≤ k := by omega
  have ku : k ≤ 20100 := by omega
  have gw1 : IntKind.i64.wrap (e + (L : Int)) = e + (L : Int) := by rw [IntKind.wrap_i64]; omega
  have gw2 : IntKind.i64.wrap (k + (Lq : Int)) = k + (Lq : Int) := by rw [IntKind.wrap_i64]; omega
  have gw3 : IntKind.i64.wrap 128 = 128 := by decide
  have hcv' := fun (w : World) => run_convert_int_float (P := Tryz.prog) w 109 68 .u64 .f64 (16777215 : Int) (by kernel_rfl) (by kernel_rfl)
  rw [hcv] at hcv'
  have d : decide (k + (Lq : Int) ≤ 128) = false := decide_eq_false (by omega)
  clear hcv hin
  go_enter Tryz.func94, Tryz.ntmps94
  go_wp2
  refine wp_region_within (by kernel_rfl) (by kernel_rfl) ?_
  repeat
    apply wpq_step rfl
    · intro wq hCq
      have q0 : wq.cell? ⟨w.heap.size, 0, none⟩ = some (.bool true) := (hCq.cells _ _ (by first | (simp; done) | (simp; omega) | omega)).trans (by simp)
      have q1 : wq.cell? ⟨w.heap.size, 1, none⟩ = some (.int .u64 m) := (hCq.cells _ _ (by first | (simp; done) | (simp; omega) | omega)).trans (by simp)
      have q2 : wq.cell? ⟨w.heap.size, 2, none⟩ = some (.int .i64 e) := (hCq.cells _ _ (by first | (simp; done) | (simp; omega) | omega)).trans (by simp)
      have q3 : wq.cell? ⟨(w.heap.size + 1), 0, none⟩ = some (.int .i64 (24)) := (hCq.cells _ _ (by first | (simp; done) | (simp; omega) | omega)).trans (by simp)
      have q4 : wq.cell? ⟨(w.heap.size + 1), 1, none⟩ = some (.int .i64 (-126)) := (hCq.cells _ _ (by first | (simp; done) | (simp; omega) | omega)).trans (by simp)
      have q5 : wq.cell? ⟨(w.heap.size + 1), 2, none⟩ = some (.int .i64 (127)) := (hCq.cells _ _ (by first | (simp; done) | (simp; omega) | omega)).trans (by simp)
      have qz : w.heap.size + 1 < wq.heap.size := World.block_lt_of_cell? _ _ q3
      go_simp
      first | rfl | exact hCq.same (LM.out _) | (trace_state; fail)
    simp only [Act.put, List.setIfInBounds_toArray, List.set_cons_zero, List.set_cons_succ]
  refine wpQuiet_nil ?_
  intro w1 hb1
  have r0 : w1.cell? ⟨w.heap.size, 0, none⟩ = some (.bool true) := (hb1.cells _ _ (by first | (simp; done) | (simp; omega) | omega)).trans (by simp)
  have r1 : w1.cell? ⟨w.heap.size, 1, none⟩ = some (.int .u64 m) := (hb1.cells _ _ (by first | (simp; done) | (simp; omega) | omega)).trans (by simp)
  have r2 : w1.cell? ⟨w.heap.size, 2, none⟩ = some (.int .i64 e) := (hb1.cells _ _ (by first | (simp; done) | (simp; omega) | omega)).trans (by simp)
  have r3 : w1.cell? ⟨(w.heap.size + 1), 0, none⟩ = some (.int .i64 (24)) := (hb1.cells _ _ (by first | (simp; done) | (simp; omega) | omega)).trans (by simp)
  have r4 : w1.cell? ⟨(w.heap.size + 1), 1, none⟩ = some (.int .i64 (-126)) := (hb1.cells _ _ (by first | (simp; done) | (simp; omega) | omega)).trans (by simp)
  have r5 : w1.cell? ⟨(w.heap.size + 1), 2, none⟩ = some (.int .i64 (127)) := (hb1.cells _ _ (by first | (simp; done) | (simp; omega) | omega)).trans (by simp)
  have rz : w.heap.size + 1 < w1.heap.size := World.block_lt_of_cell? _ _ r3
  go_wp2_with fail
  refine (DR.out _).mono ?_; rintro e2 w2 ⟨rfl, hb2⟩
  have s0 : w2.cell? ⟨w.heap.size, 0, none⟩ = some (.bool true) := (hb2.cells _ _ (by first | (simp; done) | (simp; omega) | omega)).trans r0
  have s1 : w2.cell? ⟨w.heap.size, 1, none⟩ = some (.int .u64 m) := (hb2.cells _ _ (by first | (simp; done) | (simp; omega) | omega)).trans r1
  have s2 : w2.cell? ⟨w.heap.size, 2, none⟩ = some (.int .i64 e) := (hb2.cells _ _ (by first | (simp; done) | (simp; omega) | omega)).trans r2
  have s3 : w2.cell? ⟨(w.heap.size + 1), 0, none⟩ = some (.int .i64 (24)) := (hb2.cells _ _ (by first | (simp; done) | (simp; omega) | omega)).trans r3
  have s4 : w2.cell? ⟨(w.heap.size + 1), 1, none⟩ = some (.int .i64 (-126)) := (hb2.cells _ _ (by first | (simp; done) | (simp; omega) | omega)).trans r4
  have s5 : w2.cell? ⟨(w.heap.size + 1), 2, none⟩ = some (.int .i64 (127)) := (hb2.cells _ _ (by first | (simp; done) | (simp; omega) | omega)).trans r5
  have sz : w.heap.size + 1 < w2.heap.size := World.block_lt_of_cell? _ _ s3
  clear r0 r1 r2 r3 r4 r5 rz
  go_wp2
  refine wp_region_within (by kernel_rfl) (by kernel_rfl) ?_
  repeat
    apply wpq_step rfl
    · intro wq hCq
      have q0 : wq.cell? ⟨w.heap.size, 0, none⟩ = some (.bool true) := (hCq.cells _ _ (by first | (simp; done) | (simp; omega) | omega)).trans s0
      have q1 : wq.cell? ⟨w.heap.size, 1, none⟩ = some (.int .u64 m) := (hCq.cells _ _ (by first | (simp; done) | (simp; omega) | omega)).trans s1
      have q2 : wq.cell? ⟨w.heap.size, 2, none⟩ = some (.int .i64 e) := (hCq.cells _ _ (by first | (simp; done) | (simp; omega) | omega)).trans s2
      have q3 : wq.cell? ⟨(w.heap.size + 1), 0, none⟩ = some (.int .i64 (24)) := (hCq.cells _ _ (by first | (simp; done) | (simp; omega) | omega)).trans s3
      have q4 : wq.cell? ⟨(w.heap.size + 1), 1, none⟩ = some (.int .i64 (-126)) := (hCq.cells _ _ (by first | (simp; done) | (simp; omega) | omega)).trans s4
      have q5 : wq.cell? ⟨(w.heap.size + 1), 2, none⟩ = some (.int .i64 (127)) := (hCq.cells _ _ (by first | (simp; done) | (simp; omega) | omega)).trans s5
      have qz : w.heap.size + 1 < wq.heap.size := World.block_lt_of_cell? _ _ q3
      go_simp
      first | rfl | exact hCq.same (LQ.out _) | (trace_state; fail)
    simp only [Act.put, List.setIfInBounds_toArray, List.set_cons_zero, List.set_cons_succ]
  refine wpQuiet_nil ?_
  intro w3 hb3
  have t0 : w3.cell? ⟨w.heap.size, 0, none⟩ = some (.bool true) := (hb3.cells _ _ (by first | (simp; done) | (simp; omega) | omega)).trans s0
  have t1 : w3.cell? ⟨w.heap.size, 1, none⟩ = some (.int .u64 m) := (hb3.cells _ _ (by first | (simp; done) | (simp; omega) | omega)).trans s1
  have t2 : w3.cell? ⟨w.heap.size, 2, none⟩ = some (.int .i64 e) := (hb3.cells _ _ (by first | (simp; done) | (simp; omega) | omega)).trans s2
  have t3 : w3.cell? ⟨(w.heap.size + 1), 0, none⟩ = some (.int .i64 (24)) := (hb3.cells _ _ (by first | (simp; done) | (simp; omega) | omega)).trans s3
  have t4 : w3.cell? ⟨(w.heap.size + 1), 1, none⟩ = some (.int .i64 (-126)) := (hb3.cells _ _ (by first | (simp; done) | (simp; omega) | omega)).trans s4
  have t5 : w3.cell? ⟨(w.heap.size + 1), 2, none⟩ = some (.int .i64 (127)) := (hb3.cells _ _ (by first | (simp; done) | (simp; omega) | omega)).trans s5
  have tz : w.heap.size + 1 < w3.heap.size := World.block_lt_of_cell? _ _ t3
  clear s0 s1 s2 s3 s4 s5 sz
  go_wp2_with fail
  refine (LD.out _).mono ?_; rintro e4 w4 ⟨rfl, rfl⟩
  go_wp2
  refine wp_region_within (by kernel_rfl) (by kernel_rfl) ?_
  repeat
    apply wpq_step rfl
    · intro wq hCq
      have q0 : wq.cell? ⟨w.heap.size, 0, none⟩ = some (.bool true) := (hCq.cells _ _ (by first | (simp; done) | (simp; omega) | omega)).trans t0
      have q1 : wq.cell? ⟨w.heap.size, 1, none⟩ = some (.int .u64 m) := (hCq.cells _ _ (by first | (simp; done) | (simp; omega) | omega)).trans t1
      have q2 : wq.cell? ⟨w.heap.size, 2, none⟩ = some (.int .i64 e) := (hCq.cells _ _ (by first | (simp; done) | (simp; omega) | omega)).trans t2
      have q3 : wq.cell? ⟨(w.heap.size + 1), 0, none⟩ = some (.int .i64 (24)) := (hCq.cells _ _ (by first | (simp; done) | (simp; omega) | omega)).trans t3
      have q4 : wq.cell? ⟨(w.heap.size + 1), 1, none⟩ = some (.int .i64 (-126)) := (hCq.cells _ _ (by first | (simp; done) | (simp; omega) | omega)).trans t4
      have q5 : wq.cell? ⟨(w.heap.size + 1), 2, none⟩ = some (.int .i64 (127)) := (hCq.cells _ _ (by first | (simp; done) | (simp; omega) | omega)).trans t5
      have qz : w.heap.size + 1 < wq.heap.size := World.block_lt_of_cell? _ _ q3
      go_simp
      first | rfl | exact hCq.same (IN.out _) | exact hCq.same (SG.out _) | (trace_state; fail)
    simp only [Act.put, List.setIfInBounds_toArray, List.set_cons_zero, List.set_cons_succ]
  refine wpQuiet_nil ?_
  intro w5 hb5
  go_wp2
  go_ret2
  exact ⟨rfl, (by repeat (first | with_reducible exact Within.refl _ | with_reducible assumption | with_reducible refine Within.alloc ?_ _ | with_reducible refine Within.drew ?_ | with_reducible refine Within.setCell ?_ (by first | (simp; done) | (simp; omega)) _ | with_reducible refine Within.trans ?_ (by assumption)))⟩
set_option maxRecDepth 100000 in
set_option maxHeartbeats 600000 in
theorem round_S_top1_2 (neg : Bool) (m L q Lq : Nat) (e k : Int) (h1 : -20000 ≤ e) (h2 : e ≤ 20000) (hL : L ≤ 64) (hLq : Lq ≤ 64) (hk : max (e + (L : Int) - 24) (-149) = k) (LM : Hid (∀ w, Calls Tryz.prog 106 #[.int .u64 m] w fun e' w' => e' = .returned (.int .i64 (L : Nat)) ∧ w = w')) (DR : Hid (∀ w, Calls Tryz.prog 107 #[.agg #[.bool neg, .int .u64 m, .int .i64 e], .int .i64 (k - e), .int .i64 2] w fun e' w' => e' = .returned (.tuple #[.int .u64 q, .bool true]) ∧ Within w w')) (LQ : Hid (∀ w, Calls Tryz.prog 106 #[.int .u64 q] w fun e' w' => e' = .returned (.int .i64 (Lq : Nat)) ∧ w = w')) (x g z : Nat) (hin : 128 < k + (Lq : Int)) (hcv : floatOfInt .f64 (16777215 : Int) = x) (LD : Hid (∀ w, Calls Tryz.prog 105 #[.float .f64 x, .int .i64 104] w fun e' w' => e' = .returned (.float .f64 g) ∧ w = w'))  (SG : Hid (∀ w, Calls Tryz.prog 108 #[.float .f64 g, .bool neg] w fun e' w' => e' = .returned (.float .f64 z) ∧ w = w')) (hs : decide (e + (L : Int) - 1 < -126) = false) (w : World) : Calls Tryz.prog 94 #[.agg #[.bool neg, .int .u64 m, .int .i64 e], .agg #[.int .i64 24, .int .i64 (-126), .int .i64 127], .int .i64 2] w fun e' w' => e' = .returned (.tuple #[.float .f64 z, .int .i64 5]) ∧ Within w w' := by
  have kl : -20100 ≤ k := by omega
  have ku : k ≤ 20100 := by omega
  have gw1 : IntKind.i64.wrap (e + (L : Int)) = e + (L : Int) := by rw [IntKind.wrap_i64]; omega
  have gw2 : IntKind.i64.wrap (k + (Lq : Int)) = k + (Lq : Int) := by rw [IntKind.wrap_i64]; omega
  have gw3 : IntKind.i64.wrap 128 = 128 := by decide
  have hcv' := fun (w : World) => run_convert_int_float (P := Tryz.prog) w 109 68 .u64 .f64 (16777215 : Int) (by kernel_rfl) (by kernel_rfl)
  rw [hcv] at hcv'
  have d : decide (k + (Lq : Int) ≤ 128) = false := decide_eq_false (by omega)
  clear hcv hin
  go_enter Tryz.func94, Tryz.ntmps94
  go_wp2
  refine wp_region_within (by kernel_rfl) (by kernel_rfl) ?_
  repeat
    apply wpq_step rfl
    · intro wq hCq
      have q0 : wq.cell? ⟨w.heap.size, 0, none⟩ = some (.bool neg) := (hCq.cells _ _ (by first | (simp; done) | (simp; omega) | omega)).trans (by simp)
      have q1 : wq.cell? ⟨w.heap.size, 1, none⟩ = some (.int .u64 m) := (hCq.cells _ _ (by first | (simp; done) | (simp; omega) | omega)).trans (by simp)
      have q2 : wq.cell? ⟨w.heap.size, 2, none⟩ = some (.int .i64 e) := (hCq.cells _ _ (by first | (simp; done) | (simp; omega) | omega)).trans (by simp)
      have q3 : wq.cell? ⟨(w.heap.size + 1), 0, none⟩ = some (.int .i64 (24)) := (hCq.cells _ _ (by first | (simp; done) | (simp; omega) | omega)).trans (by simp)
      have q4 : wq.cell? ⟨(w.heap.size + 1), 1, none⟩ = some (.int .i64 (-126)) := (hCq.cells _ _ (by first | (simp; done) | (simp; omega) | omega)).trans (by simp)
      have q5 : wq.cell? ⟨(w.heap.size + 1), 2, none⟩ = some (.int .i64 (127)) := (hCq.cells _ _ (by first | (simp; done) | (simp; omega) | omega)).trans (by simp)
      have qz : w.heap.size + 1 < wq.heap.size := World.block_lt_of_cell? _ _ q3
      go_simp
      first | rfl | exact hCq.same (LM.out _) | (trace_state; fail)
    simp only [Act.put, List.setIfInBounds_toArray, List.set_cons_zero, List.set_cons_succ]
  refine wpQuiet_nil ?_
  intro w1 hb1
  have r0 : w1.cell? ⟨w.heap.size, 0, none⟩ = some (.bool neg) := (hb1.cells _ _ (by first | (simp; done) | (simp; omega) | omega)).trans (by simp)
  have r1 : w1.cell? ⟨w.heap.size, 1, none⟩ = some (.int .u64 m) := (hb1.cells _ _ (by first | (simp; done) | (simp; omega) | omega)).trans (by simp)
  have r2 : w1.cell? ⟨w.heap.size, 2, none⟩ = some (.int .i64 e) := (hb1.cells _ _ (by first | (simp; done) | (simp; omega) | omega)).trans (by simp)
  have r3 : w1.cell? ⟨(w.heap.size + 1), 0, none⟩ = some (.int .i64 (24)) := (hb1.cells _ _ (by first | (simp; done) | (simp; omega) | omega)).trans (by simp)
  have r4 : w1.cell? ⟨(w.heap.size + 1), 1, none⟩ = some (.int .i64 (-126)) := (hb1.cells _ _ (by first | (simp; done) | (simp; omega) | omega)).trans (by simp)
  have r5 : w1.cell? ⟨(w.heap.size + 1), 2, none⟩ = some (.int .i64 (127)) := (hb1.cells _ _ (by first | (simp; done) | (simp; omega) | omega)).trans (by simp)
  have rz : w.heap.size + 1 < w1.heap.size := World.block_lt_of_cell? _ _ r3
  go_wp2_with fail
  refine (DR.out _).mono ?_; rintro e2 w2 ⟨rfl, hb2⟩
  have s0 : w2.cell? ⟨w.heap.size, 0, none⟩ = some (.bool neg) := (hb2.cells _ _ (by first | (simp; done) | (simp; omega) | omega)).trans r0
  have s1 : w2.cell? ⟨w.heap.size, 1, none⟩ = some (.int .u64 m) := (hb2.cells _ _ (by first | (simp; done) | (simp; omega) | omega)).trans r1
  have s2 : w2.cell? ⟨w.heap.size, 2, none⟩ = some (.int .i64 e) := (hb2.cells _ _ (by first | (simp; done) | (simp; omega) | omega)).trans r2
  have s3 : w2.cell? ⟨(w.heap.size + 1), 0, none⟩ = some (.int .i64 (24)) := (hb2.cells _ _ (by first | (simp; done) | (simp; omega) | omega)).trans r3
  have s4 : w2.cell? ⟨(w.heap.size + 1), 1, none⟩ = some (.int .i64 (-126)) := (hb2.cells _ _ (by first | (simp; done) | (simp; omega) | omega)).trans r4
  have s5 : w2.cell? ⟨(w.heap.size + 1), 2, none⟩ = some (.int .i64 (127)) := (hb2.cells _ _ (by first | (simp; done) | (simp; omega) | omega)).trans r5
  have sz : w.heap.size + 1 < w2.heap.size := World.block_lt_of_cell? _ _ s3
  clear r0 r1 r2 r3 r4 r5 rz
  go_wp2
  refine wp_region_within (by kernel_rfl) (by kernel_rfl) ?_
  repeat
    apply wpq_step rfl
    · intro wq hCq
      have q0 : wq.cell? ⟨w.heap.size, 0, none⟩ = some (.bool neg) := (hCq.cells _ _ (by first | (simp; done) | (simp; omega) | omega)).trans s0
      have q1 : wq.cell? ⟨w.heap.size, 1, none⟩ = some (.int .u64 m) := (hCq.cells _ _ (by first | (simp; done) | (simp; omega) | omega)).trans s1
      have q2 : wq.cell? ⟨w.heap.size, 2, none⟩ = some (.int .i64 e) := (hCq.cells _ _ (by first | (simp; done) | (simp; omega) | omega)).trans s2
      have q3 : wq.cell? ⟨(w.heap.size + 1), 0, none⟩ = some (.int .i64 (24)) := (hCq.cells _ _ (by first | (simp; done) | (simp; omega) | omega)).trans s3
      have q4 : wq.cell? ⟨(w.heap.size + 1), 1, none⟩ = some (.int .i64 (-126)) := (hCq.cells _ _ (by first | (simp; done) | (simp; omega) | omega)).trans s4
      have q5 : wq.cell? ⟨(w.heap.size + 1), 2, none⟩ = some (.int .i64 (127)) := (hCq.cells _ _ (by first | (simp; done) | (simp; omega) | omega)).trans s5
      have qz : w.heap.size + 1 < wq.heap.size := World.block_lt_of_cell? _ _ q3
      go_simp
      first | rfl | exact hCq.same (LQ.out _) | (trace_state; fail)
    simp only [Act.put, List.setIfInBounds_toArray, List.set_cons_zero, List.set_cons_succ]
  refine wpQuiet_nil ?_
  intro w3 hb3
  have t0 : w3.cell? ⟨w.heap.size, 0, none⟩ = some (.bool neg) := (hb3.cells _ _ (by first | (simp; done) | (simp; omega) | omega)).trans s0
  have t1 : w3.cell? ⟨w.heap.size, 1, none⟩ = some (.int .u64 m) := (hb3.cells _ _ (by first | (simp; done) | (simp; omega) | omega)).trans s1
  have t2 : w3.cell? ⟨w.heap.size, 2, none⟩ = some (.int .i64 e) := (hb3.cells _ _ (by first | (simp; done) | (simp; omega) | omega)).trans s2
  have t3 : w3.cell? ⟨(w.heap.size + 1), 0, none⟩ = some (.int .i64 (24)) := (hb3.cells _ _ (by first | (simp; done) | (simp; omega) | omega)).trans s3
  have t4 : w3.cell? ⟨(w.heap.size + 1), 1, none⟩ = some (.int .i64 (-126)) := (hb3.cells _ _ (by first | (simp; done) | (simp; omega) | omega)).trans s4
  have t5 : w3.cell? ⟨(w.heap.size + 1), 2, none⟩ = some (.int .i64 (127)) := (hb3.cells _ _ (by first | (simp; done) | (simp; omega) | omega)).trans s5
  have tz : w.heap.size + 1 < w3.heap.size := World.block_lt_of_cell? _ _ t3
  clear s0 s1 s2 s3 s4 s5 sz
  go_wp2_with fail
  refine (LD.out _).mono ?_; rintro e4 w4 ⟨rfl, rfl⟩
  go_wp2_with fail
  refine (SG.out _).mono ?_; rintro e5 w5 ⟨rfl, rfl⟩
  go_wp2
  go_ret2
  exact ⟨rfl, (by repeat (first | with_reducible exact Within.refl _ | with_reducible assumption | with_reducible refine Within.alloc ?_ _ | with_reducible refine Within.drew ?_ | with_reducible refine Within.setCell ?_ (by first | (simp; done) | (simp; omega)) _ | with_reducible refine Within.trans ?_ (by assumption)))⟩
set_option maxRecDepth 100000 in
set_option maxHeartbeats 600000 in
theorem round_S_top1_3 (m L q Lq : Nat) (e k : Int) (h1 : -20000 ≤ e) (h2 : e ≤ 20000) (hL : L ≤ 64) (hLq : Lq ≤ 64) (hk : max (e + (L : Int) - 24) (-149) = k) (LM : Hid (∀ w, Calls Tryz.prog 106 #[.int .u64 m] w fun e' w' => e' = .returned (.int .i64 (L : Nat)) ∧ w = w')) (DR : Hid (∀ w, Calls Tryz.prog 107 #[.agg #[.bool true, .int .u64 m, .int .i64 e], .int .i64 (k - e), .int .i64 3] w fun e' w' => e' = .returned (.tuple #[.int .u64 q, .bool true]) ∧ Within w w')) (LQ : Hid (∀ w, Calls Tryz.prog 106 #[.int .u64 q] w fun e' w' => e' = .returned (.int .i64 (Lq : Nat)) ∧ w = w')) (x g z : Nat) (hin : 128 < k + (Lq : Int)) (hcv : floatOfInt .f64 (16777215 : Int) = x) (LD : Hid (∀ w, Calls Tryz.prog 105 #[.float .f64 x, .int .i64 104] w fun e' w' => e' = .returned (.float .f64 g) ∧ w = w'))  (SG : Hid (∀ w, Calls Tryz.prog 108 #[.float .f64 g, .bool true] w fun e' w' => e' = .returned (.float .f64 z) ∧ w = w')) (hs : decide (e + (L : Int) - 1 < -126) = false) (w : World) : Calls Tryz.prog 94 #[.agg #[.bool true, .int .u64 m, .int .i64 e], .agg #[.int .i64 24, .int .i64 (-126), .int .i64 127], .int .i64 3] w fun e' w' => e' = .returned (.tuple #[.float .f64 z, .int .i64 5]) ∧ Within w w' := by
  have kl : -20100 ≤ k := by omega
  have ku : k ≤ 20100 := by omega
  have gw1 : IntKind.i64.wrap (e + (L : Int)) = e + (L : Int) := by rw [IntKind.wrap_i64]; omega
  have gw2 : IntKind.i64.wrap (k + (Lq : Int)) = k + (Lq : Int) := by rw [IntKind.wrap_i64]; omega
  have gw3 : IntKind.i64.wrap 128 = 128 := by decide
  have hcv' := fun (w : World) => run_convert_int_float (P := Tryz.prog) w 109 68 .u64 .f64 (16777215 : Int) (by kernel_rfl) (by kernel_rfl)
  rw [hcv] at hcv'
  have d : decide (k + (Lq : Int) ≤ 128) = false := decide_eq_false (by omega)
  clear hcv hin
  go_enter Tryz.func94, Tryz.ntmps94
  go_wp2
  refine wp_region_within (by kernel_rfl) (by kernel_rfl) ?_
  repeat
    apply wpq_step rfl
    · intro wq hCq
      have q0 : wq.cell? ⟨w.heap.size, 0, none⟩ = some (.bool true) := (hCq.cells _ _ (by first | (simp; done) | (simp; omega) | omega)).trans (by simp)
      have q1 : wq.cell? ⟨w.heap.size, 1, none⟩ = some (.int .u64 m) := (hCq.cells _ _ (by first | (simp; done) | (simp; omega) | omega)).trans (by simp)
      have q2 : wq.cell? ⟨w.heap.size, 2, none⟩ = some (.int .i64 e) := (hCq.cells _ _ (by first | (simp; done) | (simp; omega) | omega)).trans (by simp)
      have q3 : wq.cell? ⟨(w.heap.size + 1), 0, none⟩ = some (.int .i64 (24)) := (hCq.cells _ _ (by first | (simp; done) | (simp; omega) | omega)).trans (by simp)
      have q4 : wq.cell? ⟨(w.heap.size + 1), 1, none⟩ = some (.int .i64 (-126)) := (hCq.cells _ _ (by first | (simp; done) | (simp; omega) | omega)).trans (by simp)
      have q5 : wq.cell? ⟨(w.heap.size + 1), 2, none⟩ = some (.int .i64 (127)) := (hCq.cells _ _ (by first | (simp; done) | (simp; omega) | omega)).trans (by simp)
      have qz : w.heap.size + 1 < wq.heap.size := World.block_lt_of_cell? _ _ q3
      go_simp
      first | rfl | exact hCq.same (LM.out _) | (trace_state; fail)
    simp only [Act.put, List.setIfInBounds_toArray, List.set_cons_zero, List.set_cons_succ]
  refine wpQuiet_nil ?_
  intro w1 hb1
  have r0 : w1.cell? ⟨w.heap.size, 0, none⟩ = some (.bool true) := (hb1.cells _ _ (by first | (simp; done) | (simp; omega) | omega)).trans (by simp)
  have r1 : w1.cell? ⟨w.heap.size, 1, none⟩ = some (.int .u64 m) := (hb1.cells _ _ (by first | (simp; done) | (simp; omega) | omega)).trans (by simp)
  have r2 : w1.cell? ⟨w.heap.size, 2, none⟩ = some (.int .i64 e) := (hb1.cells _ _ (by first | (simp; done) | (simp; omega) | omega)).trans (by simp)
  have r3 : w1.cell? ⟨(w.heap.size + 1), 0, none⟩ = some (.int .i64 (24)) := (hb1.cells _ _ (by first | (simp; done) | (simp; omega) | omega)).trans (by simp)
  have r4 : w1.cell? ⟨(w.heap.size + 1), 1, none⟩ = some (.int .i64 (-126)) := (hb1.cells _ _ (by first | (simp; done) | (simp; omega) | omega)).trans (by simp)
  have r5 : w1.cell? ⟨(w.heap.size + 1), 2, none⟩ = some (.int .i64 (127)) := (hb1.cells _ _ (by first | (simp; done) | (simp; omega) | omega)).trans (by simp)
  have rz : w.heap.size + 1 < w1.heap.size := World.block_lt_of_cell? _ _ r3
  go_wp2_with fail
  refine (DR.out _).mono ?_; rintro e2 w2 ⟨rfl, hb2⟩
  have s0 : w2.cell? ⟨w.heap.size, 0, none⟩ = some (.bool true) := (hb2.cells _ _ (by first | (simp; done) | (simp; omega) | omega)).trans r0
  have s1 : w2.cell? ⟨w.heap.size, 1, none⟩ = some (.int .u64 m) := (hb2.cells _ _ (by first | (simp; done) | (simp; omega) | omega)).trans r1
  have s2 : w2.cell? ⟨w.heap.size, 2, none⟩ = some (.int .i64 e) := (hb2.cells _ _ (by first | (simp; done) | (simp; omega) | omega)).trans r2
  have s3 : w2.cell? ⟨(w.heap.size + 1), 0, none⟩ = some (.int .i64 (24)) := (hb2.cells _ _ (by first | (simp; done) | (simp; omega) | omega)).trans r3
  have s4 : w2.cell? ⟨(w.heap.size + 1), 1, none⟩ = some (.int .i64 (-126)) := (hb2.cells _ _ (by first | (simp; done) | (simp; omega) | omega)).trans r4
  have s5 : w2.cell? ⟨(w.heap.size + 1), 2, none⟩ = some (.int .i64 (127)) := (hb2.cells _ _ (by first | (simp; done) | (simp; omega) | omega)).trans r5
  have sz : w.heap.size + 1 < w2.heap.size := World.block_lt_of_cell? _ _ s3
  clear r0 r1 r2 r3 r4 r5 rz
  go_wp2
  refine wp_region_within (by kernel_rfl) (by kernel_rfl) ?_
  repeat
    apply wpq_step rfl
    · intro wq hCq
      have q0 : wq.cell? ⟨w.heap.size, 0, none⟩ = some (.bool true) := (hCq.cells _ _ (by first | (simp; done) | (simp; omega) | omega)).trans s0
      have q1 : wq.cell? ⟨w.heap.size, 1, none⟩ = some (.int .u64 m) := (hCq.cells _ _ (by first | (simp; done) | (simp; omega) | omega)).trans s1
      have q2 : wq.cell? ⟨w.heap.size, 2, none⟩ = some (.int .i64 e) := (hCq.cells _ _ (by first | (simp; done) | (simp; omega) | omega)).trans s2
      have q3 : wq.cell? ⟨(w.heap.size + 1), 0, none⟩ = some (.int .i64 (24)) := (hCq.cells _ _ (by first | (simp; done) | (simp; omega) | omega)).trans s3
      have q4 : wq.cell? ⟨(w.heap.size + 1), 1, none⟩ = some (.int .i64 (-126)) := (hCq.cells _ _ (by first | (simp; done) | (simp; omega) | omega)).trans s4
      have q5 : wq.cell? ⟨(w.heap.size + 1), 2, none⟩ = some (.int .i64 (127)) := (hCq.cells _ _ (by first | (simp; done) | (simp; omega) | omega)).trans s5
      have qz : w.heap.size + 1 < wq.heap.size := World.block_lt_of_cell? _ _ q3
      go_simp
      first | rfl | exact hCq.same (LQ.out _) | (trace_state; fail)
    simp only [Act.put, List.setIfInBounds_toArray, List.set_cons_zero, List.set_cons_succ]
  refine wpQuiet_nil ?_
  intro w3 hb3
  have t0 : w3.cell? ⟨w.heap.size, 0, none⟩ = some (.bool true) := (hb3.cells _ _ (by first | (simp; done) | (simp; omega) | omega)).trans s0
  have t1 : w3.cell? ⟨w.heap.size, 1, none⟩ = some (.int .u64 m) := (hb3.cells _ _ (by first | (simp; done) | (simp; omega) | omega)).trans s1
  have t2 : w3.cell? ⟨w.heap.size, 2, none⟩ = some (.int .i64 e) := (hb3.cells _ _ (by first | (simp; done) | (simp; omega) | omega)).trans s2
  have t3 : w3.cell? ⟨(w.heap.size + 1), 0, none⟩ = some (.int .i64 (24)) := (hb3.cells _ _ (by first | (simp; done) | (simp; omega) | omega)).trans s3
  have t4 : w3.cell? ⟨(w.heap.size + 1), 1, none⟩ = some (.int .i64 (-126)) := (hb3.cells _ _ (by first | (simp; done) | (simp; omega) | omega)).trans s4
  have t5 : w3.cell? ⟨(w.heap.size + 1), 2, none⟩ = some (.int .i64 (127)) := (hb3.cells _ _ (by first | (simp; done) | (simp; omega) | omega)).trans s5
  have tz : w.heap.size + 1 < w3.heap.size := World.block_lt_of_cell? _ _ t3
  clear s0 s1 s2 s3 s4 s5 sz
  go_wp2_with fail
  refine (LD.out _).mono ?_; rintro e4 w4 ⟨rfl, rfl⟩
  go_wp2_with fail
  refine (SG.out _).mono ?_; rintro e5 w5 ⟨rfl, rfl⟩
  go_wp2
  go_ret2
  exact ⟨rfl, (by repeat (first | with_reducible exact Within.refl _ | with_reducible assumption | with_reducible refine Within.alloc ?_ _ | with_reducible refine Within.drew ?_ | with_reducible refine Within.setCell ?_ (by first | (simp; done) | (simp; omega)) _ | with_reducible refine Within.trans ?_ (by assumption)))⟩
set_option maxRecDepth 100000 in
set_option maxHeartbeats 600000 in
theorem round_S_top1_4 (m L q Lq : Nat) (e k : Int) (h1 : -20000 ≤ e) (h2 : e ≤ 20000) (hL : L ≤ 64) (hLq : Lq ≤ 64) (hk : max (e + (L : Int) - 24) (-149) = k) (LM : Hid (∀ w, Calls Tryz.prog 106 #[.int .u64 m] w fun e' w' => e' = .returned (.int .i64 (L : Nat)) ∧ w = w')) (DR : Hid (∀ w, Calls Tryz.prog 107 #[.agg #[.bool false, .int .u64 m, .int .i64 e], .int .i64 (k - e), .int .i64 4] w fun e' w' => e' = .returned (.tuple #[.int .u64 q, .bool true]) ∧ Within w w')) (LQ : Hid (∀ w, Calls Tryz.prog 106 #[.int .u64 q] w fun e' w' => e' = .returned (.int .i64 (Lq : Nat)) ∧ w = w')) (x g z : Nat) (hin : 128 < k + (Lq : Int)) (hcv : floatOfInt .f64 (16777215 : Int) = x) (LD : Hid (∀ w, Calls Tryz.prog 105 #[.float .f64 x, .int .i64 104] w fun e' w' => e' = .returned (.float .f64 g) ∧ w = w'))  (SG : Hid (∀ w, Calls Tryz.prog 108 #[.float .f64 g, .bool false] w fun e' w' => e' = .returned (.float .f64 z) ∧ w = w')) (hs : decide (e + (L : Int) - 1 < -126) = false) (w : World) : Calls Tryz.prog 94 #[.agg #[.bool false, .int .u64 m, .int .i64 e], .agg #[.int .i64 24, .int .i64 (-126), .int .i64 127], .int .i64 4] w fun e' w' => e' = .returned (.tuple #[.float .f64 z, .int .i64 5]) ∧ Within w w' := by
  have kl : -20100 ≤ k := by omega
  have ku : k ≤ 20100 := by omega
  have gw1 : IntKind.i64.wrap (e + (L : Int)) = e + (L : Int) := by rw [IntKind.wrap_i64]; omega
  have gw2 : IntKind.i64.wrap (k + (Lq : Int)) = k + (Lq : Int) := by rw [IntKind.wrap_i64]; omega
  have gw3 : IntKind.i64.wrap 128 = 128 := by decide
  have hcv' := fun (w : World) => run_convert_int_float (P := Tryz.prog) w 109 68 .u64 .f64 (16777215 : Int) (by kernel_rfl) (by kernel_rfl)
  rw [hcv] at hcv'
  have d : decide (k + (Lq : Int) ≤ 128) = false := decide_eq_false (by omega)
  clear hcv hin
  go_enter Tryz.func94, Tryz.ntmps94
  go_wp2
  refine wp_region_within (by kernel_rfl) (by kernel_rfl) ?_
  repeat
    apply wpq_step rfl
    · intro wq hCq
      have q0 : wq.cell? ⟨w.heap.size, 0, none⟩ = some (.bool false) := (hCq.cells _ _ (by first | (simp; done) | (simp; omega) | omega)).trans (by simp)
      have q1 : wq.cell? ⟨w.heap.size, 1, none⟩ = some (.int .u64 m) := (hCq.cells _ _ (by first | (simp; done) | (simp; omega) | omega)).trans (by simp)
      have q2 : wq.cell? ⟨w.heap.size, 2, none⟩ = some (.int .i64 e) := (hCq.cells _ _ (by first | (simp; done) | (simp; omega) | omega)).trans (by simp)
      have q3 : wq.cell? ⟨(w.heap.size + 1), 0, none⟩ = some (.int .i64 (24)) := (hCq.cells _ _ (by first | (simp; done) | (simp; omega) | omega)).trans (by simp)
      have q4 : wq.cell? ⟨(w.heap.size + 1), 1, none⟩ = some (.int .i64 (-126)) := (hCq.cells _ _ (by first | (simp; done) | (simp; omega) | omega)).trans (by simp)
      have q5 : wq.cell? ⟨(w.heap.size + 1), 2, none⟩ = some (.int .i64 (127)) := (hCq.cells _ _ (by first | (simp; done) | (simp; omega) | omega)).trans (by simp)
      have qz : w.heap.size + 1 < wq.heap.size := World.block_lt_of_cell? _ _ q3
      go_simp
      first | rfl | exact hCq.same (LM.out _) | (trace_state; fail)
    simp only [Act.put, List.setIfInBounds_toArray, List.set_cons_zero, List.set_cons_succ]
  refine wpQuiet_nil ?_
  intro w1 hb1
  have r0 : w1.cell? ⟨w.heap.size, 0, none⟩ = some (.bool false) := (hb1.cells _ _ (by first | (simp; done) | (simp; omega) | omega)).trans (by simp)
  have r1 : w1.cell? ⟨w.heap.size, 1, none⟩ = some (.int .u64 m) := (hb1.cells _ _ (by first | (simp; done) | (simp; omega) | omega)).trans (by simp)
  have r2 : w1.cell? ⟨w.heap.size, 2, none⟩ = some (.int .i64 e) := (hb1.cells _ _ (by first | (simp; done) | (simp; omega) | omega)).trans (by simp)
  have r3 : w1.cell? ⟨(w.heap.size + 1), 0, none⟩ = some (.int .i64 (24)) := (hb1.cells _ _ (by first | (simp; done) | (simp; omega) | omega)).trans (by simp)
  have r4 : w1.cell? ⟨(w.heap.size + 1), 1, none⟩ = some (.int .i64 (-126)) := (hb1.cells _ _ (by first | (simp; done) | (simp; omega) | omega)).trans (by simp)
  have r5 : w1.cell? ⟨(w.heap.size + 1), 2, none⟩ = some (.int .i64 (127)) := (hb1.cells _ _ (by first | (simp; done) | (simp; omega) | omega)).trans (by simp)
  have rz : w.heap.size + 1 < w1.heap.size := World.block_lt_of_cell? _ _ r3
  go_wp2_with fail
  refine (DR.out _).mono ?_; rintro e2 w2 ⟨rfl, hb2⟩
  have s0 : w2.cell? ⟨w.heap.size, 0, none⟩ = some (.bool false) := (hb2.cells _ _ (by first | (simp; done) | (simp; omega) | omega)).trans r0
  have s1 : w2.cell? ⟨w.heap.size, 1, none⟩ = some (.int .u64 m) := (hb2.cells _ _ (by first | (simp; done) | (simp; omega) | omega)).trans r1
  have s2 : w2.cell? ⟨w.heap.size, 2, none⟩ = some (.int .i64 e) := (hb2.cells _ _ (by first | (simp; done) | (simp; omega) | omega)).trans r2
  have s3 : w2.cell? ⟨(w.heap.size + 1), 0, none⟩ = some (.int .i64 (24)) := (hb2.cells _ _ (by first | (simp; done) | (simp; omega) | omega)).trans r3
  have s4 : w2.cell? ⟨(w.heap.size + 1), 1, none⟩ = some (.int .i64 (-126)) := (hb2.cells _ _ (by first | (simp; done) | (simp; omega) | omega)).trans r4
  have s5 : w2.cell? ⟨(w.heap.size + 1), 2, none⟩ = some (.int .i64 (127)) := (hb2.cells _ _ (by first | (simp; done) | (simp; omega) | omega)).trans r5
  have sz : w.heap.size + 1 < w2.heap.size := World.block_lt_of_cell? _ _ s3
  clear r0 r1 r2 r3 r4 r5 rz
  go_wp2
  refine wp_region_within (by kernel_rfl) (by kernel_rfl) ?_
  repeat
    apply wpq_step rfl
    · intro wq hCq
      have q0 : wq.cell? ⟨w.heap.size, 0, none⟩ = some (.bool false) := (hCq.cells _ _ (by first | (simp; done) | (simp; omega) | omega)).trans s0
      have q1 : wq.cell? ⟨w.heap.size, 1, none⟩ = some (.int .u64 m) := (hCq.cells _ _ (by first | (simp; done) | (simp; omega) | omega)).trans s1
      have q2 : wq.cell? ⟨w.heap.size, 2, none⟩ = some (.int .i64 e) := (hCq.cells _ _ (by first | (simp; done) | (simp; omega) | omega)).trans s2
      have q3 : wq.cell? ⟨(w.heap.size + 1), 0, none⟩ = some (.int .i64 (24)) := (hCq.cells _ _ (by first | (simp; done) | (simp; omega) | omega)).trans s3
      have q4 : wq.cell? ⟨(w.heap.size + 1), 1, none⟩ = some (.int .i64 (-126)) := (hCq.cells _ _ (by first | (simp; done) | (simp; omega) | omega)).trans s4
      have q5 : wq.cell? ⟨(w.heap.size + 1), 2, none⟩ = some (.int .i64 (127)) := (hCq.cells _ _ (by first | (simp; done) | (simp; omega) | omega)).trans s5
      have qz : w.heap.size + 1 < wq.heap.size := World.block_lt_of_cell? _ _ q3
      go_simp
      first | rfl | exact hCq.same (LQ.out _) | (trace_state; fail)
    simp only [Act.put, List.setIfInBounds_toArray, List.set_cons_zero, List.set_cons_succ]
  refine wpQuiet_nil ?_
  intro w3 hb3
  have t0 : w3.cell? ⟨w.heap.size, 0, none⟩ = some (.bool false) := (hb3.cells _ _ (by first | (simp; done) | (simp; omega) | omega)).trans s0
  have t1 : w3.cell? ⟨w.heap.size, 1, none⟩ = some (.int .u64 m) := (hb3.cells _ _ (by first | (simp; done) | (simp; omega) | omega)).trans s1
  have t2 : w3.cell? ⟨w.heap.size, 2, none⟩ = some (.int .i64 e) := (hb3.cells _ _ (by first | (simp; done) | (simp; omega) | omega)).trans s2
  have t3 : w3.cell? ⟨(w.heap.size + 1), 0, none⟩ = some (.int .i64 (24)) := (hb3.cells _ _ (by first | (simp; done) | (simp; omega) | omega)).trans s3
  have t4 : w3.cell? ⟨(w.heap.size + 1), 1, none⟩ = some (.int .i64 (-126)) := (hb3.cells _ _ (by first | (simp; done) | (simp; omega) | omega)).trans s4
  have t5 : w3.cell? ⟨(w.heap.size + 1), 2, none⟩ = some (.int .i64 (127)) := (hb3.cells _ _ (by first | (simp; done) | (simp; omega) | omega)).trans s5
  have tz : w.heap.size + 1 < w3.heap.size := World.block_lt_of_cell? _ _ t3
  clear s0 s1 s2 s3 s4 s5 sz
  go_wp2_with fail
  refine (LD.out _).mono ?_; rintro e4 w4 ⟨rfl, rfl⟩
  go_wp2_with fail
  refine (SG.out _).mono ?_; rintro e5 w5 ⟨rfl, rfl⟩
  go_wp2
  go_ret2
  exact ⟨rfl, (by repeat (first | with_reducible exact Within.refl _ | with_reducible assumption | with_reducible refine Within.alloc ?_ _ | with_reducible refine Within.drew ?_ | with_reducible refine Within.setCell ?_ (by first | (simp; done) | (simp; omega)) _ | with_reducible refine Within.trans ?_ (by assumption)))⟩
set_option maxRecDepth 100000 in
set_option maxHeartbeats 600000 in
theorem round_S_inf1 (neg : Bool) (m L q Lq : Nat) (e k : Int) (mode : Int) (h1 : -20000 ≤ e) (h2 : e ≤ 20000) (hL : L ≤ 64) (hLq : Lq ≤ 64) (hk : max (e + (L : Int) - 24) (-149) = k) (LM : Hid (∀ w, Calls Tryz.prog 106 #[.int .u64 m] w fun e' w' => e' = .returned (.int .i64 (L : Nat)) ∧ w = w')) (DR : Hid (∀ w, Calls Tryz.prog 107 #[.agg #[.bool neg, .int .u64 m, .int .i64 e], .int .i64 (k - e), .int .i64 mode] w fun e' w' => e' = .returned (.tuple #[.int .u64 q, .bool true]) ∧ Within w w')) (LQ : Hid (∀ w, Calls Tryz.prog 106 #[.int .u64 q] w fun e' w' => e' = .returned (.int .i64 (Lq : Nat)) ∧ w = w')) (x g y z : Nat) (hin : 128 < k + (Lq : Int)) (hcv : floatOfInt .f64 (16777215 : Int) = x) (LD : Hid (∀ w, Calls Tryz.prog 105 #[.float .f64 x, .int .i64 104] w fun e' w' => e' = .returned (.float .f64 g) ∧ w = w')) (IN : Hid (∀ w, Calls Tryz.prog 109 #[.int .i64 1] w fun e' w' => e' = .returned (.float .f64 y) ∧ w = w')) (SG : Hid (∀ w, Calls Tryz.prog 108 #[.float .f64 y, .bool neg] w fun e' w' => e' = .returned (.float .f64 z) ∧ w = w')) (m2 : (mode == 2) = false) (m3 : (mode == 3) = false) (m4 : (mode == 4) = false) (hs : decide (e + (L : Int) - 1 < -126) = false) (w : World) : Calls Tryz.prog 94 #[.agg #[.bool neg, .int .u64 m, .int .i64 e], .agg #[.int .i64 24, .int .i64 (-126), .int .i64 127], .int .i64 mode] w fun e' w' => e' = .returned (.tuple #[.float .f64 z, .int .i64 5]) ∧ Within w w' := by
  have kl : -20100 ≤ k := by omega
  have ku : k ≤ 20100 := by omega
  have gw1 : IntKind.i64.wrap (e + (L : Int)) = e + (L : Int) := by rw [IntKind.wrap_i64]; omega
  have gw2 : IntKind.i64.wrap (k + (Lq : Int)) = k + (Lq : Int) := by rw [IntKind.wrap_i64]; omega
  have gw3 : IntKind.i64.wrap 128 = 128 := by decide
  have hcv' := fun (w : World) => run_convert_int_float (P := Tryz.prog) w 109 68 .u64 .f64 (16777215 : Int) (by kernel_rfl) (by kernel_rfl)
  rw [hcv] at hcv'
  have d : decide (k + (Lq : Int) ≤ 128) = false := decide_eq_false (by omega)
  clear hcv hin
  go_enter Tryz.func94, Tryz.ntmps94
  go_wp2
  refine wp_region_within (by kernel_rfl) (by kernel_rfl) ?_
  repeat
    apply wpq_step rfl
    · intro wq hCq
      have q0 : wq.cell? ⟨w.heap.size, 0, none⟩ = some (.bool neg) := (hCq.cells _ _ (by first | (simp; done) | (simp; omega) | omega)).trans (by simp)
      have q1 : wq.cell? ⟨w.heap.size, 1, none⟩ = some (.int .u64 m) := (hCq.cells _ _ (by first | (simp; done) | (simp; omega) | omega)).trans (by simp)
      have q2 : wq.cell? ⟨w.heap.size, 2, none⟩ = some (.int .i64 e) := (hCq.cells _ _ (by first | (simp; done) | (simp; omega) | omega)).trans (by simp)
      have q3 : wq.cell? ⟨(w.heap.size + 1), 0, none⟩ = some (.int .i64 (24)) := (hCq.cells _ _ (by first | (simp; done) | (simp; omega) | omega)).trans (by simp)
      have q4 : wq.cell? ⟨(w.heap.size + 1), 1, none⟩ = some (.int .i64 (-126)) := (hCq.cells _ _ (by first | (simp; done) | (simp; omega) | omega)).trans (by simp)
      have q5 : wq.cell? ⟨(w.heap.size + 1), 2, none⟩ = some (.int .i64 (127)) := (hCq.cells _ _ (by first | (simp; done) | (simp; omega) | omega)).trans (by simp)
      have qz : w.heap.size + 1 < wq.heap.size := World.block_lt_of_cell? _ _ q3
      go_simp
      first | rfl | exact hCq.same (LM.out _) | (trace_state; fail)
    simp only [Act.put, List.setIfInBounds_toArray, List.set_cons_zero, List.set_cons_succ]
  refine wpQuiet_nil ?_
  intro w1 hb1
  have r0 : w1.cell? ⟨w.heap.size, 0, none⟩ = some (.bool neg) := (hb1.cells _ _ (by first | (simp; done) | (simp; omega) | omega)).trans (by simp)
  have r1 : w1.cell? ⟨w.heap.size, 1, none⟩ = some (.int .u64 m) := (hb1.cells _ _ (by first | (simp; done) | (simp; omega) | omega)).trans (by simp)
  have r2 : w1.cell? ⟨w.heap.size, 2, none⟩ = some (.int .i64 e) := (hb1.cells _ _ (by first | (simp; done) | (simp; omega) | omega)).trans (by simp)
  have r3 : w1.cell? ⟨(w.heap.size + 1), 0, none⟩ = some (.int .i64 (24)) := (hb1.cells _ _ (by first | (simp; done) | (simp; omega) | omega)).trans (by simp)
  have r4 : w1.cell? ⟨(w.heap.size + 1), 1, none⟩ = some (.int .i64 (-126)) := (hb1.cells _ _ (by first | (simp; done) | (simp; omega) | omega)).trans (by simp)
  have r5 : w1.cell? ⟨(w.heap.size + 1), 2, none⟩ = some (.int .i64 (127)) := (hb1.cells _ _ (by first | (simp; done) | (simp; omega) | omega)).trans (by simp)
  have rz : w.heap.size + 1 < w1.heap.size := World.block_lt_of_cell? _ _ r3
  go_wp2_with fail
  refine (DR.out _).mono ?_; rintro e2 w2 ⟨rfl, hb2⟩
  have s0 : w2.cell? ⟨w.heap.size, 0, none⟩ = some (.bool neg) := (hb2.cells _ _ (by first | (simp; done) | (simp; omega) | omega)).trans r0
  have s1 : w2.cell? ⟨w.heap.size, 1, none⟩ = some (.int .u64 m) := (hb2.cells _ _ (by first | (simp; done) | (simp; omega) | omega)).trans r1
  have s2 : w2.cell? ⟨w.heap.size, 2, none⟩ = some (.int .i64 e) := (hb2.cells _ _ (by first | (simp; done) | (simp; omega) | omega)).trans r2
  have s3 : w2.cell? ⟨(w.heap.size + 1), 0, none⟩ = some (.int .i64 (24)) := (hb2.cells _ _ (by first | (simp; done) | (simp; omega) | omega)).trans r3
  have s4 : w2.cell? ⟨(w.heap.size + 1), 1, none⟩ = some (.int .i64 (-126)) := (hb2.cells _ _ (by first | (simp; done) | (simp; omega) | omega)).trans r4
  have s5 : w2.cell? ⟨(w.heap.size + 1), 2, none⟩ = some (.int .i64 (127)) := (hb2.cells _ _ (by first | (simp; done) | (simp; omega) | omega)).trans r5
  have sz : w.heap.size + 1 < w2.heap.size := World.block_lt_of_cell? _ _ s3
  clear r0 r1 r2 r3 r4 r5 rz
  go_wp2
  refine wp_region_within (by kernel_rfl) (by kernel_rfl) ?_
  repeat
    apply wpq_step rfl
    · intro wq hCq
      have q0 : wq.cell? ⟨w.heap.size, 0, none⟩ = some (.bool neg) := (hCq.cells _ _ (by first | (simp; done) | (simp; omega) | omega)).trans s0
      have q1 : wq.cell? ⟨w.heap.size, 1, none⟩ = some (.int .u64 m) := (hCq.cells _ _ (by first | (simp; done) | (simp; omega) | omega)).trans s1
      have q2 : wq.cell? ⟨w.heap.size, 2, none⟩ = some (.int .i64 e) := (hCq.cells _ _ (by first | (simp; done) | (simp; omega) | omega)).trans s2
      have q3 : wq.cell? ⟨(w.heap.size + 1), 0, none⟩ = some (.int .i64 (24)) := (hCq.cells _ _ (by first | (simp; done) | (simp; omega) | omega)).trans s3
      have q4 : wq.cell? ⟨(w.heap.size + 1), 1, none⟩ = some (.int .i64 (-126)) := (hCq.cells _ _ (by first | (simp; done) | (simp; omega) | omega)).trans s4
      have q5 : wq.cell? ⟨(w.heap.size + 1), 2, none⟩ = some (.int .i64 (127)) := (hCq.cells _ _ (by first | (simp; done) | (simp; omega) | omega)).trans s5
      have qz : w.heap.size + 1 < wq.heap.size := World.block_lt_of_cell? _ _ q3
      go_simp
      first | rfl | exact hCq.same (LQ.out _) | (trace_state; fail)
    simp only [Act.put, List.setIfInBounds_toArray, List.set_cons_zero, List.set_cons_succ]
  refine wpQuiet_nil ?_
  intro w3 hb3
  have t0 : w3.cell? ⟨w.heap.size, 0, none⟩ = some (.bool neg) := (hb3.cells _ _ (by first | (simp; done) | (simp; omega) | omega)).trans s0
  have t1 : w3.cell? ⟨w.heap.size, 1, none⟩ = some (.int .u64 m) := (hb3.cells _ _ (by first | (simp; done) | (simp; omega) | omega)).trans s1
  have t2 : w3.cell? ⟨w.heap.size, 2, none⟩ = some (.int .i64 e) := (hb3.cells _ _ (by first | (simp; done) | (simp; omega) | omega)).trans s2
  have t3 : w3.cell? ⟨(w.heap.size + 1), 0, none⟩ = some (.int .i64 (24)) := (hb3.cells _ _ (by first | (simp; done) | (simp; omega) | omega)).trans s3
  have t4 : w3.cell? ⟨(w.heap.size + 1), 1, none⟩ = some (.int .i64 (-126)) := (hb3.cells _ _ (by first | (simp; done) | (simp; omega) | omega)).trans s4
  have t5 : w3.cell? ⟨(w.heap.size + 1), 2, none⟩ = some (.int .i64 (127)) := (hb3.cells _ _ (by first | (simp; done) | (simp; omega) | omega)).trans s5
  have tz : w.heap.size + 1 < w3.heap.size := World.block_lt_of_cell? _ _ t3
  clear s0 s1 s2 s3 s4 s5 sz
  go_wp2_with fail
  refine (LD.out _).mono ?_; rintro e4 w4 ⟨rfl, rfl⟩
  go_wp2
  refine wp_region_within (by kernel_rfl) (by kernel_rfl) ?_
  repeat
    apply wpq_step rfl
    · intro wq hCq
      have q0 : wq.cell? ⟨w.heap.size, 0, none⟩ = some (.bool neg) := (hCq.cells _ _ (by first | (simp; done) | (simp; omega) | omega)).trans t0
      have q1 : wq.cell? ⟨w.heap.size, 1, none⟩ = some (.int .u64 m) := (hCq.cells _ _ (by first | (simp; done) | (simp; omega) | omega)).trans t1
      have q2 : wq.cell? ⟨w.heap.size, 2, none⟩ = some (.int .i64 e) := (hCq.cells _ _ (by first | (simp; done) | (simp; omega) | omega)).trans t2
      have q3 : wq.cell? ⟨(w.heap.size + 1), 0, none⟩ = some (.int .i64 (24)) := (hCq.cells _ _ (by first | (simp; done) | (simp; omega) | omega)).trans t3
      have q4 : wq.cell? ⟨(w.heap.size + 1), 1, none⟩ = some (.int .i64 (-126)) := (hCq.cells _ _ (by first | (simp; done) | (simp; omega) | omega)).trans t4
      have q5 : wq.cell? ⟨(w.heap.size + 1), 2, none⟩ = some (.int .i64 (127)) := (hCq.cells _ _ (by first | (simp; done) | (simp; omega) | omega)).trans t5
      have qz : w.heap.size + 1 < wq.heap.size := World.block_lt_of_cell? _ _ q3
      go_simp
      first | rfl | exact hCq.same (IN.out _) | exact hCq.same (SG.out _) | (trace_state; fail)
    simp only [Act.put, List.setIfInBounds_toArray, List.set_cons_zero, List.set_cons_succ]
  refine wpQuiet_nil ?_
  intro w5 hb5
  go_wp2
  go_ret2
  exact ⟨rfl, (by repeat (first | with_reducible exact Within.refl _ | with_reducible assumption | with_reducible refine Within.alloc ?_ _ | with_reducible refine Within.drew ?_ | with_reducible refine Within.setCell ?_ (by first | (simp; done) | (simp; omega)) _ | with_reducible refine Within.trans ?_ (by assumption)))⟩
set_option maxRecDepth 100000 in
set_option maxHeartbeats 600000 in
theorem round_S_inf1_3 (m L q Lq : Nat) (e k : Int) (h1 : -20000 ≤ e) (h2 : e ≤ 20000) (hL : L ≤ 64) (hLq : Lq ≤ 64) (hk : max (e + (L : Int) - 24) (-149) = k) (LM : Hid (∀ w, Calls Tryz.prog 106 #[.int .u64 m] w fun e' w' => e' = .returned (.int .i64 (L : Nat)) ∧ w = w')) (DR : Hid (∀ w, Calls Tryz.prog 107 #[.agg #[.bool false, .int .u64 m, .int .i64 e], .int .i64 (k - e), .int .i64 3] w fun e' w' => e' = .returned (.tuple #[.int .u64 q, .bool true]) ∧ Within w w')) (LQ : Hid (∀ w, Calls Tryz.prog 106 #[.int .u64 q] w fun e' w' => e' = .returned (.int .i64 (Lq : Nat)) ∧ w = w')) (x g y z : Nat) (hin : 128 < k + (Lq : Int)) (hcv : floatOfInt .f64 (16777215 : Int) = x) (LD : Hid (∀ w, Calls Tryz.prog 105 #[.float .f64 x, .int .i64 104] w fun e' w' => e' = .returned (.float .f64 g) ∧ w = w')) (IN : Hid (∀ w, Calls Tryz.prog 109 #[.int .i64 1] w fun e' w' => e' = .returned (.float .f64 y) ∧ w = w')) (SG : Hid (∀ w, Calls Tryz.prog 108 #[.float .f64 y, .bool false] w fun e' w' => e' = .returned (.float .f64 z) ∧ w = w')) (hs : decide (e + (L : Int) - 1 < -126) = false) (w : World) : Calls Tryz.prog 94 #[.agg #[.bool false, .int .u64 m, .int .i64 e], .agg #[.int .i64 24, .int .i64 (-126), .int .i64 127], .int .i64 3] w fun e' w' => e' = .returned (.tuple #[.float .f64 z, .int .i64 5]) ∧ Within w w' := by
  have kl : -20100 ≤ k := by omega
  have ku : k ≤ 20100 := by omega
  have gw1 : IntKind.i64.wrap (e + (L : Int)) = e + (L : Int) := by rw [IntKind.wrap_i64]; omega
  have gw2 : IntKind.i64.wrap (k + (Lq : Int)) = k + (Lq : Int) := by rw [IntKind.wrap_i64]; omega
  have gw3 : IntKind.i64.wrap 128 = 128 := by decide
  have hcv' := fun (w : World) => run_convert_int_float (P := Tryz.prog) w 109 68 .u64 .f64 (16777215 : Int) (by kernel_rfl) (by kernel_rfl)
  rw [hcv] at hcv'
  have d : decide (k + (Lq : Int) ≤ 128) = false := decide_eq_false (by omega)
  clear hcv hin
  go_enter Tryz.func94, Tryz.ntmps94
  go_wp2
  refine wp_region_within (by kernel_rfl) (by kernel_rfl) ?_
  repeat
    apply wpq_step rfl
    · intro wq hCq
      have q0 : wq.cell? ⟨w.heap.size, 0, none⟩ = some (.bool false) := (hCq.cells _ _ (by first | (simp; done) | (simp; omega) | omega)).trans (by simp)
      have q1 : wq.cell? ⟨w.heap.size, 1, none⟩ = some (.int .u64 m) := (hCq.cells _ _ (by first | (simp; done) | (simp; omega) | omega)).trans (by simp)
      have q2 : wq.cell? ⟨w.heap.size, 2, none⟩ = some (.int .i64 e) := (hCq.cells _ _ (by first | (simp; done) | (simp; omega) | omega)).trans (by simp)
      have q3 : wq.cell? ⟨(w.heap.size + 1), 0, none⟩ = some (.int .i64 (24)) := (hCq.cells _ _ (by first | (simp; done) | (simp; omega) | omega)).trans (by simp)
      have q4 : wq.cell? ⟨(w.heap.size + 1), 1, none⟩ = some (.int .i64 (-126)) := (hCq.cells _ _ (by first | (simp; done) | (simp; omega) | omega)).trans (by simp)
      have q5 : wq.cell? ⟨(w.heap.size + 1), 2, none⟩ = some (.int .i64 (127)) := (hCq.cells _ _ (by first | (simp; done) | (simp; omega) | omega)).trans (by simp)
      have qz : w.heap.size + 1 < wq.heap.size := World.block_lt_of_cell? _ _ q3
      go_simp
      first | rfl | exact hCq.same (LM.out _) | (trace_state; fail)
    simp only [Act.put, List.setIfInBounds_toArray, List.set_cons_zero, List.set_cons_succ]
  refine wpQuiet_nil ?_
  intro w1 hb1
  have r0 : w1.cell? ⟨w.heap.size, 0, none⟩ = some (.bool false) := (hb1.cells _ _ (by first | (simp; done) | (simp; omega) | omega)).trans (by simp)
  have r1 : w1.cell? ⟨w.heap.size, 1, none⟩ = some (.int .u64 m) := (hb1.cells _ _ (by first | (simp; done) | (simp; omega) | omega)).trans (by simp)
  have r2 : w1.cell? ⟨w.heap.size, 2, none⟩ = some (.int .i64 e) := (hb1.cells _ _ (by first | (simp; done) | (simp; omega) | omega)).trans (by simp)
  have r3 : w1.cell? ⟨(w.heap.size + 1), 0, none⟩ = some (.int .i64 (24)) := (hb1.cells _ _ (by first | (simp; done) | (simp; omega) | omega)).trans (by simp)
  have r4 : w1.cell? ⟨(w.heap.size + 1), 1, none⟩ = some (.int .i64 (-126)) := (hb1.cells _ _ (by first | (simp; done) | (simp; omega) | omega)).trans (by simp)
  have r5 : w1.cell? ⟨(w.heap.size + 1), 2, none⟩ = some (.int .i64 (127)) := (hb1.cells _ _ (by first | (simp; done) | (simp; omega) | omega)).trans (by simp)
  have rz : w.heap.size + 1 < w1.heap.size := World.block_lt_of_cell? _ _ r3
  go_wp2_with fail
  refine (DR.out _).mono ?_; rintro e2 w2 ⟨rfl, hb2⟩
  have s0 : w2.cell? ⟨w.heap.size, 0, none⟩ = some (.bool false) := (hb2.cells _ _ (by first | (simp; done) | (simp; omega) | omega)).trans r0
  have s1 : w2.cell? ⟨w.heap.size, 1, none⟩ = some (.int .u64 m) := (hb2.cells _ _ (by first | (simp; done) | (simp; omega) | omega)).trans r1
  have s2 : w2.cell? ⟨w.heap.size, 2, none⟩ = some (.int .i64 e) := (hb2.cells _ _ (by first | (simp; done) | (simp; omega) | omega)).trans r2
  have s3 : w2.cell? ⟨(w.heap.size + 1), 0, none⟩ = some (.int .i64 (24)) := (hb2.cells _ _ (by first | (simp; done) | (simp; omega) | omega)).trans r3
  have s4 : w2.cell? ⟨(w.heap.size + 1), 1, none⟩ = some (.int .i64 (-126)) := (hb2.cells _ _ (by first | (simp; done) | (simp; omega) | omega)).trans r4
  have s5 : w2.cell? ⟨(w.heap.size + 1), 2, none⟩ = some (.int .i64 (127)) := (hb2.cells _ _ (by first | (simp; done) | (simp; omega) | omega)).trans r5
  have sz : w.heap.size + 1 < w2.heap.size := World.block_lt_of_cell? _ _ s3
  clear r0 r1 r2 r3 r4 r5 rz
  go_wp2
  refine wp_region_within (by kernel_rfl) (by kernel_rfl) ?_
  repeat
    apply wpq_step rfl
    · intro wq hCq
      have q0 : wq.cell? ⟨w.heap.size, 0, none⟩ = some (.bool false) := (hCq.cells _ _ (by first | (simp; done) | (simp; omega) | omega)).trans s0
      have q1 : wq.cell? ⟨w.heap.size, 1, none⟩ = some (.int .u64 m) := (hCq.cells _ _ (by first | (simp; done) | (simp; omega) | omega)).trans s1
      have q2 : wq.cell? ⟨w.heap.size, 2, none⟩ = some (.int .i64 e) := (hCq.cells _ _ (by first | (simp; done) | (simp; omega) | omega)).trans s2
      have q3 : wq.cell? ⟨(w.heap.size + 1), 0, none⟩ = some (.int .i64 (24)) := (hCq.cells _ _ (by first | (simp; done) | (simp; omega) | omega)).trans s3
      have q4 : wq.cell? ⟨(w.heap.size + 1), 1, none⟩ = some (.int .i64 (-126)) := (hCq.cells _ _ (by first | (simp; done) | (simp; omega) | omega)).trans s4
      have q5 : wq.cell? ⟨(w.heap.size + 1), 2, none⟩ = some (.int .i64 (127)) := (hCq.cells _ _ (by first | (simp; done) | (simp; omega) | omega)).trans s5
      have qz : w.heap.size + 1 < wq.heap.size := World.block_lt_of_cell? _ _ q3
      go_simp
      first | rfl | exact hCq.same (LQ.out _) | (trace_state; fail)
    simp only [Act.put, List.setIfInBounds_toArray, List.set_cons_zero, List.set_cons_succ]
  refine wpQuiet_nil ?_
  intro w3 hb3
  have t0 : w3.cell? ⟨w.heap.size, 0, none⟩ = some (.bool false) := (hb3.cells _ _ (by first | (simp; done) | (simp; omega) | omega)).trans s0
  have t1 : w3.cell? ⟨w.heap.size, 1, none⟩ = some (.int .u64 m) := (hb3.cells _ _ (by first | (simp; done) | (simp; omega) | omega)).trans s1
  have t2 : w3.cell? ⟨w.heap.size, 2, none⟩ = some (.int .i64 e) := (hb3.cells _ _ (by first | (simp; done) | (simp; omega) | omega)).trans s2
  have t3 : w3.cell? ⟨(w.heap.size + 1), 0, none⟩ = some (.int .i64 (24)) := (hb3.cells _ _ (by first | (simp; done) | (simp; omega) | omega)).trans s3
  have t4 : w3.cell? ⟨(w.heap.size + 1), 1, none⟩ = some (.int .i64 (-126)) := (hb3.cells _ _ (by first | (simp; done) | (simp; omega) | omega)).trans s4
  have t5 : w3.cell? ⟨(w.heap.size + 1), 2, none⟩ = some (.int .i64 (127)) := (hb3.cells _ _ (by first | (simp; done) | (simp; omega) | omega)).trans s5
  have tz : w.heap.size + 1 < w3.heap.size := World.block_lt_of_cell? _ _ t3
  clear s0 s1 s2 s3 s4 s5 sz
  go_wp2_with fail
  refine (LD.out _).mono ?_; rintro e4 w4 ⟨rfl, rfl⟩
  go_wp2
  refine wp_region_within (by kernel_rfl) (by kernel_rfl) ?_
  repeat
    apply wpq_step rfl
    · intro wq hCq
      have q0 : wq.cell? ⟨w.heap.size, 0, none⟩ = some (.bool false) := (hCq.cells _ _ (by first | (simp; done) | (simp; omega) | omega)).trans t0
      have q1 : wq.cell? ⟨w.heap.size, 1, none⟩ = some (.int .u64 m) := (hCq.cells _ _ (by first | (simp; done) | (simp; omega) | omega)).trans t1
      have q2 : wq.cell? ⟨w.heap.size, 2, none⟩ = some (.int .i64 e) := (hCq.cells _ _ (by first | (simp; done) | (simp; omega) | omega)).trans t2
      have q3 : wq.cell? ⟨(w.heap.size + 1), 0, none⟩ = some (.int .i64 (24)) := (hCq.cells _ _ (by first | (simp; done) | (simp; omega) | omega)).trans t3
      have q4 : wq.cell? ⟨(w.heap.size + 1), 1, none⟩ = some (.int .i64 (-126)) := (hCq.cells _ _ (by first | (simp; done) | (simp; omega) | omega)).trans t4
      have q5 : wq.cell? ⟨(w.heap.size + 1), 2, none⟩ = some (.int .i64 (127)) := (hCq.cells _ _ (by first | (simp; done) | (simp; omega) | omega)).trans t5
      have qz : w.heap.size + 1 < wq.heap.size := World.block_lt_of_cell? _ _ q3
      go_simp
      first | rfl | exact hCq.same (IN.out _) | exact hCq.same (SG.out _) | (trace_state; fail)
    simp only [Act.put, List.setIfInBounds_toArray, List.set_cons_zero, List.set_cons_succ]
  refine wpQuiet_nil ?_
  intro w5 hb5
  go_wp2
  go_ret2
  exact ⟨rfl, (by repeat (first | with_reducible exact Within.refl _ | with_reducible assumption | with_reducible refine Within.alloc ?_ _ | with_reducible refine Within.drew ?_ | with_reducible refine Within.setCell ?_ (by first | (simp; done) | (simp; omega)) _ | with_reducible refine Within.trans ?_ (by assumption)))⟩
set_option maxRecDepth 100000 in
set_option maxHeartbeats 600000 in
theorem round_S_inf1_4 (m L q Lq : Nat) (e k : Int) (h1 : -20000 ≤ e) (h2 : e ≤ 20000) (hL : L ≤ 64) (hLq : Lq ≤ 64) (hk : max (e + (L : Int) - 24) (-149) = k) (LM : Hid (∀ w, Calls Tryz.prog 106 #[.int .u64 m] w fun e' w' => e' = .returned (.int .i64 (L : Nat)) ∧ w = w')) (DR : Hid (∀ w, Calls Tryz.prog 107 #[.agg #[.bool true, .int .u64 m, .int .i64 e], .int .i64 (k - e), .int .i64 4] w fun e' w' => e' = .returned (.tuple #[.int .u64 q, .bool true]) ∧ Within w w')) (LQ : Hid (∀ w, Calls Tryz.prog 106 #[.int .u64 q] w fun e' w' => e' = .returned (.int .i64 (Lq : Nat)) ∧ w = w')) (x g y z : Nat) (hin : 128 < k + (Lq : Int)) (hcv : floatOfInt .f64 (16777215 : Int) = x) (LD : Hid (∀ w, Calls Tryz.prog 105 #[.float .f64 x, .int .i64 104] w fun e' w' => e' = .returned (.float .f64 g) ∧ w = w')) (IN : Hid (∀ w, Calls Tryz.prog 109 #[.int .i64 1] w fun e' w' => e' = .returned (.float .f64 y) ∧ w = w')) (SG : Hid (∀ w, Calls Tryz.prog 108 #[.float .f64 y, .bool true] w fun e' w' => e' = .returned (.float .f64 z) ∧ w = w')) (hs : decide (e + (L : Int) - 1 < -126) = false) (w : World) : Calls Tryz.prog 94 #[.agg #[.bool true, .int .u64 m, .int .i64 e], .agg #[.int .i64 24, .int .i64 (-126), .int .i64 127], .int .i64 4] w fun e' w' => e' = .returned (.tuple #[.float .f64 z, .int .i64 5]) ∧ Within w w' := by
  have kl : -20100 ≤ k := by omega
  have ku : k ≤ 20100 := by omega
  have gw1 : IntKind.i64.wrap (e + (L : Int)) = e + (L : Int) := by rw [IntKind.wrap_i64]; omega
  have gw2 : IntKind.i64.wrap (k + (Lq : Int)) = k + (Lq : Int) := by rw [IntKind.wrap_i64]; omega
  have gw3 : IntKind.i64.wrap 128 = 128 := by decide
  have hcv' := fun (w : World) => run_convert_int_float (P := Tryz.prog) w 109 68 .u64 .f64 (16777215 : Int) (by kernel_rfl) (by kernel_rfl)
  rw [hcv] at hcv'
  have d : decide (k + (Lq : Int) ≤ 128) = false := decide_eq_false (by omega)
  clear hcv hin
  go_enter Tryz.func94, Tryz.ntmps94
  go_wp2
  refine wp_region_within (by kernel_rfl) (by kernel_rfl) ?_
  repeat
    apply wpq_step rfl
    · intro wq hCq
      have q0 : wq.cell? ⟨w.heap.size, 0, none⟩ = some (.bool true) := (hCq.cells _ _ (by first | (simp; done) | (simp; omega) | omega)).trans (by simp)
      have q1 : wq.cell? ⟨w.heap.size, 1, none⟩ = some (.int .u64 m) := (hCq.cells _ _ (by first | (simp; done) | (simp; omega) | omega)).trans (by simp)
      have q2 : wq.cell? ⟨w.heap.size, 2, none⟩ = some (.int .i64 e) := (hCq.cells _ _ (by first | (simp; done) | (simp; omega) | omega)).trans (by simp)
      have q3 : wq.cell? ⟨(w.heap.size + 1), 0, none⟩ = some (.int .i64 (24)) := (hCq.cells _ _ (by first | (simp; done) | (simp; omega) | omega)).trans (by simp)
      have q4 : wq.cell? ⟨(w.heap.size + 1), 1, none⟩ = some (.int .i64 (-126)) := (hCq.cells _ _ (by first | (simp; done) | (simp; omega) | omega)).trans (by simp)
      have q5 : wq.cell? ⟨(w.heap.size + 1), 2, none⟩ = some (.int .i64 (127)) := (hCq.cells _ _ (by first | (simp; done) | (simp; omega) | omega)).trans (by simp)
      have qz : w.heap.size + 1 < wq.heap.size := World.block_lt_of_cell? _ _ q3
      go_simp
      first | rfl | exact hCq.same (LM.out _) | (trace_state; fail)
    simp only [Act.put, List.setIfInBounds_toArray, List.set_cons_zero, List.set_cons_succ]
  refine wpQuiet_nil ?_
  intro w1 hb1
  have r0 : w1.cell? ⟨w.heap.size, 0, none⟩ = some (.bool true) := (hb1.cells _ _ (by first | (simp; done) | (simp; omega) | omega)).trans (by simp)
  have r1 : w1.cell? ⟨w.heap.size, 1, none⟩ = some (.int .u64 m) := (hb1.cells _ _ (by first | (simp; done) | (simp; omega) | omega)).trans (by simp)
  have r2 : w1.cell? ⟨w.heap.size, 2, none⟩ = some (.int .i64 e) := (hb1.cells _ _ (by first | (simp; done) | (simp; omega) | omega)).trans (by simp)
  have r3 : w1.cell? ⟨(w.heap.size + 1), 0, none⟩ = some (.int .i64 (24)) := (hb1.cells _ _ (by first | (simp; done) | (simp; omega) | omega)).trans (by simp)
  have r4 : w1.cell? ⟨(w.heap.size + 1), 1, none⟩ = some (.int .i64 (-126)) := (hb1.cells _ _ (by first | (simp; done) | (simp; omega) | omega)).trans (by simp)
  have r5 : w1.cell? ⟨(w.heap.size + 1), 2, none⟩ = some (.int .i64 (127)) := (hb1.cells _ _ (by first | (simp; done) | (simp; omega) | omega)).trans (by simp)
  have rz : w.heap.size + 1 < w1.heap.size := World.block_lt_of_cell? _ _ r3
  go_wp2_with fail
  refine (DR.out _).mono ?_; rintro e2 w2 ⟨rfl, hb2⟩
  have s0 : w2.cell? ⟨w.heap.size, 0, none⟩ = some (.bool true) := (hb2.cells _ _ (by first | (simp; done) | (simp; omega) | omega)).trans r0
  have s1 : w2.cell? ⟨w.heap.size, 1, none⟩ = some (.int .u64 m) := (hb2.cells _ _ (by first | (simp; done) | (simp; omega) | omega)).trans r1
  have s2 : w2.cell? ⟨w.heap.size, 2, none⟩ = some (.int .i64 e) := (hb2.cells _ _ (by first | (simp; done) | (simp; omega) | omega)).trans r2
  have s3 : w2.cell? ⟨(w.heap.size + 1), 0, none⟩ = some (.int .i64 (24)) := (hb2.cells _ _ (by first | (simp; done) | (simp; omega) | omega)).trans r3
  have s4 : w2.cell? ⟨(w.heap.size + 1), 1, none⟩ = some (.int .i64 (-126)) := (hb2.cells _ _ (by first | (simp; done) | (simp; omega) | omega)).trans r4
  have s5 : w2.cell? ⟨(w.heap.size + 1), 2, none⟩ = some (.int .i64 (127)) := (hb2.cells _ _ (by first | (simp; done) | (simp; omega) | omega)).trans r5
  have sz : w.heap.size + 1 < w2.heap.size := World.block_lt_of_cell? _ _ s3
  clear r0 r1 r2 r3 r4 r5 rz
  go_wp2
  refine wp_region_within (by kernel_rfl) (by kernel_rfl) ?_
  repeat
    apply wpq_step rfl
    · intro wq hCq
      have q0 : wq.cell? ⟨w.heap.size, 0, none⟩ = some (.bool true) := (hCq.cells _ _ (by first | (simp; done) | (simp; omega) | omega)).trans s0
      have q1 : wq.cell? ⟨w.heap.size, 1, none⟩ = some (.int .u64 m) := (hCq.cells _ _ (by first | (simp; done) | (simp; omega) | omega)).trans s1
      have q2 : wq.cell? ⟨w.heap.size, 2, none⟩ = some (.int .i64 e) := (hCq.cells _ _ (by first | (simp; done) | (simp; omega) | omega)).trans s2
      have q3 : wq.cell? ⟨(w.heap.size + 1), 0, none⟩ = some (.int .i64 (24)) := (hCq.cells _ _ (by first | (simp; done) | (simp; omega) | omega)).trans s3
      have q4 : wq.cell? ⟨(w.heap.size + 1), 1, none⟩ = some (.int .i64 (-126)) := (hCq.cells _ _ (by first | (simp; done) | (simp; omega) | omega)).trans s4
      have q5 : wq.cell? ⟨(w.heap.size + 1), 2, none⟩ = some (.int .i64 (127)) := (hCq.cells _ _ (by first | (simp; done) | (simp; omega) | omega)).trans s5
      have qz : w.heap.size + 1 < wq.heap.size := World.block_lt_of_cell? _ _ q3
      go_simp
      first | rfl | exact hCq.same (LQ.out _) | (trace_state; fail)
    simp only [Act.put, List.setIfInBounds_toArray, List.set_cons_zero, List.set_cons_succ]
  refine wpQuiet_nil ?_
  intro w3 hb3
  have t0 : w3.cell? ⟨w.heap.size, 0, none⟩ = some (.bool true) := (hb3.cells _ _ (by first | (simp; done) | (simp; omega) | omega)).trans s0
  have t1 : w3.cell? ⟨w.heap.size, 1, none⟩ = some (.int .u64 m) := (hb3.cells _ _ (by first | (simp; done) | (simp; omega) | omega)).trans s1
  have t2 : w3.cell? ⟨w.heap.size, 2, none⟩ = some (.int .i64 e) := (hb3.cells _ _ (by first | (simp; done) | (simp; omega) | omega)).trans s2
  have t3 : w3.cell? ⟨(w.heap.size + 1), 0, none⟩ = some (.int .i64 (24)) := (hb3.cells _ _ (by first | (simp; done) | (simp; omega) | omega)).trans s3
  have t4 : w3.cell? ⟨(w.heap.size + 1), 1, none⟩ = some (.int .i64 (-126)) := (hb3.cells _ _ (by first | (simp; done) | (simp; omega) | omega)).trans s4
  have t5 : w3.cell? ⟨(w.heap.size + 1), 2, none⟩ = some (.int .i64 (127)) := (hb3.cells _ _ (by first | (simp; done) | (simp; omega) | omega)).trans s5
  have tz : w.heap.size + 1 < w3.heap.size := World.block_lt_of_cell? _ _ t3
  clear s0 s1 s2 s3 s4 s5 sz
  go_wp2_with fail
  refine (LD.out _).mono ?_; rintro e4 w4 ⟨rfl, rfl⟩
  go_wp2
  refine wp_region_within (by kernel_rfl) (by kernel_rfl) ?_
  repeat
    apply wpq_step rfl
    · intro wq hCq
      have q0 : wq.cell? ⟨w.heap.size, 0, none⟩ = some (.bool true) := (hCq.cells _ _ (by first | (simp; done) | (simp; omega) | omega)).trans t0
      have q1 : wq.cell? ⟨w.heap.size, 1, none⟩ = some (.int .u64 m) := (hCq.cells _ _ (by first | (simp; done) | (simp; omega) | omega)).trans t1
      have q2 : wq.cell? ⟨w.heap.size, 2, none⟩ = some (.int .i64 e) := (hCq.cells _ _ (by first | (simp; done) | (simp; omega) | omega)).trans t2
      have q3 : wq.cell? ⟨(w.heap.size + 1), 0, none⟩ = some (.int .i64 (24)) := (hCq.cells _ _ (by first | (simp; done) | (simp; omega) | omega)).trans t3
      have q4 : wq.cell? ⟨(w.heap.size + 1), 1, none⟩ = some (.int .i64 (-126)) := (hCq.cells _ _ (by first | (simp; done) | (simp; omega) | omega)).trans t4
      have q5 : wq.cell? ⟨(w.heap.size + 1), 2, none⟩ = some (.int .i64 (127)) := (hCq.cells _ _ (by first | (simp; done) | (simp; omega) | omega)).trans t5
      have qz : w.heap.size + 1 < wq.heap.size := World.block_lt_of_cell? _ _ q3
      go_simp
      first | rfl | exact hCq.same (IN.out _) | exact hCq.same (SG.out _) | (trace_state; fail)
    simp only [Act.put, List.setIfInBounds_toArray, List.set_cons_zero, List.set_cons_succ]
  refine wpQuiet_nil ?_
  intro w5 hb5
  go_wp2
  go_ret2
  exact ⟨rfl, (by repeat (first | with_reducible exact Within.refl _ | with_reducible assumption | with_reducible refine Within.alloc ?_ _ | with_reducible refine Within.drew ?_ | with_reducible refine Within.setCell ?_ (by first | (simp; done) | (simp; omega)) _ | with_reducible refine Within.trans ?_ (by assumption)))⟩
end Go.Proofs.YtpmjlaiafgbjgaaGreatDoor
end

section
namespace Go.Proofs.YtpmjlaiafgbjgaaGreatDoor
open Go.RowKit
def rK (D lo : Int) (m : Nat) (e : Int) : Int := max (e + (Lib.bitLen m : Nat) - D) lo
def rQ (D lo : Int) (neg : Bool) (m : Nat) (e mode : Int) : Nat := if rK D lo m e - e ≤ 0 then m * 2 ^ (-(rK D lo m e - e)).toNat else cutQ m (rK D lo m e - e).toNat neg mode
def rLost (D lo : Int) (m : Nat) (e : Int) : Bool := if rK D lo m e - e ≤ 0 then false else decide (m % 2 ^ (rK D lo m e - e).toNat ≠ 0)
def rOver (D lo most : Int) (neg : Bool) (m : Nat) (e mode : Int) : Bool := decide (most + 1 < rK D lo m e + (Lib.bitLen (rQ D lo neg m e mode) : Nat))
def rTop (neg : Bool) (mode : Int) : Bool := decide (mode = 2) || (decide (mode = 3) && neg) || (decide (mode = 4) && !neg)
def rFlags (D lo most : Int) (neg : Bool) (m : Nat) (e mode : Int) : Int :=
  if rOver D lo most neg m e mode then 5 else if rLost D lo m e then (if e + (Lib.bitLen m : Nat) - 1 < lo + D - 1 then 3 else 1) else 0
def rAmt (D lo : Int) (neg : Bool) (m : Nat) (e mode : Int) : Nat := rQ D lo neg m e mode * 2 ^ (rK D lo m e + 1074).toNat
def rWord (D lo most : Int) (top : Nat) (neg : Bool) (m : Nat) (e mode : Int) : Nat :=
  (if rOver D lo most neg m e mode then (if rTop neg mode then top else 9218868437227405312) else Fp.num Ieee.double false (rAmt D lo neg m e mode)) + (if neg then 9223372036854775808 else 0)
theorem bl_bounds {m : Nat} (h : m ≠ 0) (hm : m < 18446744073709551616) : 2 ^ (Lib.bitLen m - 1) ≤ m ∧ m < 2 ^ Lib.bitLen m ∧ 1 ≤ Lib.bitLen m ∧ Lib.bitLen m ≤ 64 := by
  have hl : m.log2 < 64 := (Nat.log2_lt h).2 hm
  rw [bitLen_log2 m h hm]
  exact ⟨Nat.log2_self_le h, Nat.lt_log2_self, by omega, by omega⟩
theorem bl_le {m : Nat} (hm : m < 18446744073709551616) {k : Nat} (h : m ≤ 2 ^ k) : Lib.bitLen m ≤ k + 1 := by
  by_cases h0 : m = 0
  · subst h0; show 0 ≤ _; omega
  · rw [bitLen_log2 m h0 hm]
    have : m.log2 < k + 1 := (Nat.log2_lt h0).2 (by rw [Nat.pow_succ]; have := Nat.two_pow_pos k; omega)
    omega
theorem lt_bl {m : Nat} (hm : m < 18446744073709551616) : m < 2 ^ Lib.bitLen m := by
  by_cases h0 : m = 0
  · subst h0; exact Nat.two_pow_pos _
  · exact (bl_bounds h0 hm).2.1
theorem rQ_le {D : Nat} {lo : Int} (neg : Bool) {m : Nat} (e mode : Int) (h0 : m ≠ 0) (hm : m < 18446744073709551616) (hD : D ≤ 53) : rQ D lo neg m e mode ≤ 2 ^ D ∧ (rK D lo m e - e ≤ 0 → (-(rK D lo m e - e)).toNat ≤ 63) := by
  have hb := bl_bounds h0 hm
  have hk : rK D lo m e = max (e + (Lib.bitLen m : Nat) - D) lo := rfl
  unfold rQ
  generalize rK D lo m e = k at *
  generalize Lib.bitLen m = L at *
  split
  · refine ⟨?_, fun _ => by omega⟩
    have h1 : m * 2 ^ (-(k - e)).toNat < 2 ^ L * 2 ^ (-(k - e)).toNat := Nat.mul_lt_mul_of_pos_right hb.2.1 (Nat.two_pow_pos _)
    rw [← Nat.pow_add] at h1
    have h2 : 2 ^ (L + (-(k - e)).toNat) ≤ 2 ^ D := Nat.pow_le_pow_right (by decide) (by omega)
    omega
  · refine ⟨?_, fun h => by omega⟩
    unfold cutQ
    have h1 : (goes m (k - e).toNat neg mode).toNat ≤ 1 := by cases goes m (k - e).toNat neg mode <;> decide
    have h2 : m / 2 ^ (k - e).toNat < 2 ^ D := by
      rw [Nat.div_lt_iff_lt_mul (Nat.two_pow_pos _), ← Nat.pow_add]
      exact Nat.lt_of_lt_of_le hb.2.1 (Nat.pow_le_pow_right (by decide) (by omega))
    omega
theorem rAmt_rep {D : Nat} {lo most : Int} (neg : Bool) {m : Nat} (e mode : Int) (h0 : m ≠ 0) (hm : m < 18446744073709551616) (hD : D ≤ 53) (hlo : -1074 ≤ lo) (hmost : most ≤ 1023) (h : rOver D lo most neg m e mode = false) : Fp.Rep Ieee.double (rAmt D lo neg m e mode) := by
  have hq := (rQ_le (lo := lo) neg e mode h0 hm hD).1
  have hk : lo ≤ rK D lo m e := by unfold rK; omega
  have hov : rK D lo m e + (Lib.bitLen (rQ D lo neg m e mode) : Nat) ≤ most + 1 := by unfold rOver at h; simp at h; exact h
  unfold rAmt
  generalize rQ D lo neg m e mode = q at *
  generalize rK D lo m e = k at *
  have hq53 : q ≤ 9007199254740992 := Nat.le_trans hq (Nat.pow_le_pow_right (n := 2) (by decide) hD)
  have hlt : q * 2 ^ (k + 1074).toNat < Fp.mag Ieee.double Ieee.double.infRung := by
    rw [Fp.mag_infD]
    have h1 : q * 2 ^ (k + 1074).toNat < 2 ^ Lib.bitLen q * 2 ^ (k + 1074).toNat := Nat.mul_lt_mul_of_pos_right (lt_bl (by omega)) (Nat.two_pow_pos _)
    rw [← Nat.pow_add] at h1
    refine Nat.lt_of_lt_of_le h1 (Nat.pow_le_pow_right (by decide) ?_)
    unfold Fp.dtop; omega
  by_cases hq' : q = 9007199254740992
  · refine Fp.rep_of Ieee.double 1 (53 + (k + 1074).toNat) ?_ (by decide) hlt
    rw [hq', Nat.pow_add, Nat.one_mul, show (2 : Nat) ^ 53 = 9007199254740992 by decide]
  · exact Fp.rep_of Ieee.double q (k + 1074).toNat rfl (by show q < 2 ^ 53; omega) hlt
theorem float_int {q : Nat} (h : q ≤ 9007199254740992) : floatOfInt .f64 (q : Int) = Fp.num Ieee.double false (q * 2 ^ Fp.deep Ieee.double) ∧ Fp.Rep Ieee.double (q * 2 ^ Fp.deep Ieee.double) := by
  have hrep : Fp.Rep Ieee.double (q * 2 ^ Fp.deep Ieee.double) := by
    have hlt : q * 2 ^ Fp.deep Ieee.double < Fp.mag Ieee.double Ieee.double.infRung := by
      rw [Fp.mag_infD, Fp.dD]
      obtain ⟨j, hj⟩ : ∃ j : Nat, j = 1074 := ⟨_, rfl⟩
      rw [← hj]
      have h1 : q * 2 ^ j < 2 ^ 54 * 2 ^ j := Nat.mul_lt_mul_of_pos_right (Nat.lt_of_le_of_lt h (by decide)) (Nat.two_pow_pos _)
      rw [← Nat.pow_add] at h1
      exact Nat.lt_of_lt_of_le h1 (Nat.pow_le_pow_right (by decide) (by unfold Fp.dtop; omega))
    by_cases hq' : q = 9007199254740992
    · refine Fp.rep_of Ieee.double 1 (53 + Fp.deep Ieee.double) ?_ (by decide) hlt
      rw [hq', Nat.pow_add, Nat.one_mul, show (2 : Nat) ^ 53 = 9007199254740992 by decide]
    · exact Fp.rep_of Ieee.double q _ rfl (by show q < 2 ^ 53; omega) hlt
  refine ⟨?_, hrep⟩
  have h1 := Fp.int_is Ieee.double Fp.dL0 (q : Int) (by rw [Int.natAbs_natCast]; exact hrep)
  rw [Int.natAbs_natCast, decide_eq_false (by omega)] at h1
  rw [← h1]
  have e : floatOfInt .f64 (q : Int) = Ieee.double.write (.number (decide ((q : Int) < 0)) (q : Int).natAbs 0) := by unfold floatOfInt FloatKind.nearest FloatKind.encode FloatKind.format; rfl
  rw [e, Int.natAbs_natCast, decide_eq_false (by omega)]
theorem num_lt {n : Nat} (h : Fp.Rep Ieee.double n) : Fp.num Ieee.double false n < 9218868437227405312 := (rep_lt h).1
theorem num_high {n : Nat} (h : Fp.Rep Ieee.double n) (hn : 4503599627370496 ≤ n) : 4503599627370496 ≤ Fp.num Ieee.double false n := by
  obtain ⟨_, h2⟩ := rep_lt h
  by_cases hl : Fp.num Ieee.double false n < 4503599627370496
  · rw [mag_low hl] at h2; omega
  · omega
theorem ldexp_int {q : Nat} {k : Int} (hq : q ≤ 9007199254740992) (hk : -1074 ≤ k) (hrep : Fp.Rep Ieee.double (q * 2 ^ (k + 1074).toNat)) (w : World) :
    Calls Tryz.prog 105 #[.float .f64 (Fp.num Ieee.double false (q * 2 ^ Fp.deep Ieee.double)), .int .i64 k] w fun e w' => e = .returned (.float .f64 (Fp.num Ieee.double false (q * 2 ^ (k + 1074).toNat))) ∧ w = w' := by
  obtain ⟨_, h2⟩ := float_int hq
  by_cases h0 : q = 0
  · subst h0
    simp only [Nat.zero_mul] at *
    have e : Fp.num Ieee.double false 0 = 0 := Fp.grid_zero Ieee.double 0
    rw [e]
    exact m_ldexp (fun w => m_ldexp_zero k w) w
  have hbig : 4503599627370496 ≤ q * 2 ^ Fp.deep Ieee.double := by
    have h3 : 2 ^ 52 ≤ 2 ^ Fp.deep Ieee.double := Nat.pow_le_pow_right (by decide) (by rw [Fp.dD]; omega)
    have h4 : 1 * 2 ^ Fp.deep Ieee.double ≤ q * 2 ^ Fp.deep Ieee.double := Nat.mul_le_mul_right _ (by omega)
    have h5 : (2 : Nat) ^ 52 = 4503599627370496 := by decide
    omega
  refine ldexp_is _ (q * 2 ^ Fp.deep Ieee.double) _ k (num_high h2 hbig) (num_lt h2) (rep_lt h2).2 hrep (Nat.mul_ne_zero h0 (Nat.ne_of_gt (Nat.two_pow_pos _))) (fun hp => ?_) (fun hn => ?_) w
  · rw [Nat.mul_assoc, ← Nat.pow_add]; congr 2; rw [Fp.dD]; omega
  · rw [Nat.mul_assoc, ← Nat.pow_add]; congr 2; rw [Fp.dD]; omega
set_option maxRecDepth 100000 in
set_option maxHeartbeats 600000 in
theorem m_inf1 (w : World) : Calls Tryz.prog 109 #[.int .i64 1] w fun e w' => e = .returned (.float .f64 9218868437227405312) ∧ w = w' := by
  go_enter Tryz.func109, Tryz.ntmps109
  go_wp2
  go_ret
  exact ⟨rfl, rfl⟩
end Go.Proofs.YtpmjlaiafgbjgaaGreatDoor
end

section
namespace Go.Proofs.YtpmjlaiafgbjgaaGreatDoor
open Go.RowKit
theorem signed_any (neg : Bool) {a : Nat} (ha : a < 9223372036854775808) (w : World) : Calls Tryz.prog 108 #[.float .f64 a, .bool neg] w fun e w' => e = .returned (.float .f64 (a + (if neg then 9223372036854775808 else 0))) ∧ w = w' := by
  cases neg
  · exact signed_false a w
  · exact signed_true a ha w
def topS : Nat := 5183643170566569984
theorem top_numS : Fp.Rep Ieee.double (16777215 * 2 ^ ((104 : Int) + 1074).toNat) ∧ Fp.num Ieee.double false (16777215 * 2 ^ ((104 : Int) + 1074).toNat) = topS := by
  obtain ⟨j, hj⟩ : ∃ j : Nat, j = ((104 : Int) + 1074).toNat := ⟨_, rfl⟩
  have hj' : j = 1178 := by rw [hj]; rfl
  rw [← hj]
  have hm : Fp.mag Ieee.double topS = 16777215 * 2 ^ j := by
    have e1 := rung_high (r := topS) (by decide)
    have e2 : 4503599627370496 + topS % 4503599627370496 = 16777215 * 2 ^ 29 := by decide
    have e3 : topS / 4503599627370496 - 1 = j - 29 := by first | omega | (rw [hj']; rfl)
    have e4 : 29 + (j - 29) = j := by omega
    clear hj hj'
    rw [e2, e3, Nat.mul_assoc, ← Nat.pow_add, e4] at e1
    exact e1
  exact ⟨hm ▸ Fp.rep_mag Ieee.double Fp.dF (by decide), pos_rung hm⟩
theorem round_S (neg : Bool) (m : Nat) (e mode : Int) (h0 : m ≠ 0) (hm : m < 18446744073709551616) (h1 : -20000 ≤ e) (h2 : e ≤ 20000) (hmode : 0 ≤ mode ∧ mode ≤ 4) (w : World) : Calls Tryz.prog 94 #[.agg #[.bool neg, .int .u64 m, .int .i64 e], .agg #[.int .i64 24, .int .i64 (-126), .int .i64 127], .int .i64 mode] w fun e' w' => e' = .returned (.tuple #[.float .f64 (rWord 24 (-149) 127 topS neg m e mode), .int .i64 (rFlags 24 (-149) 127 neg m e mode)]) ∧ Within w w' := by
  have hb := bl_bounds h0 hm
  have hq := rQ_le (D := 24) (lo := -149) neg e mode h0 hm (by decide)
  have hk : max (e + ((Lib.bitLen m : Nat) : Int) - 24) (-149) = rK 24 (-149) m e := rfl
  have hq53 : rQ 24 (-149) neg m e mode ≤ 9007199254740992 := Nat.le_trans hq.1 (by decide)
  have hlq : Lib.bitLen (rQ 24 (-149) neg m e mode) ≤ 64 := Nat.le_trans (bl_le (by omega) hq.1) (by decide)
  have LM := Lib.hid (fun w => bits_len64 m hm w)
  have LQ := Lib.hid (fun w => bits_len64 (rQ 24 (-149) neg m e mode) (by omega) w)
  have DR := Lib.hid (fun w => show Calls Tryz.prog 107 #[.agg #[.bool neg, .int .u64 m, .int .i64 e], .int .i64 (rK 24 (-149) m e - e), .int .i64 mode] w fun e' w' => e' = .returned (.tuple #[.int .u64 (rQ 24 (-149) neg m e mode), .bool (rLost 24 (-149) m e)]) ∧ Within w w' from by
    have hdef : rQ 24 (-149) neg m e mode = if rK 24 (-149) m e - e ≤ 0 then m * 2 ^ (-(rK 24 (-149) m e - e)).toNat else cutQ m (rK 24 (-149) m e - e).toNat neg mode := rfl
    have hl : rLost 24 (-149) m e = if rK 24 (-149) m e - e ≤ 0 then false else decide (m % 2 ^ (rK 24 (-149) m e - e).toNat ≠ 0) := rfl
    generalize rQ 24 (-149) neg m e mode = q at *
    generalize rK 24 (-149) m e = k at *
    generalize rLost 24 (-149) m e = l at *
    by_cases hs : k - e ≤ 0
    · rw [if_pos hs] at hdef hl
      subst hl
      have := drop_up neg m (-(k - e)).toNat e mode (hq.2 hs) (by omega) w
      rw [← hdef] at this
      rwa [show -((-(k - e)).toNat : Int) = k - e by omega] at this
    · rw [if_neg hs] at hdef hl
      subst hl
      have := drop_down neg m (k - e).toNat e mode hm h0 (by omega) hmode w
      rw [← hdef] at this
      rwa [show (((k - e).toNat : Nat) : Int) = k - e by omega] at this)
  have hover : rOver 24 (-149) 127 neg m e mode = decide ((127 : Int) + 1 < rK 24 (-149) m e + (Lib.bitLen (rQ 24 (-149) neg m e mode) : Nat)) := rfl
  have hrep := rAmt_rep (D := 24) (lo := -149) (most := 127) neg e mode h0 hm (by decide) (by decide) (by decide)
  have hlo : -149 ≤ rK 24 (-149) m e := by unfold rK; omega
  have LD := fun (h : Fp.Rep Ieee.double (rQ 24 (-149) neg m e mode * 2 ^ (rK 24 (-149) m e + 1074).toNat)) => Lib.hid (fun w => ldexp_int hq53 (k := rK 24 (-149) m e) (by omega) h w)
  have CV := (float_int hq53).1
  have TL := Lib.hid (fun w => ldexp_int (q := 16777215) (k := 104) (by decide) (by decide) top_numS.1 w)
  rw [top_numS.2] at TL
  have TC := (float_int (q := 16777215) (by decide)).1
  unfold rWord rFlags
  unfold rAmt at hrep ⊢
  generalize hQ : rQ 24 (-149) neg m e mode = q at *
  generalize hKK : rK 24 (-149) m e = k at *
  generalize hLL : Lib.bitLen m = L at *
  generalize hLQ : Lib.bitLen q = Lq at *
  cases hov : rOver 24 (-149) 127 neg m e mode
  · rw [hov] at hover
    have hin : k + (Lq : Int) ≤ 127 + 1 := by have := of_decide_eq_false hover.symm; omega
    rw [if_neg Bool.false_ne_true, if_neg Bool.false_ne_true]
    have SG := Lib.hid (fun w => signed_any neg (Nat.lt_trans (num_lt (hrep hov)) (by decide)) w)
    cases hl : rLost 24 (-149) m e
    · rw [hl] at DR
      rw [if_neg Bool.false_ne_true]
      exact round_S_in0 neg m L q Lq e k mode h1 h2 hb.2.2.2 hlq hk LM DR LQ _ _ _ hin CV (LD (hrep hov)) SG w
    · rw [hl] at DR
      rw [if_pos rfl]
      by_cases hu : e + (L : Int) - 1 < -126
      · rw [if_pos (show e + (L : Int) - 1 < (-149) + 24 - 1 by omega)]
        exact round_S_in3 neg m L q Lq e k mode h1 h2 hb.2.2.2 hlq hk LM DR LQ _ _ _ hin CV (LD (hrep hov)) SG (decide_eq_true hu) w
      · rw [if_neg (show ¬ e + (L : Int) - 1 < (-149) + 24 - 1 by omega)]
        exact round_S_in1 neg m L q Lq e k mode h1 h2 hb.2.2.2 hlq hk LM DR LQ _ _ _ hin CV (LD (hrep hov)) SG (decide_eq_false hu) w
  · rw [hov] at hover
    have hin : (127 : Int) + 1 < k + (Lq : Int) := of_decide_eq_true hover.symm
    have hlq' : Lq ≤ 24 + 1 := by rw [← hLQ]; exact bl_le (by omega) hq.1
    have hu : ¬ e + (L : Int) - 1 < -126 := by omega
    have IN := Lib.hid m_inf1
    rw [if_pos rfl, if_pos rfl]
    have hmod : mode = 0 ∨ mode = 1 ∨ mode = 2 ∨ mode = 3 ∨ mode = 4 := by omega
    have SGi := fun n => Lib.hid (fun w => signed_any n (show 9218868437227405312 < 9223372036854775808 by decide) w)
    have SGt := fun n => Lib.hid (fun w => signed_any n (show topS < 9223372036854775808 by decide) w)
    unfold rTop
    cases hl : rLost 24 (-149) m e
    · rw [hl] at DR
      rcases hmod with rfl | rfl | rfl | rfl | rfl
      · exact round_S_inf0 neg m L q Lq e k 0 h1 h2 hb.2.2.2 hlq hk LM DR LQ _ _ _ _ hin TC TL IN (SGi neg) (by decide) (by decide) (by decide) w
      · exact round_S_inf0 neg m L q Lq e k 1 h1 h2 hb.2.2.2 hlq hk LM DR LQ _ _ _ _ hin TC TL IN (SGi neg) (by decide) (by decide) (by decide) w
      · exact round_S_top0_2 neg m L q Lq e k h1 h2 hb.2.2.2 hlq hk LM DR LQ _ _ _ hin TC TL (SGt neg) w
      · cases neg
        · exact round_S_inf0_3 m L q Lq e k h1 h2 hb.2.2.2 hlq hk LM DR LQ _ _ _ _ hin TC TL IN (SGi false) w
        · exact round_S_top0_3 m L q Lq e k h1 h2 hb.2.2.2 hlq hk LM DR LQ _ _ _ hin TC TL (SGt true) w
      · cases neg
        · exact round_S_top0_4 m L q Lq e k h1 h2 hb.2.2.2 hlq hk LM DR LQ _ _ _ hin TC TL (SGt false) w
        · exact round_S_inf0_4 m L q Lq e k h1 h2 hb.2.2.2 hlq hk LM DR LQ _ _ _ _ hin TC TL IN (SGi true) w
    · rw [hl] at DR
      have hs := decide_eq_false hu
      rcases hmod with rfl | rfl | rfl | rfl | rfl
      · exact round_S_inf1 neg m L q Lq e k 0 h1 h2 hb.2.2.2 hlq hk LM DR LQ _ _ _ _ hin TC TL IN (SGi neg) (by decide) (by decide) (by decide) hs w
      · exact round_S_inf1 neg m L q Lq e k 1 h1 h2 hb.2.2.2 hlq hk LM DR LQ _ _ _ _ hin TC TL IN (SGi neg) (by decide) (by decide) (by decide) hs w
      · exact round_S_top1_2 neg m L q Lq e k h1 h2 hb.2.2.2 hlq hk LM DR LQ _ _ _ hin TC TL (SGt neg) hs w
      · cases neg
        · exact round_S_inf1_3 m L q Lq e k h1 h2 hb.2.2.2 hlq hk LM DR LQ _ _ _ _ hin TC TL IN (SGi false) hs w
        · exact round_S_top1_3 m L q Lq e k h1 h2 hb.2.2.2 hlq hk LM DR LQ _ _ _ hin TC TL (SGt true) hs w
      · cases neg
        · exact round_S_top1_4 m L q Lq e k h1 h2 hb.2.2.2 hlq hk LM DR LQ _ _ _ hin TC TL (SGt false) hs w
        · exact round_S_inf1_4 m L q Lq e k h1 h2 hb.2.2.2 hlq hk LM DR LQ _ _ _ _ hin TC TL IN (SGi true) hs w
end Go.Proofs.YtpmjlaiafgbjgaaGreatDoor
end

section
namespace Go.Proofs.YtpmjlaiafgbjgaaGreatDoor
open Go.RowKit
def FmS (w : World) : Prop := w.cell? ⟨1, 0, none⟩ = some (.int .i64 24) ∧ w.cell? ⟨1, 1, none⟩ = some (.int .i64 (-126)) ∧ w.cell? ⟨1, 2, none⟩ = some (.int .i64 127)
theorem FmS.of {w w' : World} (h : FmS w) (k : Within w w') : FmS w' :=
  ⟨(k.cells _ _ (World.block_lt_of_cell? w _ h.1)).trans h.1, (k.cells _ _ (World.block_lt_of_cell? w _ h.2.1)).trans h.2.1, (k.cells _ _ (World.block_lt_of_cell? w _ h.2.2)).trans h.2.2⟩
theorem int_of_is {a N : Nat} {s : Bool} (h : Fp.Is Ieee.double a s (N * 2 ^ Fp.deep Ieee.double)) : (Ieee.double.read a).toInt .zero = some (Fp.val s N) := by
  obtain ⟨m, e, r1, l1, u1⟩ := h.read
  rw [r1]
  rw [Fp.dL] at l1 u1
  unfold Ieee.Datum.toInt Ieee.Datum.integral
  show some (Ieee.signed s (Ieee.Toward.zero.cut s (m <<< e.toNat) (-e).toNat) 0) = _
  have key : Ieee.Toward.zero.cut s (m <<< e.toNat) (-e).toNat = N := by
    unfold Ieee.Toward.cut
    show (m <<< e.toNat) / (1 <<< min (-e).toNat ((m <<< e.toNat).log2 + 2)) + 0 = N
    rw [Nat.shiftLeft_eq, Nat.shiftLeft_eq, Nat.one_mul, Nat.add_zero]
    obtain ⟨J, hJ⟩ : ∃ J, J = Fp.deep Ieee.double := ⟨_, rfl⟩
    have hJ' : J = 1074 := by rw [hJ, Fp.dD]
    rw [← hJ] at u1
    by_cases he : 0 ≤ e
    · rw [show (-e).toNat = 0 by omega, Nat.zero_min, Nat.pow_zero, Nat.div_one]
      rw [show (e - -1074).toNat = e.toNat + J by omega, Nat.pow_add, ← Nat.mul_assoc] at u1
      exact Nat.eq_of_mul_eq_mul_right (Nat.two_pow_pos J) u1
    · rw [show e.toNat = 0 by omega, Nat.pow_zero, Nat.mul_one]
      have hm : m = N * 2 ^ (-e).toNat := by
        rw [show J = (-e).toNat + (e - -1074).toNat by omega, Nat.pow_add, ← Nat.mul_assoc] at u1
        exact Nat.eq_of_mul_eq_mul_right (Nat.two_pow_pos _) u1
      by_cases hN : N = 0
      · rw [hm, hN, Nat.zero_mul, Nat.zero_div]
      · rw [hm, Fp.log2_mul_pow N _ hN, Nat.min_eq_left (by omega), Nat.mul_div_cancel _ (Nat.two_pow_pos _)]
  rw [key]
  unfold Ieee.signed Fp.val
  rw [Nat.shiftLeft_zero]
theorem u64_of_is {a N : Nat} (h : Fp.Is Ieee.double a false (N * 2 ^ Fp.deep Ieee.double)) (hN : N < 18446744073709551616) : floatToIntVal .f64 a .u64 = some (N : Int) := by
  unfold floatToIntVal
  show (match (Ieee.double.read a).toInt .zero with | some n => if IntKind.u64.min ≤ n ∧ n ≤ IntKind.u64.max then some n else none | none => none) = _
  rw [int_of_is h]
  show (if (0 : Int) ≤ (N : Int) ∧ (N : Int) ≤ 18446744073709551615 then some ((N : Nat) : Int) else none) = _
  rw [if_pos (by omega)]
theorem top53_bounds {n : Nat} (h0 : n ≠ 0) (hr : Fp.Rep Ieee.double n) : 4503599627370496 ≤ top53 n ∧ top53 n < 9007199254740992 ∧ n.log2 ≤ 2097 ∧ top53 n * 2 ^ n.log2 = n * 2 ^ 52 := by
  have hlt : n.log2 ≤ 2097 := by
    have h1 : n < 2 ^ Fp.dtop := by rw [← Fp.mag_infD, ← hr.2]; exact Fp.mag_mono_lt Ieee.double hr.1
    have := (Nat.log2_lt h0).2 h1
    unfold Fp.dtop at this; omega
  obtain ⟨r1, r2⟩ := rep_lt hr
  by_cases hh : 4503599627370496 ≤ Fp.num Ieee.double false n
  · obtain ⟨t1, t2, _⟩ := high_top hh r2
    have e := rung_high hh
    rw [r2] at e
    refine ⟨by omega, by omega, hlt, ?_⟩
    rw [t1]
    conv => rhs; rw [e]
    rw [Nat.mul_assoc, ← Nat.pow_add]; congr 2; omega
  · rw [mag_low (by omega)] at r2
    obtain ⟨l1, l2, l3, l4⟩ := top53_low h0 (by omega)
    refine ⟨l1, l2, hlt, ?_⟩
    rw [l3, Nat.mul_assoc, ← Nat.pow_add]; congr 2; omega
set_option maxRecDepth 100000 in
set_option maxHeartbeats 600000 in
theorem take_core (a r y z T : Nat) (b : Bool) (F E : Int) (hE : E = F - 53) (hF1 : -3000 ≤ F) (hF2 : F ≤ 3000) (HA : Hid (∀ w, Calls Tryz.prog 103 #[.float .f64 a] w fun e w' => e = .returned (.float .f64 r) ∧ w = w')) (HF : Hid (∀ w, Calls Tryz.prog 102 #[.float .f64 r] w fun e w' => e = .returned (.tuple #[.float .f64 y, .int .i64 F]) ∧ w = w')) (HS : Hid (∀ w, Calls Tryz.prog 104 #[.float .f64 a] w fun e w' => e = .returned (.bool b) ∧ w = w')) (HL : Hid (∀ w, Calls Tryz.prog 105 #[.float .f64 y, .int .i64 53] w fun e w' => e = .returned (.float .f64 z) ∧ w = w')) (hcv : floatToIntVal .f64 z .u64 = some (T : Int)) (w : World) : Calls Tryz.prog 93 #[.float .f64 a] w fun e w' => e = .returned (.agg #[.bool b, .int .u64 T, .int .i64 E]) ∧ Within w w' := by
  have hcv' := fun (w : World) => run_convert_float_int (P := Tryz.prog) w 68 109 .f64 .u64 z (T : Int) (by kernel_rfl) (by kernel_rfl) hcv
  subst hE
  clear hcv
  go_enter Tryz.func93, Tryz.ntmps93
  go_wp2_with fail
  refine (HA.out _).mono ?_; rintro e1 w1 ⟨rfl, rfl⟩
  go_wp2_with fail
  refine (HF.out _).mono ?_; rintro e2 w2 ⟨rfl, rfl⟩
  go_wp2_with fail
  refine (HS.out _).mono ?_; rintro e3 w3 ⟨rfl, rfl⟩
  go_wp2_with fail
  refine (HL.out _).mono ?_; rintro e4 w4 ⟨rfl, rfl⟩
  go_wp2
  refine bodyPost_ret (v := .agg #[.bool b, .int .u64 T, .int .i64 (F - 53)]) (by simp [results, Tryz.results93, go_sem]) rfl ⟨rfl, ?_⟩
  exact (by repeat (first | with_reducible exact Within.refl _ | with_reducible assumption | with_reducible refine Within.alloc ?_ _ | with_reducible refine Within.drew ?_ | with_reducible refine Within.setCell ?_ (by first | (simp; done) | (simp; omega)) _ | with_reducible refine Within.trans ?_ (by assumption)))
theorem take_any (a n : Nat) (ha : a < 18446744073709551616) (h0 : n ≠ 0) (hf : a % 9223372036854775808 < 9218868437227405312) (hm : Fp.mag Ieee.double (a % 9223372036854775808) = n) (w : World) : Calls Tryz.prog 93 #[.float .f64 a] w fun e w' => e = .returned (.agg #[.bool (decide (9223372036854775808 ≤ a)), .int .u64 (top53 n), .int .i64 ((n.log2 : Int) - 1126)]) ∧ Within w w' := by
  have hr0 : 0 < a % 9223372036854775808 := by
    by_cases hz : a % 9223372036854775808 = 0
    · rw [hz, Fp.mag_zero] at hm; omega
    · omega
  have hrep : Fp.Rep Ieee.double n := hm ▸ Fp.rep_mag Ieee.double Fp.dF (by rw [Fp.dI]; exact hf)
  obtain ⟨b1, b2, b3, _⟩ := top53_bounds h0 hrep
  have HA := Lib.hid (fun w => m_abs a ha w)
  have HS := Lib.hid (fun w => m_signbit a ha w)
  have HF := Lib.hid (fun w => frexp_is (a % 9223372036854775808) n hr0 hf hm w)
  have hy : Fp.mag Ieee.double (4598175219545276416 + top53 n) = top53 n * 2 ^ 1021 := by
    rw [rung_high (by omega)]
    have e1 : (4598175219545276416 + top53 n) % 4503599627370496 = top53 n - 4503599627370496 := by omega
    have e2 : (4598175219545276416 + top53 n) / 4503599627370496 - 1 = 1021 := by omega
    rw [e1, e2, show 4503599627370496 + (top53 n - 4503599627370496) = top53 n by omega]
  have hfi := float_int (q := top53 n) (by omega)
  have HL := Lib.hid (fun w => ldexp_is (4598175219545276416 + top53 n) _ (top53 n * 2 ^ Fp.deep Ieee.double) 53 (by omega) (by omega) hy hfi.2 (Nat.mul_ne_zero (by omega) (Nat.ne_of_gt (Nat.two_pow_pos _)))
    (fun _ => by
      obtain ⟨j, hj⟩ : ∃ j : Nat, j = 1021 := ⟨_, rfl⟩
      rw [← hj, Nat.mul_assoc, ← Nat.pow_add, show j + (53 : Int).toNat = Fp.deep Ieee.double by rw [Fp.dD]; omega]) (fun h => absurd h (by decide)) w)
  exact take_core a _ _ _ (top53 n) _ _ _ (by omega) (by omega) (by omega) HA HF HS HL (u64_of_is (Fp.Rep.is hfi.2 false) (by omega)) w
theorem known_any (mode : Int) (w : World) : Calls Tryz.prog 90 #[.int .i64 mode] w fun e w' => e = .returned (.bool (decide (0 ≤ mode ∧ mode ≤ 4))) ∧ w = w' := by
  by_cases h1 : 0 ≤ mode
  · have d1 : decide (mode ≥ 0) = true := decide_eq_true h1
    have d1' : decide (0 ≤ mode) = true := decide_eq_true h1
    have hr : decide (0 ≤ mode ∧ mode ≤ 4) = decide (mode ≤ 4) := decide_eq_decide.2 (by omega)
    rw [hr]
    clear h1 hr
    go_enter Tryz.func90, Tryz.ntmps90
    go_wp2
    go_ret
    exact ⟨rfl, rfl⟩
  · have d1 : decide (mode ≥ 0) = false := decide_eq_false h1
    have d1' : decide (0 ≤ mode) = false := decide_eq_false h1
    rw [show decide (0 ≤ mode ∧ mode ≤ 4) = false from decide_eq_false (by omega)]
    clear h1
    go_enter Tryz.func90, Tryz.ntmps90
    go_wp2
    go_ret
    exact ⟨rfl, rfl⟩
theorem plain_any (a : Nat) (ha : a < 18446744073709551616) (hn : a % 9223372036854775808 ≤ 9218868437227405312) (w : World) : Calls Tryz.prog 92 #[.float .f64 a] w fun e w' => e = .returned (.bool (decide (a % 9223372036854775808 = 0 ∨ a % 9223372036854775808 = 9218868437227405312))) ∧ w = w' := by
  have HI := Lib.hid (fun w => m_isinf a ha w)
  have hz := eq_zero hn
  by_cases h : a % 9223372036854775808 = 0
  · rw [decide_eq_true h] at hz
    rw [decide_eq_true (.inl h)]
    clear ha hn h
    go_enter Tryz.func92, Tryz.ntmps92
    go_wp2
    go_ret
    exact ⟨rfl, rfl⟩
  · rw [decide_eq_false h] at hz
    rw [show decide (a % 9223372036854775808 = 0 ∨ a % 9223372036854775808 = 9218868437227405312) = decide (a % 9223372036854775808 = 9218868437227405312) from decide_eq_decide.2 (by omega)]
    generalize decide (a % 9223372036854775808 = 9218868437227405312) = p at *
    clear ha hn h
    go_enter Tryz.func92, Tryz.ntmps92
    go_wp2_with fail
    refine (HI.out _).mono ?_; rintro e1 w1 ⟨rfl, rfl⟩
    go_wp2
    go_ret
    exact ⟨rfl, rfl⟩
theorem run_widen_nan (src dst : TypeId) (s k : FloatKind) (b : Nat) (P : Program) (w : World) (hne : s ≠ k) (hs : (P.underlying src).isSome = true) (hd : P.underlying dst = some (.float k)) (g : Bool) (t : Nat) (h : s.decode b = .nan g t) :
    (convert src dst (.float s b)).run P w = .ok (.float k ((Question.nanConv k b).cut (w.tape w.drawn (.nanConv k b)))) w.drew := by
  obtain ⟨u, hs'⟩ := Option.isSome_iff_exists.1 hs
  cases u <;> simp [convert, run_underlying hs', run_underlying hd, Conv.floatToFloat, hne, h, run_choose_drew, Question.forced]
theorem nan_cutS (b t : Nat) : canonS ((Question.nanConv .f32 b).cut t) = 2143289344 ∧ (Question.nanConv .f32 b).cut t < 4294967296 := by
  have e : (Question.nanConv .f32 b).cut t = (t % 2) * 2 ^ 31 + 0x7f800000 + 1 + (t / 2) % (2 ^ 23 - 1) := rfl
  have h1 : t / 2 % (2 ^ 23 - 1) < 8388607 := Nat.mod_lt _ (by decide)
  unfold canonS nanS
  rw [e]
  generalize t / 2 % (2 ^ 23 - 1) = r at *
  rcases Nat.mod_two_eq_zero_or_one t with h | h <;> rw [h] <;> refine ⟨if_pos (decide_eq_true (by omega)), by omega⟩
theorem nan_cutD (b t : Nat) : canonD ((Question.nanConv .f64 b).cut t) = 9221120237041090561 ∧ (Question.nanConv .f64 b).cut t < 18446744073709551616 := by
  have e : (Question.nanConv .f64 b).cut t = (t % 2) * 2 ^ 63 + 0x7ff0000000000000 + 1 + (t / 2) % (2 ^ 52 - 1) := rfl
  have h1 : t / 2 % (2 ^ 52 - 1) < 4503599627370495 := Nat.mod_lt _ (by decide)
  unfold canonD nanD
  rw [e]
  generalize t / 2 % (2 ^ 52 - 1) = r at *
  rcases Nat.mod_two_eq_zero_or_one t with h | h <;> rw [h] <;> refine ⟨if_pos (decide_eq_true (by omega)), by omega⟩
set_option maxRecDepth 100000 in
set_option maxHeartbeats 600000 in
theorem m_nan (w : World) : Calls Tryz.prog 100 #[] w fun e w' => e = .returned (.float .f64 9221120237041090561) ∧ w = w' := by
  go_enter Tryz.func100, Tryz.ntmps100
  go_wp2
  go_ret
  exact ⟨rfl, rfl⟩
set_option maxRecDepth 100000 in
set_option maxHeartbeats 600000 in
theorem none_any (w : World) : Calls Tryz.prog 91 #[] w fun e w' => e = .returned (.float .f32 2143289344) ∧ Within w w' := by
  have hcv := fun (w : World) => run_widen_nan 68 112 .f64 .f32 9221120237041090561 Tryz.prog w (by decide) (by kernel_rfl) (by kernel_rfl) false 2251799813685249 (by decide +kernel)
  have HC := Lib.hid (fun t w => Canon_S ((Question.nanConv .f32 9221120237041090561).cut t) (nan_cutS 9221120237041090561 t).2 w)
  simp only [(nan_cutS _ _).1] at HC
  go_enter Tryz.func91, Tryz.ntmps91
  go_wp2_with fail
  refine (m_nan _).mono ?_; rintro e1 w1 ⟨rfl, rfl⟩
  go_wp2_with fail
  refine (HC.out _ _).mono ?_; rintro e2 w2 ⟨rfl, hb2⟩
  go_wp2
  go_ret
  exact ⟨rfl, (by repeat (first | with_reducible exact Within.refl _ | with_reducible assumption | with_reducible refine Within.alloc ?_ _ | with_reducible refine Within.drew ?_ | with_reducible refine Within.setCell ?_ (by first | (simp; done) | (simp; omega)) _ | with_reducible refine Within.trans ?_ (by assumption)))⟩
end Go.Proofs.YtpmjlaiafgbjgaaGreatDoor
end

section
namespace Go.Proofs.YtpmjlaiafgbjgaaGreatDoor
open Go.RowKit
set_option maxRecDepth 100000 in
set_option maxHeartbeats 600000 in
theorem narrow_bad (a : Nat) (mode : Int) (KN : Hid (∀ w, Calls Tryz.prog 90 #[.int .i64 mode] w fun e' w' => e' = .returned (.bool false) ∧ w = w')) (w : World) : Calls Tryz.prog 83 #[.float .f64 a, .int .i64 mode] w fun e' w' => e' = .returned (.tuple #[.float .f32 0, .int .i64 0, .int .i64 20]) ∧ Within w w' := by
  go_enter Tryz.func83, Tryz.ntmps83
  go_wp2_with fail
  refine (KN.out _).mono ?_; rintro e1 w1 ⟨rfl, rfl⟩
  go_wp2
  go_ret3
  exact ⟨rfl, (by repeat (first | with_reducible exact Within.refl _ | with_reducible assumption | with_reducible refine Within.alloc ?_ _ | with_reducible refine Within.drew ?_ | with_reducible refine Within.setCell ?_ (by first | (simp; done) | (simp; omega)) _ | with_reducible refine Within.trans ?_ (by assumption)))⟩
set_option maxRecDepth 100000 in
set_option maxHeartbeats 600000 in
theorem narrow_nan (a : Nat) (mode : Int) (KN : Hid (∀ w, Calls Tryz.prog 90 #[.int .i64 mode] w fun e' w' => e' = .returned (.bool true) ∧ w = w')) (hx : (FloatKind.f64.format.order a a != some .eq) = true) (NO : Hid (∀ w, Calls Tryz.prog 91 #[] w fun e' w' => e' = .returned (.float .f32 2143289344) ∧ Within w w')) (w : World) : Calls Tryz.prog 83 #[.float .f64 a, .int .i64 mode] w fun e' w' => e' = .returned (.tuple #[.float .f32 2143289344, .int .i64 0, .int .i64 0]) ∧ Within w w' := by
  go_enter Tryz.func83, Tryz.ntmps83
  go_wp2_with fail
  refine (KN.out _).mono ?_; rintro e1 w1 ⟨rfl, rfl⟩
  go_wp2_with fail
  refine (NO.out _).mono ?_; rintro e2 w2 ⟨rfl, hb2⟩
  go_wp2
  go_ret3
  exact ⟨rfl, (by repeat (first | with_reducible exact Within.refl _ | with_reducible assumption | with_reducible refine Within.alloc ?_ _ | with_reducible refine Within.drew ?_ | with_reducible refine Within.setCell ?_ (by first | (simp; done) | (simp; omega)) _ | with_reducible refine Within.trans ?_ (by assumption)))⟩
set_option maxRecDepth 100000 in
set_option maxHeartbeats 600000 in
theorem narrow_plain (a s : Nat) (mode : Int) (KN : Hid (∀ w, Calls Tryz.prog 90 #[.int .i64 mode] w fun e' w' => e' = .returned (.bool true) ∧ w = w')) (hx : (FloatKind.f64.format.order a a != some .eq) = false) (PL : Hid (∀ w, Calls Tryz.prog 92 #[.float .f64 a] w fun e' w' => e' = .returned (.bool true) ∧ w = w')) (hc : floatToFloatBits .f64 a .f32 = some s) (w : World) : Calls Tryz.prog 83 #[.float .f64 a, .int .i64 mode] w fun e' w' => e' = .returned (.tuple #[.float .f32 s, .int .i64 0, .int .i64 0]) ∧ Within w w' := by
  have hcv := fun (w : World) => run_convert_float_float (P := Tryz.prog) w 68 112 .f64 .f32 a s (by kernel_rfl) (by kernel_rfl) hc
  clear hc
  go_enter Tryz.func83, Tryz.ntmps83
  go_wp2_with fail
  refine (KN.out _).mono ?_; rintro e1 w1 ⟨rfl, rfl⟩
  go_wp2_with fail
  refine (PL.out _).mono ?_; rintro e2 w2 ⟨rfl, rfl⟩
  go_wp2
  go_ret3
  exact ⟨rfl, (by repeat (first | with_reducible exact Within.refl _ | with_reducible assumption | with_reducible refine Within.alloc ?_ _ | with_reducible refine Within.drew ?_ | with_reducible refine Within.setCell ?_ (by first | (simp; done) | (simp; omega)) _ | with_reducible refine Within.trans ?_ (by assumption)))⟩
set_option maxRecDepth 100000 in
set_option maxHeartbeats 600000 in
theorem narrow_main (a s y m : Nat) (b : Bool) (e mode fl : Int) (KN : Hid (∀ w, Calls Tryz.prog 90 #[.int .i64 mode] w fun e' w' => e' = .returned (.bool true) ∧ w = w')) (hx : (FloatKind.f64.format.order a a != some .eq) = false) (PL : Hid (∀ w, Calls Tryz.prog 92 #[.float .f64 a] w fun e' w' => e' = .returned (.bool false) ∧ w = w')) (TK : Hid (∀ w, Calls Tryz.prog 93 #[.float .f64 a] w fun e' w' => e' = .returned (.agg #[.bool b, .int .u64 m, .int .i64 e]) ∧ Within w w')) (RN : Hid (∀ w, Calls Tryz.prog 94 #[.agg #[.bool b, .int .u64 m, .int .i64 e], .agg #[.int .i64 24, .int .i64 (-126), .int .i64 127], .int .i64 mode] w fun e' w' => e' = .returned (.tuple #[.float .f64 y, .int .i64 fl]) ∧ Within w w')) (hc : floatToFloatBits .f64 y .f32 = some s) (w : World) (hT : FmS w) : Calls Tryz.prog 83 #[.float .f64 a, .int .i64 mode] w fun e' w' => e' = .returned (.tuple #[.float .f32 s, .int .i64 fl, .int .i64 0]) ∧ Within w w' := by
  have hcv := fun (w : World) => run_convert_float_float (P := Tryz.prog) w 68 112 .f64 .f32 y s (by kernel_rfl) (by kernel_rfl) hc
  clear hc
  go_enter Tryz.func83, Tryz.ntmps83
  go_wp2_with fail
  refine (KN.out _).mono ?_; rintro e1 w1 ⟨rfl, rfl⟩
  go_wp2_with fail
  refine (PL.out _).mono ?_; rintro e2 w2 ⟨rfl, rfl⟩
  go_wp2
  refine wp_region_within (by kernel_rfl) (by kernel_rfl) ?_
  repeat
    apply wpq_step rfl
    · intro wq hCq
      have q0 := (hT.of hCq).1; have q1 := (hT.of hCq).2.1; have q2 := (hT.of hCq).2.2
      go_simp
      first | rfl | exact hCq.call (TK.out _) | exact hCq.call (RN.out _) | (trace_state; fail)
    simp only [Act.put, List.setIfInBounds_toArray, List.set_cons_zero, List.set_cons_succ]
  refine wpQuiet_nil ?_
  intro w3 hb3
  go_wp2
  go_ret3
  exact ⟨rfl, (by repeat (first | with_reducible exact Within.refl _ | with_reducible assumption | with_reducible refine Within.alloc ?_ _ | with_reducible refine Within.drew ?_ | with_reducible refine Within.setCell ?_ (by first | (simp; done) | (simp; omega)) _ | with_reducible refine Within.trans ?_ (by assumption)))⟩
/-! what it comes to -/
def magD (a : Nat) : Nat := Fp.mag Ieee.double (a % 9223372036854775808)
def sgnS (b : Bool) : Nat := if b then 2147483648 else 0
def sgnD (b : Bool) : Nat := if b then 9223372036854775808 else 0
def ngD (a : Nat) : Bool := decide (9223372036854775808 ≤ a)
def sWord (neg : Bool) (m : Nat) (e mode : Int) : Nat :=
  (if rOver 24 (-149) 127 neg m e mode then (if rTop neg mode then 2139095039 else 2139095040) else Fp.num Ieee.single false (rQ 24 (-149) neg m e mode * 2 ^ (rK 24 (-149) m e + 149).toNat)) + sgnS neg
def nWord (a : Nat) (mode : Int) : Nat :=
  if ¬ (0 ≤ mode ∧ mode ≤ 4) then 0
  else if 9218868437227405312 < a % 9223372036854775808 then 2143289344
  else if a % 9223372036854775808 = 0 then sgnS (ngD a)
  else if a % 9223372036854775808 = 9218868437227405312 then 2139095040 + sgnS (ngD a)
  else sWord (ngD a) (top53 (magD a)) (((magD a).log2 : Int) - 1126) mode
def nFlags (a : Nat) (mode : Int) : Int :=
  if ¬ (0 ≤ mode ∧ mode ≤ 4) then 0
  else if 9218868437227405312 < a % 9223372036854775808 then 0
  else if a % 9223372036854775808 = 0 then 0
  else if a % 9223372036854775808 = 9218868437227405312 then 0
  else rFlags 24 (-149) 127 (ngD a) (top53 (magD a)) (((magD a).log2 : Int) - 1126) mode
def nErr (mode : Int) : Int := if 0 ≤ mode ∧ mode ≤ 4 then 0 else 20
theorem nbits_num {x s : Nat} (hx : x % 9223372036854775808 < 9218868437227405312) (hs : s % 2147483648 < 2139095040) (hw : Ieee.single.write (Ieee.double.read x) = s) : floatToFloatBits .f64 x .f32 = some s := by
  obtain ⟨m, e, r1, _⟩ := Fp.read_fin Ieee.double x (by rw [Fp.rg64, Fp.dI]; exact hx)
  obtain ⟨n, k, r2, _⟩ := Fp.read_fin Ieee.single s (by rw [Fp.rg32, Fp.sI]; exact hs)
  unfold floatToFloatBits
  rw [if_neg (by decide)]
  show (match Ieee.double.read x with | .nan _ _ => none | .infinity s => some (Ieee.single.write (.infinity s)) | .number s m e => if (Ieee.single.read (Ieee.single.write (.number s m e))).isInfinity then none else some (Ieee.single.write (.number s m e))) = some s
  rw [r1] at hw ⊢
  show (if (Ieee.single.read (Ieee.single.write _)).isInfinity then none else some (Ieee.single.write _)) = some s
  rw [hw, r2]; exact if_neg Bool.false_ne_true
theorem wbits_num {x s : Nat} (hx : x % 2147483648 < 2139095040) (hs : s % 9223372036854775808 < 9218868437227405312) (hw : Ieee.double.write (Ieee.single.read x) = s) : floatToFloatBits .f32 x .f64 = some s := by
  obtain ⟨m, e, r1, _⟩ := Fp.read_fin Ieee.single x (by rw [Fp.rg32, Fp.sI]; exact hx)
  obtain ⟨n, k, r2, _⟩ := Fp.read_fin Ieee.double s (by rw [Fp.rg64, Fp.dI]; exact hs)
  unfold floatToFloatBits
  rw [if_neg (by decide)]
  show (match Ieee.single.read x with | .nan _ _ => none | .infinity s => some (Ieee.double.write (.infinity s)) | .number s m e => if (Ieee.double.read (Ieee.double.write (.number s m e))).isInfinity then none else some (Ieee.double.write (.number s m e))) = some s
  rw [r1] at hw ⊢
  show (if (Ieee.double.read (Ieee.double.write _)).isInfinity then none else some (Ieee.double.write _)) = some s
  rw [hw, r2]; exact if_neg Bool.false_ne_true
theorem nbits_inf (b : Bool) : floatToFloatBits .f64 (9218868437227405312 + sgnD b) .f32 = some (2139095040 + sgnS b) := by cases b <;> decide +kernel
theorem wbits_inf (b : Bool) : floatToFloatBits .f32 (2139095040 + sgnS b) .f64 = some (9218868437227405312 + sgnD b) := by cases b <;> decide +kernel
theorem nbits_zero (b : Bool) : floatToFloatBits .f64 (sgnD b) .f32 = some (sgnS b) := by cases b <;> decide +kernel
theorem num_sgn (b : Bool) (n : Nat) : Fp.num Ieee.double b n = Fp.num Ieee.double false n + sgnD b := by
  unfold Fp.num Ieee.Format.word sgnD
  rw [Fp.dS]
  generalize Fp.grid Ieee.double n 0 = g
  cases b <;> simp
  exact Nat.add_comm _ _
theorem num_sgnS (b : Bool) (n : Nat) : Fp.num Ieee.single b n = Fp.num Ieee.single false n + sgnS b := by
  unfold Fp.num Ieee.Format.word sgnS
  rw [Fp.sS]
  generalize Fp.grid Ieee.single n 0 = g
  cases b <;> simp
  exact Nat.add_comm _ _
theorem num_ltS {n : Nat} (h : Fp.Rep Ieee.single n) : Fp.num Ieee.single false n < 2139095040 := by
  have h1 := h.1
  rw [Fp.sI] at h1
  exact h1
theorem sAmt_rep (neg : Bool) {m : Nat} (e mode : Int) (h0 : m ≠ 0) (hm : m < 18446744073709551616) (h : rOver 24 (-149) 127 neg m e mode = false) :
    Fp.Rep Ieee.single (rQ 24 (-149) neg m e mode * 2 ^ (rK 24 (-149) m e + 149).toNat) ∧ rAmt 24 (-149) neg m e mode = rQ 24 (-149) neg m e mode * 2 ^ (rK 24 (-149) m e + 149).toNat * 2 ^ Fp.sgap := by
  have hq := (rQ_le (D := 24) (lo := -149) neg e mode h0 hm (by decide)).1
  have hk : -149 ≤ rK 24 (-149) m e := by unfold rK; omega
  have hov : rK 24 (-149) m e + (Lib.bitLen (rQ 24 (-149) neg m e mode) : Nat) ≤ 127 + 1 := by unfold rOver at h; simp at h; omega
  unfold rAmt
  have hq' : rQ 24 (-149) neg m e mode ≤ 16777216 := hq
  generalize rQ 24 (-149) neg m e mode = q at *
  generalize rK 24 (-149) m e = k at *
  refine ⟨?_, ?_⟩
  · have hlt : q * 2 ^ (k + 149).toNat < Fp.mag Ieee.single Ieee.single.infRung := by
      obtain ⟨J, hJ⟩ : ∃ J : Nat, J = 253 := ⟨_, rfl⟩
      have e1 : Fp.mag Ieee.single Ieee.single.infRung = 2 ^ 24 * 2 ^ J := by rw [hJ]; decide +kernel
      rw [e1, ← Nat.pow_add]
      have h1 : q * 2 ^ (k + 149).toNat < 2 ^ Lib.bitLen q * 2 ^ (k + 149).toNat := Nat.mul_lt_mul_of_pos_right (lt_bl (by omega)) (Nat.two_pow_pos _)
      rw [← Nat.pow_add] at h1
      exact Nat.lt_of_lt_of_le h1 (Nat.pow_le_pow_right (by decide) (by omega))
    by_cases hq2 : q = 16777216
    · refine Fp.rep_of Ieee.single 1 (24 + (k + 149).toNat) ?_ (by decide) hlt
      rw [hq2, Nat.pow_add, Nat.one_mul, show (2 : Nat) ^ 24 = 16777216 by decide]
    · exact Fp.rep_of Ieee.single q _ rfl (by show q < 2 ^ 24; omega) hlt
  · have := Fp.sgap_eq
    rw [Nat.mul_assoc, ← Nat.pow_add]; congr 2; omega
theorem sWord_bits (neg : Bool) {m : Nat} (e mode : Int) (h0 : m ≠ 0) (hm : m < 18446744073709551616) :
    floatToFloatBits .f64 (rWord 24 (-149) 127 topS neg m e mode) .f32 = some (sWord neg m e mode) := by
  unfold rWord sWord
  have hsg : (if neg = true then 9223372036854775808 else 0) = sgnD neg := rfl
  rw [hsg]
  cases hov : rOver 24 (-149) 127 neg m e mode
  · rw [if_neg Bool.false_ne_true, if_neg Bool.false_ne_true]
    obtain ⟨r1, r2⟩ := sAmt_rep neg e mode h0 hm hov
    have r3 : Fp.Rep Ieee.double (rAmt 24 (-149) neg m e mode) := rAmt_rep (D := 24) (lo := -149) (most := 127) neg e mode h0 hm (by decide) (by decide) (by decide) hov
    have hI := Fp.Rep.is r3 neg
    have hl := num_lt r3
    have hl2 := num_ltS r1
    rw [r2] at hI
    have hn := Fp.narrow_is hI r1
    rw [← r2, num_sgn, num_sgnS] at hn
    refine nbits_num ?_ ?_ hn
    · unfold sgnD; split <;> omega
    · unfold sgnS; split <;> omega
  · rw [if_pos rfl, if_pos rfl]
    cases ht : rTop neg mode
    · rw [if_neg Bool.false_ne_true, if_neg Bool.false_ne_true]
      exact nbits_inf neg
    · rw [if_pos rfl, if_pos rfl]
      cases neg <;> decide +kernel
theorem sgn_split {a : Nat} (ha : a < 18446744073709551616) : a = a % 9223372036854775808 + sgnD (ngD a) := by
  unfold sgnD ngD
  by_cases h : 9223372036854775808 ≤ a
  · rw [decide_eq_true h, if_pos rfl]; omega
  · rw [decide_eq_false h, if_neg Bool.false_ne_true]; omega
theorem magD_rep {a : Nat} (hf : a % 9223372036854775808 < 9218868437227405312) : Fp.Rep Ieee.double (magD a) := Fp.rep_mag Ieee.double Fp.dF (by rw [Fp.dI]; exact hf)
theorem magD_zero {a : Nat} : magD a = 0 ↔ a % 9223372036854775808 = 0 := by
  unfold magD
  have := Fp.mag_inj Ieee.double (r := a % 9223372036854775808) (r' := 0)
  rwa [Fp.mag_zero] at this
theorem Narrow_any (a : Nat) (mode : Int) (ha : a < 18446744073709551616) (w : World) (hT : FmS w) : Calls Tryz.prog 83 #[.float .f64 a, .int .i64 mode] w fun e' w' => e' = .returned (.tuple #[.float .f32 (nWord a mode), .int .i64 (nFlags a mode), .int .i64 (nErr mode)]) ∧ Within w w' := by
  have KN := Lib.hid (fun w => known_any mode w)
  unfold nWord nFlags nErr
  by_cases hmode : 0 ≤ mode ∧ mode ≤ 4
  · rw [decide_eq_true hmode] at KN
    have hm' : ¬¬(0 ≤ mode ∧ mode ≤ 4) := fun h => h hmode
    rw [if_neg hm', if_neg hm', if_pos hmode]
    have hx := ne_self (a := a)
    by_cases hn : 9218868437227405312 < a % 9223372036854775808
    · rw [decide_eq_true hn] at hx
      rw [if_pos hn, if_pos hn]
      exact narrow_nan a mode KN hx (Lib.hid none_any) w
    rw [decide_eq_false hn] at hx
    rw [if_neg hn, if_neg hn]
    have PL := Lib.hid (fun w => plain_any a ha (by omega) w)
    have hsp := sgn_split ha
    by_cases hz : a % 9223372036854775808 = 0
    · rw [decide_eq_true (.inl hz)] at PL
      rw [if_pos hz, if_pos hz]
      refine narrow_plain a _ mode KN hx PL ?_ w
      rw [hz, Nat.zero_add] at hsp
      conv => lhs; rw [hsp]
      exact nbits_zero _
    rw [if_neg hz, if_neg hz]
    by_cases hi : a % 9223372036854775808 = 9218868437227405312
    · rw [decide_eq_true (.inr hi)] at PL
      rw [if_pos hi, if_pos hi]
      refine narrow_plain a _ mode KN hx PL ?_ w
      rw [hi] at hsp
      conv => lhs; rw [hsp]
      exact nbits_inf _
    rw [if_neg hi, if_neg hi]
    rw [decide_eq_false (show ¬ (a % 9223372036854775808 = 0 ∨ a % 9223372036854775808 = 9218868437227405312) by omega)] at PL
    have h0 : magD a ≠ 0 := fun h => hz (magD_zero.1 h)
    obtain ⟨t1, t2, t3, _⟩ := top53_bounds h0 (magD_rep (by omega))
    have TK := Lib.hid (fun w => take_any a (magD a) ha h0 (by omega) rfl w)
    have RN := Lib.hid (fun w => round_S (ngD a) (top53 (magD a)) (((magD a).log2 : Int) - 1126) mode (by omega) (by omega) (by omega) (by omega) hmode w)
    exact narrow_main a _ _ _ _ _ mode _ KN hx PL TK RN (sWord_bits (ngD a) _ mode (by omega) (by omega)) w hT
  · rw [decide_eq_false hmode] at KN
    rw [if_pos hmode, if_pos hmode, if_neg hmode]
    exact narrow_bad a mode KN w
def wWord (b : Nat) : Nat :=
  if 2139095040 < b % 2147483648 then 9221120237041090561
  else if b % 2147483648 = 2139095040 then 9218868437227405312 + sgnD (decide (2147483648 ≤ b))
  else Fp.num Ieee.double (decide (2147483648 ≤ b)) (Fp.mag Ieee.single (b % 2147483648) * 2 ^ Fp.sgap)
theorem single_is {b : Nat} (hb : b < 4294967296) (hf : b % 2147483648 < 2139095040) : Fp.Is Ieee.single b (decide (2147483648 ≤ b)) (Fp.mag Ieee.single (b % 2147483648)) := by
  have hr : Fp.rg Ieee.single b = b % 2147483648 := Fp.rg32 b
  refine ⟨hb, by rw [hr, Fp.sI]; exact hf, ?_, by rw [hr]⟩
  rw [Fp.sg32]
  by_cases h : 2147483648 ≤ b
  · rw [decide_eq_true h, show b / 2147483648 = 1 by omega]; rfl
  · rw [decide_eq_false h, show b / 2147483648 = 0 by omega]; rfl
set_option maxRecDepth 100000 in
set_option maxHeartbeats 600000 in
theorem widen_core (b x c : Nat) (hc : floatToFloatBits .f32 b .f64 = some x) (CA : Hid (∀ w, Calls Tryz.prog 96 #[.float .f64 x] w fun e w' => e = .returned (.float .f64 c) ∧ Within w w')) (w : World) : Calls Tryz.prog 85 #[.float .f32 b] w fun e w' => e = .returned (.float .f64 c) ∧ Within w w' := by
  have hcv := fun (w : World) => run_convert_float_float (P := Tryz.prog) w 112 68 .f32 .f64 b x (by kernel_rfl) (by kernel_rfl) hc
  clear hc
  go_enter Tryz.func85, Tryz.ntmps85
  go_wp2_with fail
  refine (CA.out _).mono ?_; rintro e1 w1 ⟨rfl, hb1⟩
  go_wp2
  go_ret
  exact ⟨rfl, (by repeat (first | with_reducible exact Within.refl _ | with_reducible assumption | with_reducible refine Within.alloc ?_ _ | with_reducible refine Within.drew ?_ | with_reducible refine Within.setCell ?_ (by first | (simp; done) | (simp; omega)) _ | with_reducible refine Within.trans ?_ (by assumption)))⟩
set_option maxRecDepth 100000 in
set_option maxHeartbeats 600000 in
theorem widen_nan (b t : Nat) (g : Bool) (h : FloatKind.f32.decode b = .nan g t) (w : World) : Calls Tryz.prog 85 #[.float .f32 b] w fun e w' => e = .returned (.float .f64 9221120237041090561) ∧ Within w w' := by
  have hcv := fun (w : World) => run_widen_nan 112 68 .f32 .f64 b Tryz.prog w (by decide) (by kernel_rfl) (by kernel_rfl) g t h
  have HC := Lib.hid (fun t w => Canon_D ((Question.nanConv .f64 b).cut t) (nan_cutD b t).2 w)
  simp only [(nan_cutD _ _).1] at HC
  clear h
  go_enter Tryz.func85, Tryz.ntmps85
  go_wp2_with fail
  refine (HC.out _ _).mono ?_; rintro e1 w1 ⟨rfl, hb1⟩
  go_wp2
  go_ret
  exact ⟨rfl, (by repeat (first | with_reducible exact Within.refl _ | with_reducible assumption | with_reducible refine Within.alloc ?_ _ | with_reducible refine Within.drew ?_ | with_reducible refine Within.setCell ?_ (by first | (simp; done) | (simp; omega)) _ | with_reducible refine Within.trans ?_ (by assumption)))⟩
theorem Widen_any (b : Nat) (hb : b < 4294967296) (w : World) : Calls Tryz.prog 85 #[.float .f32 b] w fun e w' => e = .returned (.float .f64 (wWord b)) ∧ Within w w' := by
  unfold wWord
  by_cases hn : 2139095040 < b % 2147483648
  · rw [if_pos hn]
    have := Fp.read_nan Ieee.single b (by rw [Fp.rg32, Fp.sI]; exact hn) Fp.sBI
    exact widen_nan b _ _ this w
  rw [if_neg hn]
  by_cases hi : b % 2147483648 = 2139095040
  · rw [if_pos hi]
    have hsp : b = 2139095040 + sgnS (decide (2147483648 ≤ b)) := by
      unfold sgnS
      by_cases h : 2147483648 ≤ b
      · rw [decide_eq_true h, if_pos rfl]; omega
      · rw [decide_eq_false h, if_neg Bool.false_ne_true]; omega
    have hc := wbits_inf (decide (2147483648 ≤ b))
    rw [← hsp] at hc
    have hcan : canonD (9218868437227405312 + sgnD (decide (2147483648 ≤ b))) = 9218868437227405312 + sgnD (decide (2147483648 ≤ b)) := by cases decide (2147483648 ≤ b) <;> decide
    have CA := Lib.hid (fun w => Canon_D (9218868437227405312 + sgnD (decide (2147483648 ≤ b))) (by unfold sgnD; split <;> omega) w)
    rw [hcan] at CA
    exact widen_core b _ _ hc CA w
  · rw [if_neg hi]
    have hI := single_is hb (by omega)
    obtain ⟨h1, h2⟩ := Fp.widen_is hI
    have hl := num_lt h2
    have hlt : Fp.num Ieee.double (decide (2147483648 ≤ b)) (Fp.mag Ieee.single (b % 2147483648) * 2 ^ Fp.sgap) % 9223372036854775808 < 9218868437227405312 ∧ Fp.num Ieee.double (decide (2147483648 ≤ b)) (Fp.mag Ieee.single (b % 2147483648) * 2 ^ Fp.sgap) < 18446744073709551616 := by
      rw [num_sgn]; unfold sgnD; split <;> omega
    have hc := wbits_num (by omega) hlt.1 h1
    have CA := Lib.hid (fun w => Canon_D (Fp.num Ieee.double (decide (2147483648 ≤ b)) (Fp.mag Ieee.single (b % 2147483648) * 2 ^ Fp.sgap)) hlt.2 w)
    have hcan : canonD (Fp.num Ieee.double (decide (2147483648 ≤ b)) (Fp.mag Ieee.single (b % 2147483648) * 2 ^ Fp.sgap)) = Fp.num Ieee.double (decide (2147483648 ≤ b)) (Fp.mag Ieee.single (b % 2147483648) * 2 ^ Fp.sgap) := by
      unfold canonD nanD; rw [decide_eq_false (by omega)]; exact if_neg Bool.false_ne_true
    rw [hcan] at CA
    exact widen_core b _ _ hc CA w
end Go.Proofs.YtpmjlaiafgbjgaaGreatDoor
end

section
namespace Go.Proofs.YtpmjlaiafgbjgaaGreatDoor
open Go.RowKit
def u8v (l : List Nat) : List Value := l.map fun (x : Nat) => .int .u8 (x : Int)
def u64v (l : List Nat) : List Value := l.map fun (x : Nat) => .int .u64 (x : Int)
def f64v (l : List Nat) : List Value := l.map fun (x : Nat) => .float .f64 x
theorem u8v_len (l : List Nat) : (u8v l).length = l.length := List.length_map ..
theorem f64v_len (l : List Nat) : (f64v l).length = l.length := List.length_map ..
theorem add_block (a : Addr) (n : Nat) : (a.add n).block = a.block := by unfold Addr.add; split <;> rfl
theorem add_add (a : Addr) (i j : Nat) : (a.add i).add j = a.add (i + j) := by
  unfold Addr.add
  by_cases hi : i = 0 <;> by_cases hj : j = 0 <;> simp [hi, hj, Nat.add_assoc]
theorem add_nought (a : Addr) : a.add 0 = a := by unfold Addr.add; rw [if_pos rfl]
def SlAt (w : World) (A : Option Addr) (xs : List Value) : Prop := 0 < xs.length → ∃ ad, A = some ad ∧ ad.block < w.heap.size ∧ ∀ (j : Nat) u, xs[j]? = some u → w.cell? (ad.add j) = some u
theorem SlAt.nil {w : World} {A : Option Addr} : SlAt w A [] := fun h => absurd h (by simp)
theorem SlAt.of {w w' : World} {A : Option Addr} {xs : List Value} (h : SlAt w A xs) (k : Within w w') : SlAt w' A xs := fun hn => by
  obtain ⟨ad, e, hb, hc⟩ := h hn
  exact ⟨ad, e, Nat.lt_of_lt_of_le hb k.size, fun j u hu => (k.cell (by rw [add_block]; exact hb)).trans (hc j u hu)⟩
theorem SlAt.below {w w' : World} {A : Option Addr} {xs : List Value} {B : Nat} (h : SlAt w A xs) (hA : ∀ ad, A = some ad → ad.block < B) (k : Below B w w') : SlAt w' A xs := fun hn => by
  obtain ⟨ad, e, hb, hc⟩ := h hn
  exact ⟨ad, e, Nat.lt_of_lt_of_le hb k.size, fun j u hu => (k.cell (by rw [add_block]; exact hA ad e)).trans (hc j u hu)⟩
theorem SlAt.at {w : World} {A : Option Addr} {l : List Nat} {v : Nat → Value} (h : SlAt w A (l.map v)) {k : Nat} (hk : k < l.length) : ∃ ad, A = some ad ∧ ad.block < w.heap.size ∧ w.cell? (ad.add k) = some (v (l.getD k 0)) := by
  obtain ⟨ad, e, hb, hc⟩ := h (by rw [List.length_map]; omega)
  refine ⟨ad, e, hb, hc k _ ?_⟩
  rw [List.getElem?_map, List.getElem?_eq_getElem hk, Option.map_some]
  simp [List.getD, List.getElem?_eq_getElem hk]
theorem SlAt.take {w : World} {A : Option Addr} {xs : List Value} (h : SlAt w A xs) (k : Nat) : SlAt w A (xs.take k) := fun hn => by
  obtain ⟨ad, e, hb, hc⟩ := h (Nat.lt_of_lt_of_le hn (List.length_take_le' _ _))
  refine ⟨ad, e, hb, fun j u hu => hc j u ?_⟩
  rw [List.getElem?_take] at hu
  split at hu
  · exact hu
  · cases hu
theorem SlAt.drop {w : World} {ad : Addr} {xs : List Value} (h : SlAt w (some ad) xs) (k : Nat) : SlAt w (some (ad.add k)) (xs.drop k) := fun hn => by
  obtain ⟨ad', e, hb, hc⟩ := h (by rw [List.length_drop] at hn; omega)
  obtain rfl := Option.some.inj e
  refine ⟨_, rfl, by rw [add_block]; exact hb, fun j u hu => ?_⟩
  rw [add_add]
  exact hc _ u (by rw [← hu, List.getElem?_drop])
theorem u8v_one (l : List Nat) : ∀ u ∈ u8v l, u.oneCell' = true := fun u hu => by
  obtain ⟨x, _, rfl⟩ := List.mem_map.1 hu; rfl
theorem f64v_one (l : List Nat) : ∀ u ∈ f64v l, u.oneCell' = true := fun u hu => by
  obtain ⟨x, _, rfl⟩ := List.mem_map.1 hu; rfl
theorem owns_form {w : World} {base : Nat} {E : TypeId} {v : Value} {n : Nat} {xs : List Value} (h : w.ownsRow base E 1 v n xs) : ∃ A c, v = .slice A n c ∧ n ≤ c ∧ SlAt w A xs ∧ (∀ ad, A = some ad → base ≤ ad.block) := by
  have hlen : xs.length = n := by have := h.1; simpa using this
  rcases h.2 with ⟨rfl, h0⟩ | ⟨g, cap, cur, rfl, hg, hb, hc, _, hsz, htk⟩
  · exact ⟨none, 0, by rw [h0], by omega, fun hn => by omega, fun ad e => by cases e⟩
  · refine ⟨_, _, rfl, hc, fun hn => ?_, fun ad e => by injection e with e; subst e; exact hg⟩
    obtain ⟨hlt, _⟩ := Array.getElem?_eq_some_iff.1 hb
    exact ⟨_, rfl, hlt, h.cells (g := g) rfl⟩
theorem run_app_nil {P : Program} (w : World) (base : Nat) (t ty e : TypeId) (i : TypeInfo) (ht : P.underlying t = some (.slice e)) (hi : P.info? e = some i)
    (v : Value) (n : Nat) (xs : List Value) (hown : w.ownsRow base e 1 v n xs) (c : Nat) : (Builtin.append_ #[t, t] ty #[v, .slice none 0 c]).run P w = .ok v w := by
  rcases hown.2 with ⟨rfl, rfl⟩ | ⟨g, cap, cur, rfl, _, _, hnc, _⟩
  · simp [Builtin.append_, run_underlying ht, sizeOf, typeInfo, hi, Builtin.lenOf, Builtin.firstCells]
  · simp [Builtin.append_, run_underlying ht, sizeOf, typeInfo, hi, Builtin.lenOf, Builtin.firstCells, hnc, storeCells]
theorem run_app {P : Program} (w : World) (base : Nat) (t ty e : TypeId) (i : TypeInfo) (z : Value) (bytes : Nat) (ht : P.underlying t = some (.slice e)) (hi : P.info? e = some i) (hz : i.zero = some z)
    (hsize : i.size = 1) (hby : i.bytes = bytes) (hzs : z.cells.size = 1) (v : Value) (n : Nat) (xs : List Value) (hown : w.ownsRow base e 1 v n xs)
    (A : Option Addr) (c : Nat) (news : List Value) (hr : SlAt w A news) (h1 : ∀ u ∈ news, u.oneCell' = true) (h63 : n + news.length ≤ maxLen) (hbytes : (n + news.length) * bytes ≤ 140737488355328) (hbase : base ≤ w.heap.size) :
    ∃ v' w', (Builtin.append_ #[t, t] ty #[v, .slice A news.length c]).run P w = .ok v' w' ∧ w'.ownsRow base e 1 v' (n + news.length) (xs ++ news) ∧ w.grownBy w' v.ownBlock ∧ (v'.ownBlock = v.ownBlock ∨ v'.ownBlock = some w.heap.size) := by
  rcases A with _ | ad
  · have hn : news = [] := by
      rcases Nat.eq_zero_or_pos news.length with h0 | h0
      · exact List.eq_nil_of_length_eq_zero h0
      · obtain ⟨ad, h, _⟩ := hr h0
        cases h
    subst hn
    exact ⟨v, w, run_app_nil w base t ty e i ht hi v n xs hown c, by simpa using hown, World.grownBy.refl w _, .inl rfl⟩
  · have hcells : ∀ j u, news[j]? = some u → w.cell? (ad.add j) = some u := by
      intro j u hu
      have h0 : 0 < news.length := by
        rcases Nat.eq_zero_or_pos news.length with h0 | h0
        · rw [List.eq_nil_of_length_eq_zero h0] at hu; simp at hu
        · exact h0
      obtain ⟨ad', h, _, hc⟩ := hr h0
      injection h with h
      subst h
      exact hc j u hu
    obtain ⟨v', w', hrun, h2, h3, _, h5⟩ := run_append_own_at (P := P) w base t ty e i z 1 bytes ht hi hz hsize hby hzs (by decide) v n xs hown ad news.length c news (by simp) hcells h1 h63 hbytes hbase
    exact ⟨v', w', hrun, h2, h3, h5⟩
theorem grown_below {w w' : World} {base : Nat} {E : TypeId} {v : Value} {n : Nat} {xs : List Value} (h : w.ownsRow base E 1 v n xs) (hb : base ≤ w.heap.size) (k : w.grownBy w' v.ownBlock) : Below base w w' :=
  (Below.refl base w).grown k hb (fun j hj => (h.lt j hj).1)
theorem within_grown {w w' : World} (k : Within w w') : w.grownBy w' none := ⟨k.os, k.tape, k.output, k.size, fun i hi _ => k.block i hi⟩
/-! appends to rows of bytes and of numbers -/
theorem Tryz.infoU8 : (Tryz.prog.info? 5).map (fun i => (i.zero, i.size, i.bytes)) = some (some (.int .u8 0), 1, 1) := by kernel_rfl
theorem Tryz.infoF64 : (Tryz.prog.info? 68).map (fun i => (i.zero, i.size, i.bytes)) = some (some (.float .f64 0), 1, 8) := by kernel_rfl
def OwnB (w : World) (base : Nat) (v : Value) (l : List Nat) : Prop := w.ownsRow base 5 1 v l.length (u8v l)
def OwnF (w : World) (base : Nat) (v : Value) (l : List Nat) : Prop := w.ownsRow base 68 1 v l.length (f64v l)
theorem run_app_u8 (w : World) (base : Nat) (v : Value) (l m : List Nat) (hown : OwnB w base v l) (A : Option Addr) (c : Nat) (hr : SlAt w A (u8v m)) (hl : l.length + m.length ≤ 140737488355328) (hbase : base ≤ w.heap.size) :
    ∃ v' w', (Builtin.append_ #[28, 28] 28 #[v, .slice A m.length c]).run Tryz.prog w = .ok v' w' ∧ OwnB w' base v' (l ++ m) ∧ Below base w w' := by
  obtain ⟨i0, hi0, hz0, hz1, hz2⟩ := info_parts Tryz.infoU8
  obtain ⟨v', w', h1, h2, h3, _⟩ := run_app (P := Tryz.prog) w base 28 28 5 i0 (.int .u8 0) 1 (by kernel_rfl) hi0 hz0 hz1 hz2 rfl v l.length (u8v l) hown A c (u8v m) hr (u8v_one m) (by rw [u8v_len]; unfold maxLen; omega) (by rw [u8v_len]; omega) hbase
  rw [u8v_len] at h1 h2
  refine ⟨v', w', h1, ?_, grown_below hown hbase h3⟩
  unfold OwnB u8v
  rw [List.length_append, List.map_append]; exact h2
theorem run_app_f64 (w : World) (base : Nat) (v : Value) (l m : List Nat) (hown : OwnF w base v l) (A : Option Addr) (c : Nat) (hr : SlAt w A (f64v m)) (hl : (l.length + m.length) * 8 ≤ 140737488355328) (hbase : base ≤ w.heap.size) :
    ∃ v' w', (Builtin.append_ #[62, 62] 62 #[v, .slice A m.length c]).run Tryz.prog w = .ok v' w' ∧ OwnF w' base v' (l ++ m) ∧ Below base w w' := by
  obtain ⟨i0, hi0, hz0, hz1, hz2⟩ := info_parts Tryz.infoF64
  obtain ⟨v', w', h1, h2, h3, _⟩ := run_app (P := Tryz.prog) w base 62 62 68 i0 (.float .f64 0) 8 (by kernel_rfl) hi0 hz0 hz1 hz2 rfl v l.length (f64v l) hown A c (f64v m) hr (f64v_one m) (by rw [f64v_len]; unfold maxLen; omega) (by rw [f64v_len]; omega) hbase
  rw [f64v_len] at h1 h2
  refine ⟨v', w', h1, ?_, grown_below hown hbase h3⟩
  unfold OwnF f64v
  rw [List.length_append, List.map_append]; exact h2
theorem OwnB.form {w : World} {base : Nat} {v : Value} {l : List Nat} (h : OwnB w base v l) : ∃ A c, v = .slice A l.length c ∧ l.length ≤ c ∧ SlAt w A (u8v l) ∧ (∀ ad, A = some ad → base ≤ ad.block) := owns_form h
theorem OwnF.form {w : World} {base : Nat} {v : Value} {l : List Nat} (h : OwnF w base v l) : ∃ A c, v = .slice A l.length c ∧ l.length ≤ c ∧ SlAt w A (f64v l) ∧ (∀ ad, A = some ad → base ≤ ad.block) := owns_form h
theorem OwnB.of {w w' : World} {base : Nat} {v : Value} {l : List Nat} (h : OwnB w base v l) (k : Within w w') : OwnB w' base v l := h.kept (within_grown k) (by cases hv : v.ownBlock <;> simp)
theorem OwnF.of {w w' : World} {base : Nat} {v : Value} {l : List Nat} (h : OwnF w base v l) (k : Within w w') : OwnF w' base v l := h.kept (within_grown k) (by cases hv : v.ownBlock <;> simp)
theorem OwnB.nil_ (w : World) (base : Nat) : OwnB w base (.slice none 0 0) [] := World.ownsRow_nil _ _ _ _
theorem OwnF.nil_ (w : World) (base : Nat) : OwnF w base (.slice none 0 0) [] := World.ownsRow_nil _ _ _ _
theorem wpList_append_run {P : Program} {w : World} {ops : Array Oper} {rest : List Oper} {o : Oper} {a : Act} {Q : Exit → Act → World → Prop} (hgd : o.guard = none) (s x : Operand) (t : TypeId)
    (ho : o.op = .call { callee := .builtin .append, args := #[s, x], argTypes := #[t, t] }) (vs vx : Value) (hs : a.eval s = vs) (hx : a.eval x = vx) {v' : Value} {w' : World}
    (hrun : (Builtin.append_ #[t, t] o.type #[vs, vx]).run P w = .ok v' w') (h : wpList P ops Q rest (a.put o.dst v') w') : wpList P ops Q (o :: rest) a w :=
  wpList_plain hgd fun K hK => by
    unfold Oper.wp execOp
    simp only [ho, resolve, invoke, builtin, Sem.run_bind, Sem.run_pure, Result.andThen_ok, List.map_toArray, List.map_cons, List.map_nil, hs, hx, hrun]
    exact hK _ _ h
theorem SlAt.one (w : World) (u : Value) (E : TypeId) : SlAt (w.alloc (.cells #[u] E)) (some ⟨w.heap.size, 0, none⟩) [u] := fun _ => by
  refine ⟨_, rfl, by simp, fun j v hv => ?_⟩
  cases j with
  | zero =>
    simp at hv
    subst hv
    rw [add_nought, World.cell?_alloc_at _ _ _ _ rfl]; rfl
  | succ j => simp at hv
theorem run_app_byte (w : World) (base : Nat) (v : Value) (l : List Nat) (x : Nat) (hown : OwnB w base v l) (hl : l.length + 1 ≤ 140737488355328) (hbase : base ≤ w.heap.size) :
    ∃ v' w', (Builtin.append_ #[28, 28] 28 #[v, .slice (some ⟨w.heap.size, 0, none⟩) 1 1]).run Tryz.prog (w.alloc (.cells #[.int .u8 (x : Int)] 5)) = .ok v' w' ∧ OwnB w' base v' (l ++ [x]) ∧ Below base w w' := by
  obtain ⟨v', w', h1, h2, h3⟩ := run_app_u8 (w.alloc (.cells #[.int .u8 (x : Int)] 5)) base v l [x] (hown.of ((Within.refl w).alloc _)) (some ⟨w.heap.size, 0, none⟩) 1 (SlAt.one w _ _) hl (by simp; omega)
  exact ⟨v', w', h1, h2, ((Below.refl base w).alloc hbase _).trans h3⟩
theorem run_app_float (w : World) (base : Nat) (v : Value) (l : List Nat) (x : Nat) (hown : OwnF w base v l) (hl : (l.length + 1) * 8 ≤ 140737488355328) (hbase : base ≤ w.heap.size) :
    ∃ v' w', (Builtin.append_ #[62, 62] 62 #[v, .slice (some ⟨w.heap.size, 0, none⟩) 1 1]).run Tryz.prog (w.alloc (.cells #[.float .f64 x] 68)) = .ok v' w' ∧ OwnF w' base v' (l ++ [x]) ∧ Below base w w' := by
  obtain ⟨v', w', h1, h2, h3⟩ := run_app_f64 (w.alloc (.cells #[.float .f64 x] 68)) base v l [x] (hown.of ((Within.refl w).alloc _)) (some ⟨w.heap.size, 0, none⟩) 1 (SlAt.one w _ _) hl (by simp; omega)
  exact ⟨v', w', h1, h2, ((Below.refl base w).alloc hbase _).trans h3⟩
theorem owns_less {w : World} {base base' : Nat} {E : TypeId} {v : Value} {n : Nat} {xs : List Value} (h : w.ownsRow base E 1 v n xs) (k : base' ≤ base) : w.ownsRow base' E 1 v n xs := by
  refine ⟨h.1, ?_⟩
  rcases h.2 with h2 | ⟨g, cap, cur, h1, hb, h3⟩
  · exact .inl h2
  · exact .inr ⟨g, cap, cur, h1, Nat.le_trans k hb, h3⟩
theorem OwnF.less {w : World} {base base' : Nat} {v : Value} {l : List Nat} (h : OwnF w base v l) (k : base' ≤ base) : OwnF w base' v l := owns_less h k
theorem OwnB.less {w : World} {base base' : Nat} {v : Value} {l : List Nat} (h : OwnB w base v l) (k : base' ≤ base) : OwnB w base' v l := owns_less h k
theorem OwnF.set {w : World} {base : Nat} {v : Value} {l : List Nat} (h : OwnF w base v l) {p : Addr} (hp : p.block < base) (u : Value) : OwnF (w.setCell p u) base v l := ownsRow_setCell_below h hp u
theorem OwnB.set {w : World} {base : Nat} {v : Value} {l : List Nat} (h : OwnB w base v l) {p : Addr} (hp : p.block < base) (u : Value) : OwnB (w.setCell p u) base v l := ownsRow_setCell_below h hp u
theorem op_append_run {P : Program} {w : World} {o : Oper} {a : Act} {K : Act → World → Prop} {Q : Exit → Act → World → Prop} (s x : Operand) (t : TypeId)
    (ho : o.op = .call { callee := .builtin .append, args := #[s, x], argTypes := #[t, t] }) (vs vx : Value) (hs : a.eval s = vs) (hx : a.eval x = vx) {v' : Value} {w' : World}
    (hrun : (Builtin.append_ #[t, t] o.type #[vs, vx]).run P w = .ok v' w') (h : K (a.put o.dst v') w') : o.wp P a w K Q := by
  unfold Oper.wp execOp
  simp only [ho, resolve, invoke, builtin, Sem.run_bind, Sem.run_pure, Result.andThen_ok, List.map_toArray, List.map_cons, List.map_nil, hs, hx, hrun]
  exact h
theorem SlAt.one_drew (w : World) (u : Value) (E : TypeId) : SlAt (w.alloc (.cells #[u] E)).drew (some ⟨w.heap.size, 0, none⟩) [u] := (SlAt.one w u E).of ((Within.refl _).drew)
theorem run_app_float_drew (w : World) (base : Nat) (v : Value) (l : List Nat) (x : Nat) (hown : OwnF w base v l) (hl : (l.length + 1) * 8 ≤ 140737488355328) (hbase : base ≤ w.heap.size) :
    ∃ v' w', (Builtin.append_ #[62, 62] 62 #[v, .slice (some ⟨w.heap.size, 0, none⟩) 1 1]).run Tryz.prog (w.alloc (.cells #[.float .f64 x] 68)).drew = .ok v' w' ∧ OwnF w' base v' (l ++ [x]) ∧ Below base w w' := by
  obtain ⟨v', w', h1, h2, h3⟩ := run_app_f64 (w.alloc (.cells #[.float .f64 x] 68)).drew base v l [x] (hown.of (((Within.refl w).alloc _).drew)) (some ⟨w.heap.size, 0, none⟩) 1 (SlAt.one_drew w _ _) hl (by show base ≤ (w.alloc _).heap.size; simp; omega)
  exact ⟨v', w', h1, h2, (((Below.refl base w).alloc hbase _).drew).trans h3⟩
end Go.Proofs.YtpmjlaiafgbjgaaGreatDoor
end

section
namespace Go.Proofs.YtpmjlaiafgbjgaaGreatDoor
def crcBit (s : Nat) : Nat := if s % 2 = 1 then (s / 2) ^^^ 3988292384 else s / 2
def crcBits : Nat → Nat → Nat
  | 0, s => s
  | k + 1, s => crcBits k (crcBit s)
def crcStep (s c : Nat) : Nat := crcBits 8 (s ^^^ c)
def crcFold (s : Nat) (l : List Nat) : Nat := l.foldl crcStep s
def crcOf (l : List Nat) : Nat := crcFold 4294967295 l ^^^ 4294967295
def Bytes (l : List Nat) : Prop := ∀ c ∈ l, c < 256
def leVal : List Nat → Nat
  | [] => 0
  | c :: l => c + 256 * leVal l
def leBytes : Nat → Nat → List Nat
  | 0, _ => []
  | k + 1, x => x % 256 :: leBytes k (x / 256)
theorem xor32 {a b : Nat} (ha : a < 4294967296) (hb : b < 4294967296) : a ^^^ b < 4294967296 := Nat.xor_lt_two_pow (n := 32) ha hb
theorem crcBit_lt {s : Nat} (h : s < 4294967296) : crcBit s < 4294967296 := by
  unfold crcBit
  split
  · exact xor32 (by omega) (by decide)
  · omega
theorem crcBits_lt : ∀ (k : Nat) {s : Nat}, s < 4294967296 → crcBits k s < 4294967296
  | 0, _, h => h
  | k + 1, _, h => crcBits_lt k (crcBit_lt h)
theorem crcBits_add : ∀ (k j s : Nat), crcBits (k + j) s = crcBits j (crcBits k s)
  | 0, j, s => by rw [Nat.zero_add]; rfl
  | k + 1, j, s => by rw [Nat.add_right_comm]; exact crcBits_add k j (crcBit s)
theorem crcStep_lt {s c : Nat} (hs : s < 4294967296) (hc : c < 256) : crcStep s c < 4294967296 := crcBits_lt 8 (xor32 hs (by omega))
theorem crcFold_lt : ∀ {l : List Nat} {s : Nat}, s < 4294967296 → Bytes l → crcFold s l < 4294967296
  | [], _, h, _ => h
  | c :: l, _, h, hl => crcFold_lt (l := l) (crcStep_lt h (hl c (by simp))) (fun d hd => hl d (by simp [hd]))
theorem crcOf_lt {l : List Nat} (h : Bytes l) : crcOf l < 4294967296 := xor32 (crcFold_lt (by decide) h) (by decide)
theorem crcFold_append (s : Nat) (l m : List Nat) : crcFold s (l ++ m) = crcFold (crcFold s l) m := List.foldl_append ..
theorem leVal_lt : ∀ {l : List Nat}, Bytes l → leVal l < 2 ^ (8 * l.length)
  | [], _ => by decide
  | c :: l, h => by
    have h1 := leVal_lt (l := l) (fun d hd => h d (by simp [hd]))
    have h2 := h c (by simp)
    rw [List.length_cons, Nat.mul_succ, Nat.pow_add, show (2 : Nat) ^ 8 = 256 from rfl]
    show c + 256 * leVal l < _
    generalize 2 ^ (8 * l.length) = Z at *
    omega
theorem leVal_bytes : ∀ (k x : Nat), leVal (leBytes k x) = x % 256 ^ k
  | 0, x => by rw [Nat.pow_zero, Nat.mod_one]; rfl
  | k + 1, x => by
    show x % 256 + 256 * leVal (leBytes k (x / 256)) = _
    rw [leVal_bytes k, Nat.pow_succ, Nat.mul_comm (256 ^ k), Nat.mod_mul]
theorem leBytes_len : ∀ (k x : Nat), (leBytes k x).length = k
  | 0, _ => rfl
  | k + 1, x => by show _ + 1 = _; rw [leBytes_len k]
theorem leBytes_bytes : ∀ (k x : Nat), Bytes (leBytes k x)
  | 0, _ => fun c hc => by cases hc
  | k + 1, x => fun c hc => by
    rcases List.mem_cons.1 hc with rfl | h
    · omega
    · exact leBytes_bytes k _ c h
theorem leBytes_snoc : ∀ (k x : Nat), leBytes (k + 1) x = leBytes k x ++ [x / 256 ^ k % 256]
  | 0, x => by rw [Nat.pow_zero, Nat.div_one]; rfl
  | k + 1, x => by
    show x % 256 :: leBytes (k + 1) (x / 256) = (x % 256 :: leBytes k (x / 256)) ++ _
    rw [leBytes_snoc k (x / 256), Nat.div_div_eq_div_mul, Nat.pow_succ, Nat.mul_comm 256]; rfl
theorem leBytes_val : ∀ {l : List Nat}, Bytes l → leBytes l.length (leVal l) = l
  | [], _ => rfl
  | c :: l, h => by
    have h1 := leBytes_val (l := l) (fun d hd => h d (by simp [hd]))
    have h2 := h c (by simp)
    show (c + 256 * leVal l) % 256 :: leBytes l.length ((c + 256 * leVal l) / 256) = _
    rw [show (c + 256 * leVal l) % 256 = c by omega, show (c + 256 * leVal l) / 256 = leVal l by omega, h1]
theorem Bytes.take {l : List Nat} (h : Bytes l) (k : Nat) : Bytes (l.take k) := fun c hc => h c (List.mem_of_mem_take hc)
theorem Bytes.drop {l : List Nat} (h : Bytes l) (k : Nat) : Bytes (l.drop k) := fun c hc => h c (List.mem_of_mem_drop hc)
theorem Bytes.append {l m : List Nat} (h : Bytes l) (k : Bytes m) : Bytes (l ++ m) := fun c hc => (List.mem_append.1 hc).elim (h c) (k c)
end Go.Proofs.YtpmjlaiafgbjgaaGreatDoor
end

section
namespace Go.Proofs.YtpmjlaiafgbjgaaGreatDoor
structure Rd where
  sensor : Nat
  seq : Nat
  stamp : Nat
  vals : List Nat
structure Fl where
  fin : Nat → Bool
  isS : Nat → Bool
  nb : Nat → Nat
  wb : Nat → Nat
structure Fl.Ok (F : Fl) : Prop where
  thr : ∀ x, x < 18446744073709551616 → F.fin x = true → F.isS x = true → F.nb x < 4294967296 ∧ F.wb (F.nb x) = x
  back : ∀ u, u < 4294967296 → F.fin (F.wb u) = true → F.isS (F.wb u) = true ∧ F.nb (F.wb u) = u
  lt : ∀ u, u < 4294967296 → F.wb u < 18446744073709551616
variable (F : Fl)
def checkV (s : Int) (vals : List Nat) : Int := if s < 0 ∨ 64 ≤ s ∨ 6 < vals.length then 210 else if vals.all F.fin then 0 else 4
def bodyV (wide : Bool) (vals : List Nat) : List Nat := vals.flatMap fun x => if wide then leBytes 8 x else leBytes 4 (F.nb x)
def headV (wide : Bool) (s n q t : Nat) : List Nat := [181, 98, s, if wide then n + 128 else n] ++ leBytes 4 q ++ leBytes 4 t
def withSum (b : List Nat) : List Nat := b ++ leBytes 4 (crcOf b)
def packV (r : Rd) : List Nat := withSum (headV (!r.vals.all F.isS) r.sensor r.vals.length r.seq r.stamp ++ bodyV F (!r.vals.all F.isS) r.vals)
def szOf (c : Nat) : Nat := if 128 ≤ c then 16 + 8 * (c - 128) else 16 + 4 * c
def headB (b : List Nat) : Bool := b.getD 0 181 == 181 && b.getD 1 98 == 98 && decide (b.getD 2 0 < 64) && decide (b.getD 3 0 % 128 ≤ 6)
def rdVals (wide : Bool) : Nat → List Nat → List Nat
  | 0, _ => []
  | k + 1, v => (if wide then leVal (v.take 8) else F.wb (leVal (v.take 4))) :: rdVals wide k (v.drop (if wide then 8 else 4))
def wideB (b : List Nat) : Bool := decide (128 ≤ b.getD 3 0)
def sizeB (b : List Nat) : Bool := decide (4 ≤ b.length) && headB b && decide (b.length = szOf (b.getD 3 0))
def valsB (b : List Nat) : List Nat := rdVals F (wideB b) (b.getD 3 0 % 128) (b.drop 12)
def readB (b : List Nat) : Rd := ⟨b.getD 2 0, leVal ((b.drop 4).take 4), leVal ((b.drop 8).take 4), valsB F b⟩
def unpackE (b : List Nat) : Int :=
  if sizeB b = false then 211
  else if crcOf (b.take (b.length - 4)) ≠ leVal (b.drop (b.length - 4)) then 212
  else if (valsB F b).all F.fin = false ∨ wideB b = (valsB F b).all F.isS then 211 else 0
variable {F}
theorem getD_end {x : List Nat} {i d : Nat} (h : x.length ≤ i) : x.getD i d = d := by
  simp [List.getD, List.getElem?_eq_none h]
end Go.Proofs.YtpmjlaiafgbjgaaGreatDoor
end

section
namespace Go.Proofs.YtpmjlaiafgbjgaaGreatDoor
variable {F : Fl}
theorem leVal_leBytes {k x : Nat} (h : x < 256 ^ k) : leVal (leBytes k x) = x := by rw [leVal_bytes, Nat.mod_eq_of_lt h]
theorem leBytes_leVal {k : Nat} {l : List Nat} (h : Bytes l) (hk : l.length = k) : leBytes k (leVal l) = l := by subst hk; exact leBytes_val h
def stp (wide : Bool) : Nat := if wide then 8 else 4
theorem bodyV_cons (wide : Bool) (x : Nat) (l : List Nat) : bodyV F wide (x :: l) = (if wide then leBytes 8 x else leBytes 4 (F.nb x)) ++ bodyV F wide l := by
  unfold bodyV; rw [List.flatMap_cons]
theorem val_len (wide : Bool) (x : Nat) : (if wide then leBytes 8 x else leBytes 4 (F.nb x)).length = stp wide := by
  unfold stp; cases wide <;> exact leBytes_len _ _
theorem bodyV_len (wide : Bool) : ∀ l : List Nat, (bodyV F wide l).length = stp wide * l.length
  | [] => rfl
  | x :: l => by rw [bodyV_cons, List.length_append, val_len, bodyV_len wide l, List.length_cons, Nat.mul_succ, Nat.add_comm]
theorem bodyV_bytes (wide : Bool) : ∀ l : List Nat, Bytes (bodyV F wide l)
  | [] => fun c hc => by cases hc
  | x :: l => by
    rw [bodyV_cons]
    exact Bytes.append (by cases wide <;> exact leBytes_bytes _ _) (bodyV_bytes wide l)
theorem rdVals_len (wide : Bool) : ∀ (k : Nat) (v : List Nat), (rdVals F wide k v).length = k
  | 0, _ => rfl
  | k + 1, v => by show _ + 1 = _; rw [rdVals_len wide k]
theorem rdVals_lt (hF : F.Ok) (wide : Bool) : ∀ (k : Nat) (v : List Nat), Bytes v → ∀ x ∈ rdVals F wide k v, x < 18446744073709551616
  | 0, _, _, _, hx => by cases hx
  | k + 1, v, hb, x, hx => by
    rcases List.mem_cons.1 hx with rfl | h
    · have key : ∀ n, leVal (v.take n) < 2 ^ (8 * n) := fun n => Nat.lt_of_lt_of_le (leVal_lt (hb.take n)) (Nat.pow_le_pow_right (by decide) (by rw [List.length_take]; omega))
      cases wide with
      | false => exact hF.lt _ (key 4)
      | true => exact key 8
    · exact rdVals_lt hF wide k _ (hb.drop _) x h
theorem rdVals_snoc (wide : Bool) : ∀ (k : Nat) (v : List Nat), rdVals F wide (k + 1) v = rdVals F wide k v ++ [if wide then leVal ((v.drop (stp wide * k)).take 8) else F.wb (leVal ((v.drop (stp wide * k)).take 4))]
  | 0, v => by rw [Nat.mul_zero, List.drop_zero]; rfl
  | k + 1, v => by
    have e : rdVals F wide (k + 1 + 1) v = (if wide then leVal (v.take 8) else F.wb (leVal (v.take 4))) :: rdVals F wide (k + 1) (v.drop (stp wide)) := rfl
    rw [e, rdVals_snoc wide k, List.drop_drop, Nat.mul_succ, Nat.add_comm (stp wide)]; rfl
structure Rd.Ok (F : Fl) (r : Rd) : Prop where
  sensor : r.sensor < 64
  seq : r.seq < 4294967296
  stamp : r.stamp < 4294967296
  len : r.vals.length ≤ 6
  lt : ∀ x ∈ r.vals, x < 18446744073709551616
  fin : r.vals.all F.fin = true
theorem unpackE_parts {b : List Nat} (h : unpackE F b = 0) : sizeB b = true ∧ crcOf (b.take (b.length - 4)) = leVal (b.drop (b.length - 4)) ∧ (valsB F b).all F.fin = true ∧ wideB b = !(valsB F b).all F.isS := by
  unfold unpackE at h
  by_cases h1 : sizeB b = false
  · rw [if_pos h1] at h; cases h
  rw [if_neg h1] at h
  by_cases h2 : crcOf (b.take (b.length - 4)) ≠ leVal (b.drop (b.length - 4))
  · rw [if_pos h2] at h; cases h
  rw [if_neg h2] at h
  by_cases h3 : (valsB F b).all F.fin = false ∨ wideB b = (valsB F b).all F.isS
  · rw [if_pos h3] at h; cases h
  refine ⟨by simpa using h1, by simpa using h2, ?_, ?_⟩
  · cases hf : (valsB F b).all F.fin
    · exact absurd (.inl hf) h3
    · rfl
  · cases hw : wideB b <;> cases hS : (valsB F b).all F.isS
    · exact absurd (.inr (by rw [hw, hS])) h3
    · rfl
    · rfl
    · exact absurd (.inr (by rw [hw, hS])) h3
theorem sizeB_parts {b : List Nat} (h : sizeB b = true) : 4 ≤ b.length ∧ headB b = true ∧ b.length = szOf (b.getD 3 0) := by
  unfold sizeB at h
  simp only [Bool.and_eq_true, decide_eq_true_eq] at h
  exact ⟨h.1.1, h.1.2, h.2⟩
theorem headB_parts {b : List Nat} (h : headB b = true) : b.getD 0 181 = 181 ∧ b.getD 1 98 = 98 ∧ b.getD 2 0 < 64 ∧ b.getD 3 0 % 128 ≤ 6 := by
  unfold headB at h
  simp only [Bool.and_eq_true, beq_iff_eq, decide_eq_true_eq] at h
  exact ⟨h.1.1.1, h.1.1.2, h.1.2, h.2⟩
theorem Bytes.getD {b : List Nat} (h : Bytes b) (i : Nat) : b.getD i 0 < 256 := by
  rcases Nat.lt_or_ge i b.length with hi | hi
  · rw [List.getD, List.getElem?_eq_getElem hi]; exact h _ (List.getElem_mem hi)
  · rw [getD_end hi]; decide
theorem szOf_stp {c : Nat} (hc : c < 256) : szOf c = 16 + stp (decide (128 ≤ c)) * (c % 128) := by
  unfold szOf stp
  by_cases h : 128 ≤ c
  · rw [if_pos h, if_pos (decide_eq_true h)]; omega
  · rw [if_neg h, if_neg (by rw [decide_eq_false h]; decide)]; omega
theorem readB_ok (hF : F.Ok) {b : List Nat} (hb : Bytes b) (h : unpackE F b = 0) : (readB F b).Ok F := by
  obtain ⟨h1, h2, h3, h4⟩ := unpackE_parts h
  obtain ⟨s1, s2, s3⟩ := sizeB_parts h1
  obtain ⟨p1, p2, p3, p4⟩ := headB_parts s2
  have key : ∀ k, leVal ((b.drop k).take 4) < 4294967296 := fun k => by
    exact Nat.lt_of_lt_of_le (leVal_lt ((hb.drop k).take 4)) (by rw [show (4294967296 : Nat) = 2 ^ 32 from rfl]; exact Nat.pow_le_pow_right (by decide) (by rw [List.length_take]; omega))
  exact ⟨p3, key 4, key 8, by show (rdVals F _ _ _).length ≤ 6; rw [rdVals_len]; exact p4, rdVals_lt hF _ _ _ (hb.drop 12), h3⟩
/-! in a stream -/
end Go.Proofs.YtpmjlaiafgbjgaaGreatDoor
end
