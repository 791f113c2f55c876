/- What the law's walk rests on, part 2: contracts of functions and plain facts. -/
import Derived.Test.YtifgngmebnjfkaaGreatDoorRows
import Ieee.Arith
import Derived.WalkKit
import Derived.WalkSpells
import Derived.WalkLawsBesides
import Derived.BigQuiet
import Derived.Lib.Hide
import Derived.Lib.TrailingZeros
import Derived.Lib.BitFns
import Derived.Lib.Strings
import Derived.Lib.Slices
import Derived.Lib.Small
import Derived.Lib.Walk
import Derived.Deep.OwnRows
import Derived.OwnWalk
import Derived.LoopTactic
import Derived.Outline
import Derived.IntWalk
import Derived.OrdersHeld
import Derived.StillTail
import Derived.Deep.RegionHeld3
import Derived.Maps.AppendAt
import Derived.Deep.DeepCutAuto
import Derived.Deep.QuietTactic
import Derived.ProofKit
import Derived.OpenShut
import Derived.ShutString
import Derived.ChangeOld
import Derived.Below
import Derived.Deep.DeepHandedRow
import Derived.Deep.Strs
import Derived.Lib.LaidTab
import Derived.Test.YtifgngmebnjfkaaGreatDoorZSum1
set_option linter.unusedVariables false
set_option linter.unusedSimpArgs false
section
namespace Go.Proofs.YtifgngmebnjfkaaGreatDoor
open Go.RowKit
set_option maxRecDepth 100000 in
set_option maxHeartbeats 600000 in
theorem round_S_in0 (neg : Bool) (m L q Lq : Nat) (e k : Int) (mode : Int) (h1 : -20000 ≤ e) (h2 : e ≤ 20000) (hL : L ≤ 64) (hLq : Lq ≤ 64) (hk : max (e + (L : Int) - 24) (-149) = k) (LM : Hid (∀ w, Calls Tryz.prog 109 #[.int .u64 m] w fun e' w' => e' = .returned (.int .i64 (L : Nat)) ∧ w = w')) (DR : Hid (∀ w, Calls Tryz.prog 44 #[.agg #[.bool neg, .int .u64 m, .int .i64 e], .int .i64 (k - e), .int .i64 mode] w fun e' w' => e' = .returned (.tuple #[.int .u64 q, .bool false]) ∧ Within w w')) (LQ : Hid (∀ w, Calls Tryz.prog 109 #[.int .u64 q] w fun e' w' => e' = .returned (.int .i64 (Lq : Nat)) ∧ w = w')) (x y z : Nat) (hin : k + (Lq : Int) ≤ 128) (hcv : floatOfInt .f64 (q : Int) = x) (LD : Hid (∀ w, Calls Tryz.prog 58 #[.float .f64 x, .int .i64 k] w fun e' w' => e' = .returned (.float .f64 y) ∧ w = w')) (SG : Hid (∀ w, Calls Tryz.prog 45 #[.float .f64 y, .bool neg] w fun e' w' => e' = .returned (.float .f64 z) ∧ w = w')) (w : World) : Calls Tryz.prog 68 #[.agg #[.bool neg, .int .u64 m, .int .i64 e], .agg #[.int .i64 24, .int .i64 (-126), .int .i64 127], .int .i64 mode] w fun e' w' => e' = .returned (.tuple #[.float .f64 z, .int .i64 0]) ∧ Within w w' := by
  have kl : -20100 ≤ k := by omega
  have ku : k ≤ 20100 := by omega
  have gw1 : IntKind.i64.wrap (e + (L : Int)) = e + (L : Int) := by rw [IntKind.wrap_i64]; omega
  have gw2 : IntKind.i64.wrap (k + (Lq : Int)) = k + (Lq : Int) := by rw [IntKind.wrap_i64]; omega
  have gw3 : IntKind.i64.wrap 128 = 128 := by decide
  have hcv' := fun (w : World) => run_convert_int_float (P := Tryz.prog) w 33 34 .u64 .f64 (q : Int) (by kernel_rfl) (by kernel_rfl)
  rw [hcv] at hcv'
  have d : decide (k + (Lq : Int) ≤ 128) = true := decide_eq_true (by omega)
  clear hcv hin
  go_enter Tryz.func68, Tryz.ntmps68
  go_wp2
  refine wp_region_within (by kernel_rfl) (by kernel_rfl) ?_
  repeat
    apply wpq_step rfl
    · intro wq hCq
      have q0 : wq.cell? ⟨w.heap.size, 0, none⟩ = some (.bool neg) := (hCq.cells _ _ (by first | (simp; done) | (simp; omega) | omega)).trans (by simp)
      have q1 : wq.cell? ⟨w.heap.size, 1, none⟩ = some (.int .u64 m) := (hCq.cells _ _ (by first | (simp; done) | (simp; omega) | omega)).trans (by simp)
      have q2 : wq.cell? ⟨w.heap.size, 2, none⟩ = some (.int .i64 e) := (hCq.cells _ _ (by first | (simp; done) | (simp; omega) | omega)).trans (by simp)
      have q3 : wq.cell? ⟨(w.heap.size + 1), 0, none⟩ = some (.int .i64 (24)) := (hCq.cells _ _ (by first | (simp; done) | (simp; omega) | omega)).trans (by simp)
      have q4 : wq.cell? ⟨(w.heap.size + 1), 1, none⟩ = some (.int .i64 (-126)) := (hCq.cells _ _ (by first | (simp; done) | (simp; omega) | omega)).trans (by simp)
      have q5 : wq.cell? ⟨(w.heap.size + 1), 2, none⟩ = some (.int .i64 (127)) := (hCq.cells _ _ (by first | (simp; done) | (simp; omega) | omega)).trans (by simp)
      have qz : w.heap.size + 1 < wq.heap.size := World.block_lt_of_cell? _ _ q3
      go_simp
      first | rfl | exact hCq.same (LM.out _) | (trace_state; fail)
    simp only [Act.put, List.setIfInBounds_toArray, List.set_cons_zero, List.set_cons_succ]
  refine wpQuiet_nil ?_
  intro w1 hb1
  have r0 : w1.cell? ⟨w.heap.size, 0, none⟩ = some (.bool neg) := (hb1.cells _ _ (by first | (simp; done) | (simp; omega) | omega)).trans (by simp)
  have r1 : w1.cell? ⟨w.heap.size, 1, none⟩ = some (.int .u64 m) := (hb1.cells _ _ (by first | (simp; done) | (simp; omega) | omega)).trans (by simp)
  have r2 : w1.cell? ⟨w.heap.size, 2, none⟩ = some (.int .i64 e) := (hb1.cells _ _ (by first | (simp; done) | (simp; omega) | omega)).trans (by simp)
  have r3 : w1.cell? ⟨(w.heap.size + 1), 0, none⟩ = some (.int .i64 (24)) := (hb1.cells _ _ (by first | (simp; done) | (simp; omega) | omega)).trans (by simp)
  have r4 : w1.cell? ⟨(w.heap.size + 1), 1, none⟩ = some (.int .i64 (-126)) := (hb1.cells _ _ (by first | (simp; done) | (simp; omega) | omega)).trans (by simp)
  have r5 : w1.cell? ⟨(w.heap.size + 1), 2, none⟩ = some (.int .i64 (127)) := (hb1.cells _ _ (by first | (simp; done) | (simp; omega) | omega)).trans (by simp)
  have rz : w.heap.size + 1 < w1.heap.size := World.block_lt_of_cell? _ _ r3
  go_wp2_with fail
  refine (DR.out _).mono ?_; rintro e2 w2 ⟨rfl, hb2⟩
  have s0 : w2.cell? ⟨w.heap.size, 0, none⟩ = some (.bool neg) := (hb2.cells _ _ (by first | (simp; done) | (simp; omega) | omega)).trans r0
  have s1 : w2.cell? ⟨w.heap.size, 1, none⟩ = some (.int .u64 m) := (hb2.cells _ _ (by first | (simp; done) | (simp; omega) | omega)).trans r1
  have s2 : w2.cell? ⟨w.heap.size, 2, none⟩ = some (.int .i64 e) := (hb2.cells _ _ (by first | (simp; done) | (simp; omega) | omega)).trans r2
  have s3 : w2.cell? ⟨(w.heap.size + 1), 0, none⟩ = some (.int .i64 (24)) := (hb2.cells _ _ (by first | (simp; done) | (simp; omega) | omega)).trans r3
  have s4 : w2.cell? ⟨(w.heap.size + 1), 1, none⟩ = some (.int .i64 (-126)) := (hb2.cells _ _ (by first | (simp; done) | (simp; omega) | omega)).trans r4
  have s5 : w2.cell? ⟨(w.heap.size + 1), 2, none⟩ = some (.int .i64 (127)) := (hb2.cells _ _ (by first | (simp; done) | (simp; omega) | omega)).trans r5
  have sz : w.heap.size + 1 < w2.heap.size := World.block_lt_of_cell? _ _ s3
  clear r0 r1 r2 r3 r4 r5 rz
  go_wp2
  refine wp_region_within (by kernel_rfl) (by kernel_rfl) ?_
  repeat
    apply wpq_step rfl
    · intro wq hCq
      have q0 : wq.cell? ⟨w.heap.size, 0, none⟩ = some (.bool neg) := (hCq.cells _ _ (by first | (simp; done) | (simp; omega) | omega)).trans s0
      have q1 : wq.cell? ⟨w.heap.size, 1, none⟩ = some (.int .u64 m) := (hCq.cells _ _ (by first | (simp; done) | (simp; omega) | omega)).trans s1
      have q2 : wq.cell? ⟨w.heap.size, 2, none⟩ = some (.int .i64 e) := (hCq.cells _ _ (by first | (simp; done) | (simp; omega) | omega)).trans s2
      have q3 : wq.cell? ⟨(w.heap.size + 1), 0, none⟩ = some (.int .i64 (24)) := (hCq.cells _ _ (by first | (simp; done) | (simp; omega) | omega)).trans s3
      have q4 : wq.cell? ⟨(w.heap.size + 1), 1, none⟩ = some (.int .i64 (-126)) := (hCq.cells _ _ (by first | (simp; done) | (simp; omega) | omega)).trans s4
      have q5 : wq.cell? ⟨(w.heap.size + 1), 2, none⟩ = some (.int .i64 (127)) := (hCq.cells _ _ (by first | (simp; done) | (simp; omega) | omega)).trans s5
      have qz : w.heap.size + 1 < wq.heap.size := World.block_lt_of_cell? _ _ q3
      go_simp
      first | rfl | exact hCq.same (LQ.out _) | (trace_state; fail)
    simp only [Act.put, List.setIfInBounds_toArray, List.set_cons_zero, List.set_cons_succ]
  refine wpQuiet_nil ?_
  intro w3 hb3
  have t0 : w3.cell? ⟨w.heap.size, 0, none⟩ = some (.bool neg) := (hb3.cells _ _ (by first | (simp; done) | (simp; omega) | omega)).trans s0
  have t1 : w3.cell? ⟨w.heap.size, 1, none⟩ = some (.int .u64 m) := (hb3.cells _ _ (by first | (simp; done) | (simp; omega) | omega)).trans s1
  have t2 : w3.cell? ⟨w.heap.size, 2, none⟩ = some (.int .i64 e) := (hb3.cells _ _ (by first | (simp; done) | (simp; omega) | omega)).trans s2
  have t3 : w3.cell? ⟨(w.heap.size + 1), 0, none⟩ = some (.int .i64 (24)) := (hb3.cells _ _ (by first | (simp; done) | (simp; omega) | omega)).trans s3
  have t4 : w3.cell? ⟨(w.heap.size + 1), 1, none⟩ = some (.int .i64 (-126)) := (hb3.cells _ _ (by first | (simp; done) | (simp; omega) | omega)).trans s4
  have t5 : w3.cell? ⟨(w.heap.size + 1), 2, none⟩ = some (.int .i64 (127)) := (hb3.cells _ _ (by first | (simp; done) | (simp; omega) | omega)).trans s5
  have tz : w.heap.size + 1 < w3.heap.size := World.block_lt_of_cell? _ _ t3
  clear s0 s1 s2 s3 s4 s5 sz
  go_wp2
  refine wp_region_within (by kernel_rfl) (by kernel_rfl) ?_
  repeat
    apply wpq_step rfl
    · intro wq hCq
      have q0 : wq.cell? ⟨w.heap.size, 0, none⟩ = some (.bool neg) := (hCq.cells _ _ (by first | (simp; done) | (simp; omega) | omega)).trans t0
      have q1 : wq.cell? ⟨w.heap.size, 1, none⟩ = some (.int .u64 m) := (hCq.cells _ _ (by first | (simp; done) | (simp; omega) | omega)).trans t1
      have q2 : wq.cell? ⟨w.heap.size, 2, none⟩ = some (.int .i64 e) := (hCq.cells _ _ (by first | (simp; done) | (simp; omega) | omega)).trans t2
      have q3 : wq.cell? ⟨(w.heap.size + 1), 0, none⟩ = some (.int .i64 (24)) := (hCq.cells _ _ (by first | (simp; done) | (simp; omega) | omega)).trans t3
      have q4 : wq.cell? ⟨(w.heap.size + 1), 1, none⟩ = some (.int .i64 (-126)) := (hCq.cells _ _ (by first | (simp; done) | (simp; omega) | omega)).trans t4
      have q5 : wq.cell? ⟨(w.heap.size + 1), 2, none⟩ = some (.int .i64 (127)) := (hCq.cells _ _ (by first | (simp; done) | (simp; omega) | omega)).trans t5
      have qz : w.heap.size + 1 < wq.heap.size := World.block_lt_of_cell? _ _ q3
      go_simp
      first | rfl | exact hCq.same (LD.out _) | exact hCq.same (SG.out _) | (trace_state; fail)
    simp only [Act.put, List.setIfInBounds_toArray, List.set_cons_zero, List.set_cons_succ]
  refine wpQuiet_nil ?_
  intro w4 hb4
  go_wp2
  go_ret2
  exact ⟨rfl, (by repeat (with_reducible first | exact Within.refl _ | assumption | refine Within.alloc ?_ _ | refine Within.drew ?_ | refine Within.setCell ?_ (by first | (simp; done) | (simp; omega)) _ | refine Within.trans ?_ (by assumption)))⟩
set_option maxRecDepth 100000 in
set_option maxHeartbeats 600000 in
theorem round_S_in1 (neg : Bool) (m L q Lq : Nat) (e k : Int) (mode : Int) (h1 : -20000 ≤ e) (h2 : e ≤ 20000) (hL : L ≤ 64) (hLq : Lq ≤ 64) (hk : max (e + (L : Int) - 24) (-149) = k) (LM : Hid (∀ w, Calls Tryz.prog 109 #[.int .u64 m] w fun e' w' => e' = .returned (.int .i64 (L : Nat)) ∧ w = w')) (DR : Hid (∀ w, Calls Tryz.prog 44 #[.agg #[.bool neg, .int .u64 m, .int .i64 e], .int .i64 (k - e), .int .i64 mode] w fun e' w' => e' = .returned (.tuple #[.int .u64 q, .bool true]) ∧ Within w w')) (LQ : Hid (∀ w, Calls Tryz.prog 109 #[.int .u64 q] w fun e' w' => e' = .returned (.int .i64 (Lq : Nat)) ∧ w = w')) (x y z : Nat) (hin : k + (Lq : Int) ≤ 128) (hcv : floatOfInt .f64 (q : Int) = x) (LD : Hid (∀ w, Calls Tryz.prog 58 #[.float .f64 x, .int .i64 k] w fun e' w' => e' = .returned (.float .f64 y) ∧ w = w')) (SG : Hid (∀ w, Calls Tryz.prog 45 #[.float .f64 y, .bool neg] w fun e' w' => e' = .returned (.float .f64 z) ∧ w = w')) (hs : decide (e + (L : Int) - 1 < -126) = false) (w : World) : Calls Tryz.prog 68 #[.agg #[.bool neg, .int .u64 m, .int .i64 e], .agg #[.int .i64 24, .int .i64 (-126), .int .i64 127], .int .i64 mode] w fun e' w' => e' = .returned (.tuple #[.float .f64 z, .int .i64 1]) ∧ Within w w' := by
  have kl : -20100 ≤ k := by omega
  have ku : k ≤ 20100 := by omega
  have gw1 : IntKind.i64.wrap (e + (L : Int)) = e + (L : Int) := by rw [IntKind.wrap_i64]; omega
  have gw2 : IntKind.i64.wrap (k + (Lq : Int)) = k + (Lq : Int) := by rw [IntKind.wrap_i64]; omega
  have gw3 : IntKind.i64.wrap 128 = 128 := by decide
  have hcv' := fun (w : World) => run_convert_int_float (P := Tryz.prog) w 33 34 .u64 .f64 (q : Int) (by kernel_rfl) (by kernel_rfl)
  rw [hcv] at hcv'
  have d : decide (k + (Lq : Int) ≤ 128) = true := decide_eq_true (by omega)
  clear hcv hin
  go_enter Tryz.func68, Tryz.ntmps68
  go_wp2
  refine wp_region_within (by kernel_rfl) (by kernel_rfl) ?_
  repeat
    apply wpq_step rfl
    · intro wq hCq
      have q0 : wq.cell? ⟨w.heap.size, 0, none⟩ = some (.bool neg) := (hCq.cells _ _ (by first | (simp; done) | (simp; omega) | omega)).trans (by simp)
      have q1 : wq.cell? ⟨w.heap.size, 1, none⟩ = some (.int .u64 m) := (hCq.cells _ _ (by first | (simp; done) | (simp; omega) | omega)).trans (by simp)
      have q2 : wq.cell? ⟨w.heap.size, 2, none⟩ = some (.int .i64 e) := (hCq.cells _ _ (by first | (simp; done) | (simp; omega) | omega)).trans (by simp)
      have q3 : wq.cell? ⟨(w.heap.size + 1), 0, none⟩ = some (.int .i64 (24)) := (hCq.cells _ _ (by first | (simp; done) | (simp; omega) | omega)).trans (by simp)
      have q4 : wq.cell? ⟨(w.heap.size + 1), 1, none⟩ = some (.int .i64 (-126)) := (hCq.cells _ _ (by first | (simp; done) | (simp; omega) | omega)).trans (by simp)
      have q5 : wq.cell? ⟨(w.heap.size + 1), 2, none⟩ = some (.int .i64 (127)) := (hCq.cells _ _ (by first | (simp; done) | (simp; omega) | omega)).trans (by simp)
      have qz : w.heap.size + 1 < wq.heap.size := World.block_lt_of_cell? _ _ q3
      go_simp
      first | rfl | exact hCq.same (LM.out _) | (trace_state; fail)
    simp only [Act.put, List.setIfInBounds_toArray, List.set_cons_zero, List.set_cons_succ]
  refine wpQuiet_nil ?_
  intro w1 hb1
  have r0 : w1.cell? ⟨w.heap.size, 0, none⟩ = some (.bool neg) := (hb1.cells _ _ (by first | (simp; done) | (simp; omega) | omega)).trans (by simp)
  have r1 : w1.cell? ⟨w.heap.size, 1, none⟩ = some (.int .u64 m) := (hb1.cells _ _ (by first | (simp; done) | (simp; omega) | omega)).trans (by simp)
  have r2 : w1.cell? ⟨w.heap.size, 2, none⟩ = some (.int .i64 e) := (hb1.cells _ _ (by first | (simp; done) | (simp; omega) | omega)).trans (by simp)
  have r3 : w1.cell? ⟨(w.heap.size + 1), 0, none⟩ = some (.int .i64 (24)) := (hb1.cells _ _ (by first | (simp; done) | (simp; omega) | omega)).trans (by simp)
  have r4 : w1.cell? ⟨(w.heap.size + 1), 1, none⟩ = some (.int .i64 (-126)) := (hb1.cells _ _ (by first | (simp; done) | (simp; omega) | omega)).trans (by simp)
  have r5 : w1.cell? ⟨(w.heap.size + 1), 2, none⟩ = some (.int .i64 (127)) := (hb1.cells _ _ (by first | (simp; done) | (simp; omega) | omega)).trans (by simp)
  have rz : w.heap.size + 1 < w1.heap.size := World.block_lt_of_cell? _ _ r3
  go_wp2_with fail
  refine (DR.out _).mono ?_; rintro e2 w2 ⟨rfl, hb2⟩
  have s0 : w2.cell? ⟨w.heap.size, 0, none⟩ = some (.bool neg) := (hb2.cells _ _ (by first | (simp; done) | (simp; omega) | omega)).trans r0
  have s1 : w2.cell? ⟨w.heap.size, 1, none⟩ = some (.int .u64 m) := (hb2.cells _ _ (by first | (simp; done) | (simp; omega) | omega)).trans r1
  have s2 : w2.cell? ⟨w.heap.size, 2, none⟩ = some (.int .i64 e) := (hb2.cells _ _ (by first | (simp; done) | (simp; omega) | omega)).trans r2
  have s3 : w2.cell? ⟨(w.heap.size + 1), 0, none⟩ = some (.int .i64 (24)) := (hb2.cells _ _ (by first | (simp; done) | (simp; omega) | omega)).trans r3
  have s4 : w2.cell? ⟨(w.heap.size + 1), 1, none⟩ = some (.int .i64 (-126)) := (hb2.cells _ _ (by first | (simp; done) | (simp; omega) | omega)).trans r4
  have s5 : w2.cell? ⟨(w.heap.size + 1), 2, none⟩ = some (.int .i64 (127)) := (hb2.cells _ _ (by first | (simp; done) | (simp; omega) | omega)).trans r5
  have sz : w.heap.size + 1 < w2.heap.size := World.block_lt_of_cell? _ _ s3
  clear r0 r1 r2 r3 r4 r5 rz
  go_wp2
  refine wp_region_within (by kernel_rfl) (by kernel_rfl) ?_
  repeat
    apply wpq_step rfl
    · intro wq hCq
      have q0 : wq.cell? ⟨w.heap.size, 0, none⟩ = some (.bool neg) := (hCq.cells _ _ (by first | (simp; done) | (simp; omega) | omega)).trans s0
      have q1 : wq.cell? ⟨w.heap.size, 1, none⟩ = some (.int .u64 m) := (hCq.cells _ _ (by first | (simp; done) | (simp; omega) | omega)).trans s1
      have q2 : wq.cell? ⟨w.heap.size, 2, none⟩ = some (.int .i64 e) := (hCq.cells _ _ (by first | (simp; done) | (simp; omega) | omega)).trans s2
      have q3 : wq.cell? ⟨(w.heap.size + 1), 0, none⟩ = some (.int .i64 (24)) := (hCq.cells _ _ (by first | (simp; done) | (simp; omega) | omega)).trans s3
      have q4 : wq.cell? ⟨(w.heap.size + 1), 1, none⟩ = some (.int .i64 (-126)) := (hCq.cells _ _ (by first | (simp; done) | (simp; omega) | omega)).trans s4
      have q5 : wq.cell? ⟨(w.heap.size + 1), 2, none⟩ = some (.int .i64 (127)) := (hCq.cells _ _ (by first | (simp; done) | (simp; omega) | omega)).trans s5
      have qz : w.heap.size + 1 < wq.heap.size := World.block_lt_of_cell? _ _ q3
      go_simp
      first | rfl | exact hCq.same (LQ.out _) | (trace_state; fail)
    simp only [Act.put, List.setIfInBounds_toArray, List.set_cons_zero, List.set_cons_succ]
  refine wpQuiet_nil ?_
  intro w3 hb3
  have t0 : w3.cell? ⟨w.heap.size, 0, none⟩ = some (.bool neg) := (hb3.cells _ _ (by first | (simp; done) | (simp; omega) | omega)).trans s0
  have t1 : w3.cell? ⟨w.heap.size, 1, none⟩ = some (.int .u64 m) := (hb3.cells _ _ (by first | (simp; done) | (simp; omega) | omega)).trans s1
  have t2 : w3.cell? ⟨w.heap.size, 2, none⟩ = some (.int .i64 e) := (hb3.cells _ _ (by first | (simp; done) | (simp; omega) | omega)).trans s2
  have t3 : w3.cell? ⟨(w.heap.size + 1), 0, none⟩ = some (.int .i64 (24)) := (hb3.cells _ _ (by first | (simp; done) | (simp; omega) | omega)).trans s3
  have t4 : w3.cell? ⟨(w.heap.size + 1), 1, none⟩ = some (.int .i64 (-126)) := (hb3.cells _ _ (by first | (simp; done) | (simp; omega) | omega)).trans s4
  have t5 : w3.cell? ⟨(w.heap.size + 1), 2, none⟩ = some (.int .i64 (127)) := (hb3.cells _ _ (by first | (simp; done) | (simp; omega) | omega)).trans s5
  have tz : w.heap.size + 1 < w3.heap.size := World.block_lt_of_cell? _ _ t3
  clear s0 s1 s2 s3 s4 s5 sz
  go_wp2
  refine wp_region_within (by kernel_rfl) (by kernel_rfl) ?_
  repeat
    apply wpq_step rfl
    · intro wq hCq
      have q0 : wq.cell? ⟨w.heap.size, 0, none⟩ = some (.bool neg) := (hCq.cells _ _ (by first | (simp; done) | (simp; omega) | omega)).trans t0
      have q1 : wq.cell? ⟨w.heap.size, 1, none⟩ = some (.int .u64 m) := (hCq.cells _ _ (by first | (simp; done) | (simp; omega) | omega)).trans t1
      have q2 : wq.cell? ⟨w.heap.size, 2, none⟩ = some (.int .i64 e) := (hCq.cells _ _ (by first | (simp; done) | (simp; omega) | omega)).trans t2
      have q3 : wq.cell? ⟨(w.heap.size + 1), 0, none⟩ = some (.int .i64 (24)) := (hCq.cells _ _ (by first | (simp; done) | (simp; omega) | omega)).trans t3
      have q4 : wq.cell? ⟨(w.heap.size + 1), 1, none⟩ = some (.int .i64 (-126)) := (hCq.cells _ _ (by first | (simp; done) | (simp; omega) | omega)).trans t4
      have q5 : wq.cell? ⟨(w.heap.size + 1), 2, none⟩ = some (.int .i64 (127)) := (hCq.cells _ _ (by first | (simp; done) | (simp; omega) | omega)).trans t5
      have qz : w.heap.size + 1 < wq.heap.size := World.block_lt_of_cell? _ _ q3
      go_simp
      first | rfl | exact hCq.same (LD.out _) | exact hCq.same (SG.out _) | (trace_state; fail)
    simp only [Act.put, List.setIfInBounds_toArray, List.set_cons_zero, List.set_cons_succ]
  refine wpQuiet_nil ?_
  intro w4 hb4
  go_wp2
  go_ret2
  exact ⟨rfl, (by repeat (with_reducible first | exact Within.refl _ | assumption | refine Within.alloc ?_ _ | refine Within.drew ?_ | refine Within.setCell ?_ (by first | (simp; done) | (simp; omega)) _ | refine Within.trans ?_ (by assumption)))⟩
set_option maxRecDepth 100000 in
set_option maxHeartbeats 600000 in
theorem round_S_in3 (neg : Bool) (m L q Lq : Nat) (e k : Int) (mode : Int) (h1 : -20000 ≤ e) (h2 : e ≤ 20000) (hL : L ≤ 64) (hLq : Lq ≤ 64) (hk : max (e + (L : Int) - 24) (-149) = k) (LM : Hid (∀ w, Calls Tryz.prog 109 #[.int .u64 m] w fun e' w' => e' = .returned (.int .i64 (L : Nat)) ∧ w = w')) (DR : Hid (∀ w, Calls Tryz.prog 44 #[.agg #[.bool neg, .int .u64 m, .int .i64 e], .int .i64 (k - e), .int .i64 mode] w fun e' w' => e' = .returned (.tuple #[.int .u64 q, .bool true]) ∧ Within w w')) (LQ : Hid (∀ w, Calls Tryz.prog 109 #[.int .u64 q] w fun e' w' => e' = .returned (.int .i64 (Lq : Nat)) ∧ w = w')) (x y z : Nat) (hin : k + (Lq : Int) ≤ 128) (hcv : floatOfInt .f64 (q : Int) = x) (LD : Hid (∀ w, Calls Tryz.prog 58 #[.float .f64 x, .int .i64 k] w fun e' w' => e' = .returned (.float .f64 y) ∧ w = w')) (SG : Hid (∀ w, Calls Tryz.prog 45 #[.float .f64 y, .bool neg] w fun e' w' => e' = .returned (.float .f64 z) ∧ w = w')) (hs : decide (e + (L : Int) - 1 < -126) = true) (w : World) : Calls Tryz.prog 68 #[.agg #[.bool neg, .int .u64 m, .int .i64 e], .agg #[.int .i64 24, .int .i64 (-126), .int .i64 127], .int .i64 mode] w fun e' w' => e' = .returned (.tuple #[.float .f64 z, .int .i64 3]) ∧ Within w w' := by
  have kl : -20100 ≤ k := by omega
  have ku : k ≤ 20100 := by omega
  have gw1 : IntKind.i64.wrap (e + (L : Int)) = e + (L : Int) := by rw [IntKind.wrap_i64]; omega
  have gw2 : IntKind.i64.wrap (k + (Lq : Int)) = k + (Lq : Int) := by rw [IntKind.wrap_i64]; omega
  have gw3 : IntKind.i64.wrap 128 = 128 := by decide
  have hcv' := fun (w : World) => run_convert_int_float (P := Tryz.prog) w 33 34 .u64 .f64 (q : Int) (by kernel_rfl) (by kernel_rfl)
  rw [hcv] at hcv'
  have d : decide (k + (Lq : Int) ≤ 128) = true := decide_eq_true (by omega)
  clear hcv hin
  go_enter Tryz.func68, Tryz.ntmps68
  go_wp2
  refine wp_region_within (by kernel_rfl) (by kernel_rfl) ?_
  repeat
    apply wpq_step rfl
    · intro wq hCq
      have q0 : wq.cell? ⟨w.heap.size, 0, none⟩ = some (.bool neg) := (hCq.cells _ _ (by first | (simp; done) | (simp; omega) | omega)).trans (by simp)
      have q1 : wq.cell? ⟨w.heap.size, 1, none⟩ = some (.int .u64 m) := (hCq.cells _ _ (by first | (simp; done) | (simp; omega) | omega)).trans (by simp)
      have q2 : wq.cell? ⟨w.heap.size, 2, none⟩ = some (.int .i64 e) := (hCq.cells _ _ (by first | (simp; done) | (simp; omega) | omega)).trans (by simp)
      have q3 : wq.cell? ⟨(w.heap.size + 1), 0, none⟩ = some (.int .i64 (24)) := (hCq.cells _ _ (by first | (simp; done) | (simp; omega) | omega)).trans (by simp)
      have q4 : wq.cell? ⟨(w.heap.size + 1), 1, none⟩ = some (.int .i64 (-126)) := (hCq.cells _ _ (by first | (simp; done) | (simp; omega) | omega)).trans (by simp)
      have q5 : wq.cell? ⟨(w.heap.size + 1), 2, none⟩ = some (.int .i64 (127)) := (hCq.cells _ _ (by first | (simp; done) | (simp; omega) | omega)).trans (by simp)
      have qz : w.heap.size + 1 < wq.heap.size := World.block_lt_of_cell? _ _ q3
      go_simp
      first | rfl | exact hCq.same (LM.out _) | (trace_state; fail)
    simp only [Act.put, List.setIfInBounds_toArray, List.set_cons_zero, List.set_cons_succ]
  refine wpQuiet_nil ?_
  intro w1 hb1
  have r0 : w1.cell? ⟨w.heap.size, 0, none⟩ = some (.bool neg) := (hb1.cells _ _ (by first | (simp; done) | (simp; omega) | omega)).trans (by simp)
  have r1 : w1.cell? ⟨w.heap.size, 1, none⟩ = some (.int .u64 m) := (hb1.cells _ _ (by first | (simp; done) | (simp; omega) | omega)).trans (by simp)
  have r2 : w1.cell? ⟨w.heap.size, 2, none⟩ = some (.int .i64 e) := (hb1.cells _ _ (by first | (simp; done) | (simp; omega) | omega)).trans (by simp)
  have r3 : w1.cell? ⟨(w.heap.size + 1), 0, none⟩ = some (.int .i64 (24)) := (hb1.cells _ _ (by first | (simp; done) | (simp; omega) | omega)).trans (by simp)
  have r4 : w1.cell? ⟨(w.heap.size + 1), 1, none⟩ = some (.int .i64 (-126)) := (hb1.cells _ _ (by first | (simp; done) | (simp; omega) | omega)).trans (by simp)
  have r5 : w1.cell? ⟨(w.heap.size + 1), 2, none⟩ = some (.int .i64 (127)) := (hb1.cells _ _ (by first | (simp; done) | (simp; omega) | omega)).trans (by simp)
  have rz : w.heap.size + 1 < w1.heap.size := World.block_lt_of_cell? _ _ r3
  go_wp2_with fail
  refine (DR.out _).mono ?_; rintro e2 w2 ⟨rfl, hb2⟩
  have s0 : w2.cell? ⟨w.heap.size, 0, none⟩ = some (.bool neg) := (hb2.cells _ _ (by first | (simp; done) | (simp; omega) | omega)).trans r0
  have s1 : w2.cell? ⟨w.heap.size, 1, none⟩ = some (.int .u64 m) := (hb2.cells _ _ (by first | (simp; done) | (simp; omega) | omega)).trans r1
  have s2 : w2.cell? ⟨w.heap.size, 2, none⟩ = some (.int .i64 e) := (hb2.cells _ _ (by first | (simp; done) | (simp; omega) | omega)).trans r2
  have s3 : w2.cell? ⟨(w.heap.size + 1), 0, none⟩ = some (.int .i64 (24)) := (hb2.cells _ _ (by first | (simp; done) | (simp; omega) | omega)).trans r3
  have s4 : w2.cell? ⟨(w.heap.size + 1), 1, none⟩ = some (.int .i64 (-126)) := (hb2.cells _ _ (by first | (simp; done) | (simp; omega) | omega)).trans r4
  have s5 : w2.cell? ⟨(w.heap.size + 1), 2, none⟩ = some (.int .i64 (127)) := (hb2.cells _ _ (by first | (simp; done) | (simp; omega) | omega)).trans r5
  have sz : w.heap.size + 1 < w2.heap.size := World.block_lt_of_cell? _ _ s3
  clear r0 r1 r2 r3 r4 r5 rz
  go_wp2
  refine wp_region_within (by kernel_rfl) (by kernel_rfl) ?_
  repeat
    apply wpq_step rfl
    · intro wq hCq
      have q0 : wq.cell? ⟨w.heap.size, 0, none⟩ = some (.bool neg) := (hCq.cells _ _ (by first | (simp; done) | (simp; omega) | omega)).trans s0
      have q1 : wq.cell? ⟨w.heap.size, 1, none⟩ = some (.int .u64 m) := (hCq.cells _ _ (by first | (simp; done) | (simp; omega) | omega)).trans s1
      have q2 : wq.cell? ⟨w.heap.size, 2, none⟩ = some (.int .i64 e) := (hCq.cells _ _ (by first | (simp; done) | (simp; omega) | omega)).trans s2
      have q3 : wq.cell? ⟨(w.heap.size + 1), 0, none⟩ = some (.int .i64 (24)) := (hCq.cells _ _ (by first | (simp; done) | (simp; omega) | omega)).trans s3
      have q4 : wq.cell? ⟨(w.heap.size + 1), 1, none⟩ = some (.int .i64 (-126)) := (hCq.cells _ _ (by first | (simp; done) | (simp; omega) | omega)).trans s4
      have q5 : wq.cell? ⟨(w.heap.size + 1), 2, none⟩ = some (.int .i64 (127)) := (hCq.cells _ _ (by first | (simp; done) | (simp; omega) | omega)).trans s5
      have qz : w.heap.size + 1 < wq.heap.size := World.block_lt_of_cell? _ _ q3
      go_simp
      first | rfl | exact hCq.same (LQ.out _) | (trace_state; fail)
    simp only [Act.put, List.setIfInBounds_toArray, List.set_cons_zero, List.set_cons_succ]
  refine wpQuiet_nil ?_
  intro w3 hb3
  have t0 : w3.cell? ⟨w.heap.size, 0, none⟩ = some (.bool neg) := (hb3.cells _ _ (by first | (simp; done) | (simp; omega) | omega)).trans s0
  have t1 : w3.cell? ⟨w.heap.size, 1, none⟩ = some (.int .u64 m) := (hb3.cells _ _ (by first | (simp; done) | (simp; omega) | omega)).trans s1
  have t2 : w3.cell? ⟨w.heap.size, 2, none⟩ = some (.int .i64 e) := (hb3.cells _ _ (by first | (simp; done) | (simp; omega) | omega)).trans s2
  have t3 : w3.cell? ⟨(w.heap.size + 1), 0, none⟩ = some (.int .i64 (24)) := (hb3.cells _ _ (by first | (simp; done) | (simp; omega) | omega)).trans s3
  have t4 : w3.cell? ⟨(w.heap.size + 1), 1, none⟩ = some (.int .i64 (-126)) := (hb3.cells _ _ (by first | (simp; done) | (simp; omega) | omega)).trans s4
  have t5 : w3.cell? ⟨(w.heap.size + 1), 2, none⟩ = some (.int .i64 (127)) := (hb3.cells _ _ (by first | (simp; done) | (simp; omega) | omega)).trans s5
  have tz : w.heap.size + 1 < w3.heap.size := World.block_lt_of_cell? _ _ t3
  clear s0 s1 s2 s3 s4 s5 sz
  go_wp2
  refine wp_region_within (by kernel_rfl) (by kernel_rfl) ?_
  repeat
    apply wpq_step rfl
    · intro wq hCq
      have q0 : wq.cell? ⟨w.heap.size, 0, none⟩ = some (.bool neg) := (hCq.cells _ _ (by first | (simp; done) | (simp; omega) | omega)).trans t0
      have q1 : wq.cell? ⟨w.heap.size, 1, none⟩ = some (.int .u64 m) := (hCq.cells _ _ (by first | (simp; done) | (simp; omega) | omega)).trans t1
      have q2 : wq.cell? ⟨w.heap.size, 2, none⟩ = some (.int .i64 e) := (hCq.cells _ _ (by first | (simp; done) | (simp; omega) | omega)).trans t2
      have q3 : wq.cell? ⟨(w.heap.size + 1), 0, none⟩ = some (.int .i64 (24)) := (hCq.cells _ _ (by first | (simp; done) | (simp; omega) | omega)).trans t3
      have q4 : wq.cell? ⟨(w.heap.size + 1), 1, none⟩ = some (.int .i64 (-126)) := (hCq.cells _ _ (by first | (simp; done) | (simp; omega) | omega)).trans t4
      have q5 : wq.cell? ⟨(w.heap.size + 1), 2, none⟩ = some (.int .i64 (127)) := (hCq.cells _ _ (by first | (simp; done) | (simp; omega) | omega)).trans t5
      have qz : w.heap.size + 1 < wq.heap.size := World.block_lt_of_cell? _ _ q3
      go_simp
      first | rfl | exact hCq.same (LD.out _) | exact hCq.same (SG.out _) | (trace_state; fail)
    simp only [Act.put, List.setIfInBounds_toArray, List.set_cons_zero, List.set_cons_succ]
  refine wpQuiet_nil ?_
  intro w4 hb4
  go_wp2
  go_ret2
  exact ⟨rfl, (by repeat (with_reducible first | exact Within.refl _ | assumption | refine Within.alloc ?_ _ | refine Within.drew ?_ | refine Within.setCell ?_ (by first | (simp; done) | (simp; omega)) _ | refine Within.trans ?_ (by assumption)))⟩
set_option maxRecDepth 100000 in
set_option maxHeartbeats 600000 in
theorem round_S_top0_2 (neg : Bool) (m L q Lq : Nat) (e k : Int) (h1 : -20000 ≤ e) (h2 : e ≤ 20000) (hL : L ≤ 64) (hLq : Lq ≤ 64) (hk : max (e + (L : Int) - 24) (-149) = k) (LM : Hid (∀ w, Calls Tryz.prog 109 #[.int .u64 m] w fun e' w' => e' = .returned (.int .i64 (L : Nat)) ∧ w = w')) (DR : Hid (∀ w, Calls Tryz.prog 44 #[.agg #[.bool neg, .int .u64 m, .int .i64 e], .int .i64 (k - e), .int .i64 2] w fun e' w' => e' = .returned (.tuple #[.int .u64 q, .bool false]) ∧ Within w w')) (LQ : Hid (∀ w, Calls Tryz.prog 109 #[.int .u64 q] w fun e' w' => e' = .returned (.int .i64 (Lq : Nat)) ∧ w = w')) (x g z : Nat) (hin : 128 < k + (Lq : Int)) (hcv : floatOfInt .f64 (16777215 : Int) = x) (LD : Hid (∀ w, Calls Tryz.prog 58 #[.float .f64 x, .int .i64 104] w fun e' w' => e' = .returned (.float .f64 g) ∧ w = w'))  (SG : Hid (∀ w, Calls Tryz.prog 45 #[.float .f64 g, .bool neg] w fun e' w' => e' = .returned (.float .f64 z) ∧ w = w')) (w : World) : Calls Tryz.prog 68 #[.agg #[.bool neg, .int .u64 m, .int .i64 e], .agg #[.int .i64 24, .int .i64 (-126), .int .i64 127], .int .i64 2] w fun e' w' => e' = .returned (.tuple #[.float .f64 z, .int .i64 5]) ∧ Within w w' := by
  have kl : -20100 ≤ k := by omega
  have ku : k ≤ 20100 := by omega
  have gw1 : IntKind.i64.wrap (e + (L : Int)) = e + (L : Int) := by rw [IntKind.wrap_i64]; omega
  have gw2 : IntKind.i64.wrap (k + (Lq : Int)) = k + (Lq : Int) := by rw [IntKind.wrap_i64]; omega
  have gw3 : IntKind.i64.wrap 128 = 128 := by decide
  have hcv' := fun (w : World) => run_convert_int_float (P := Tryz.prog) w 33 34 .u64 .f64 (16777215 : Int) (by kernel_rfl) (by kernel_rfl)
  rw [hcv] at hcv'
  have d : decide (k + (Lq : Int) ≤ 128) = false := decide_eq_false (by omega)
  clear hcv hin
  go_enter Tryz.func68, Tryz.ntmps68
  go_wp2
  refine wp_region_within (by kernel_rfl) (by kernel_rfl) ?_
  repeat
    apply wpq_step rfl
    · intro wq hCq
      have q0 : wq.cell? ⟨w.heap.size, 0, none⟩ = some (.bool neg) := (hCq.cells _ _ (by first | (simp; done) | (simp; omega) | omega)).trans (by simp)
      have q1 : wq.cell? ⟨w.heap.size, 1, none⟩ = some (.int .u64 m) := (hCq.cells _ _ (by first | (simp; done) | (simp; omega) | omega)).trans (by simp)
      have q2 : wq.cell? ⟨w.heap.size, 2, none⟩ = some (.int .i64 e) := (hCq.cells _ _ (by first | (simp; done) | (simp; omega) | omega)).trans (by simp)
      have q3 : wq.cell? ⟨(w.heap.size + 1), 0, none⟩ = some (.int .i64 (24)) := (hCq.cells _ _ (by first | (simp; done) | (simp; omega) | omega)).trans (by simp)
      have q4 : wq.cell? ⟨(w.heap.size + 1), 1, none⟩ = some (.int .i64 (-126)) := (hCq.cells _ _ (by first | (simp; done) | (simp; omega) | omega)).trans (by simp)
      have q5 : wq.cell? ⟨(w.heap.size + 1), 2, none⟩ = some (.int .i64 (127)) := (hCq.cells _ _ (by first | (simp; done) | (simp; omega) | omega)).trans (by simp)
      have qz : w.heap.size + 1 < wq.heap.size := World.block_lt_of_cell? _ _ q3
      go_simp
      first | rfl | exact hCq.same (LM.out _) | (trace_state; fail)
    simp only [Act.put, List.setIfInBounds_toArray, List.set_cons_zero, List.set_cons_succ]
  refine wpQuiet_nil ?_
  intro w1 hb1
  have r0 : w1.cell? ⟨w.heap.size, 0, none⟩ = some (.bool neg) := (hb1.cells _ _ (by first | (simp; done) | (simp; omega) | omega)).trans (by simp)
  have r1 : w1.cell? ⟨w.heap.size, 1, none⟩ = some (.int .u64 m) := (hb1.cells _ _ (by first | (simp; done) | (simp; omega) | omega)).trans (by simp)
  have r2 : w1.cell? ⟨w.heap.size, 2, none⟩ = some (.int .i64 e) := (hb1.cells _ _ (by first | (simp; done) | (simp; omega) | omega)).trans (by simp)
  have r3 : w1.cell? ⟨(w.heap.size + 1), 0, none⟩ = some (.int .i64 (24)) := (hb1.cells _ _ (by first | (simp; done) | (simp; omega) | omega)).trans (by simp)
  have r4 : w1.cell? ⟨(w.heap.size + 1), 1, none⟩ = some (.int .i64 (-126)) := (hb1.cells _ _ (by first | (simp; done) | (simp; omega) | omega)).trans (by simp)
  have r5 : w1.cell? ⟨(w.heap.size + 1), 2, none⟩ = some (.int .i64 (127)) := (hb1.cells _ _ (by first | (simp; done) | (simp; omega) | omega)).trans (by simp)
  have rz : w.heap.size + 1 < w1.heap.size := World.block_lt_of_cell? _ _ r3
  go_wp2_with fail
  refine (DR.out _).mono ?_; rintro e2 w2 ⟨rfl, hb2⟩
  have s0 : w2.cell? ⟨w.heap.size, 0, none⟩ = some (.bool neg) := (hb2.cells _ _ (by first | (simp; done) | (simp; omega) | omega)).trans r0
  have s1 : w2.cell? ⟨w.heap.size, 1, none⟩ = some (.int .u64 m) := (hb2.cells _ _ (by first | (simp; done) | (simp; omega) | omega)).trans r1
  have s2 : w2.cell? ⟨w.heap.size, 2, none⟩ = some (.int .i64 e) := (hb2.cells _ _ (by first | (simp; done) | (simp; omega) | omega)).trans r2
  have s3 : w2.cell? ⟨(w.heap.size + 1), 0, none⟩ = some (.int .i64 (24)) := (hb2.cells _ _ (by first | (simp; done) | (simp; omega) | omega)).trans r3
  have s4 : w2.cell? ⟨(w.heap.size + 1), 1, none⟩ = some (.int .i64 (-126)) := (hb2.cells _ _ (by first | (simp; done) | (simp; omega) | omega)).trans r4
  have s5 : w2.cell? ⟨(w.heap.size + 1), 2, none⟩ = some (.int .i64 (127)) := (hb2.cells _ _ (by first | (simp; done) | (simp; omega) | omega)).trans r5
  have sz : w.heap.size + 1 < w2.heap.size := World.block_lt_of_cell? _ _ s3
  clear r0 r1 r2 r3 r4 r5 rz
  go_wp2
  refine wp_region_within (by kernel_rfl) (by kernel_rfl) ?_
  repeat
    apply wpq_step rfl
    · intro wq hCq
      have q0 : wq.cell? ⟨w.heap.size, 0, none⟩ = some (.bool neg) := (hCq.cells _ _ (by first | (simp; done) | (simp; omega) | omega)).trans s0
      have q1 : wq.cell? ⟨w.heap.size, 1, none⟩ = some (.int .u64 m) := (hCq.cells _ _ (by first | (simp; done) | (simp; omega) | omega)).trans s1
      have q2 : wq.cell? ⟨w.heap.size, 2, none⟩ = some (.int .i64 e) := (hCq.cells _ _ (by first | (simp; done) | (simp; omega) | omega)).trans s2
      have q3 : wq.cell? ⟨(w.heap.size + 1), 0, none⟩ = some (.int .i64 (24)) := (hCq.cells _ _ (by first | (simp; done) | (simp; omega) | omega)).trans s3
      have q4 : wq.cell? ⟨(w.heap.size + 1), 1, none⟩ = some (.int .i64 (-126)) := (hCq.cells _ _ (by first | (simp; done) | (simp; omega) | omega)).trans s4
      have q5 : wq.cell? ⟨(w.heap.size + 1), 2, none⟩ = some (.int .i64 (127)) := (hCq.cells _ _ (by first | (simp; done) | (simp; omega) | omega)).trans s5
      have qz : w.heap.size + 1 < wq.heap.size := World.block_lt_of_cell? _ _ q3
      go_simp
      first | rfl | exact hCq.same (LQ.out _) | (trace_state; fail)
    simp only [Act.put, List.setIfInBounds_toArray, List.set_cons_zero, List.set_cons_succ]
  refine wpQuiet_nil ?_
  intro w3 hb3
  have t0 : w3.cell? ⟨w.heap.size, 0, none⟩ = some (.bool neg) := (hb3.cells _ _ (by first | (simp; done) | (simp; omega) | omega)).trans s0
  have t1 : w3.cell? ⟨w.heap.size, 1, none⟩ = some (.int .u64 m) := (hb3.cells _ _ (by first | (simp; done) | (simp; omega) | omega)).trans s1
  have t2 : w3.cell? ⟨w.heap.size, 2, none⟩ = some (.int .i64 e) := (hb3.cells _ _ (by first | (simp; done) | (simp; omega) | omega)).trans s2
  have t3 : w3.cell? ⟨(w.heap.size + 1), 0, none⟩ = some (.int .i64 (24)) := (hb3.cells _ _ (by first | (simp; done) | (simp; omega) | omega)).trans s3
  have t4 : w3.cell? ⟨(w.heap.size + 1), 1, none⟩ = some (.int .i64 (-126)) := (hb3.cells _ _ (by first | (simp; done) | (simp; omega) | omega)).trans s4
  have t5 : w3.cell? ⟨(w.heap.size + 1), 2, none⟩ = some (.int .i64 (127)) := (hb3.cells _ _ (by first | (simp; done) | (simp; omega) | omega)).trans s5
  have tz : w.heap.size + 1 < w3.heap.size := World.block_lt_of_cell? _ _ t3
  clear s0 s1 s2 s3 s4 s5 sz
  go_wp2_with fail
  refine (LD.out _).mono ?_; rintro e4 w4 ⟨rfl, rfl⟩
  go_wp2_with fail
  refine (SG.out _).mono ?_; rintro e5 w5 ⟨rfl, rfl⟩
  go_wp2
  go_ret2
  exact ⟨rfl, (by repeat (with_reducible first | exact Within.refl _ | assumption | refine Within.alloc ?_ _ | refine Within.drew ?_ | refine Within.setCell ?_ (by first | (simp; done) | (simp; omega)) _ | refine Within.trans ?_ (by assumption)))⟩
set_option maxRecDepth 100000 in
set_option maxHeartbeats 600000 in
theorem round_S_top0_3 (m L q Lq : Nat) (e k : Int) (h1 : -20000 ≤ e) (h2 : e ≤ 20000) (hL : L ≤ 64) (hLq : Lq ≤ 64) (hk : max (e + (L : Int) - 24) (-149) = k) (LM : Hid (∀ w, Calls Tryz.prog 109 #[.int .u64 m] w fun e' w' => e' = .returned (.int .i64 (L : Nat)) ∧ w = w')) (DR : Hid (∀ w, Calls Tryz.prog 44 #[.agg #[.bool true, .int .u64 m, .int .i64 e], .int .i64 (k - e), .int .i64 3] w fun e' w' => e' = .returned (.tuple #[.int .u64 q, .bool false]) ∧ Within w w')) (LQ : Hid (∀ w, Calls Tryz.prog 109 #[.int .u64 q] w fun e' w' => e' = .returned (.int .i64 (Lq : Nat)) ∧ w = w')) (x g z : Nat) (hin : 128 < k + (Lq : Int)) (hcv : floatOfInt .f64 (16777215 : Int) = x) (LD : Hid (∀ w, Calls Tryz.prog 58 #[.float .f64 x, .int .i64 104] w fun e' w' => e' = .returned (.float .f64 g) ∧ w = w'))  (SG : Hid (∀ w, Calls Tryz.prog 45 #[.float .f64 g, .bool true] w fun e' w' => e' = .returned (.float .f64 z) ∧ w = w')) (w : World) : Calls Tryz.prog 68 #[.agg #[.bool true, .int .u64 m, .int .i64 e], .agg #[.int .i64 24, .int .i64 (-126), .int .i64 127], .int .i64 3] w fun e' w' => e' = .returned (.tuple #[.float .f64 z, .int .i64 5]) ∧ Within w w' := by
  have kl : -20100 ≤ k := by omega
  have ku : k ≤ 20100 := by omega
  have gw1 : IntKind.i64.wrap (e + (L : Int)) = e + (L : Int) := by rw [IntKind.wrap_i64]; omega
  have gw2 : IntKind.i64.wrap (k + (Lq : Int)) = k + (Lq : Int) := by rw [IntKind.wrap_i64]; omega
  have gw3 : IntKind.i64.wrap 128 = 128 := by decide
  have hcv' := fun (w : World) => run_convert_int_float (P := Tryz.prog) w 33 34 .u64 .f64 (16777215 : Int) (by kernel_rfl) (by kernel_rfl)
  rw [hcv] at hcv'
  have d : decide (k + (Lq : Int) ≤ 128) = false := decide_eq_false (by omega)
  clear hcv hin
  go_enter Tryz.func68, Tryz.ntmps68
  go_wp2
  refine wp_region_within (by kernel_rfl) (by kernel_rfl) ?_
  repeat
    apply wpq_step rfl
    · intro wq hCq
      have q0 : wq.cell? ⟨w.heap.size, 0, none⟩ = some (.bool true) := (hCq.cells _ _ (by first | (simp; done) | (simp; omega) | omega)).trans (by simp)
      have q1 : wq.cell? ⟨w.heap.size, 1, none⟩ = some (.int .u64 m) := (hCq.cells _ _ (by first | (simp; done) | (simp; omega) | omega)).trans (by simp)
      have q2 : wq.cell? ⟨w.heap.size, 2, none⟩ = some (.int .i64 e) := (hCq.cells _ _ (by first | (simp; done) | (simp; omega) | omega)).trans (by simp)
      have q3 : wq.cell? ⟨(w.heap.size + 1), 0, none⟩ = some (.int .i64 (24)) := (hCq.cells _ _ (by first | (simp; done) | (simp; omega) | omega)).trans (by simp)
      have q4 : wq.cell? ⟨(w.heap.size + 1), 1, none⟩ = some (.int .i64 (-126)) := (hCq.cells _ _ (by first | (simp; done) | (simp; omega) | omega)).trans (by simp)
      have q5 : wq.cell? ⟨(w.heap.size + 1), 2, none⟩ = some (.int .i64 (127)) := (hCq.cells _ _ (by first | (simp; done) | (simp; omega) | omega)).trans (by simp)
      have qz : w.heap.size + 1 < wq.heap.size := World.block_lt_of_cell? _ _ q3
      go_simp
      first | rfl | exact hCq.same (LM.out _) | (trace_state; fail)
    simp only [Act.put, List.setIfInBounds_toArray, List.set_cons_zero, List.set_cons_succ]
  refine wpQuiet_nil ?_
  intro w1 hb1
  have r0 : w1.cell? ⟨w.heap.size, 0, none⟩ = some (.bool true) := (hb1.cells _ _ (by first | (simp; done) | (simp; omega) | omega)).trans (by simp)
  have r1 : w1.cell? ⟨w.heap.size, 1, none⟩ = some (.int .u64 m) := (hb1.cells _ _ (by first | (simp; done) | (simp; omega) | omega)).trans (by simp)
  have r2 : w1.cell? ⟨w.heap.size, 2, none⟩ = some (.int .i64 e) := (hb1.cells _ _ (by first | (simp; done) | (simp; omega) | omega)).trans (by simp)
  have r3 : w1.cell? ⟨(w.heap.size + 1), 0, none⟩ = some (.int .i64 (24)) := (hb1.cells _ _ (by first | (simp; done) | (simp; omega) | omega)).trans (by simp)
  have r4 : w1.cell? ⟨(w.heap.size + 1), 1, none⟩ = some (.int .i64 (-126)) := (hb1.cells _ _ (by first | (simp; done) | (simp; omega) | omega)).trans (by simp)
  have r5 : w1.cell? ⟨(w.heap.size + 1), 2, none⟩ = some (.int .i64 (127)) := (hb1.cells _ _ (by first | (simp; done) | (simp; omega) | omega)).trans (by simp)
  have rz : w.heap.size + 1 < w1.heap.size := World.block_lt_of_cell? _ _ r3
  go_wp2_with fail
  refine (DR.out _).mono ?_; rintro e2 w2 ⟨rfl, hb2⟩
  have s0 : w2.cell? ⟨w.heap.size, 0, none⟩ = some (.bool true) := (hb2.cells _ _ (by first | (simp; done) | (simp; omega) | omega)).trans r0
  have s1 : w2.cell? ⟨w.heap.size, 1, none⟩ = some (.int .u64 m) := (hb2.cells _ _ (by first | (simp; done) | (simp; omega) | omega)).trans r1
  have s2 : w2.cell? ⟨w.heap.size, 2, none⟩ = some (.int .i64 e) := (hb2.cells _ _ (by first | (simp; done) | (simp; omega) | omega)).trans r2
  have s3 : w2.cell? ⟨(w.heap.size + 1), 0, none⟩ = some (.int .i64 (24)) := (hb2.cells _ _ (by first | (simp; done) | (simp; omega) | omega)).trans r3
  have s4 : w2.cell? ⟨(w.heap.size + 1), 1, none⟩ = some (.int .i64 (-126)) := (hb2.cells _ _ (by first | (simp; done) | (simp; omega) | omega)).trans r4
  have s5 : w2.cell? ⟨(w.heap.size + 1), 2, none⟩ = some (.int .i64 (127)) := (hb2.cells _ _ (by first | (simp; done) | (simp; omega) | omega)).trans r5
  have sz : w.heap.size + 1 < w2.heap.size := World.block_lt_of_cell? _ _ s3
  clear r0 r1 r2 r3 r4 r5 rz
  go_wp2
  refine wp_region_within (by kernel_rfl) (by kernel_rfl) ?_
  repeat
    apply wpq_step rfl
    · intro wq hCq
      have q0 : wq.cell? ⟨w.heap.size, 0, none⟩ = some (.bool true) := (hCq.cells _ _ (by first | (simp; done) | (simp; omega) | omega)).trans s0
      have q1 : wq.cell? ⟨w.heap.size, 1, none⟩ = some (.int .u64 m) := (hCq.cells _ _ (by first | (simp; done) | (simp; omega) | omega)).trans s1
      have q2 : wq.cell? ⟨w.heap.size, 2, none⟩ = some (.int .i64 e) := (hCq.cells _ _ (by first | (simp; done) | (simp; omega) | omega)).trans s2
      have q3 : wq.cell? ⟨(w.heap.size + 1), 0, none⟩ = some (.int .i64 (24)) := (hCq.cells _ _ (by first | (simp; done) | (simp; omega) | omega)).trans s3
      have q4 : wq.cell? ⟨(w.heap.size + 1), 1, none⟩ = some (.int .i64 (-126)) := (hCq.cells _ _ (by first | (simp; done) | (simp; omega) | omega)).trans s4
      have q5 : wq.cell? ⟨(w.heap.size + 1), 2, none⟩ = some (.int .i64 (127)) := (hCq.cells _ _ (by first | (simp; done) | (simp; omega) | omega)).trans s5
      have qz : w.heap.size + 1 < wq.heap.size := World.block_lt_of_cell? _ _ q3
      go_simp
      first | rfl | exact hCq.same (LQ.out _) | (trace_state; fail)
    simp only [Act.put, List.setIfInBounds_toArray, List.set_cons_zero, List.set_cons_succ]
  refine wpQuiet_nil ?_
  intro w3 hb3
  have t0 : w3.cell? ⟨w.heap.size, 0, none⟩ = some (.bool true) := (hb3.cells _ _ (by first | (simp; done) | (simp; omega) | omega)).trans s0
  have t1 : w3.cell? ⟨w.heap.size, 1, none⟩ = some (.int .u64 m) := (hb3.cells _ _ (by first | (simp; done) | (simp; omega) | omega)).trans s1
  have t2 : w3.cell? ⟨w.heap.size, 2, none⟩ = some (.int .i64 e) := (hb3.cells _ _ (by first | (simp; done) | (simp; omega) | omega)).trans s2
  have t3 : w3.cell? ⟨(w.heap.size + 1), 0, none⟩ = some (.int .i64 (24)) := (hb3.cells _ _ (by first | (simp; done) | (simp; omega) | omega)).trans s3
  have t4 : w3.cell? ⟨(w.heap.size + 1), 1, none⟩ = some (.int .i64 (-126)) := (hb3.cells _ _ (by first | (simp; done) | (simp; omega) | omega)).trans s4
  have t5 : w3.cell? ⟨(w.heap.size + 1), 2, none⟩ = some (.int .i64 (127)) := (hb3.cells _ _ (by first | (simp; done) | (simp; omega) | omega)).trans s5
  have tz : w.heap.size + 1 < w3.heap.size := World.block_lt_of_cell? _ _ t3
  clear s0 s1 s2 s3 s4 s5 sz
  go_wp2_with fail
  refine (LD.out _).mono ?_; rintro e4 w4 ⟨rfl, rfl⟩
  go_wp2_with fail
  refine (SG.out _).mono ?_; rintro e5 w5 ⟨rfl, rfl⟩
  go_wp2
  go_ret2
  exact ⟨rfl, (by repeat (with_reducible first | exact Within.refl _ | assumption | refine Within.alloc ?_ _ | refine Within.drew ?_ | refine Within.setCell ?_ (by first | (simp; done) | (simp; omega)) _ | refine Within.trans ?_ (by assumption)))⟩
set_option maxRecDepth 100000 in
set_option maxHeartbeats 600000 in
theorem round_S_top0_4 (m L q Lq : Nat) (e k : Int) (h1 : -20000 ≤ e) (h2 : e ≤ 20000) (hL : L ≤ 64) (hLq : Lq ≤ 64) (hk : max (e + (L : Int) - 24) (-149) = k) (LM : Hid (∀ w, Calls Tryz.prog 109 #[.int .u64 m] w fun e' w' => e' = .returned (.int .i64 (L : Nat)) ∧ w = w')) (DR : Hid (∀ w, Calls Tryz.prog 44 #[.agg #[.bool false, .int .u64 m, .int .i64 e], .int .i64 (k - e), .int .i64 4] w fun e' w' => e' = .returned (.tuple #[.int .u64 q, .bool false]) ∧ Within w w')) (LQ : Hid (∀ w, Calls Tryz.prog 109 #[.int .u64 q] w fun e' w' => e' = .returned (.int .i64 (Lq : Nat)) ∧ w = w')) (x g z : Nat) (hin : 128 < k + (Lq : Int)) (hcv : floatOfInt .f64 (16777215 : Int) = x) (LD : Hid (∀ w, Calls Tryz.prog 58 #[.float .f64 x, .int .i64 104] w fun e' w' => e' = .returned (.float .f64 g) ∧ w = w'))  (SG : Hid (∀ w, Calls Tryz.prog 45 #[.float .f64 g, .bool false] w fun e' w' => e' = .returned (.float .f64 z) ∧ w = w')) (w : World) : Calls Tryz.prog 68 #[.agg #[.bool false, .int .u64 m, .int .i64 e], .agg #[.int .i64 24, .int .i64 (-126), .int .i64 127], .int .i64 4] w fun e' w' => e' = .returned (.tuple #[.float .f64 z, .int .i64 5]) ∧ Within w w' := by
  have kl : -20100 ≤ k := by omega
  have ku : k ≤ 20100 := by omega
  have gw1 : IntKind.i64.wrap (e + (L : Int)) = e + (L : Int) := by rw [IntKind.wrap_i64]; omega
  have gw2 : IntKind.i64.wrap (k + (Lq : Int)) = k + (Lq : Int) := by rw [IntKind.wrap_i64]; omega
  have gw3 : IntKind.i64.wrap 128 = 128 := by decide
  have hcv' := fun (w : World) => run_convert_int_float (P := Tryz.prog) w 33 34 .u64 .f64 (16777215 : Int) (by kernel_rfl) (by kernel_rfl)
  rw [hcv] at hcv'
  have d : decide (k + (Lq : Int) ≤ 128) = false := decide_eq_false (by omega)
  clear hcv hin
  go_enter Tryz.func68, Tryz.ntmps68
  go_wp2
  refine wp_region_within (by kernel_rfl) (by kernel_rfl) ?_
  repeat
    apply wpq_step rfl
    · intro wq hCq
      have q0 : wq.cell? ⟨w.heap.size, 0, none⟩ = some (.bool false) := (hCq.cells _ _ (by first | (simp; done) | (simp; omega) | omega)).trans (by simp)
      have q1 : wq.cell? ⟨w.heap.size, 1, none⟩ = some (.int .u64 m) := (hCq.cells _ _ (by first | (simp; done) | (simp; omega) | omega)).trans (by simp)
      have q2 : wq.cell? ⟨w.heap.size, 2, none⟩ = some (.int .i64 e) := (hCq.cells _ _ (by first | (simp; done) | (simp; omega) | omega)).trans (by simp)
      have q3 : wq.cell? ⟨(w.heap.size + 1), 0, none⟩ = some (.int .i64 (24)) := (hCq.cells _ _ (by first | (simp; done) | (simp; omega) | omega)).trans (by simp)
      have q4 : wq.cell? ⟨(w.heap.size + 1), 1, none⟩ = some (.int .i64 (-126)) := (hCq.cells _ _ (by first | (simp; done) | (simp; omega) | omega)).trans (by simp)
      have q5 : wq.cell? ⟨(w.heap.size + 1), 2, none⟩ = some (.int .i64 (127)) := (hCq.cells _ _ (by first | (simp; done) | (simp; omega) | omega)).trans (by simp)
      have qz : w.heap.size + 1 < wq.heap.size := World.block_lt_of_cell? _ _ q3
      go_simp
      first | rfl | exact hCq.same (LM.out _) | (trace_state; fail)
    simp only [Act.put, List.setIfInBounds_toArray, List.set_cons_zero, List.set_cons_succ]
  refine wpQuiet_nil ?_
  intro w1 hb1
  have r0 : w1.cell? ⟨w.heap.size, 0, none⟩ = some (.bool false) := (hb1.cells _ _ (by first | (simp; done) | (simp; omega) | omega)).trans (by simp)
  have r1 : w1.cell? ⟨w.heap.size, 1, none⟩ = some (.int .u64 m) := (hb1.cells _ _ (by first | (simp; done) | (simp; omega) | omega)).trans (by simp)
  have r2 : w1.cell? ⟨w.heap.size, 2, none⟩ = some (.int .i64 e) := (hb1.cells _ _ (by first | (simp; done) | (simp; omega) | omega)).trans (by simp)
  have r3 : w1.cell? ⟨(w.heap.size + 1), 0, none⟩ = some (.int .i64 (24)) := (hb1.cells _ _ (by first | (simp; done) | (simp; omega) | omega)).trans (by simp)
  have r4 : w1.cell? ⟨(w.heap.size + 1), 1, none⟩ = some (.int .i64 (-126)) := (hb1.cells _ _ (by first | (simp; done) | (simp; omega) | omega)).trans (by simp)
  have r5 : w1.cell? ⟨(w.heap.size + 1), 2, none⟩ = some (.int .i64 (127)) := (hb1.cells _ _ (by first | (simp; done) | (simp; omega) | omega)).trans (by simp)
  have rz : w.heap.size + 1 < w1.heap.size := World.block_lt_of_cell? _ _ r3
  go_wp2_with fail
  refine (DR.out _).mono ?_; rintro e2 w2 ⟨rfl, hb2⟩
  have s0 : w2.cell? ⟨w.heap.size, 0, none⟩ = some (.bool false) := (hb2.cells _ _ (by first | (simp; done) | (simp; omega) | omega)).trans r0
  have s1 : w2.cell? ⟨w.heap.size, 1, none⟩ = some (.int .u64 m) := (hb2.cells _ _ (by first | (simp; done) | (simp; omega) | omega)).trans r1
  have s2 : w2.cell? ⟨w.heap.size, 2, none⟩ = some (.int .i64 e) := (hb2.cells _ _ (by first | (simp; done) | (simp; omega) | omega)).trans r2
  have s3 : w2.cell? ⟨(w.heap.size + 1), 0, none⟩ = some (.int .i64 (24)) := (hb2.cells _ _ (by first | (simp; done) | (simp; omega) | omega)).trans r3
  have s4 : w2.cell? ⟨(w.heap.size + 1), 1, none⟩ = some (.int .i64 (-126)) := (hb2.cells _ _ (by first | (simp; done) | (simp; omega) | omega)).trans r4
  have s5 : w2.cell? ⟨(w.heap.size + 1), 2, none⟩ = some (.int .i64 (127)) := (hb2.cells _ _ (by first | (simp; done) | (simp; omega) | omega)).trans r5
  have sz : w.heap.size + 1 < w2.heap.size := World.block_lt_of_cell? _ _ s3
  clear r0 r1 r2 r3 r4 r5 rz
  go_wp2
  refine wp_region_within (by kernel_rfl) (by kernel_rfl) ?_
  repeat
    apply wpq_step rfl
    · intro wq hCq
      have q0 : wq.cell? ⟨w.heap.size, 0, none⟩ = some (.bool false) := (hCq.cells _ _ (by first | (simp; done) | (simp; omega) | omega)).trans s0
      have q1 : wq.cell? ⟨w.heap.size, 1, none⟩ = some (.int .u64 m) := (hCq.cells _ _ (by first | (simp; done) | (simp; omega) | omega)).trans s1
      have q2 : wq.cell? ⟨w.heap.size, 2, none⟩ = some (.int .i64 e) := (hCq.cells _ _ (by first | (simp; done) | (simp; omega) | omega)).trans s2
      have q3 : wq.cell? ⟨(w.heap.size + 1), 0, none⟩ = some (.int .i64 (24)) := (hCq.cells _ _ (by first | (simp; done) | (simp; omega) | omega)).trans s3
      have q4 : wq.cell? ⟨(w.heap.size + 1), 1, none⟩ = some (.int .i64 (-126)) := (hCq.cells _ _ (by first | (simp; done) | (simp; omega) | omega)).trans s4
      have q5 : wq.cell? ⟨(w.heap.size + 1), 2, none⟩ = some (.int .i64 (127)) := (hCq.cells _ _ (by first | (simp; done) | (simp; omega) | omega)).trans s5
      have qz : w.heap.size + 1 < wq.heap.size := World.block_lt_of_cell? _ _ q3
      go_simp
      first | rfl | exact hCq.same (LQ.out _) | (trace_state; fail)
    simp only [Act.put, List.setIfInBounds_toArray, List.set_cons_zero, List.set_cons_succ]
  refine wpQuiet_nil ?_
  intro w3 hb3
  have t0 : w3.cell? ⟨w.heap.size, 0, none⟩ = some (.bool false) := (hb3.cells _ _ (by first | (simp; done) | (simp; omega) | omega)).trans s0
  have t1 : w3.cell? ⟨w.heap.size, 1, none⟩ = some (.int .u64 m) := (hb3.cells _ _ (by first | (simp; done) | (simp; omega) | omega)).trans s1
  have t2 : w3.cell? ⟨w.heap.size, 2, none⟩ = some (.int .i64 e) := (hb3.cells _ _ (by first | (simp; done) | (simp; omega) | omega)).trans s2
  have t3 : w3.cell? ⟨(w.heap.size + 1), 0, none⟩ = some (.int .i64 (24)) := (hb3.cells _ _ (by first | (simp; done) | (simp; omega) | omega)).trans s3
  have t4 : w3.cell? ⟨(w.heap.size + 1), 1, none⟩ = some (.int .i64 (-126)) := (hb3.cells _ _ (by first | (simp; done) | (simp; omega) | omega)).trans s4
  have t5 : w3.cell? ⟨(w.heap.size + 1), 2, none⟩ = some (.int .i64 (127)) := (hb3.cells _ _ (by first | (simp; done) | (simp; omega) | omega)).trans s5
  have tz : w.heap.size + 1 < w3.heap.size := World.block_lt_of_cell? _ _ t3
  clear s0 s1 s2 s3 s4 s5 sz
  go_wp2_with fail
  refine (LD.out _).mono ?_; rintro e4 w4 ⟨rfl, rfl⟩
  go_wp2_with fail
  refine (SG.out _).mono ?_; rintro e5 w5 ⟨rfl, rfl⟩
  go_wp2
  go_ret2
  exact ⟨rfl, (by repeat (with_reducible first | exact Within.refl _ | assumption | refine Within.alloc ?_ _ | refine Within.drew ?_ | refine Within.setCell ?_ (by first | (simp; done) | (simp; omega)) _ | refine Within.trans ?_ (by assumption)))⟩
set_option maxRecDepth 100000 in
set_option maxHeartbeats 600000 in
theorem round_S_inf0 (neg : Bool) (m L q Lq : Nat) (e k : Int) (mode : Int) (h1 : -20000 ≤ e) (h2 : e ≤ 20000) (hL : L ≤ 64) (hLq : Lq ≤ 64) (hk : max (e + (L : Int) - 24) (-149) = k) (LM : Hid (∀ w, Calls Tryz.prog 109 #[.int .u64 m] w fun e' w' => e' = .returned (.int .i64 (L : Nat)) ∧ w = w')) (DR : Hid (∀ w, Calls Tryz.prog 44 #[.agg #[.bool neg, .int .u64 m, .int .i64 e], .int .i64 (k - e), .int .i64 mode] w fun e' w' => e' = .returned (.tuple #[.int .u64 q, .bool false]) ∧ Within w w')) (LQ : Hid (∀ w, Calls Tryz.prog 109 #[.int .u64 q] w fun e' w' => e' = .returned (.int .i64 (Lq : Nat)) ∧ w = w')) (x g y z : Nat) (hin : 128 < k + (Lq : Int)) (hcv : floatOfInt .f64 (16777215 : Int) = x) (LD : Hid (∀ w, Calls Tryz.prog 58 #[.float .f64 x, .int .i64 104] w fun e' w' => e' = .returned (.float .f64 g) ∧ w = w')) (IN : Hid (∀ w, Calls Tryz.prog 110 #[.int .i64 1] w fun e' w' => e' = .returned (.float .f64 y) ∧ w = w')) (SG : Hid (∀ w, Calls Tryz.prog 45 #[.float .f64 y, .bool neg] w fun e' w' => e' = .returned (.float .f64 z) ∧ w = w')) (m2 : (mode == 2) = false) (m3 : (mode == 3) = false) (m4 : (mode == 4) = false) (w : World) : Calls Tryz.prog 68 #[.agg #[.bool neg, .int .u64 m, .int .i64 e], .agg #[.int .i64 24, .int .i64 (-126), .int .i64 127], .int .i64 mode] w fun e' w' => e' = .returned (.tuple #[.float .f64 z, .int .i64 5]) ∧ Within w w' := by
  have kl : -20100 ≤ k := by omega
  have ku : k ≤ 20100 := by omega
  have gw1 : IntKind.i64.wrap (e + (L : Int)) = e + (L : Int) := by rw [IntKind.wrap_i64]; omega
  have gw2 : IntKind.i64.wrap (k + (Lq : Int)) = k + (Lq : Int) := by rw [IntKind.wrap_i64]; omega
  have gw3 : IntKind.i64.wrap 128 = 128 := by decide
  have hcv' := fun (w : World) => run_convert_int_float (P := Tryz.prog) w 33 34 .u64 .f64 (16777215 : Int) (by kernel_rfl) (by kernel_rfl)
  rw [hcv] at hcv'
  have d : decide (k + (Lq : Int) ≤ 128) = false := decide_eq_false (by omega)
  clear hcv hin
  go_enter Tryz.func68, Tryz.ntmps68
  go_wp2
  refine wp_region_within (by kernel_rfl) (by kernel_rfl) ?_
  repeat
    apply wpq_step rfl
    · intro wq hCq
      have q0 : wq.cell? ⟨w.heap.size, 0, none⟩ = some (.bool neg) := (hCq.cells _ _ (by first | (simp; done) | (simp; omega) | omega)).trans (by simp)
      have q1 : wq.cell? ⟨w.heap.size, 1, none⟩ = some (.int .u64 m) := (hCq.cells _ _ (by first | (simp; done) | (simp; omega) | omega)).trans (by simp)
      have q2 : wq.cell? ⟨w.heap.size, 2, none⟩ = some (.int .i64 e) := (hCq.cells _ _ (by first | (simp; done) | (simp; omega) | omega)).trans (by simp)
      have q3 : wq.cell? ⟨(w.heap.size + 1), 0, none⟩ = some (.int .i64 (24)) := (hCq.cells _ _ (by first | (simp; done) | (simp; omega) | omega)).trans (by simp)
      have q4 : wq.cell? ⟨(w.heap.size + 1), 1, none⟩ = some (.int .i64 (-126)) := (hCq.cells _ _ (by first | (simp; done) | (simp; omega) | omega)).trans (by simp)
      have q5 : wq.cell? ⟨(w.heap.size + 1), 2, none⟩ = some (.int .i64 (127)) := (hCq.cells _ _ (by first | (simp; done) | (simp; omega) | omega)).trans (by simp)
      have qz : w.heap.size + 1 < wq.heap.size := World.block_lt_of_cell? _ _ q3
      go_simp
      first | rfl | exact hCq.same (LM.out _) | (trace_state; fail)
    simp only [Act.put, List.setIfInBounds_toArray, List.set_cons_zero, List.set_cons_succ]
  refine wpQuiet_nil ?_
  intro w1 hb1
  have r0 : w1.cell? ⟨w.heap.size, 0, none⟩ = some (.bool neg) := (hb1.cells _ _ (by first | (simp; done) | (simp; omega) | omega)).trans (by simp)
  have r1 : w1.cell? ⟨w.heap.size, 1, none⟩ = some (.int .u64 m) := (hb1.cells _ _ (by first | (simp; done) | (simp; omega) | omega)).trans (by simp)
  have r2 : w1.cell? ⟨w.heap.size, 2, none⟩ = some (.int .i64 e) := (hb1.cells _ _ (by first | (simp; done) | (simp; omega) | omega)).trans (by simp)
  have r3 : w1.cell? ⟨(w.heap.size + 1), 0, none⟩ = some (.int .i64 (24)) := (hb1.cells _ _ (by first | (simp; done) | (simp; omega) | omega)).trans (by simp)
  have r4 : w1.cell? ⟨(w.heap.size + 1), 1, none⟩ = some (.int .i64 (-126)) := (hb1.cells _ _ (by first | (simp; done) | (simp; omega) | omega)).trans (by simp)
  have r5 : w1.cell? ⟨(w.heap.size + 1), 2, none⟩ = some (.int .i64 (127)) := (hb1.cells _ _ (by first | (simp; done) | (simp; omega) | omega)).trans (by simp)
  have rz : w.heap.size + 1 < w1.heap.size := World.block_lt_of_cell? _ _ r3
  go_wp2_with fail
  refine (DR.out _).mono ?_; rintro e2 w2 ⟨rfl, hb2⟩
  have s0 : w2.cell? ⟨w.heap.size, 0, none⟩ = some (.bool neg) := (hb2.cells _ _ (by first | (simp; done) | (simp; omega) | omega)).trans r0
  have s1 : w2.cell? ⟨w.heap.size, 1, none⟩ = some (.int .u64 m) := (hb2.cells _ _ (by first | (simp; done) | (simp; omega) | omega)).trans r1
  have s2 : w2.cell? ⟨w.heap.size, 2, none⟩ = some (.int .i64 e) := (hb2.cells _ _ (by first | (simp; done) | (simp; omega) | omega)).trans r2
  have s3 : w2.cell? ⟨(w.heap.size + 1), 0, none⟩ = some (.int .i64 (24)) := (hb2.cells _ _ (by first | (simp; done) | (simp; omega) | omega)).trans r3
  have s4 : w2.cell? ⟨(w.heap.size + 1), 1, none⟩ = some (.int .i64 (-126)) := (hb2.cells _ _ (by first | (simp; done) | (simp; omega) | omega)).trans r4
  have s5 : w2.cell? ⟨(w.heap.size + 1), 2, none⟩ = some (.int .i64 (127)) := (hb2.cells _ _ (by first | (simp; done) | (simp; omega) | omega)).trans r5
  have sz : w.heap.size + 1 < w2.heap.size := World.block_lt_of_cell? _ _ s3
  clear r0 r1 r2 r3 r4 r5 rz
  go_wp2
  refine wp_region_within (by kernel_rfl) (by kernel_rfl) ?_
  repeat
    apply wpq_step rfl
    · intro wq hCq
      have q0 : wq.cell? ⟨w.heap.size, 0, none⟩ = some (.bool neg) := (hCq.cells _ _ (by first | (simp; done) | (simp; omega) | omega)).trans s0
      have q1 : wq.cell? ⟨w.heap.size, 1, none⟩ = some (.int .u64 m) := (hCq.cells _ _ (by first | (simp; done) | (simp; omega) | omega)).trans s1
      have q2 : wq.cell? ⟨w.heap.size, 2, none⟩ = some (.int .i64 e) := (hCq.cells _ _ (by first | (simp; done) | (simp; omega) | omega)).trans s2
      have q3 : wq.cell? ⟨(w.heap.size + 1), 0, none⟩ = some (.int .i64 (24)) := (hCq.cells _ _ (by first | (simp; done) | (simp; omega) | omega)).trans s3
      have q4 : wq.cell? ⟨(w.heap.size + 1), 1, none⟩ = some (.int .i64 (-126)) := (hCq.cells _ _ (by first | (simp; done) | (simp; omega) | omega)).trans s4
      have q5 : wq.cell? ⟨(w.heap.size + 1), 2, none⟩ = some (.int .i64 (127)) := (hCq.cells _ _ (by first | (simp; done) | (simp; omega) | omega)).trans s5
      have qz : w.heap.size + 1 < wq.heap.size := World.block_lt_of_cell? _ _ q3
      go_simp
      first | rfl | exact hCq.same (LQ.out _) | (trace_state; fail)
    simp only [Act.put, List.setIfInBounds_toArray, List.set_cons_zero, List.set_cons_succ]
  refine wpQuiet_nil ?_
  intro w3 hb3
  have t0 : w3.cell? ⟨w.heap.size, 0, none⟩ = some (.bool neg) := (hb3.cells _ _ (by first | (simp; done) | (simp; omega) | omega)).trans s0
  have t1 : w3.cell? ⟨w.heap.size, 1, none⟩ = some (.int .u64 m) := (hb3.cells _ _ (by first | (simp; done) | (simp; omega) | omega)).trans s1
  have t2 : w3.cell? ⟨w.heap.size, 2, none⟩ = some (.int .i64 e) := (hb3.cells _ _ (by first | (simp; done) | (simp; omega) | omega)).trans s2
  have t3 : w3.cell? ⟨(w.heap.size + 1), 0, none⟩ = some (.int .i64 (24)) := (hb3.cells _ _ (by first | (simp; done) | (simp; omega) | omega)).trans s3
  have t4 : w3.cell? ⟨(w.heap.size + 1), 1, none⟩ = some (.int .i64 (-126)) := (hb3.cells _ _ (by first | (simp; done) | (simp; omega) | omega)).trans s4
  have t5 : w3.cell? ⟨(w.heap.size + 1), 2, none⟩ = some (.int .i64 (127)) := (hb3.cells _ _ (by first | (simp; done) | (simp; omega) | omega)).trans s5
  have tz : w.heap.size + 1 < w3.heap.size := World.block_lt_of_cell? _ _ t3
  clear s0 s1 s2 s3 s4 s5 sz
  go_wp2_with fail
  refine (LD.out _).mono ?_; rintro e4 w4 ⟨rfl, rfl⟩
  go_wp2
  refine wp_region_within (by kernel_rfl) (by kernel_rfl) ?_
  repeat
    apply wpq_step rfl
    · intro wq hCq
      have q0 : wq.cell? ⟨w.heap.size, 0, none⟩ = some (.bool neg) := (hCq.cells _ _ (by first | (simp; done) | (simp; omega) | omega)).trans t0
      have q1 : wq.cell? ⟨w.heap.size, 1, none⟩ = some (.int .u64 m) := (hCq.cells _ _ (by first | (simp; done) | (simp; omega) | omega)).trans t1
      have q2 : wq.cell? ⟨w.heap.size, 2, none⟩ = some (.int .i64 e) := (hCq.cells _ _ (by first | (simp; done) | (simp; omega) | omega)).trans t2
      have q3 : wq.cell? ⟨(w.heap.size + 1), 0, none⟩ = some (.int .i64 (24)) := (hCq.cells _ _ (by first | (simp; done) | (simp; omega) | omega)).trans t3
      have q4 : wq.cell? ⟨(w.heap.size + 1), 1, none⟩ = some (.int .i64 (-126)) := (hCq.cells _ _ (by first | (simp; done) | (simp; omega) | omega)).trans t4
      have q5 : wq.cell? ⟨(w.heap.size + 1), 2, none⟩ = some (.int .i64 (127)) := (hCq.cells _ _ (by first | (simp; done) | (simp; omega) | omega)).trans t5
      have qz : w.heap.size + 1 < wq.heap.size := World.block_lt_of_cell? _ _ q3
      go_simp
      first | rfl | exact hCq.same (IN.out _) | exact hCq.same (SG.out _) | (trace_state; fail)
    simp only [Act.put, List.setIfInBounds_toArray, List.set_cons_zero, List.set_cons_succ]
  refine wpQuiet_nil ?_
  intro w5 hb5
  go_wp2
  go_ret2
  exact ⟨rfl, (by repeat (with_reducible first | exact Within.refl _ | assumption | refine Within.alloc ?_ _ | refine Within.drew ?_ | refine Within.setCell ?_ (by first | (simp; done) | (simp; omega)) _ | refine Within.trans ?_ (by assumption)))⟩
set_option maxRecDepth 100000 in
set_option maxHeartbeats 600000 in
theorem round_S_inf0_3 (m L q Lq : Nat) (e k : Int) (h1 : -20000 ≤ e) (h2 : e ≤ 20000) (hL : L ≤ 64) (hLq : Lq ≤ 64) (hk : max (e + (L : Int) - 24) (-149) = k) (LM : Hid (∀ w, Calls Tryz.prog 109 #[.int .u64 m] w fun e' w' => e' = .returned (.int .i64 (L : Nat)) ∧ w = w')) (DR : Hid (∀ w, Calls Tryz.prog 44 #[.agg #[.bool false, .int .u64 m, .int .i64 e], .int .i64 (k - e), .int .i64 3] w fun e' w' => e' = .returned (.tuple #[.int .u64 q, .bool false]) ∧ Within w w')) (LQ : Hid (∀ w, Calls Tryz.prog 109 #[.int .u64 q] w fun e' w' => e' = .returned (.int .i64 (Lq : Nat)) ∧ w = w')) (x g y z : Nat) (hin : 128 < k + (Lq : Int)) (hcv : floatOfInt .f64 (16777215 : Int) = x) (LD : Hid (∀ w, Calls Tryz.prog 58 #[.float .f64 x, .int .i64 104] w fun e' w' => e' = .returned (.float .f64 g) ∧ w = w')) (IN : Hid (∀ w, Calls Tryz.prog 110 #[.int .i64 1] w fun e' w' => e' = .returned (.float .f64 y) ∧ w = w')) (SG : Hid (∀ w, Calls Tryz.prog 45 #[.float .f64 y, .bool false] w fun e' w' => e' = .returned (.float .f64 z) ∧ w = w')) (w : World) : Calls Tryz.prog 68 #[.agg #[.bool false, .int .u64 m, .int .i64 e], .agg #[.int .i64 24, .int .i64 (-126), .int .i64 127], .int .i64 3] w fun e' w' => e' = .returned (.tuple #[.float .f64 z, .int .i64 5]) ∧ Within w w' := by
  have kl : -20100 ≤ k := by omega
  have ku : k ≤ 20100 := by omega
  have gw1 : IntKind.i64.wrap (e + (L : Int)) = e + (L : Int) := by rw [IntKind.wrap_i64]; omega
  have gw2 : IntKind.i64.wrap (k + (Lq : Int)) = k + (Lq : Int) := by rw [IntKind.wrap_i64]; omega
  have gw3 : IntKind.i64.wrap 128 = 128 := by decide
  have hcv' := fun (w : World) => run_convert_int_float (P := Tryz.prog) w 33 34 .u64 .f64 (16777215 : Int) (by kernel_rfl) (by kernel_rfl)
  rw [hcv] at hcv'
  have d : decide (k + (Lq : Int) ≤ 128) = false := decide_eq_false (by omega)
  clear hcv hin
  go_enter Tryz.func68, Tryz.ntmps68
  go_wp2
  refine wp_region_within (by kernel_rfl) (by kernel_rfl) ?_
  repeat
    apply wpq_step rfl
    · intro wq hCq
      have q0 : wq.cell? ⟨w.heap.size, 0, none⟩ = some (.bool false) := (hCq.cells _ _ (by first | (simp; done) | (simp; omega) | omega)).trans (by simp)
      have q1 : wq.cell? ⟨w.heap.size, 1, none⟩ = some (.int .u64 m) := (hCq.cells _ _ (by first | (simp; done) | (simp; omega) | omega)).trans (by simp)
      have q2 : wq.cell? ⟨w.heap.size, 2, none⟩ = some (.int .i64 e) := (hCq.cells _ _ (by first | (simp; done) | (simp; omega) | omega)).trans (by simp)
      have q3 : wq.cell? ⟨(w.heap.size + 1), 0, none⟩ = some (.int .i64 (24)) := (hCq.cells _ _ (by first | (simp; done) | (simp; omega) | omega)).trans (by simp)
      have q4 : wq.cell? ⟨(w.heap.size + 1), 1, none⟩ = some (.int .i64 (-126)) := (hCq.cells _ _ (by first | (simp; done) | (simp; omega) | omega)).trans (by simp)
      have q5 : wq.cell? ⟨(w.heap.size + 1), 2, none⟩ = some (.int .i64 (127)) := (hCq.cells _ _ (by first | (simp; done) | (simp; omega) | omega)).trans (by simp)
      have qz : w.heap.size + 1 < wq.heap.size := World.block_lt_of_cell? _ _ q3
      go_simp
      first | rfl | exact hCq.same (LM.out _) | (trace_state; fail)
    simp only [Act.put, List.setIfInBounds_toArray, List.set_cons_zero, List.set_cons_succ]
  refine wpQuiet_nil ?_
  intro w1 hb1
  have r0 : w1.cell? ⟨w.heap.size, 0, none⟩ = some (.bool false) := (hb1.cells _ _ (by first | (simp; done) | (simp; omega) | omega)).trans (by simp)
  have r1 : w1.cell? ⟨w.heap.size, 1, none⟩ = some (.int .u64 m) := (hb1.cells _ _ (by first | (simp; done) | (simp; omega) | omega)).trans (by simp)
  have r2 : w1.cell? ⟨w.heap.size, 2, none⟩ = some (.int .i64 e) := (hb1.cells _ _ (by first | (simp; done) | (simp; omega) | omega)).trans (by simp)
  have r3 : w1.cell? ⟨(w.heap.size + 1), 0, none⟩ = some (.int .i64 (24)) := (hb1.cells _ _ (by first | (simp; done) | (simp; omega) | omega)).trans (by simp)
  have r4 : w1.cell? ⟨(w.heap.size + 1), 1, none⟩ = some (.int .i64 (-126)) := (hb1.cells _ _ (by first | (simp; done) | (simp; omega) | omega)).trans (by simp)
  have r5 : w1.cell? ⟨(w.heap.size + 1), 2, none⟩ = some (.int .i64 (127)) := (hb1.cells _ _ (by first | (simp; done) | (simp; omega) | omega)).trans (by simp)
  have rz : w.heap.size + 1 < w1.heap.size := World.block_lt_of_cell? _ _ r3
  go_wp2_with fail
  refine (DR.out _).mono ?_; rintro e2 w2 ⟨rfl, hb2⟩
  have s0 : w2.cell? ⟨w.heap.size, 0, none⟩ = some (.bool false) := (hb2.cells _ _ (by first | (simp; done) | (simp; omega) | omega)).trans r0
  have s1 : w2.cell? ⟨w.heap.size, 1, none⟩ = some (.int .u64 m) := (hb2.cells _ _ (by first | (simp; done) | (simp; omega) | omega)).trans r1
  have s2 : w2.cell? ⟨w.heap.size, 2, none⟩ = some (.int .i64 e) := (hb2.cells _ _ (by first | (simp; done) | (simp; omega) | omega)).trans r2
  have s3 : w2.cell? ⟨(w.heap.size + 1), 0, none⟩ = some (.int .i64 (24)) := (hb2.cells _ _ (by first | (simp; done) | (simp; omega) | omega)).trans r3
  have s4 : w2.cell? ⟨(w.heap.size + 1), 1, none⟩ = some (.int .i64 (-126)) := (hb2.cells _ _ (by first | (simp; done) | (simp; omega) | omega)).trans r4
  have s5 : w2.cell? ⟨(w.heap.size + 1), 2, none⟩ = some (.int .i64 (127)) := (hb2.cells _ _ (by first | (simp; done) | (simp; omega) | omega)).trans r5
  have sz : w.heap.size + 1 < w2.heap.size := World.block_lt_of_cell? _ _ s3
  clear r0 r1 r2 r3 r4 r5 rz
  go_wp2
  refine wp_region_within (by kernel_rfl) (by kernel_rfl) ?_
  repeat
    apply wpq_step rfl
    · intro wq hCq
      have q0 : wq.cell? ⟨w.heap.size, 0, none⟩ = some (.bool false) := (hCq.cells _ _ (by first | (simp; done) | (simp; omega) | omega)).trans s0
      have q1 : wq.cell? ⟨w.heap.size, 1, none⟩ = some (.int .u64 m) := (hCq.cells _ _ (by first | (simp; done) | (simp; omega) | omega)).trans s1
      have q2 : wq.cell? ⟨w.heap.size, 2, none⟩ = some (.int .i64 e) := (hCq.cells _ _ (by first | (simp; done) | (simp; omega) | omega)).trans s2
      have q3 : wq.cell? ⟨(w.heap.size + 1), 0, none⟩ = some (.int .i64 (24)) := (hCq.cells _ _ (by first | (simp; done) | (simp; omega) | omega)).trans s3
      have q4 : wq.cell? ⟨(w.heap.size + 1), 1, none⟩ = some (.int .i64 (-126)) := (hCq.cells _ _ (by first | (simp; done) | (simp; omega) | omega)).trans s4
      have q5 : wq.cell? ⟨(w.heap.size + 1), 2, none⟩ = some (.int .i64 (127)) := (hCq.cells _ _ (by first | (simp; done) | (simp; omega) | omega)).trans s5
      have qz : w.heap.size + 1 < wq.heap.size := World.block_lt_of_cell? _ _ q3
      go_simp
      first | rfl | exact hCq.same (LQ.out _) | (trace_state; fail)
    simp only [Act.put, List.setIfInBounds_toArray, List.set_cons_zero, List.set_cons_succ]
  refine wpQuiet_nil ?_
  intro w3 hb3
  have t0 : w3.cell? ⟨w.heap.size, 0, none⟩ = some (.bool false) := (hb3.cells _ _ (by first | (simp; done) | (simp; omega) | omega)).trans s0
  have t1 : w3.cell? ⟨w.heap.size, 1, none⟩ = some (.int .u64 m) := (hb3.cells _ _ (by first | (simp; done) | (simp; omega) | omega)).trans s1
  have t2 : w3.cell? ⟨w.heap.size, 2, none⟩ = some (.int .i64 e) := (hb3.cells _ _ (by first | (simp; done) | (simp; omega) | omega)).trans s2
  have t3 : w3.cell? ⟨(w.heap.size + 1), 0, none⟩ = some (.int .i64 (24)) := (hb3.cells _ _ (by first | (simp; done) | (simp; omega) | omega)).trans s3
  have t4 : w3.cell? ⟨(w.heap.size + 1), 1, none⟩ = some (.int .i64 (-126)) := (hb3.cells _ _ (by first | (simp; done) | (simp; omega) | omega)).trans s4
  have t5 : w3.cell? ⟨(w.heap.size + 1), 2, none⟩ = some (.int .i64 (127)) := (hb3.cells _ _ (by first | (simp; done) | (simp; omega) | omega)).trans s5
  have tz : w.heap.size + 1 < w3.heap.size := World.block_lt_of_cell? _ _ t3
  clear s0 s1 s2 s3 s4 s5 sz
  go_wp2_with fail
  refine (LD.out _).mono ?_; rintro e4 w4 ⟨rfl, rfl⟩
  go_wp2
  refine wp_region_within (by kernel_rfl) (by kernel_rfl) ?_
  repeat
    apply wpq_step rfl
    · intro wq hCq
      have q0 : wq.cell? ⟨w.heap.size, 0, none⟩ = some (.bool false) := (hCq.cells _ _ (by first | (simp; done) | (simp; omega) | omega)).trans t0
      have q1 : wq.cell? ⟨w.heap.size, 1, none⟩ = some (.int .u64 m) := (hCq.cells _ _ (by first | (simp; done) | (simp; omega) | omega)).trans t1
      have q2 : wq.cell? ⟨w.heap.size, 2, none⟩ = some (.int .i64 e) := (hCq.cells _ _ (by first | (simp; done) | (simp; omega) | omega)).trans t2
      have q3 : wq.cell? ⟨(w.heap.size + 1), 0, none⟩ = some (.int .i64 (24)) := (hCq.cells _ _ (by first | (simp; done) | (simp; omega) | omega)).trans t3
      have q4 : wq.cell? ⟨(w.heap.size + 1), 1, none⟩ = some (.int .i64 (-126)) := (hCq.cells _ _ (by first | (simp; done) | (simp; omega) | omega)).trans t4
      have q5 : wq.cell? ⟨(w.heap.size + 1), 2, none⟩ = some (.int .i64 (127)) := (hCq.cells _ _ (by first | (simp; done) | (simp; omega) | omega)).trans t5
      have qz : w.heap.size + 1 < wq.heap.size := World.block_lt_of_cell? _ _ q3
      go_simp
      first | rfl | exact hCq.same (IN.out _) | exact hCq.same (SG.out _) | (trace_state; fail)
    simp only [Act.put, List.setIfInBounds_toArray, List.set_cons_zero, List.set_cons_succ]
  refine wpQuiet_nil ?_
  intro w5 hb5
  go_wp2
  go_ret2
  exact ⟨rfl, (by repeat (with_reducible first | exact Within.refl _ | assumption | refine Within.alloc ?_ _ | refine Within.drew ?_ | refine Within.setCell ?_ (by first | (simp; done) | (simp; omega)) _ | refine Within.trans ?_ (by assumption)))⟩
set_option maxRecDepth 100000 in
set_option maxHeartbeats 600000 in
theorem round_S_inf0_4 (m L q Lq : Nat) (e k : Int) (h1 : -20000 ≤ e) (h2 : e ≤ 20000) (hL : L ≤ 64) (hLq : Lq ≤ 64) (hk : max (e + (L : Int) - 24) (-149) = k) (LM : Hid (∀ w, Calls Tryz.prog 109 #[.int .u64 m] w fun e' w' => e' = .returned (.int .i64 (L : Nat)) ∧ w = w')) (DR : Hid (∀ w, Calls Tryz.prog 44 #[.agg #[.bool true, .int .u64 m, .int .i64 e], .int .i64 (k - e), .int .i64 4] w fun e' w' => e' = .returned (.tuple #[.int .u64 q, .bool false]) ∧ Within w w')) (LQ : Hid (∀ w, Calls Tryz.prog 109 #[.int .u64 q] w fun e' w' => e' = .returned (.int .i64 (Lq : Nat)) ∧ w = w')) (x g y z : Nat) (hin : 128 < k + (Lq : Int)) (hcv : floatOfInt .f64 (16777215 : Int) = x) (LD : Hid (∀ w, Calls Tryz.prog 58 #[.float .f64 x, .int .i64 104] w fun e' w' => e' = .returned (.float .f64 g) ∧ w = w')) (IN : Hid (∀ w, Calls Tryz.prog 110 #[.int .i64 1] w fun e' w' => e' = .returned (.float .f64 y) ∧ w = w')) (SG : Hid (∀ w, Calls Tryz.prog 45 #[.float .f64 y, .bool true] w fun e' w' => e' = .returned (.float .f64 z) ∧ w = w')) (w : World) : Calls Tryz.prog 68 #[.agg #[.bool true, .int .u64 m, .int .i64 e], .agg #[.int .i64 24, .int .i64 (-126), .int .i64 127], .int .i64 4] w fun e' w' => e' = .returned (.tuple #[.float .f64 z, .int .i64 5]) ∧ Within w w' := by
  have kl : -20100 ≤ k := by omega
  have ku : k ≤ 20100 := by omega
  have gw1 : IntKind.i64.wrap (e + (L : Int)) = e + (L : Int) := by rw [IntKind.wrap_i64]; omega
  have gw2 : IntKind.i64.wrap (k + (Lq : Int)) = k + (Lq : Int) := by rw [IntKind.wrap_i64]; omega
  have gw3 : IntKind.i64.wrap 128 = 128 := by decide
  have hcv' := fun (w : World) => run_convert_int_float (P := Tryz.prog) w 33 34 .u64 .f64 (16777215 : Int) (by kernel_rfl) (by kernel_rfl)
  rw [hcv] at hcv'
  have d : decide (k + (Lq : Int) ≤ 128) = false := decide_eq_false (by omega)
  clear hcv hin
  go_enter Tryz.func68, Tryz.ntmps68
  go_wp2
  refine wp_region_within (by kernel_rfl) (by kernel_rfl) ?_
  repeat
    apply wpq_step rfl
    · intro wq hCq
      have q0 : wq.cell? ⟨w.heap.size, 0, none⟩ = some (.bool true) := (hCq.cells _ _ (by first | (simp; done) | (simp; omega) | omega)).trans (by simp)
      have q1 : wq.cell? ⟨w.heap.size, 1, none⟩ = some (.int .u64 m) := (hCq.cells _ _ (by first | (simp; done) | (simp; omega) | omega)).trans (by simp)
      have q2 : wq.cell? ⟨w.heap.size, 2, none⟩ = some (.int .i64 e) := (hCq.cells _ _ (by first | (simp; done) | (simp; omega) | omega)).trans (by simp)
      have q3 : wq.cell? ⟨(w.heap.size + 1), 0, none⟩ = some (.int .i64 (24)) := (hCq.cells _ _ (by first | (simp; done) | (simp; omega) | omega)).trans (by simp)
      have q4 : wq.cell? ⟨(w.heap.size + 1), 1, none⟩ = some (.int .i64 (-126)) := (hCq.cells _ _ (by first | (simp; done) | (simp; omega) | omega)).trans (by simp)
      have q5 : wq.cell? ⟨(w.heap.size + 1), 2, none⟩ = some (.int .i64 (127)) := (hCq.cells _ _ (by first | (simp; done) | (simp; omega) | omega)).trans (by simp)
      have qz : w.heap.size + 1 < wq.heap.size := World.block_lt_of_cell? _ _ q3
      go_simp
      first | rfl | exact hCq.same (LM.out _) | (trace_state; fail)
    simp only [Act.put, List.setIfInBounds_toArray, List.set_cons_zero, List.set_cons_succ]
  refine wpQuiet_nil ?_
  intro w1 hb1
  have r0 : w1.cell? ⟨w.heap.size, 0, none⟩ = some (.bool true) := (hb1.cells _ _ (by first | (simp; done) | (simp; omega) | omega)).trans (by simp)
  have r1 : w1.cell? ⟨w.heap.size, 1, none⟩ = some (.int .u64 m) := (hb1.cells _ _ (by first | (simp; done) | (simp; omega) | omega)).trans (by simp)
  have r2 : w1.cell? ⟨w.heap.size, 2, none⟩ = some (.int .i64 e) := (hb1.cells _ _ (by first | (simp; done) | (simp; omega) | omega)).trans (by simp)
  have r3 : w1.cell? ⟨(w.heap.size + 1), 0, none⟩ = some (.int .i64 (24)) := (hb1.cells _ _ (by first | (simp; done) | (simp; omega) | omega)).trans (by simp)
  have r4 : w1.cell? ⟨(w.heap.size + 1), 1, none⟩ = some (.int .i64 (-126)) := (hb1.cells _ _ (by first | (simp; done) | (simp; omega) | omega)).trans (by simp)
  have r5 : w1.cell? ⟨(w.heap.size + 1), 2, none⟩ = some (.int .i64 (127)) := (hb1.cells _ _ (by first | (simp; done) | (simp; omega) | omega)).trans (by simp)
  have rz : w.heap.size + 1 < w1.heap.size := World.block_lt_of_cell? _ _ r3
  go_wp2_with fail
  refine (DR.out _).mono ?_; rintro e2 w2 ⟨rfl, hb2⟩
  have s0 : w2.cell? ⟨w.heap.size, 0, none⟩ = some (.bool true) := (hb2.cells _ _ (by first | (simp; done) | (simp; omega) | omega)).trans r0
  have s1 : w2.cell? ⟨w.heap.size, 1, none⟩ = some (.int .u64 m) := (hb2.cells _ _ (by first | (simp; done) | (simp; omega) | omega)).trans r1
  have s2 : w2.cell? ⟨w.heap.size, 2, none⟩ = some (.int .i64 e) := (hb2.cells _ _ (by first | (simp; done) | (simp; omega) | omega)).trans r2
  have s3 : w2.cell? ⟨(w.heap.size + 1), 0, none⟩ = some (.int .i64 (24)) := (hb2.cells _ _ (by first | (simp; done) | (simp; omega) | omega)).trans r3
  have s4 : w2.cell? ⟨(w.heap.size + 1), 1, none⟩ = some (.int .i64 (-126)) := (hb2.cells _ _ (by first | (simp; done) | (simp; omega) | omega)).trans r4
  have s5 : w2.cell? ⟨(w.heap.size + 1), 2, none⟩ = some (.int .i64 (127)) := (hb2.cells _ _ (by first | (simp; done) | (simp; omega) | omega)).trans r5
  have sz : w.heap.size + 1 < w2.heap.size := World.block_lt_of_cell? _ _ s3
  clear r0 r1 r2 r3 r4 r5 rz
  go_wp2
  refine wp_region_within (by kernel_rfl) (by kernel_rfl) ?_
  repeat
    apply wpq_step rfl
    · intro wq hCq
      have q0 : wq.cell? ⟨w.heap.size, 0, none⟩ = some (.bool true) := (hCq.cells _ _ (by first | (simp; done) | (simp; omega) | omega)).trans s0
      have q1 : wq.cell? ⟨w.heap.size, 1, none⟩ = some (.int .u64 m) := (hCq.cells _ _ (by first | (simp; done) | (simp; omega) | omega)).trans s1
      have q2 : wq.cell? ⟨w.heap.size, 2, none⟩ = some (.int .i64 e) := (hCq.cells _ _ (by first | (simp; done) | (simp; omega) | omega)).trans s2
      have q3 : wq.cell? ⟨(w.heap.size + 1), 0, none⟩ = some (.int .i64 (24)) := (hCq.cells _ _ (by first | (simp; done) | (simp; omega) | omega)).trans s3
      have q4 : wq.cell? ⟨(w.heap.size + 1), 1, none⟩ = some (.int .i64 (-126)) := (hCq.cells _ _ (by first | (simp; done) | (simp; omega) | omega)).trans s4
      have q5 : wq.cell? ⟨(w.heap.size + 1), 2, none⟩ = some (.int .i64 (127)) := (hCq.cells _ _ (by first | (simp; done) | (simp; omega) | omega)).trans s5
      have qz : w.heap.size + 1 < wq.heap.size := World.block_lt_of_cell? _ _ q3
      go_simp
      first | rfl | exact hCq.same (LQ.out _) | (trace_state; fail)
    simp only [Act.put, List.setIfInBounds_toArray, List.set_cons_zero, List.set_cons_succ]
  refine wpQuiet_nil ?_
  intro w3 hb3
  have t0 : w3.cell? ⟨w.heap.size, 0, none⟩ = some (.bool true) := (hb3.cells _ _ (by first | (simp; done) | (simp; omega) | omega)).trans s0
  have t1 : w3.cell? ⟨w.heap.size, 1, none⟩ = some (.int .u64 m) := (hb3.cells _ _ (by first | (simp; done) | (simp; omega) | omega)).trans s1
  have t2 : w3.cell? ⟨w.heap.size, 2, none⟩ = some (.int .i64 e) := (hb3.cells _ _ (by first | (simp; done) | (simp; omega) | omega)).trans s2
  have t3 : w3.cell? ⟨(w.heap.size + 1), 0, none⟩ = some (.int .i64 (24)) := (hb3.cells _ _ (by first | (simp; done) | (simp; omega) | omega)).trans s3
  have t4 : w3.cell? ⟨(w.heap.size + 1), 1, none⟩ = some (.int .i64 (-126)) := (hb3.cells _ _ (by first | (simp; done) | (simp; omega) | omega)).trans s4
  have t5 : w3.cell? ⟨(w.heap.size + 1), 2, none⟩ = some (.int .i64 (127)) := (hb3.cells _ _ (by first | (simp; done) | (simp; omega) | omega)).trans s5
  have tz : w.heap.size + 1 < w3.heap.size := World.block_lt_of_cell? _ _ t3
  clear s0 s1 s2 s3 s4 s5 sz
  go_wp2_with fail
  refine (LD.out _).mono ?_; rintro e4 w4 ⟨rfl, rfl⟩
  go_wp2
  refine wp_region_within (by kernel_rfl) (by kernel_rfl) ?_
  repeat
    apply wpq_step rfl
    · intro wq hCq
      have q0 : wq.cell? ⟨w.heap.size, 0, none⟩ = some (.bool true) := (hCq.cells _ _ (by first | (simp; done) | (simp; omega) | omega)).trans t0
      have q1 : wq.cell? ⟨w.heap.size, 1, none⟩ = some (.int .u64 m) := (hCq.cells _ _ (by first | (simp; done) | (simp; omega) | omega)).trans t1
      have q2 : wq.cell? ⟨w.heap.size, 2, none⟩ = some (.int .i64 e) := (hCq.cells _ _ (by first | (simp; done) | (simp; omega) | omega)).trans t2
      have q3 : wq.cell? ⟨(w.heap.size + 1), 0, none⟩ = some (.int .i64 (24)) := (hCq.cells _ _ (by first | (simp; done) | (simp; omega) | omega)).trans t3
      have q4 : wq.cell? ⟨(w.heap.size + 1), 1, none⟩ = some (.int .i64 (-126)) := (hCq.cells _ _ (by first | (simp; done) | (simp; omega) | omega)).trans t4
      have q5 : wq.cell? ⟨(w.heap.size + 1), 2, none⟩ = some (.int .i64 (127)) := (hCq.cells _ _ (by first | (simp; done) | (simp; omega) | omega)).trans t5
      have qz : w.heap.size + 1 < wq.heap.size := World.block_lt_of_cell? _ _ q3
      go_simp
      first | rfl | exact hCq.same (IN.out _) | exact hCq.same (SG.out _) | (trace_state; fail)
    simp only [Act.put, List.setIfInBounds_toArray, List.set_cons_zero, List.set_cons_succ]
  refine wpQuiet_nil ?_
  intro w5 hb5
  go_wp2
  go_ret2
  exact ⟨rfl, (by repeat (with_reducible first | exact Within.refl _ | assumption | refine Within.alloc ?_ _ | refine Within.drew ?_ | refine Within.setCell ?_ (by first | (simp; done) | (simp; omega)) _ | refine Within.trans ?_ (by assumption)))⟩
set_option maxRecDepth 100000 in
set_option maxHeartbeats 600000 in
theorem round_S_top1_2 (neg : Bool) (m L q Lq : Nat) (e k : Int) (h1 : -20000 ≤ e) (h2 : e ≤ 20000) (hL : L ≤ 64) (hLq : Lq ≤ 64) (hk : max (e + (L : Int) - 24) (-149) = k) (LM : Hid (∀ w, Calls Tryz.prog 109 #[.int .u64 m] w fun e' w' => e' = .returned (.int .i64 (L : Nat)) ∧ w = w')) (DR : Hid (∀ w, Calls Tryz.prog 44 #[.agg #[.bool neg, .int .u64 m, .int .i64 e], .int .i64 (k - e), .int .i64 2] w fun e' w' => e' = .returned (.tuple #[.int .u64 q, .bool true]) ∧ Within w w')) (LQ : Hid (∀ w, Calls Tryz.prog 109 #[.int .u64 q] w fun e' w' => e' = .returned (.int .i64 (Lq : Nat)) ∧ w = w')) (x g z : Nat) (hin : 128 < k + (Lq : Int)) (hcv : floatOfInt .f64 (16777215 : Int) = x) (LD : Hid (∀ w, Calls Tryz.prog 58 #[.float .f64 x, .int .i64 104] w fun e' w' => e' = .returned (.float .f64 g) ∧ w = w'))  (SG : Hid (∀ w, Calls Tryz.prog 45 #[.float .f64 g, .bool neg] w fun e' w' => e' = .returned (.float .f64 z) ∧ w = w')) (hs : decide (e + (L : Int) - 1 < -126) = false) (w : World) : Calls Tryz.prog 68 #[.agg #[.bool neg, .int .u64 m, .int .i64 e], .agg #[.int .i64 24, .int .i64 (-126), .int .i64 127], .int .i64 2] w fun e' w' => e' = .returned (.tuple #[.float .f64 z, .int .i64 5]) ∧ Within w w' := by
  have kl : -20100 ≤ k := by omega
  have ku : k ≤ 20100 := by omega
  have gw1 : IntKind.i64.wrap (e + (L : Int)) = e + (L : Int) := by rw [IntKind.wrap_i64]; omega
  have gw2 : IntKind.i64.wrap (k + (Lq : Int)) = k + (Lq : Int) := by rw [IntKind.wrap_i64]; omega
  have gw3 : IntKind.i64.wrap 128 = 128 := by decide
  have hcv' := fun (w : World) => run_convert_int_float (P := Tryz.prog) w 33 34 .u64 .f64 (16777215 : Int) (by kernel_rfl) (by kernel_rfl)
  rw [hcv] at hcv'
  have d : decide (k + (Lq : Int) ≤ 128) = false := decide_eq_false (by omega)
  clear hcv hin
  go_enter Tryz.func68, Tryz.ntmps68
  go_wp2
  refine wp_region_within (by kernel_rfl) (by kernel_rfl) ?_
  repeat
    apply wpq_step rfl
    · intro wq hCq
      have q0 : wq.cell? ⟨w.heap.size, 0, none⟩ = some (.bool neg) := (hCq.cells _ _ (by first | (simp; done) | (simp; omega) | omega)).trans (by simp)
      have q1 : wq.cell? ⟨w.heap.size, 1, none⟩ = some (.int .u64 m) := (hCq.cells _ _ (by first | (simp; done) | (simp; omega) | omega)).trans (by simp)
      have q2 : wq.cell? ⟨w.heap.size, 2, none⟩ = some (.int .i64 e) := (hCq.cells _ _ (by first | (simp; done) | (simp; omega) | omega)).trans (by simp)
      have q3 : wq.cell? ⟨(w.heap.size + 1), 0, none⟩ = some (.int .i64 (24)) := (hCq.cells _ _ (by first | (simp; done) | (simp; omega) | omega)).trans (by simp)
      have q4 : wq.cell? ⟨(w.heap.size + 1), 1, none⟩ = some (.int .i64 (-126)) := (hCq.cells _ _ (by first | (simp; done) | (simp; omega) | omega)).trans (by simp)
      have q5 : wq.cell? ⟨(w.heap.size + 1), 2, none⟩ = some (.int .i64 (127)) := (hCq.cells _ _ (by first | (simp; done) | (simp; omega) | omega)).trans (by simp)
      have qz : w.heap.size + 1 < wq.heap.size := World.block_lt_of_cell? _ _ q3
      go_simp
      first | rfl | exact hCq.same (LM.out _) | (trace_state; fail)
    simp only [Act.put, List.setIfInBounds_toArray, List.set_cons_zero, List.set_cons_succ]
  refine wpQuiet_nil ?_
  intro w1 hb1
  have r0 : w1.cell? ⟨w.heap.size, 0, none⟩ = some (.bool neg) := (hb1.cells _ _ (by first | (simp; done) | (simp; omega) | omega)).trans (by simp)
  have r1 : w1.cell? ⟨w.heap.size, 1, none⟩ = some (.int .u64 m) := (hb1.cells _ _ (by first | (simp; done) | (simp; omega) | omega)).trans (by simp)
  have r2 : w1.cell? ⟨w.heap.size, 2, none⟩ = some (.int .i64 e) := (hb1.cells _ _ (by first | (simp; done) | (simp; omega) | omega)).trans (by simp)
  have r3 : w1.cell? ⟨(w.heap.size + 1), 0, none⟩ = some (.int .i64 (24)) := (hb1.cells _ _ (by first | (simp; done) | (simp; omega) | omega)).trans (by simp)
  have r4 : w1.cell? ⟨(w.heap.size + 1), 1, none⟩ = some (.int .i64 (-126)) := (hb1.cells _ _ (by first | (simp; done) | (simp; omega) | omega)).trans (by simp)
  have r5 : w1.cell? ⟨(w.heap.size + 1), 2, none⟩ = some (.int .i64 (127)) := (hb1.cells _ _ (by first | (simp; done) | (simp; omega) | omega)).trans (by simp)
  have rz : w.heap.size + 1 < w1.heap.size := World.block_lt_of_cell? _ _ r3
  go_wp2_with fail
  refine (DR.out _).mono ?_; rintro e2 w2 ⟨rfl, hb2⟩
  have s0 : w2.cell? ⟨w.heap.size, 0, none⟩ = some (.bool neg) := (hb2.cells _ _ (by first | (simp; done) | (simp; omega) | omega)).trans r0
  have s1 : w2.cell? ⟨w.heap.size, 1, none⟩ = some (.int .u64 m) := (hb2.cells _ _ (by first | (simp; done) | (simp; omega) | omega)).trans r1
  have s2 : w2.cell? ⟨w.heap.size, 2, none⟩ = some (.int .i64 e) := (hb2.cells _ _ (by first | (simp; done) | (simp; omega) | omega)).trans r2
  have s3 : w2.cell? ⟨(w.heap.size + 1), 0, none⟩ = some (.int .i64 (24)) := (hb2.cells _ _ (by first | (simp; done) | (simp; omega) | omega)).trans r3
  have s4 : w2.cell? ⟨(w.heap.size + 1), 1, none⟩ = some (.int .i64 (-126)) := (hb2.cells _ _ (by first | (simp; done) | (simp; omega) | omega)).trans r4
  have s5 : w2.cell? ⟨(w.heap.size + 1), 2, none⟩ = some (.int .i64 (127)) := (hb2.cells _ _ (by first | (simp; done) | (simp; omega) | omega)).trans r5
  have sz : w.heap.size + 1 < w2.heap.size := World.block_lt_of_cell? _ _ s3
  clear r0 r1 r2 r3 r4 r5 rz
  go_wp2
  refine wp_region_within (by kernel_rfl) (by kernel_rfl) ?_
  repeat
    apply wpq_step rfl
    · intro wq hCq
      have q0 : wq.cell? ⟨w.heap.size, 0, none⟩ = some (.bool neg) := (hCq.cells _ _ (by first | (simp; done) | (simp; omega) | omega)).trans s0
      have q1 : wq.cell? ⟨w.heap.size, 1, none⟩ = some (.int .u64 m) := (hCq.cells _ _ (by first | (simp; done) | (simp; omega) | omega)).trans s1
      have q2 : wq.cell? ⟨w.heap.size, 2, none⟩ = some (.int .i64 e) := (hCq.cells _ _ (by first | (simp; done) | (simp; omega) | omega)).trans s2
      have q3 : wq.cell? ⟨(w.heap.size + 1), 0, none⟩ = some (.int .i64 (24)) := (hCq.cells _ _ (by first | (simp; done) | (simp; omega) | omega)).trans s3
      have q4 : wq.cell? ⟨(w.heap.size + 1), 1, none⟩ = some (.int .i64 (-126)) := (hCq.cells _ _ (by first | (simp; done) | (simp; omega) | omega)).trans s4
      have q5 : wq.cell? ⟨(w.heap.size + 1), 2, none⟩ = some (.int .i64 (127)) := (hCq.cells _ _ (by first | (simp; done) | (simp; omega) | omega)).trans s5
      have qz : w.heap.size + 1 < wq.heap.size := World.block_lt_of_cell? _ _ q3
      go_simp
      first | rfl | exact hCq.same (LQ.out _) | (trace_state; fail)
    simp only [Act.put, List.setIfInBounds_toArray, List.set_cons_zero, List.set_cons_succ]
  refine wpQuiet_nil ?_
  intro w3 hb3
  have t0 : w3.cell? ⟨w.heap.size, 0, none⟩ = some (.bool neg) := (hb3.cells _ _ (by first | (simp; done) | (simp; omega) | omega)).trans s0
  have t1 : w3.cell? ⟨w.heap.size, 1, none⟩ = some (.int .u64 m) := (hb3.cells _ _ (by first | (simp; done) | (simp; omega) | omega)).trans s1
  have t2 : w3.cell? ⟨w.heap.size, 2, none⟩ = some (.int .i64 e) := (hb3.cells _ _ (by first | (simp; done) | (simp; omega) | omega)).trans s2
  have t3 : w3.cell? ⟨(w.heap.size + 1), 0, none⟩ = some (.int .i64 (24)) := (hb3.cells _ _ (by first | (simp; done) | (simp; omega) | omega)).trans s3
  have t4 : w3.cell? ⟨(w.heap.size + 1), 1, none⟩ = some (.int .i64 (-126)) := (hb3.cells _ _ (by first | (simp; done) | (simp; omega) | omega)).trans s4
  have t5 : w3.cell? ⟨(w.heap.size + 1), 2, none⟩ = some (.int .i64 (127)) := (hb3.cells _ _ (by first | (simp; done) | (simp; omega) | omega)).trans s5
  have tz : w.heap.size + 1 < w3.heap.size := World.block_lt_of_cell? _ _ t3
  clear s0 s1 s2 s3 s4 s5 sz
  go_wp2_with fail
  refine (LD.out _).mono ?_; rintro e4 w4 ⟨rfl, rfl⟩
  go_wp2_with fail
  refine (SG.out _).mono ?_; rintro e5 w5 ⟨rfl, rfl⟩
  go_wp2
  go_ret2
  exact ⟨rfl, (by repeat (with_reducible first | exact Within.refl _ | assumption | refine Within.alloc ?_ _ | refine Within.drew ?_ | refine Within.setCell ?_ (by first | (simp; done) | (simp; omega)) _ | refine Within.trans ?_ (by assumption)))⟩
set_option maxRecDepth 100000 in
set_option maxHeartbeats 600000 in
theorem round_S_top1_3 (m L q Lq : Nat) (e k : Int) (h1 : -20000 ≤ e) (h2 : e ≤ 20000) (hL : L ≤ 64) (hLq : Lq ≤ 64) (hk : max (e + (L : Int) - 24) (-149) = k) (LM : Hid (∀ w, Calls Tryz.prog 109 #[.int .u64 m] w fun e' w' => e' = .returned (.int .i64 (L : Nat)) ∧ w = w')) (DR : Hid (∀ w, Calls Tryz.prog 44 #[.agg #[.bool true, .int .u64 m, .int .i64 e], .int .i64 (k - e), .int .i64 3] w fun e' w' => e' = .returned (.tuple #[.int .u64 q, .bool true]) ∧ Within w w')) (LQ : Hid (∀ w, Calls Tryz.prog 109 #[.int .u64 q] w fun e' w' => e' = .returned (.int .i64 (Lq : Nat)) ∧ w = w')) (x g z : Nat) (hin : 128 < k + (Lq : Int)) (hcv : floatOfInt .f64 (16777215 : Int) = x) (LD : Hid (∀ w, Calls Tryz.prog 58 #[.float .f64 x, .int .i64 104] w fun e' w' => e' = .returned (.float .f64 g) ∧ w = w'))  (SG : Hid (∀ w, Calls Tryz.prog 45 #[.float .f64 g, .bool true] w fun e' w' => e' = .returned (.float .f64 z) ∧ w = w')) (hs : decide (e + (L : Int) - 1 < -126) = false) (w : World) : Calls Tryz.prog 68 #[.agg #[.bool true, .int .u64 m, .int .i64 e], .agg #[.int .i64 24, .int .i64 (-126), .int .i64 127], .int .i64 3] w fun e' w' => e' = .returned (.tuple #[.float .f64 z, .int .i64 5]) ∧ Within w w' := by
  have kl : -20100 ≤ k := by omega
  have ku : k ≤ 20100 := by omega
  have gw1 : IntKind.i64.wrap (e + (L : Int)) = e + (L : Int) := by rw [IntKind.wrap_i64]; omega
  have gw2 : IntKind.i64.wrap (k + (Lq : Int)) = k + (Lq : Int) := by rw [IntKind.wrap_i64]; omega
  have gw3 : IntKind.i64.wrap 128 = 128 := by decide
  have hcv' := fun (w : World) => run_convert_int_float (P := Tryz.prog) w 33 34 .u64 .f64 (16777215 : Int) (by kernel_rfl) (by kernel_rfl)
  rw [hcv] at hcv'
  have d : decide (k + (Lq : Int) ≤ 128) = false := decide_eq_false (by omega)
  clear hcv hin
  go_enter Tryz.func68, Tryz.ntmps68
  go_wp2
  refine wp_region_within (by kernel_rfl) (by kernel_rfl) ?_
  repeat
    apply wpq_step rfl
    · intro wq hCq
      have q0 : wq.cell? ⟨w.heap.size, 0, none⟩ = some (.bool true) := (hCq.cells _ _ (by first | (simp; done) | (simp; omega) | omega)).trans (by simp)
      have q1 : wq.cell? ⟨w.heap.size, 1, none⟩ = some (.int .u64 m) := (hCq.cells _ _ (by first | (simp; done) | (simp; omega) | omega)).trans (by simp)
      have q2 : wq.cell? ⟨w.heap.size, 2, none⟩ = some (.int .i64 e) := (hCq.cells _ _ (by first | (simp; done) | (simp; omega) | omega)).trans (by simp)
      have q3 : wq.cell? ⟨(w.heap.size + 1), 0, none⟩ = some (.int .i64 (24)) := (hCq.cells _ _ (by first | (simp; done) | (simp; omega) | omega)).trans (by simp)
      have q4 : wq.cell? ⟨(w.heap.size + 1), 1, none⟩ = some (.int .i64 (-126)) := (hCq.cells _ _ (by first | (simp; done) | (simp; omega) | omega)).trans (by simp)
      have q5 : wq.cell? ⟨(w.heap.size + 1), 2, none⟩ = some (.int .i64 (127)) := (hCq.cells _ _ (by first | (simp; done) | (simp; omega) | omega)).trans (by simp)
      have qz : w.heap.size + 1 < wq.heap.size := World.block_lt_of_cell? _ _ q3
      go_simp
      first | rfl | exact hCq.same (LM.out _) | (trace_state; fail)
    simp only [Act.put, List.setIfInBounds_toArray, List.set_cons_zero, List.set_cons_succ]
  refine wpQuiet_nil ?_
  intro w1 hb1
  have r0 : w1.cell? ⟨w.heap.size, 0, none⟩ = some (.bool true) := (hb1.cells _ _ (by first | (simp; done) | (simp; omega) | omega)).trans (by simp)
  have r1 : w1.cell? ⟨w.heap.size, 1, none⟩ = some (.int .u64 m) := (hb1.cells _ _ (by first | (simp; done) | (simp; omega) | omega)).trans (by simp)
  have r2 : w1.cell? ⟨w.heap.size, 2, none⟩ = some (.int .i64 e) := (hb1.cells _ _ (by first | (simp; done) | (simp; omega) | omega)).trans (by simp)
  have r3 : w1.cell? ⟨(w.heap.size + 1), 0, none⟩ = some (.int .i64 (24)) := (hb1.cells _ _ (by first | (simp; done) | (simp; omega) | omega)).trans (by simp)
  have r4 : w1.cell? ⟨(w.heap.size + 1), 1, none⟩ = some (.int .i64 (-126)) := (hb1.cells _ _ (by first | (simp; done) | (simp; omega) | omega)).trans (by simp)
  have r5 : w1.cell? ⟨(w.heap.size + 1), 2, none⟩ = some (.int .i64 (127)) := (hb1.cells _ _ (by first | (simp; done) | (simp; omega) | omega)).trans (by simp)
  have rz : w.heap.size + 1 < w1.heap.size := World.block_lt_of_cell? _ _ r3
  go_wp2_with fail
  refine (DR.out _).mono ?_; rintro e2 w2 ⟨rfl, hb2⟩
  have s0 : w2.cell? ⟨w.heap.size, 0, none⟩ = some (.bool true) := (hb2.cells _ _ (by first | (simp; done) | (simp; omega) | omega)).trans r0
  have s1 : w2.cell? ⟨w.heap.size, 1, none⟩ = some (.int .u64 m) := (hb2.cells _ _ (by first | (simp; done) | (simp; omega) | omega)).trans r1
  have s2 : w2.cell? ⟨w.heap.size, 2, none⟩ = some (.int .i64 e) := (hb2.cells _ _ (by first | (simp; done) | (simp; omega) | omega)).trans r2
  have s3 : w2.cell? ⟨(w.heap.size + 1), 0, none⟩ = some (.int .i64 (24)) := (hb2.cells _ _ (by first | (simp; done) | (simp; omega) | omega)).trans r3
  have s4 : w2.cell? ⟨(w.heap.size + 1), 1, none⟩ = some (.int .i64 (-126)) := (hb2.cells _ _ (by first | (simp; done) | (simp; omega) | omega)).trans r4
  have s5 : w2.cell? ⟨(w.heap.size + 1), 2, none⟩ = some (.int .i64 (127)) := (hb2.cells _ _ (by first | (simp; done) | (simp; omega) | omega)).trans r5
  have sz : w.heap.size + 1 < w2.heap.size := World.block_lt_of_cell? _ _ s3
  clear r0 r1 r2 r3 r4 r5 rz
  go_wp2
  refine wp_region_within (by kernel_rfl) (by kernel_rfl) ?_
  repeat
    apply wpq_step rfl
    · intro wq hCq
      have q0 : wq.cell? ⟨w.heap.size, 0, none⟩ = some (.bool true) := (hCq.cells _ _ (by first | (simp; done) | (simp; omega) | omega)).trans s0
      have q1 : wq.cell? ⟨w.heap.size, 1, none⟩ = some (.int .u64 m) := (hCq.cells _ _ (by first | (simp; done) | (simp; omega) | omega)).trans s1
      have q2 : wq.cell? ⟨w.heap.size, 2, none⟩ = some (.int .i64 e) := (hCq.cells _ _ (by first | (simp; done) | (simp; omega) | omega)).trans s2
      have q3 : wq.cell? ⟨(w.heap.size + 1), 0, none⟩ = some (.int .i64 (24)) := (hCq.cells _ _ (by first | (simp; done) | (simp; omega) | omega)).trans s3
      have q4 : wq.cell? ⟨(w.heap.size + 1), 1, none⟩ = some (.int .i64 (-126)) := (hCq.cells _ _ (by first | (simp; done) | (simp; omega) | omega)).trans s4
      have q5 : wq.cell? ⟨(w.heap.size + 1), 2, none⟩ = some (.int .i64 (127)) := (hCq.cells _ _ (by first | (simp; done) | (simp; omega) | omega)).trans s5
      have qz : w.heap.size + 1 < wq.heap.size := World.block_lt_of_cell? _ _ q3
      go_simp
      first | rfl | exact hCq.same (LQ.out _) | (trace_state; fail)
    simp only [Act.put, List.setIfInBounds_toArray, List.set_cons_zero, List.set_cons_succ]
  refine wpQuiet_nil ?_
  intro w3 hb3
  have t0 : w3.cell? ⟨w.heap.size, 0, none⟩ = some (.bool true) := (hb3.cells _ _ (by first | (simp; done) | (simp; omega) | omega)).trans s0
  have t1 : w3.cell? ⟨w.heap.size, 1, none⟩ = some (.int .u64 m) := (hb3.cells _ _ (by first | (simp; done) | (simp; omega) | omega)).trans s1
  have t2 : w3.cell? ⟨w.heap.size, 2, none⟩ = some (.int .i64 e) := (hb3.cells _ _ (by first | (simp; done) | (simp; omega) | omega)).trans s2
  have t3 : w3.cell? ⟨(w.heap.size + 1), 0, none⟩ = some (.int .i64 (24)) := (hb3.cells _ _ (by first | (simp; done) | (simp; omega) | omega)).trans s3
  have t4 : w3.cell? ⟨(w.heap.size + 1), 1, none⟩ = some (.int .i64 (-126)) := (hb3.cells _ _ (by first | (simp; done) | (simp; omega) | omega)).trans s4
  have t5 : w3.cell? ⟨(w.heap.size + 1), 2, none⟩ = some (.int .i64 (127)) := (hb3.cells _ _ (by first | (simp; done) | (simp; omega) | omega)).trans s5
  have tz : w.heap.size + 1 < w3.heap.size := World.block_lt_of_cell? _ _ t3
  clear s0 s1 s2 s3 s4 s5 sz
  go_wp2_with fail
  refine (LD.out _).mono ?_; rintro e4 w4 ⟨rfl, rfl⟩
  go_wp2_with fail
  refine (SG.out _).mono ?_; rintro e5 w5 ⟨rfl, rfl⟩
  go_wp2
  go_ret2
  exact ⟨rfl, (by repeat (with_reducible first | exact Within.refl _ | assumption | refine Within.alloc ?_ _ | refine Within.drew ?_ | refine Within.setCell ?_ (by first | (simp; done) | (simp; omega)) _ | refine Within.trans ?_ (by assumption)))⟩
set_option maxRecDepth 100000 in
set_option maxHeartbeats 600000 in
theorem round_S_top1_4 (m L q Lq : Nat) (e k : Int) (h1 : -20000 ≤ e) (h2 : e ≤ 20000) (hL : L ≤ 64) (hLq : Lq ≤ 64) (hk : max (e + (L : Int) - 24) (-149) = k) (LM : Hid (∀ w, Calls Tryz.prog 109 #[.int .u64 m] w fun e' w' => e' = .returned (.int .i64 (L : Nat)) ∧ w = w')) (DR : Hid (∀ w, Calls Tryz.prog 44 #[.agg #[.bool false, .int .u64 m, .int .i64 e], .int .i64 (k - e), .int .i64 4] w fun e' w' => e' = .returned (.tuple #[.int .u64 q, .bool true]) ∧ Within w w')) (LQ : Hid (∀ w, Calls Tryz.prog 109 #[.int .u64 q] w fun e' w' => e' = .returned (.int .i64 (Lq : Nat)) ∧ w = w')) (x g z : Nat) (hin : 128 < k + (Lq : Int)) (hcv : floatOfInt .f64 (16777215 : Int) = x) (LD : Hid (∀ w, Calls Tryz.prog 58 #[.float .f64 x, .int .i64 104] w fun e' w' => e' = .returned (.float .f64 g) ∧ w = w'))  (SG : Hid (∀ w, Calls Tryz.prog 45 #[.float .f64 g, .bool false] w fun e' w' => e' = .returned (.float .f64 z) ∧ w = w')) (hs : decide (e + (L : Int) - 1 < -126) = false) (w : World) : Calls Tryz.prog 68 #[.agg #[.bool false, .int .u64 m, .int .i64 e], .agg #[.int .i64 24, .int .i64 (-126), .int .i64 127], .int .i64 4] w fun e' w' => e' = .returned (.tuple #[.float .f64 z, .int .i64 5]) ∧ Within w w' := by
  have kl : -20100 ≤ k := by omega
  have ku : k ≤ 20100 := by omega
  have gw1 : IntKind.i64.wrap (e + (L : Int)) = e + (L : Int) := by rw [IntKind.wrap_i64]; omega
  have gw2 : IntKind.i64.wrap (k + (Lq : Int)) = k + (Lq : Int) := by rw [IntKind.wrap_i64]; omega
  have gw3 : IntKind.i64.wrap 128 = 128 := by decide
  have hcv' := fun (w : World) => run_convert_int_float (P := Tryz.prog) w 33 34 .u64 .f64 (16777215 : Int) (by kernel_rfl) (by kernel_rfl)
  rw [hcv] at hcv'
  have d : decide (k + (Lq : Int) ≤ 128) = false := decide_eq_false (by omega)
  clear hcv hin
  go_enter Tryz.func68, Tryz.ntmps68
  go_wp2
  refine wp_region_within (by kernel_rfl) (by kernel_rfl) ?_
  repeat
    apply wpq_step rfl
    · intro wq hCq
      have q0 : wq.cell? ⟨w.heap.size, 0, none⟩ = some (.bool false) := (hCq.cells _ _ (by first | (simp; done) | (simp; omega) | omega)).trans (by simp)
      have q1 : wq.cell? ⟨w.heap.size, 1, none⟩ = some (.int .u64 m) := (hCq.cells _ _ (by first | (simp; done) | (simp; omega) | omega)).trans (by simp)
      have q2 : wq.cell? ⟨w.heap.size, 2, none⟩ = some (.int .i64 e) := (hCq.cells _ _ (by first | (simp; done) | (simp; omega) | omega)).trans (by simp)
      have q3 : wq.cell? ⟨(w.heap.size + 1), 0, none⟩ = some (.int .i64 (24)) := (hCq.cells _ _ (by first | (simp; done) | (simp; omega) | omega)).trans (by simp)
      have q4 : wq.cell? ⟨(w.heap.size + 1), 1, none⟩ = some (.int .i64 (-126)) := (hCq.cells _ _ (by first | (simp; done) | (simp; omega) | omega)).trans (by simp)
      have q5 : wq.cell? ⟨(w.heap.size + 1), 2, none⟩ = some (.int .i64 (127)) := (hCq.cells _ _ (by first | (simp; done) | (simp; omega) | omega)).trans (by simp)
      have qz : w.heap.size + 1 < wq.heap.size := World.block_lt_of_cell? _ _ q3
      go_simp
      first | rfl | exact hCq.same (LM.out _) | (trace_state; fail)
    simp only [Act.put, List.setIfInBounds_toArray, List.set_cons_zero, List.set_cons_succ]
  refine wpQuiet_nil ?_
  intro w1 hb1
  have r0 : w1.cell? ⟨w.heap.size, 0, none⟩ = some (.bool false) := (hb1.cells _ _ (by first | (simp; done) | (simp; omega) | omega)).trans (by simp)
  have r1 : w1.cell? ⟨w.heap.size, 1, none⟩ = some (.int .u64 m) := (hb1.cells _ _ (by first | (simp; done) | (simp; omega) | omega)).trans (by simp)
  have r2 : w1.cell? ⟨w.heap.size, 2, none⟩ = some (.int .i64 e) := (hb1.cells _ _ (by first | (simp; done) | (simp; omega) | omega)).trans (by simp)
  have r3 : w1.cell? ⟨(w.heap.size + 1), 0, none⟩ = some (.int .i64 (24)) := (hb1.cells _ _ (by first | (simp; done) | (simp; omega) | omega)).trans (by simp)
  have r4 : w1.cell? ⟨(w.heap.size + 1), 1, none⟩ = some (.int .i64 (-126)) := (hb1.cells _ _ (by first | (simp; done) | (simp; omega) | omega)).trans (by simp)
  have r5 : w1.cell? ⟨(w.heap.size + 1), 2, none⟩ = some (.int .i64 (127)) := (hb1.cells _ _ (by first | (simp; done) | (simp; omega) | omega)).trans (by simp)
  have rz : w.heap.size + 1 < w1.heap.size := World.block_lt_of_cell? _ _ r3
  go_wp2_with fail
  refine (DR.out _).mono ?_; rintro e2 w2 ⟨rfl, hb2⟩
  have s0 : w2.cell? ⟨w.heap.size, 0, none⟩ = some (.bool false) := (hb2.cells _ _ (by first | (simp; done) | (simp; omega) | omega)).trans r0
  have s1 : w2.cell? ⟨w.heap.size, 1, none⟩ = some (.int .u64 m) := (hb2.cells _ _ (by first | (simp; done) | (simp; omega) | omega)).trans r1
  have s2 : w2.cell? ⟨w.heap.size, 2, none⟩ = some (.int .i64 e) := (hb2.cells _ _ (by first | (simp; done) | (simp; omega) | omega)).trans r2
  have s3 : w2.cell? ⟨(w.heap.size + 1), 0, none⟩ = some (.int .i64 (24)) := (hb2.cells _ _ (by first | (simp; done) | (simp; omega) | omega)).trans r3
  have s4 : w2.cell? ⟨(w.heap.size + 1), 1, none⟩ = some (.int .i64 (-126)) := (hb2.cells _ _ (by first | (simp; done) | (simp; omega) | omega)).trans r4
  have s5 : w2.cell? ⟨(w.heap.size + 1), 2, none⟩ = some (.int .i64 (127)) := (hb2.cells _ _ (by first | (simp; done) | (simp; omega) | omega)).trans r5
  have sz : w.heap.size + 1 < w2.heap.size := World.block_lt_of_cell? _ _ s3
  clear r0 r1 r2 r3 r4 r5 rz
  go_wp2
  refine wp_region_within (by kernel_rfl) (by kernel_rfl) ?_
  repeat
    apply wpq_step rfl
    · intro wq hCq
      have q0 : wq.cell? ⟨w.heap.size, 0, none⟩ = some (.bool false) := (hCq.cells _ _ (by first | (simp; done) | (simp; omega) | omega)).trans s0
      have q1 : wq.cell? ⟨w.heap.size, 1, none⟩ = some (.int .u64 m) := (hCq.cells _ _ (by first | (simp; done) | (simp; omega) | omega)).trans s1
      have q2 : wq.cell? ⟨w.heap.size, 2, none⟩ = some (.int .i64 e) := (hCq.cells _ _ (by first | (simp; done) | (simp; omega) | omega)).trans s2
      have q3 : wq.cell? ⟨(w.heap.size + 1), 0, none⟩ = some (.int .i64 (24)) := (hCq.cells _ _ (by first | (simp; done) | (simp; omega) | omega)).trans s3
      have q4 : wq.cell? ⟨(w.heap.size + 1), 1, none⟩ = some (.int .i64 (-126)) := (hCq.cells _ _ (by first | (simp; done) | (simp; omega) | omega)).trans s4
      have q5 : wq.cell? ⟨(w.heap.size + 1), 2, none⟩ = some (.int .i64 (127)) := (hCq.cells _ _ (by first | (simp; done) | (simp; omega) | omega)).trans s5
      have qz : w.heap.size + 1 < wq.heap.size := World.block_lt_of_cell? _ _ q3
      go_simp
      first | rfl | exact hCq.same (LQ.out _) | (trace_state; fail)
    simp only [Act.put, List.setIfInBounds_toArray, List.set_cons_zero, List.set_cons_succ]
  refine wpQuiet_nil ?_
  intro w3 hb3
  have t0 : w3.cell? ⟨w.heap.size, 0, none⟩ = some (.bool false) := (hb3.cells _ _ (by first | (simp; done) | (simp; omega) | omega)).trans s0
  have t1 : w3.cell? ⟨w.heap.size, 1, none⟩ = some (.int .u64 m) := (hb3.cells _ _ (by first | (simp; done) | (simp; omega) | omega)).trans s1
  have t2 : w3.cell? ⟨w.heap.size, 2, none⟩ = some (.int .i64 e) := (hb3.cells _ _ (by first | (simp; done) | (simp; omega) | omega)).trans s2
  have t3 : w3.cell? ⟨(w.heap.size + 1), 0, none⟩ = some (.int .i64 (24)) := (hb3.cells _ _ (by first | (simp; done) | (simp; omega) | omega)).trans s3
  have t4 : w3.cell? ⟨(w.heap.size + 1), 1, none⟩ = some (.int .i64 (-126)) := (hb3.cells _ _ (by first | (simp; done) | (simp; omega) | omega)).trans s4
  have t5 : w3.cell? ⟨(w.heap.size + 1), 2, none⟩ = some (.int .i64 (127)) := (hb3.cells _ _ (by first | (simp; done) | (simp; omega) | omega)).trans s5
  have tz : w.heap.size + 1 < w3.heap.size := World.block_lt_of_cell? _ _ t3
  clear s0 s1 s2 s3 s4 s5 sz
  go_wp2_with fail
  refine (LD.out _).mono ?_; rintro e4 w4 ⟨rfl, rfl⟩
  go_wp2_with fail
  refine (SG.out _).mono ?_; rintro e5 w5 ⟨rfl, rfl⟩
  go_wp2
  go_ret2
  exact ⟨rfl, (by repeat (with_reducible first | exact Within.refl _ | assumption | refine Within.alloc ?_ _ | refine Within.drew ?_ | refine Within.setCell ?_ (by first | (simp; done) | (simp; omega)) _ | refine Within.trans ?_ (by assumption)))⟩
set_option maxRecDepth 100000 in
set_option maxHeartbeats 600000 in
theorem round_S_inf1 (neg : Bool) (m L q Lq : Nat) (e k : Int) (mode : Int) (h1 : -20000 ≤ e) (h2 : e ≤ 20000) (hL : L ≤ 64) (hLq : Lq ≤ 64) (hk : max (e + (L : Int) - 24) (-149) = k) (LM : Hid (∀ w, Calls Tryz.prog 109 #[.int .u64 m] w fun e' w' => e' = .returned (.int .i64 (L : Nat)) ∧ w = w')) (DR : Hid (∀ w, Calls Tryz.prog 44 #[.agg #[.bool neg, .int .u64 m, .int .i64 e], .int .i64 (k - e), .int .i64 mode] w fun e' w' => e' = .returned (.tuple #[.int .u64 q, .bool true]) ∧ Within w w')) (LQ : Hid (∀ w, Calls Tryz.prog 109 #[.int .u64 q] w fun e' w' => e' = .returned (.int .i64 (Lq : Nat)) ∧ w = w')) (x g y z : Nat) (hin : 128 < k + (Lq : Int)) (hcv : floatOfInt .f64 (16777215 : Int) = x) (LD : Hid (∀ w, Calls Tryz.prog 58 #[.float .f64 x, .int .i64 104] w fun e' w' => e' = .returned (.float .f64 g) ∧ w = w')) (IN : Hid (∀ w, Calls Tryz.prog 110 #[.int .i64 1] w fun e' w' => e' = .returned (.float .f64 y) ∧ w = w')) (SG : Hid (∀ w, Calls Tryz.prog 45 #[.float .f64 y, .bool neg] w fun e' w' => e' = .returned (.float .f64 z) ∧ w = w')) (m2 : (mode == 2) = false) (m3 : (mode == 3) = false) (m4 : (mode == 4) = false) (hs : decide (e + (L : Int) - 1 < -126) = false) (w : World) : Calls Tryz.prog 68 #[.agg #[.bool neg, .int .u64 m, .int .i64 e], .agg #[.int .i64 24, .int .i64 (-126), .int .i64 127], .int .i64 mode] w fun e' w' => e' = .returned (.tuple #[.float .f64 z, .int .i64 5]) ∧ Within w w' := by
  have kl : -20100 ≤ k := by omega
  have ku : k ≤ 20100 := by omega
  have gw1 : IntKind.i64.wrap (e + (L : Int)) = e + (L : Int) := by rw [IntKind.wrap_i64]; omega
  have gw2 : IntKind.i64.wrap (k + (Lq : Int)) = k + (Lq : Int) := by rw [IntKind.wrap_i64]; omega
  have gw3 : IntKind.i64.wrap 128 = 128 := by decide
  have hcv' := fun (w : World) => run_convert_int_float (P := Tryz.prog) w 33 34 .u64 .f64 (16777215 : Int) (by kernel_rfl) (by kernel_rfl)
  rw [hcv] at hcv'
  have d : decide (k + (Lq : Int) ≤ 128) = false := decide_eq_false (by omega)
  clear hcv hin
  go_enter Tryz.func68, Tryz.ntmps68
  go_wp2
  refine wp_region_within (by kernel_rfl) (by kernel_rfl) ?_
  repeat
    apply wpq_step rfl
    · intro wq hCq
      have q0 : wq.cell? ⟨w.heap.size, 0, none⟩ = some (.bool neg) := (hCq.cells _ _ (by first | (simp; done) | (simp; omega) | omega)).trans (by simp)
      have q1 : wq.cell? ⟨w.heap.size, 1, none⟩ = some (.int .u64 m) := (hCq.cells _ _ (by first | (simp; done) | (simp; omega) | omega)).trans (by simp)
      have q2 : wq.cell? ⟨w.heap.size, 2, none⟩ = some (.int .i64 e) := (hCq.cells _ _ (by first | (simp; done) | (simp; omega) | omega)).trans (by simp)
      have q3 : wq.cell? ⟨(w.heap.size + 1), 0, none⟩ = some (.int .i64 (24)) := (hCq.cells _ _ (by first | (simp; done) | (simp; omega) | omega)).trans (by simp)
      have q4 : wq.cell? ⟨(w.heap.size + 1), 1, none⟩ = some (.int .i64 (-126)) := (hCq.cells _ _ (by first | (simp; done) | (simp; omega) | omega)).trans (by simp)
      have q5 : wq.cell? ⟨(w.heap.size + 1), 2, none⟩ = some (.int .i64 (127)) := (hCq.cells _ _ (by first | (simp; done) | (simp; omega) | omega)).trans (by simp)
      have qz : w.heap.size + 1 < wq.heap.size := World.block_lt_of_cell? _ _ q3
      go_simp
      first | rfl | exact hCq.same (LM.out _) | (trace_state; fail)
    simp only [Act.put, List.setIfInBounds_toArray, List.set_cons_zero, List.set_cons_succ]
  refine wpQuiet_nil ?_
  intro w1 hb1
  have r0 : w1.cell? ⟨w.heap.size, 0, none⟩ = some (.bool neg) := (hb1.cells _ _ (by first | (simp; done) | (simp; omega) | omega)).trans (by simp)
  have r1 : w1.cell? ⟨w.heap.size, 1, none⟩ = some (.int .u64 m) := (hb1.cells _ _ (by first | (simp; done) | (simp; omega) | omega)).trans (by simp)
  have r2 : w1.cell? ⟨w.heap.size, 2, none⟩ = some (.int .i64 e) := (hb1.cells _ _ (by first | (simp; done) | (simp; omega) | omega)).trans (by simp)
  have r3 : w1.cell? ⟨(w.heap.size + 1), 0, none⟩ = some (.int .i64 (24)) := (hb1.cells _ _ (by first | (simp; done) | (simp; omega) | omega)).trans (by simp)
  have r4 : w1.cell? ⟨(w.heap.size + 1), 1, none⟩ = some (.int .i64 (-126)) := (hb1.cells _ _ (by first | (simp; done) | (simp; omega) | omega)).trans (by simp)
  have r5 : w1.cell? ⟨(w.heap.size + 1), 2, none⟩ = some (.int .i64 (127)) := (hb1.cells _ _ (by first | (simp; done) | (simp; omega) | omega)).trans (by simp)
  have rz : w.heap.size + 1 < w1.heap.size := World.block_lt_of_cell? _ _ r3
  go_wp2_with fail
  refine (DR.out _).mono ?_; rintro e2 w2 ⟨rfl, hb2⟩
  have s0 : w2.cell? ⟨w.heap.size, 0, none⟩ = some (.bool neg) := (hb2.cells _ _ (by first | (simp; done) | (simp; omega) | omega)).trans r0
  have s1 : w2.cell? ⟨w.heap.size, 1, none⟩ = some (.int .u64 m) := (hb2.cells _ _ (by first | (simp; done) | (simp; omega) | omega)).trans r1
  have s2 : w2.cell? ⟨w.heap.size, 2, none⟩ = some (.int .i64 e) := (hb2.cells _ _ (by first | (simp; done) | (simp; omega) | omega)).trans r2
  have s3 : w2.cell? ⟨(w.heap.size + 1), 0, none⟩ = some (.int .i64 (24)) := (hb2.cells _ _ (by first | (simp; done) | (simp; omega) | omega)).trans r3
  have s4 : w2.cell? ⟨(w.heap.size + 1), 1, none⟩ = some (.int .i64 (-126)) := (hb2.cells _ _ (by first | (simp; done) | (simp; omega) | omega)).trans r4
  have s5 : w2.cell? ⟨(w.heap.size + 1), 2, none⟩ = some (.int .i64 (127)) := (hb2.cells _ _ (by first | (simp; done) | (simp; omega) | omega)).trans r5
  have sz : w.heap.size + 1 < w2.heap.size := World.block_lt_of_cell? _ _ s3
  clear r0 r1 r2 r3 r4 r5 rz
  go_wp2
  refine wp_region_within (by kernel_rfl) (by kernel_rfl) ?_
  repeat
    apply wpq_step rfl
    · intro wq hCq
      have q0 : wq.cell? ⟨w.heap.size, 0, none⟩ = some (.bool neg) := (hCq.cells _ _ (by first | (simp; done) | (simp; omega) | omega)).trans s0
      have q1 : wq.cell? ⟨w.heap.size, 1, none⟩ = some (.int .u64 m) := (hCq.cells _ _ (by first | (simp; done) | (simp; omega) | omega)).trans s1
      have q2 : wq.cell? ⟨w.heap.size, 2, none⟩ = some (.int .i64 e) := (hCq.cells _ _ (by first | (simp; done) | (simp; omega) | omega)).trans s2
      have q3 : wq.cell? ⟨(w.heap.size + 1), 0, none⟩ = some (.int .i64 (24)) := (hCq.cells _ _ (by first | (simp; done) | (simp; omega) | omega)).trans s3
      have q4 : wq.cell? ⟨(w.heap.size + 1), 1, none⟩ = some (.int .i64 (-126)) := (hCq.cells _ _ (by first | (simp; done) | (simp; omega) | omega)).trans s4
      have q5 : wq.cell? ⟨(w.heap.size + 1), 2, none⟩ = some (.int .i64 (127)) := (hCq.cells _ _ (by first | (simp; done) | (simp; omega) | omega)).trans s5
      have qz : w.heap.size + 1 < wq.heap.size := World.block_lt_of_cell? _ _ q3
      go_simp
      first | rfl | exact hCq.same (LQ.out _) | (trace_state; fail)
    simp only [Act.put, List.setIfInBounds_toArray, List.set_cons_zero, List.set_cons_succ]
  refine wpQuiet_nil ?_
  intro w3 hb3
  have t0 : w3.cell? ⟨w.heap.size, 0, none⟩ = some (.bool neg) := (hb3.cells _ _ (by first | (simp; done) | (simp; omega) | omega)).trans s0
  have t1 : w3.cell? ⟨w.heap.size, 1, none⟩ = some (.int .u64 m) := (hb3.cells _ _ (by first | (simp; done) | (simp; omega) | omega)).trans s1
  have t2 : w3.cell? ⟨w.heap.size, 2, none⟩ = some (.int .i64 e) := (hb3.cells _ _ (by first | (simp; done) | (simp; omega) | omega)).trans s2
  have t3 : w3.cell? ⟨(w.heap.size + 1), 0, none⟩ = some (.int .i64 (24)) := (hb3.cells _ _ (by first | (simp; done) | (simp; omega) | omega)).trans s3
  have t4 : w3.cell? ⟨(w.heap.size + 1), 1, none⟩ = some (.int .i64 (-126)) := (hb3.cells _ _ (by first | (simp; done) | (simp; omega) | omega)).trans s4
  have t5 : w3.cell? ⟨(w.heap.size + 1), 2, none⟩ = some (.int .i64 (127)) := (hb3.cells _ _ (by first | (simp; done) | (simp; omega) | omega)).trans s5
  have tz : w.heap.size + 1 < w3.heap.size := World.block_lt_of_cell? _ _ t3
  clear s0 s1 s2 s3 s4 s5 sz
  go_wp2_with fail
  refine (LD.out _).mono ?_; rintro e4 w4 ⟨rfl, rfl⟩
  go_wp2
  refine wp_region_within (by kernel_rfl) (by kernel_rfl) ?_
  repeat
    apply wpq_step rfl
    · intro wq hCq
      have q0 : wq.cell? ⟨w.heap.size, 0, none⟩ = some (.bool neg) := (hCq.cells _ _ (by first | (simp; done) | (simp; omega) | omega)).trans t0
      have q1 : wq.cell? ⟨w.heap.size, 1, none⟩ = some (.int .u64 m) := (hCq.cells _ _ (by first | (simp; done) | (simp; omega) | omega)).trans t1
      have q2 : wq.cell? ⟨w.heap.size, 2, none⟩ = some (.int .i64 e) := (hCq.cells _ _ (by first | (simp; done) | (simp; omega) | omega)).trans t2
      have q3 : wq.cell? ⟨(w.heap.size + 1), 0, none⟩ = some (.int .i64 (24)) := (hCq.cells _ _ (by first | (simp; done) | (simp; omega) | omega)).trans t3
      have q4 : wq.cell? ⟨(w.heap.size + 1), 1, none⟩ = some (.int .i64 (-126)) := (hCq.cells _ _ (by first | (simp; done) | (simp; omega) | omega)).trans t4
      have q5 : wq.cell? ⟨(w.heap.size + 1), 2, none⟩ = some (.int .i64 (127)) := (hCq.cells _ _ (by first | (simp; done) | (simp; omega) | omega)).trans t5
      have qz : w.heap.size + 1 < wq.heap.size := World.block_lt_of_cell? _ _ q3
      go_simp
      first | rfl | exact hCq.same (IN.out _) | exact hCq.same (SG.out _) | (trace_state; fail)
    simp only [Act.put, List.setIfInBounds_toArray, List.set_cons_zero, List.set_cons_succ]
  refine wpQuiet_nil ?_
  intro w5 hb5
  go_wp2
  go_ret2
  exact ⟨rfl, (by repeat (with_reducible first | exact Within.refl _ | assumption | refine Within.alloc ?_ _ | refine Within.drew ?_ | refine Within.setCell ?_ (by first | (simp; done) | (simp; omega)) _ | refine Within.trans ?_ (by assumption)))⟩
set_option maxRecDepth 100000 in
set_option maxHeartbeats 600000 in
theorem round_S_inf1_3 (m L q Lq : Nat) (e k : Int) (h1 : -20000 ≤ e) (h2 : e ≤ 20000) (hL : L ≤ 64) (hLq : Lq ≤ 64) (hk : max (e + (L : Int) - 24) (-149) = k) (LM : Hid (∀ w, Calls Tryz.prog 109 #[.int .u64 m] w fun e' w' => e' = .returned (.int .i64 (L : Nat)) ∧ w = w')) (DR : Hid (∀ w, Calls Tryz.prog 44 #[.agg #[.bool false, .int .u64 m, .int .i64 e], .int .i64 (k - e), .int .i64 3] w fun e' w' => e' = .returned (.tuple #[.int .u64 q, .bool true]) ∧ Within w w')) (LQ : Hid (∀ w, Calls Tryz.prog 109 #[.int .u64 q] w fun e' w' => e' = .returned (.int .i64 (Lq : Nat)) ∧ w = w')) (x g y z : Nat) (hin : 128 < k + (Lq : Int)) (hcv : floatOfInt .f64 (16777215 : Int) = x) (LD : Hid (∀ w, Calls Tryz.prog 58 #[.float .f64 x, .int .i64 104] w fun e' w' => e' = .returned (.float .f64 g) ∧ w = w')) (IN : Hid (∀ w, Calls Tryz.prog 110 #[.int .i64 1] w fun e' w' => e' = .returned (.float .f64 y) ∧ w = w')) (SG : Hid (∀ w, Calls Tryz.prog 45 #[.float .f64 y, .bool false] w fun e' w' => e' = .returned (.float .f64 z) ∧ w = w')) (hs : decide (e + (L : Int) - 1 < -126) = false) (w : World) : Calls Tryz.prog 68 #[.agg #[.bool false, .int .u64 m, .int .i64 e], .agg #[.int .i64 24, .int .i64 (-126), .int .i64 127], .int .i64 3] w fun e' w' => e' = .returned (.tuple #[.float .f64 z, .int .i64 5]) ∧ Within w w' := by
  have kl : -20100 ≤ k := by omega
  have ku : k ≤ 20100 := by omega
  have gw1 : IntKind.i64.wrap (e + (L : Int)) = e + (L : Int) := by rw [IntKind.wrap_i64]; omega
  have gw2 : IntKind.i64.wrap (k + (Lq : Int)) = k + (Lq : Int) := by rw [IntKind.wrap_i64]; omega
  have gw3 : IntKind.i64.wrap 128 = 128 := by decide
  have hcv' := fun (w : World) => run_convert_int_float (P := Tryz.prog) w 33 34 .u64 .f64 (16777215 : Int) (by kernel_rfl) (by kernel_rfl)
  rw [hcv] at hcv'
  have d : decide (k + (Lq : Int) ≤ 128) = false := decide_eq_false (by omega)
  clear hcv hin
  go_enter Tryz.func68, Tryz.ntmps68
  go_wp2
  refine wp_region_within (by kernel_rfl) (by kernel_rfl) ?_
  repeat
    apply wpq_step rfl
    · intro wq hCq
      have q0 : wq.cell? ⟨w.heap.size, 0, none⟩ = some (.bool false) := (hCq.cells _ _ (by first | (simp; done) | (simp; omega) | omega)).trans (by simp)
      have q1 : wq.cell? ⟨w.heap.size, 1, none⟩ = some (.int .u64 m) := (hCq.cells _ _ (by first | (simp; done) | (simp; omega) | omega)).trans (by simp)
      have q2 : wq.cell? ⟨w.heap.size, 2, none⟩ = some (.int .i64 e) := (hCq.cells _ _ (by first | (simp; done) | (simp; omega) | omega)).trans (by simp)
      have q3 : wq.cell? ⟨(w.heap.size + 1), 0, none⟩ = some (.int .i64 (24)) := (hCq.cells _ _ (by first | (simp; done) | (simp; omega) | omega)).trans (by simp)
      have q4 : wq.cell? ⟨(w.heap.size + 1), 1, none⟩ = some (.int .i64 (-126)) := (hCq.cells _ _ (by first | (simp; done) | (simp; omega) | omega)).trans (by simp)
      have q5 : wq.cell? ⟨(w.heap.size + 1), 2, none⟩ = some (.int .i64 (127)) := (hCq.cells _ _ (by first | (simp; done) | (simp; omega) | omega)).trans (by simp)
      have qz : w.heap.size + 1 < wq.heap.size := World.block_lt_of_cell? _ _ q3
      go_simp
      first | rfl | exact hCq.same (LM.out _) | (trace_state; fail)
    simp only [Act.put, List.setIfInBounds_toArray, List.set_cons_zero, List.set_cons_succ]
  refine wpQuiet_nil ?_
  intro w1 hb1
  have r0 : w1.cell? ⟨w.heap.size, 0, none⟩ = some (.bool false) := (hb1.cells _ _ (by first | (simp; done) | (simp; omega) | omega)).trans (by simp)
  have r1 : w1.cell? ⟨w.heap.size, 1, none⟩ = some (.int .u64 m) := (hb1.cells _ _ (by first | (simp; done) | (simp; omega) | omega)).trans (by simp)
  have r2 : w1.cell? ⟨w.heap.size, 2, none⟩ = some (.int .i64 e) := (hb1.cells _ _ (by first | (simp; done) | (simp; omega) | omega)).trans (by simp)
  have r3 : w1.cell? ⟨(w.heap.size + 1), 0, none⟩ = some (.int .i64 (24)) := (hb1.cells _ _ (by first | (simp; done) | (simp; omega) | omega)).trans (by simp)
  have r4 : w1.cell? ⟨(w.heap.size + 1), 1, none⟩ = some (.int .i64 (-126)) := (hb1.cells _ _ (by first | (simp; done) | (simp; omega) | omega)).trans (by simp)
  have r5 : w1.cell? ⟨(w.heap.size + 1), 2, none⟩ = some (.int .i64 (127)) := (hb1.cells _ _ (by first | (simp; done) | (simp; omega) | omega)).trans (by simp)
  have rz : w.heap.size + 1 < w1.heap.size := World.block_lt_of_cell? _ _ r3
  go_wp2_with fail
  refine (DR.out _).mono ?_; rintro e2 w2 ⟨rfl, hb2⟩
  have s0 : w2.cell? ⟨w.heap.size, 0, none⟩ = some (.bool false) := (hb2.cells _ _ (by first | (simp; done) | (simp; omega) | omega)).trans r0
  have s1 : w2.cell? ⟨w.heap.size, 1, none⟩ = some (.int .u64 m) := (hb2.cells _ _ (by first | (simp; done) | (simp; omega) | omega)).trans r1
  have s2 : w2.cell? ⟨w.heap.size, 2, none⟩ = some (.int .i64 e) := (hb2.cells _ _ (by first | (simp; done) | (simp; omega) | omega)).trans r2
  have s3 : w2.cell? ⟨(w.heap.size + 1), 0, none⟩ = some (.int .i64 (24)) := (hb2.cells _ _ (by first | (simp; done) | (simp; omega) | omega)).trans r3
  have s4 : w2.cell? ⟨(w.heap.size + 1), 1, none⟩ = some (.int .i64 (-126)) := (hb2.cells _ _ (by first | (simp; done) | (simp; omega) | omega)).trans r4
  have s5 : w2.cell? ⟨(w.heap.size + 1), 2, none⟩ = some (.int .i64 (127)) := (hb2.cells _ _ (by first | (simp; done) | (simp; omega) | omega)).trans r5
  have sz : w.heap.size + 1 < w2.heap.size := World.block_lt_of_cell? _ _ s3
  clear r0 r1 r2 r3 r4 r5 rz
  go_wp2
  refine wp_region_within (by kernel_rfl) (by kernel_rfl) ?_
  repeat
    apply wpq_step rfl
    · intro wq hCq
      have q0 : wq.cell? ⟨w.heap.size, 0, none⟩ = some (.bool false) := (hCq.cells _ _ (by first | (simp; done) | (simp; omega) | omega)).trans s0
      have q1 : wq.cell? ⟨w.heap.size, 1, none⟩ = some (.int .u64 m) := (hCq.cells _ _ (by first | (simp; done) | (simp; omega) | omega)).trans s1
      have q2 : wq.cell? ⟨w.heap.size, 2, none⟩ = some (.int .i64 e) := (hCq.cells _ _ (by first | (simp; done) | (simp; omega) | omega)).trans s2
      have q3 : wq.cell? ⟨(w.heap.size + 1), 0, none⟩ = some (.int .i64 (24)) := (hCq.cells _ _ (by first | (simp; done) | (simp; omega) | omega)).trans s3
      have q4 : wq.cell? ⟨(w.heap.size + 1), 1, none⟩ = some (.int .i64 (-126)) := (hCq.cells _ _ (by first | (simp; done) | (simp; omega) | omega)).trans s4
      have q5 : wq.cell? ⟨(w.heap.size + 1), 2, none⟩ = some (.int .i64 (127)) := (hCq.cells _ _ (by first | (simp; done) | (simp; omega) | omega)).trans s5
      have qz : w.heap.size + 1 < wq.heap.size := World.block_lt_of_cell? _ _ q3
      go_simp
      first | rfl | exact hCq.same (LQ.out _) | (trace_state; fail)
    simp only [Act.put, List.setIfInBounds_toArray, List.set_cons_zero, List.set_cons_succ]
  refine wpQuiet_nil ?_
  intro w3 hb3
  have t0 : w3.cell? ⟨w.heap.size, 0, none⟩ = some (.bool false) := (hb3.cells _ _ (by first | (simp; done) | (simp; omega) | omega)).trans s0
  have t1 : w3.cell? ⟨w.heap.size, 1, none⟩ = some (.int .u64 m) := (hb3.cells _ _ (by first | (simp; done) | (simp; omega) | omega)).trans s1
  have t2 : w3.cell? ⟨w.heap.size, 2, none⟩ = some (.int .i64 e) := (hb3.cells _ _ (by first | (simp; done) | (simp; omega) | omega)).trans s2
  have t3 : w3.cell? ⟨(w.heap.size + 1), 0, none⟩ = some (.int .i64 (24)) := (hb3.cells _ _ (by first | (simp; done) | (simp; omega) | omega)).trans s3
  have t4 : w3.cell? ⟨(w.heap.size + 1), 1, none⟩ = some (.int .i64 (-126)) := (hb3.cells _ _ (by first | (simp; done) | (simp; omega) | omega)).trans s4
  have t5 : w3.cell? ⟨(w.heap.size + 1), 2, none⟩ = some (.int .i64 (127)) := (hb3.cells _ _ (by first | (simp; done) | (simp; omega) | omega)).trans s5
  have tz : w.heap.size + 1 < w3.heap.size := World.block_lt_of_cell? _ _ t3
  clear s0 s1 s2 s3 s4 s5 sz
  go_wp2_with fail
  refine (LD.out _).mono ?_; rintro e4 w4 ⟨rfl, rfl⟩
  go_wp2
  refine wp_region_within (by kernel_rfl) (by kernel_rfl) ?_
  repeat
    apply wpq_step rfl
    · intro wq hCq
      have q0 : wq.cell? ⟨w.heap.size, 0, none⟩ = some (.bool false) := (hCq.cells _ _ (by first | (simp; done) | (simp; omega) | omega)).trans t0
      have q1 : wq.cell? ⟨w.heap.size, 1, none⟩ = some (.int .u64 m) := (hCq.cells _ _ (by first | (simp; done) | (simp; omega) | omega)).trans t1
      have q2 : wq.cell? ⟨w.heap.size, 2, none⟩ = some (.int .i64 e) := (hCq.cells _ _ (by first | (simp; done) | (simp; omega) | omega)).trans t2
      have q3 : wq.cell? ⟨(w.heap.size + 1), 0, none⟩ = some (.int .i64 (24)) := (hCq.cells _ _ (by first | (simp; done) | (simp; omega) | omega)).trans t3
      have q4 : wq.cell? ⟨(w.heap.size + 1), 1, none⟩ = some (.int .i64 (-126)) := (hCq.cells _ _ (by first | (simp; done) | (simp; omega) | omega)).trans t4
      have q5 : wq.cell? ⟨(w.heap.size + 1), 2, none⟩ = some (.int .i64 (127)) := (hCq.cells _ _ (by first | (simp; done) | (simp; omega) | omega)).trans t5
      have qz : w.heap.size + 1 < wq.heap.size := World.block_lt_of_cell? _ _ q3
      go_simp
      first | rfl | exact hCq.same (IN.out _) | exact hCq.same (SG.out _) | (trace_state; fail)
    simp only [Act.put, List.setIfInBounds_toArray, List.set_cons_zero, List.set_cons_succ]
  refine wpQuiet_nil ?_
  intro w5 hb5
  go_wp2
  go_ret2
  exact ⟨rfl, (by repeat (with_reducible first | exact Within.refl _ | assumption | refine Within.alloc ?_ _ | refine Within.drew ?_ | refine Within.setCell ?_ (by first | (simp; done) | (simp; omega)) _ | refine Within.trans ?_ (by assumption)))⟩
set_option maxRecDepth 100000 in
set_option maxHeartbeats 600000 in
theorem round_S_inf1_4 (m L q Lq : Nat) (e k : Int) (h1 : -20000 ≤ e) (h2 : e ≤ 20000) (hL : L ≤ 64) (hLq : Lq ≤ 64) (hk : max (e + (L : Int) - 24) (-149) = k) (LM : Hid (∀ w, Calls Tryz.prog 109 #[.int .u64 m] w fun e' w' => e' = .returned (.int .i64 (L : Nat)) ∧ w = w')) (DR : Hid (∀ w, Calls Tryz.prog 44 #[.agg #[.bool true, .int .u64 m, .int .i64 e], .int .i64 (k - e), .int .i64 4] w fun e' w' => e' = .returned (.tuple #[.int .u64 q, .bool true]) ∧ Within w w')) (LQ : Hid (∀ w, Calls Tryz.prog 109 #[.int .u64 q] w fun e' w' => e' = .returned (.int .i64 (Lq : Nat)) ∧ w = w')) (x g y z : Nat) (hin : 128 < k + (Lq : Int)) (hcv : floatOfInt .f64 (16777215 : Int) = x) (LD : Hid (∀ w, Calls Tryz.prog 58 #[.float .f64 x, .int .i64 104] w fun e' w' => e' = .returned (.float .f64 g) ∧ w = w')) (IN : Hid (∀ w, Calls Tryz.prog 110 #[.int .i64 1] w fun e' w' => e' = .returned (.float .f64 y) ∧ w = w')) (SG : Hid (∀ w, Calls Tryz.prog 45 #[.float .f64 y, .bool true] w fun e' w' => e' = .returned (.float .f64 z) ∧ w = w')) (hs : decide (e + (L : Int) - 1 < -126) = false) (w : World) : Calls Tryz.prog 68 #[.agg #[.bool true, .int .u64 m, .int .i64 e], .agg #[.int .i64 24, .int .i64 (-126), .int .i64 127], .int .i64 4] w fun e' w' => e' = .returned (.tuple #[.float .f64 z, .int .i64 5]) ∧ Within w w' := by
  have kl : -20100 ≤ k := by omega
  have ku : k ≤ 20100 := by omega
  have gw1 : IntKind.i64.wrap (e + (L : Int)) = e + (L : Int) := by rw [IntKind.wrap_i64]; omega
  have gw2 : IntKind.i64.wrap (k + (Lq : Int)) = k + (Lq : Int) := by rw [IntKind.wrap_i64]; omega
  have gw3 : IntKind.i64.wrap 128 = 128 := by decide
  have hcv' := fun (w : World) => run_convert_int_float (P := Tryz.prog) w 33 34 .u64 .f64 (16777215 : Int) (by kernel_rfl) (by kernel_rfl)
  rw [hcv] at hcv'
  have d : decide (k + (Lq : Int) ≤ 128) = false := decide_eq_false (by omega)
  clear hcv hin
  go_enter Tryz.func68, Tryz.ntmps68
  go_wp2
  refine wp_region_within (by kernel_rfl) (by kernel_rfl) ?_
  repeat
    apply wpq_step rfl
    · intro wq hCq
      have q0 : wq.cell? ⟨w.heap.size, 0, none⟩ = some (.bool true) := (hCq.cells _ _ (by first | (simp; done) | (simp; omega) | omega)).trans (by simp)
      have q1 : wq.cell? ⟨w.heap.size, 1, none⟩ = some (.int .u64 m) := (hCq.cells _ _ (by first | (simp; done) | (simp; omega) | omega)).trans (by simp)
      have q2 : wq.cell? ⟨w.heap.size, 2, none⟩ = some (.int .i64 e) := (hCq.cells _ _ (by first | (simp; done) | (simp; omega) | omega)).trans (by simp)
      have q3 : wq.cell? ⟨(w.heap.size + 1), 0, none⟩ = some (.int .i64 (24)) := (hCq.cells _ _ (by first | (simp; done) | (simp; omega) | omega)).trans (by simp)
      have q4 : wq.cell? ⟨(w.heap.size + 1), 1, none⟩ = some (.int .i64 (-126)) := (hCq.cells _ _ (by first | (simp; done) | (simp; omega) | omega)).trans (by simp)
      have q5 : wq.cell? ⟨(w.heap.size + 1), 2, none⟩ = some (.int .i64 (127)) := (hCq.cells _ _ (by first | (simp; done) | (simp; omega) | omega)).trans (by simp)
      have qz : w.heap.size + 1 < wq.heap.size := World.block_lt_of_cell? _ _ q3
      go_simp
      first | rfl | exact hCq.same (LM.out _) | (trace_state; fail)
    simp only [Act.put, List.setIfInBounds_toArray, List.set_cons_zero, List.set_cons_succ]
  refine wpQuiet_nil ?_
  intro w1 hb1
  have r0 : w1.cell? ⟨w.heap.size, 0, none⟩ = some (.bool true) := (hb1.cells _ _ (by first | (simp; done) | (simp; omega) | omega)).trans (by simp)
  have r1 : w1.cell? ⟨w.heap.size, 1, none⟩ = some (.int .u64 m) := (hb1.cells _ _ (by first | (simp; done) | (simp; omega) | omega)).trans (by simp)
  have r2 : w1.cell? ⟨w.heap.size, 2, none⟩ = some (.int .i64 e) := (hb1.cells _ _ (by first | (simp; done) | (simp; omega) | omega)).trans (by simp)
  have r3 : w1.cell? ⟨(w.heap.size + 1), 0, none⟩ = some (.int .i64 (24)) := (hb1.cells _ _ (by first | (simp; done) | (simp; omega) | omega)).trans (by simp)
  have r4 : w1.cell? ⟨(w.heap.size + 1), 1, none⟩ = some (.int .i64 (-126)) := (hb1.cells _ _ (by first | (simp; done) | (simp; omega) | omega)).trans (by simp)
  have r5 : w1.cell? ⟨(w.heap.size + 1), 2, none⟩ = some (.int .i64 (127)) := (hb1.cells _ _ (by first | (simp; done) | (simp; omega) | omega)).trans (by simp)
  have rz : w.heap.size + 1 < w1.heap.size := World.block_lt_of_cell? _ _ r3
  go_wp2_with fail
  refine (DR.out _).mono ?_; rintro e2 w2 ⟨rfl, hb2⟩
  have s0 : w2.cell? ⟨w.heap.size, 0, none⟩ = some (.bool true) := (hb2.cells _ _ (by first | (simp; done) | (simp; omega) | omega)).trans r0
  have s1 : w2.cell? ⟨w.heap.size, 1, none⟩ = some (.int .u64 m) := (hb2.cells _ _ (by first | (simp; done) | (simp; omega) | omega)).trans r1
  have s2 : w2.cell? ⟨w.heap.size, 2, none⟩ = some (.int .i64 e) := (hb2.cells _ _ (by first | (simp; done) | (simp; omega) | omega)).trans r2
  have s3 : w2.cell? ⟨(w.heap.size + 1), 0, none⟩ = some (.int .i64 (24)) := (hb2.cells _ _ (by first | (simp; done) | (simp; omega) | omega)).trans r3
  have s4 : w2.cell? ⟨(w.heap.size + 1), 1, none⟩ = some (.int .i64 (-126)) := (hb2.cells _ _ (by first | (simp; done) | (simp; omega) | omega)).trans r4
  have s5 : w2.cell? ⟨(w.heap.size + 1), 2, none⟩ = some (.int .i64 (127)) := (hb2.cells _ _ (by first | (simp; done) | (simp; omega) | omega)).trans r5
  have sz : w.heap.size + 1 < w2.heap.size := World.block_lt_of_cell? _ _ s3
  clear r0 r1 r2 r3 r4 r5 rz
  go_wp2
  refine wp_region_within (by kernel_rfl) (by kernel_rfl) ?_
  repeat
    apply wpq_step rfl
    · intro wq hCq
      have q0 : wq.cell? ⟨w.heap.size, 0, none⟩ = some (.bool true) := (hCq.cells _ _ (by first | (simp; done) | (simp; omega) | omega)).trans s0
      have q1 : wq.cell? ⟨w.heap.size, 1, none⟩ = some (.int .u64 m) := (hCq.cells _ _ (by first | (simp; done) | (simp; omega) | omega)).trans s1
      have q2 : wq.cell? ⟨w.heap.size, 2, none⟩ = some (.int .i64 e) := (hCq.cells _ _ (by first | (simp; done) | (simp; omega) | omega)).trans s2
      have q3 : wq.cell? ⟨(w.heap.size + 1), 0, none⟩ = some (.int .i64 (24)) := (hCq.cells _ _ (by first | (simp; done) | (simp; omega) | omega)).trans s3
      have q4 : wq.cell? ⟨(w.heap.size + 1), 1, none⟩ = some (.int .i64 (-126)) := (hCq.cells _ _ (by first | (simp; done) | (simp; omega) | omega)).trans s4
      have q5 : wq.cell? ⟨(w.heap.size + 1), 2, none⟩ = some (.int .i64 (127)) := (hCq.cells _ _ (by first | (simp; done) | (simp; omega) | omega)).trans s5
      have qz : w.heap.size + 1 < wq.heap.size := World.block_lt_of_cell? _ _ q3
      go_simp
      first | rfl | exact hCq.same (LQ.out _) | (trace_state; fail)
    simp only [Act.put, List.setIfInBounds_toArray, List.set_cons_zero, List.set_cons_succ]
  refine wpQuiet_nil ?_
  intro w3 hb3
  have t0 : w3.cell? ⟨w.heap.size, 0, none⟩ = some (.bool true) := (hb3.cells _ _ (by first | (simp; done) | (simp; omega) | omega)).trans s0
  have t1 : w3.cell? ⟨w.heap.size, 1, none⟩ = some (.int .u64 m) := (hb3.cells _ _ (by first | (simp; done) | (simp; omega) | omega)).trans s1
  have t2 : w3.cell? ⟨w.heap.size, 2, none⟩ = some (.int .i64 e) := (hb3.cells _ _ (by first | (simp; done) | (simp; omega) | omega)).trans s2
  have t3 : w3.cell? ⟨(w.heap.size + 1), 0, none⟩ = some (.int .i64 (24)) := (hb3.cells _ _ (by first | (simp; done) | (simp; omega) | omega)).trans s3
  have t4 : w3.cell? ⟨(w.heap.size + 1), 1, none⟩ = some (.int .i64 (-126)) := (hb3.cells _ _ (by first | (simp; done) | (simp; omega) | omega)).trans s4
  have t5 : w3.cell? ⟨(w.heap.size + 1), 2, none⟩ = some (.int .i64 (127)) := (hb3.cells _ _ (by first | (simp; done) | (simp; omega) | omega)).trans s5
  have tz : w.heap.size + 1 < w3.heap.size := World.block_lt_of_cell? _ _ t3
  clear s0 s1 s2 s3 s4 s5 sz
  go_wp2_with fail
  refine (LD.out _).mono ?_; rintro e4 w4 ⟨rfl, rfl⟩
  go_wp2
  refine wp_region_within (by kernel_rfl) (by kernel_rfl) ?_
  repeat
    apply wpq_step rfl
    · intro wq hCq
      have q0 : wq.cell? ⟨w.heap.size, 0, none⟩ = some (.bool true) := (hCq.cells _ _ (by first | (simp; done) | (simp; omega) | omega)).trans t0
      have q1 : wq.cell? ⟨w.heap.size, 1, none⟩ = some (.int .u64 m) := (hCq.cells _ _ (by first | (simp; done) | (simp; omega) | omega)).trans t1
      have q2 : wq.cell? ⟨w.heap.size, 2, none⟩ = some (.int .i64 e) := (hCq.cells _ _ (by first | (simp; done) | (simp; omega) | omega)).trans t2
      have q3 : wq.cell? ⟨(w.heap.size + 1), 0, none⟩ = some (.int .i64 (24)) := (hCq.cells _ _ (by first | (simp; done) | (simp; omega) | omega)).trans t3
      have q4 : wq.cell? ⟨(w.heap.size + 1), 1, none⟩ = some (.int .i64 (-126)) := (hCq.cells _ _ (by first | (simp; done) | (simp; omega) | omega)).trans t4
      have q5 : wq.cell? ⟨(w.heap.size + 1), 2, none⟩ = some (.int .i64 (127)) := (hCq.cells _ _ (by first | (simp; done) | (simp; omega) | omega)).trans t5
      have qz : w.heap.size + 1 < wq.heap.size := World.block_lt_of_cell? _ _ q3
      go_simp
      first | rfl | exact hCq.same (IN.out _) | exact hCq.same (SG.out _) | (trace_state; fail)
    simp only [Act.put, List.setIfInBounds_toArray, List.set_cons_zero, List.set_cons_succ]
  refine wpQuiet_nil ?_
  intro w5 hb5
  go_wp2
  go_ret2
  exact ⟨rfl, (by repeat (with_reducible first | exact Within.refl _ | assumption | refine Within.alloc ?_ _ | refine Within.drew ?_ | refine Within.setCell ?_ (by first | (simp; done) | (simp; omega)) _ | refine Within.trans ?_ (by assumption)))⟩
end Go.Proofs.YtifgngmebnjfkaaGreatDoor
end

section
namespace Go.Proofs.YtifgngmebnjfkaaGreatDoor
open Go.RowKit
def rK (D lo : Int) (m : Nat) (e : Int) : Int := max (e + (Lib.bitLen m : Nat) - D) lo
def rQ (D lo : Int) (neg : Bool) (m : Nat) (e mode : Int) : Nat := if rK D lo m e - e ≤ 0 then m * 2 ^ (-(rK D lo m e - e)).toNat else cutQ m (rK D lo m e - e).toNat neg mode
def rLost (D lo : Int) (m : Nat) (e : Int) : Bool := if rK D lo m e - e ≤ 0 then false else decide (m % 2 ^ (rK D lo m e - e).toNat ≠ 0)
def rOver (D lo most : Int) (neg : Bool) (m : Nat) (e mode : Int) : Bool := decide (most + 1 < rK D lo m e + (Lib.bitLen (rQ D lo neg m e mode) : Nat))
def rTop (neg : Bool) (mode : Int) : Bool := decide (mode = 2) || (decide (mode = 3) && neg) || (decide (mode = 4) && !neg)
def rFlags (D lo most : Int) (neg : Bool) (m : Nat) (e mode : Int) : Int :=
  if rOver D lo most neg m e mode then 5 else if rLost D lo m e then (if e + (Lib.bitLen m : Nat) - 1 < lo + D - 1 then 3 else 1) else 0
def rAmt (D lo : Int) (neg : Bool) (m : Nat) (e mode : Int) : Nat := rQ D lo neg m e mode * 2 ^ (rK D lo m e + 1074).toNat
def rWord (D lo most : Int) (top : Nat) (neg : Bool) (m : Nat) (e mode : Int) : Nat :=
  (if rOver D lo most neg m e mode then (if rTop neg mode then top else 9218868437227405312) else Fp.num Ieee.double false (rAmt D lo neg m e mode)) + (if neg then 9223372036854775808 else 0)
theorem bl_bounds {m : Nat} (h : m ≠ 0) (hm : m < 18446744073709551616) : 2 ^ (Lib.bitLen m - 1) ≤ m ∧ m < 2 ^ Lib.bitLen m ∧ 1 ≤ Lib.bitLen m ∧ Lib.bitLen m ≤ 64 := by
  have hl : m.log2 < 64 := (Nat.log2_lt h).2 hm
  rw [bitLen_log2 m h hm]
  exact ⟨Nat.log2_self_le h, Nat.lt_log2_self, by omega, by omega⟩
theorem bl_le {m : Nat} (hm : m < 18446744073709551616) {k : Nat} (h : m ≤ 2 ^ k) : Lib.bitLen m ≤ k + 1 := by
  by_cases h0 : m = 0
  · subst h0; show 0 ≤ _; omega
  · rw [bitLen_log2 m h0 hm]
    have : m.log2 < k + 1 := (Nat.log2_lt h0).2 (by rw [Nat.pow_succ]; have := Nat.two_pow_pos k; omega)
    omega
theorem lt_bl {m : Nat} (hm : m < 18446744073709551616) : m < 2 ^ Lib.bitLen m := by
  by_cases h0 : m = 0
  · subst h0; exact Nat.two_pow_pos _
  · exact (bl_bounds h0 hm).2.1
theorem rQ_le {D : Nat} {lo : Int} (neg : Bool) {m : Nat} (e mode : Int) (h0 : m ≠ 0) (hm : m < 18446744073709551616) (hD : D ≤ 53) : rQ D lo neg m e mode ≤ 2 ^ D ∧ (rK D lo m e - e ≤ 0 → (-(rK D lo m e - e)).toNat ≤ 63) := by
  have hb := bl_bounds h0 hm
  have hk : rK D lo m e = max (e + (Lib.bitLen m : Nat) - D) lo := rfl
  unfold rQ
  generalize rK D lo m e = k at *
  generalize Lib.bitLen m = L at *
  split
  · refine ⟨?_, fun _ => by omega⟩
    have h1 : m * 2 ^ (-(k - e)).toNat < 2 ^ L * 2 ^ (-(k - e)).toNat := Nat.mul_lt_mul_of_pos_right hb.2.1 (Nat.two_pow_pos _)
    rw [← Nat.pow_add] at h1
    have h2 : 2 ^ (L + (-(k - e)).toNat) ≤ 2 ^ D := Nat.pow_le_pow_right (by decide) (by omega)
    omega
  · refine ⟨?_, fun h => by omega⟩
    unfold cutQ
    have h1 : (goes m (k - e).toNat neg mode).toNat ≤ 1 := by cases goes m (k - e).toNat neg mode <;> decide
    have h2 : m / 2 ^ (k - e).toNat < 2 ^ D := by
      rw [Nat.div_lt_iff_lt_mul (Nat.two_pow_pos _), ← Nat.pow_add]
      exact Nat.lt_of_lt_of_le hb.2.1 (Nat.pow_le_pow_right (by decide) (by omega))
    omega
theorem rAmt_rep {D : Nat} {lo most : Int} (neg : Bool) {m : Nat} (e mode : Int) (h0 : m ≠ 0) (hm : m < 18446744073709551616) (hD : D ≤ 53) (hlo : -1074 ≤ lo) (hmost : most ≤ 1023) (h : rOver D lo most neg m e mode = false) : Fp.Rep Ieee.double (rAmt D lo neg m e mode) := by
  have hq := (rQ_le (lo := lo) neg e mode h0 hm hD).1
  have hk : lo ≤ rK D lo m e := by unfold rK; omega
  have hov : rK D lo m e + (Lib.bitLen (rQ D lo neg m e mode) : Nat) ≤ most + 1 := by unfold rOver at h; simp at h; exact h
  unfold rAmt
  generalize rQ D lo neg m e mode = q at *
  generalize rK D lo m e = k at *
  have hq53 : q ≤ 9007199254740992 := Nat.le_trans hq (Nat.pow_le_pow_right (n := 2) (by decide) hD)
  have hlt : q * 2 ^ (k + 1074).toNat < Fp.mag Ieee.double Ieee.double.infRung := by
    rw [Fp.mag_infD]
    have h1 : q * 2 ^ (k + 1074).toNat < 2 ^ Lib.bitLen q * 2 ^ (k + 1074).toNat := Nat.mul_lt_mul_of_pos_right (lt_bl (by omega)) (Nat.two_pow_pos _)
    rw [← Nat.pow_add] at h1
    refine Nat.lt_of_lt_of_le h1 (Nat.pow_le_pow_right (by decide) ?_)
    unfold Fp.dtop; omega
  by_cases hq' : q = 9007199254740992
  · refine Fp.rep_of Ieee.double 1 (53 + (k + 1074).toNat) ?_ (by decide) hlt
    rw [hq', Nat.pow_add, Nat.one_mul, show (2 : Nat) ^ 53 = 9007199254740992 by decide]
  · exact Fp.rep_of Ieee.double q (k + 1074).toNat rfl (by show q < 2 ^ 53; omega) hlt
theorem float_int {q : Nat} (h : q ≤ 9007199254740992) : floatOfInt .f64 (q : Int) = Fp.num Ieee.double false (q * 2 ^ Fp.deep Ieee.double) ∧ Fp.Rep Ieee.double (q * 2 ^ Fp.deep Ieee.double) := by
  have hrep : Fp.Rep Ieee.double (q * 2 ^ Fp.deep Ieee.double) := by
    have hlt : q * 2 ^ Fp.deep Ieee.double < Fp.mag Ieee.double Ieee.double.infRung := by
      rw [Fp.mag_infD, Fp.dD]
      obtain ⟨j, hj⟩ : ∃ j : Nat, j = 1074 := ⟨_, rfl⟩
      rw [← hj]
      have h1 : q * 2 ^ j < 2 ^ 54 * 2 ^ j := Nat.mul_lt_mul_of_pos_right (Nat.lt_of_le_of_lt h (by decide)) (Nat.two_pow_pos _)
      rw [← Nat.pow_add] at h1
      exact Nat.lt_of_lt_of_le h1 (Nat.pow_le_pow_right (by decide) (by unfold Fp.dtop; omega))
    by_cases hq' : q = 9007199254740992
    · refine Fp.rep_of Ieee.double 1 (53 + Fp.deep Ieee.double) ?_ (by decide) hlt
      rw [hq', Nat.pow_add, Nat.one_mul, show (2 : Nat) ^ 53 = 9007199254740992 by decide]
    · exact Fp.rep_of Ieee.double q _ rfl (by show q < 2 ^ 53; omega) hlt
  refine ⟨?_, hrep⟩
  have h1 := Fp.int_is Ieee.double Fp.dL0 (q : Int) (by rw [Int.natAbs_natCast]; exact hrep)
  rw [Int.natAbs_natCast, decide_eq_false (by omega)] at h1
  rw [← h1]
  have e : floatOfInt .f64 (q : Int) = Ieee.double.write (.number (decide ((q : Int) < 0)) (q : Int).natAbs 0) := by unfold floatOfInt FloatKind.nearest FloatKind.encode FloatKind.format; rfl
  rw [e, Int.natAbs_natCast, decide_eq_false (by omega)]
theorem num_lt {n : Nat} (h : Fp.Rep Ieee.double n) : Fp.num Ieee.double false n < 9218868437227405312 := (rep_lt h).1
theorem num_high {n : Nat} (h : Fp.Rep Ieee.double n) (hn : 4503599627370496 ≤ n) : 4503599627370496 ≤ Fp.num Ieee.double false n := by
  obtain ⟨_, h2⟩ := rep_lt h
  by_cases hl : Fp.num Ieee.double false n < 4503599627370496
  · rw [mag_low hl] at h2; omega
  · omega
theorem ldexp_int {q : Nat} {k : Int} (hq : q ≤ 9007199254740992) (hk : -1074 ≤ k) (hrep : Fp.Rep Ieee.double (q * 2 ^ (k + 1074).toNat)) (w : World) :
    Calls Tryz.prog 58 #[.float .f64 (Fp.num Ieee.double false (q * 2 ^ Fp.deep Ieee.double)), .int .i64 k] w fun e w' => e = .returned (.float .f64 (Fp.num Ieee.double false (q * 2 ^ (k + 1074).toNat))) ∧ w = w' := by
  obtain ⟨_, h2⟩ := float_int hq
  by_cases h0 : q = 0
  · subst h0
    simp only [Nat.zero_mul] at *
    have e : Fp.num Ieee.double false 0 = 0 := Fp.grid_zero Ieee.double 0
    rw [e]
    exact m_ldexp (fun w => m_ldexp_zero k w) w
  have hbig : 4503599627370496 ≤ q * 2 ^ Fp.deep Ieee.double := by
    have h3 : 2 ^ 52 ≤ 2 ^ Fp.deep Ieee.double := Nat.pow_le_pow_right (by decide) (by rw [Fp.dD]; omega)
    have h4 : 1 * 2 ^ Fp.deep Ieee.double ≤ q * 2 ^ Fp.deep Ieee.double := Nat.mul_le_mul_right _ (by omega)
    have h5 : (2 : Nat) ^ 52 = 4503599627370496 := by decide
    omega
  refine ldexp_is _ (q * 2 ^ Fp.deep Ieee.double) _ k (num_high h2 hbig) (num_lt h2) (rep_lt h2).2 hrep (Nat.mul_ne_zero h0 (Nat.ne_of_gt (Nat.two_pow_pos _))) (fun hp => ?_) (fun hn => ?_) w
  · rw [Nat.mul_assoc, ← Nat.pow_add]; congr 2; rw [Fp.dD]; omega
  · rw [Nat.mul_assoc, ← Nat.pow_add]; congr 2; rw [Fp.dD]; omega
set_option maxRecDepth 100000 in
set_option maxHeartbeats 600000 in
theorem m_inf1 (w : World) : Calls Tryz.prog 110 #[.int .i64 1] w fun e w' => e = .returned (.float .f64 9218868437227405312) ∧ w = w' := by
  go_enter Tryz.func110, Tryz.ntmps110
  go_wp2
  go_ret
  exact ⟨rfl, rfl⟩
end Go.Proofs.YtifgngmebnjfkaaGreatDoor
end

section
namespace Go.Proofs.YtifgngmebnjfkaaGreatDoor
open Go.RowKit
theorem signed_any (neg : Bool) {a : Nat} (ha : a < 9223372036854775808) (w : World) : Calls Tryz.prog 45 #[.float .f64 a, .bool neg] w fun e w' => e = .returned (.float .f64 (a + (if neg then 9223372036854775808 else 0))) ∧ w = w' := by
  cases neg
  · exact signed_false a w
  · exact signed_true a ha w
def topS : Nat := 5183643170566569984
theorem top_numS : Fp.Rep Ieee.double (16777215 * 2 ^ ((104 : Int) + 1074).toNat) ∧ Fp.num Ieee.double false (16777215 * 2 ^ ((104 : Int) + 1074).toNat) = topS := by
  obtain ⟨j, hj⟩ : ∃ j : Nat, j = ((104 : Int) + 1074).toNat := ⟨_, rfl⟩
  have hj' : j = 1178 := by rw [hj]; rfl
  rw [← hj]
  have hm : Fp.mag Ieee.double topS = 16777215 * 2 ^ j := by
    have e1 := rung_high (r := topS) (by decide)
    have e2 : 4503599627370496 + topS % 4503599627370496 = 16777215 * 2 ^ 29 := by decide
    have e3 : topS / 4503599627370496 - 1 = j - 29 := by first | omega | (rw [hj']; rfl)
    have e4 : 29 + (j - 29) = j := by omega
    clear hj hj'
    rw [e2, e3, Nat.mul_assoc, ← Nat.pow_add, e4] at e1
    exact e1
  exact ⟨hm ▸ Fp.rep_mag Ieee.double Fp.dF (by decide), pos_rung hm⟩
theorem round_S (neg : Bool) (m : Nat) (e mode : Int) (h0 : m ≠ 0) (hm : m < 18446744073709551616) (h1 : -20000 ≤ e) (h2 : e ≤ 20000) (hmode : 0 ≤ mode ∧ mode ≤ 4) (w : World) : Calls Tryz.prog 68 #[.agg #[.bool neg, .int .u64 m, .int .i64 e], .agg #[.int .i64 24, .int .i64 (-126), .int .i64 127], .int .i64 mode] w fun e' w' => e' = .returned (.tuple #[.float .f64 (rWord 24 (-149) 127 topS neg m e mode), .int .i64 (rFlags 24 (-149) 127 neg m e mode)]) ∧ Within w w' := by
  have hb := bl_bounds h0 hm
  have hq := rQ_le (D := 24) (lo := -149) neg e mode h0 hm (by decide)
  have hk : max (e + ((Lib.bitLen m : Nat) : Int) - 24) (-149) = rK 24 (-149) m e := rfl
  have hq53 : rQ 24 (-149) neg m e mode ≤ 9007199254740992 := Nat.le_trans hq.1 (by decide)
  have hlq : Lib.bitLen (rQ 24 (-149) neg m e mode) ≤ 64 := Nat.le_trans (bl_le (by omega) hq.1) (by decide)
  have LM := Lib.hid (fun w => bits_len64 m hm w)
  have LQ := Lib.hid (fun w => bits_len64 (rQ 24 (-149) neg m e mode) (by omega) w)
  have DR := Lib.hid (fun w => show Calls Tryz.prog 44 #[.agg #[.bool neg, .int .u64 m, .int .i64 e], .int .i64 (rK 24 (-149) m e - e), .int .i64 mode] w fun e' w' => e' = .returned (.tuple #[.int .u64 (rQ 24 (-149) neg m e mode), .bool (rLost 24 (-149) m e)]) ∧ Within w w' from by
    have hdef : rQ 24 (-149) neg m e mode = if rK 24 (-149) m e - e ≤ 0 then m * 2 ^ (-(rK 24 (-149) m e - e)).toNat else cutQ m (rK 24 (-149) m e - e).toNat neg mode := rfl
    have hl : rLost 24 (-149) m e = if rK 24 (-149) m e - e ≤ 0 then false else decide (m % 2 ^ (rK 24 (-149) m e - e).toNat ≠ 0) := rfl
    generalize rQ 24 (-149) neg m e mode = q at *
    generalize rK 24 (-149) m e = k at *
    generalize rLost 24 (-149) m e = l at *
    by_cases hs : k - e ≤ 0
    · rw [if_pos hs] at hdef hl
      subst hl
      have := drop_up neg m (-(k - e)).toNat e mode (hq.2 hs) (by omega) w
      rw [← hdef] at this
      rwa [show -((-(k - e)).toNat : Int) = k - e by omega] at this
    · rw [if_neg hs] at hdef hl
      subst hl
      have := drop_down neg m (k - e).toNat e mode hm h0 (by omega) hmode w
      rw [← hdef] at this
      rwa [show (((k - e).toNat : Nat) : Int) = k - e by omega] at this)
  have hover : rOver 24 (-149) 127 neg m e mode = decide ((127 : Int) + 1 < rK 24 (-149) m e + (Lib.bitLen (rQ 24 (-149) neg m e mode) : Nat)) := rfl
  have hrep := rAmt_rep (D := 24) (lo := -149) (most := 127) neg e mode h0 hm (by decide) (by decide) (by decide)
  have hlo : -149 ≤ rK 24 (-149) m e := by unfold rK; omega
  have LD := fun (h : Fp.Rep Ieee.double (rQ 24 (-149) neg m e mode * 2 ^ (rK 24 (-149) m e + 1074).toNat)) => Lib.hid (fun w => ldexp_int hq53 (k := rK 24 (-149) m e) (by omega) h w)
  have CV := (float_int hq53).1
  have TL := Lib.hid (fun w => ldexp_int (q := 16777215) (k := 104) (by decide) (by decide) top_numS.1 w)
  rw [top_numS.2] at TL
  have TC := (float_int (q := 16777215) (by decide)).1
  unfold rWord rFlags
  unfold rAmt at hrep ⊢
  generalize hQ : rQ 24 (-149) neg m e mode = q at *
  generalize hKK : rK 24 (-149) m e = k at *
  generalize hLL : Lib.bitLen m = L at *
  generalize hLQ : Lib.bitLen q = Lq at *
  cases hov : rOver 24 (-149) 127 neg m e mode
  · rw [hov] at hover
    have hin : k + (Lq : Int) ≤ 127 + 1 := by have := of_decide_eq_false hover.symm; omega
    rw [if_neg Bool.false_ne_true, if_neg Bool.false_ne_true]
    have SG := Lib.hid (fun w => signed_any neg (Nat.lt_trans (num_lt (hrep hov)) (by decide)) w)
    cases hl : rLost 24 (-149) m e
    · rw [hl] at DR
      rw [if_neg Bool.false_ne_true]
      exact round_S_in0 neg m L q Lq e k mode h1 h2 hb.2.2.2 hlq hk LM DR LQ _ _ _ hin CV (LD (hrep hov)) SG w
    · rw [hl] at DR
      rw [if_pos rfl]
      by_cases hu : e + (L : Int) - 1 < -126
      · rw [if_pos (show e + (L : Int) - 1 < (-149) + 24 - 1 by omega)]
        exact round_S_in3 neg m L q Lq e k mode h1 h2 hb.2.2.2 hlq hk LM DR LQ _ _ _ hin CV (LD (hrep hov)) SG (decide_eq_true hu) w
      · rw [if_neg (show ¬ e + (L : Int) - 1 < (-149) + 24 - 1 by omega)]
        exact round_S_in1 neg m L q Lq e k mode h1 h2 hb.2.2.2 hlq hk LM DR LQ _ _ _ hin CV (LD (hrep hov)) SG (decide_eq_false hu) w
  · rw [hov] at hover
    have hin : (127 : Int) + 1 < k + (Lq : Int) := of_decide_eq_true hover.symm
    have hlq' : Lq ≤ 24 + 1 := by rw [← hLQ]; exact bl_le (by omega) hq.1
    have hu : ¬ e + (L : Int) - 1 < -126 := by omega
    have IN := Lib.hid m_inf1
    rw [if_pos rfl, if_pos rfl]
    have hmod : mode = 0 ∨ mode = 1 ∨ mode = 2 ∨ mode = 3 ∨ mode = 4 := by omega
    have SGi := fun n => Lib.hid (fun w => signed_any n (show 9218868437227405312 < 9223372036854775808 by decide) w)
    have SGt := fun n => Lib.hid (fun w => signed_any n (show topS < 9223372036854775808 by decide) w)
    unfold rTop
    cases hl : rLost 24 (-149) m e
    · rw [hl] at DR
      rcases hmod with rfl | rfl | rfl | rfl | rfl
      · exact round_S_inf0 neg m L q Lq e k 0 h1 h2 hb.2.2.2 hlq hk LM DR LQ _ _ _ _ hin TC TL IN (SGi neg) (by decide) (by decide) (by decide) w
      · exact round_S_inf0 neg m L q Lq e k 1 h1 h2 hb.2.2.2 hlq hk LM DR LQ _ _ _ _ hin TC TL IN (SGi neg) (by decide) (by decide) (by decide) w
      · exact round_S_top0_2 neg m L q Lq e k h1 h2 hb.2.2.2 hlq hk LM DR LQ _ _ _ hin TC TL (SGt neg) w
      · cases neg
        · exact round_S_inf0_3 m L q Lq e k h1 h2 hb.2.2.2 hlq hk LM DR LQ _ _ _ _ hin TC TL IN (SGi false) w
        · exact round_S_top0_3 m L q Lq e k h1 h2 hb.2.2.2 hlq hk LM DR LQ _ _ _ hin TC TL (SGt true) w
      · cases neg
        · exact round_S_top0_4 m L q Lq e k h1 h2 hb.2.2.2 hlq hk LM DR LQ _ _ _ hin TC TL (SGt false) w
        · exact round_S_inf0_4 m L q Lq e k h1 h2 hb.2.2.2 hlq hk LM DR LQ _ _ _ _ hin TC TL IN (SGi true) w
    · rw [hl] at DR
      have hs := decide_eq_false hu
      rcases hmod with rfl | rfl | rfl | rfl | rfl
      · exact round_S_inf1 neg m L q Lq e k 0 h1 h2 hb.2.2.2 hlq hk LM DR LQ _ _ _ _ hin TC TL IN (SGi neg) (by decide) (by decide) (by decide) hs w
      · exact round_S_inf1 neg m L q Lq e k 1 h1 h2 hb.2.2.2 hlq hk LM DR LQ _ _ _ _ hin TC TL IN (SGi neg) (by decide) (by decide) (by decide) hs w
      · exact round_S_top1_2 neg m L q Lq e k h1 h2 hb.2.2.2 hlq hk LM DR LQ _ _ _ hin TC TL (SGt neg) hs w
      · cases neg
        · exact round_S_inf1_3 m L q Lq e k h1 h2 hb.2.2.2 hlq hk LM DR LQ _ _ _ _ hin TC TL IN (SGi false) hs w
        · exact round_S_top1_3 m L q Lq e k h1 h2 hb.2.2.2 hlq hk LM DR LQ _ _ _ hin TC TL (SGt true) hs w
      · cases neg
        · exact round_S_top1_4 m L q Lq e k h1 h2 hb.2.2.2 hlq hk LM DR LQ _ _ _ hin TC TL (SGt false) hs w
        · exact round_S_inf1_4 m L q Lq e k h1 h2 hb.2.2.2 hlq hk LM DR LQ _ _ _ _ hin TC TL IN (SGi true) hs w
end Go.Proofs.YtifgngmebnjfkaaGreatDoor
end

section
namespace Go.Proofs.YtifgngmebnjfkaaGreatDoor
open Go.RowKit
abbrev dbl : Value := .agg #[.int .u64 52, .int .i64 2047, .int .i64 1075]
abbrev sgl : Value := .agg #[.int .u64 23, .int .i64 255, .int .i64 150]
def nanD (b : Nat) : Bool := decide (9218868437227405312 < b % 9223372036854775808)
def canonD (b : Nat) : Nat := if nanD b then 9221120237041090561 else b
set_option maxHeartbeats 400000 in
theorem hidden_D (w : World) : Calls Tryz.prog 137 #[dbl] w fun e w' => e = .returned (.int .u64 4503599627370496) ∧ Within w w' := by
  go_enter Tryz.func137, Tryz.ntmps137
  go_wp2
  go_ret
  exact ⟨rfl, (Within.refl _).alloc _⟩
set_option maxHeartbeats 400000 in
theorem sign_D (w : World) : Calls Tryz.prog 135 #[dbl] w fun e w' => e = .returned (.int .u64 9223372036854775808) ∧ Within w w' := by
  go_enter Tryz.func135, Tryz.ntmps135
  go_wp2
  go_ret
  exact ⟨rfl, (Within.refl _).alloc _⟩
set_option maxHeartbeats 400000 in
theorem infinite_D (w : World) : Calls Tryz.prog 136 #[dbl] w fun e w' => e = .returned (.int .u64 9218868437227405312) ∧ Within w w' := by
  go_enter Tryz.func136, Tryz.ntmps136
  go_wp2
  go_ret
  exact ⟨rfl, (Within.refl _).alloc _⟩
set_option maxHeartbeats 400000 in
theorem none_D (w : World) : Calls Tryz.prog 118 #[dbl] w fun e w' => e = .returned (.int .u64 9221120237041090561) ∧ Within w w' := by
  go_enter Tryz.func118, Tryz.ntmps118
  go_wp2
  refine wp_region_within (by kernel_rfl) (by kernel_rfl) ?_
  repeat
    apply wpq_step rfl
    · intro wq hCq
      have hcq := hCq.cells
      go_simp
      first | rfl | exact hCq.call (infinite_D _) | exact hCq.call (hidden_D _) | (trace_state; fail)
    simp only [Act.put, List.setIfInBounds_toArray, List.set_cons_zero, List.set_cons_succ]
  refine wpQuiet_nil ?_
  intro w1 hC1
  go_wp2
  go_ret
  exact ⟨ret_int (by decide +kernel), (by repeat (first | exact Within.refl _ | assumption | refine Within.alloc ?_ _ | refine Within.drew ?_ | refine Within.trans ?_ (by assumption)))⟩
set_option maxHeartbeats 400000 in
theorem nan_D (b : Nat) (hb : b < 18446744073709551616) (w : World) : Calls Tryz.prog 117 #[.int .u64 b, dbl] w fun e w' => e = .returned (.bool (nanD b)) ∧ Within w w' := by
  have e1 := u64_unsign b hb
  have ew : IntKind.u64.wrap (b : Int) = b := by rw [IntKind.wrap_u64]; omega
  go_enter Tryz.func117, Tryz.ntmps117
  go_wp2
  refine wp_region_within (by kernel_rfl) (by kernel_rfl) ?_
  repeat
    apply wpq_step rfl
    · intro wq hCq
      have hcq := hCq.cells
      go_simp
      first | rfl | exact hCq.call (infinite_D _) | exact hCq.call (sign_D _) | (trace_state; fail)
    simp only [Act.put, List.setIfInBounds_toArray, List.set_cons_zero, List.set_cons_succ]
  refine wpQuiet_nil ?_
  intro w1 hC1
  go_wp2
  go_ret
  exact ⟨ret_dec (by omega), (by repeat (first | exact Within.refl _ | assumption | refine Within.alloc ?_ _ | refine Within.drew ?_ | refine Within.trans ?_ (by assumption)))⟩
set_option maxHeartbeats 400000 in
theorem canon_D (b : Nat) (hb : b < 18446744073709551616) (w : World) : Calls Tryz.prog 83 #[.int .u64 b, dbl] w fun e w' => e = .returned (.int .u64 (canonD b)) ∧ Within w w' := by
  by_cases hn : nanD b = true
  · have hv : (canonD b : Int) = 9221120237041090561 := by unfold canonD; rw [if_pos hn]; rfl
    rw [hv]; clear hv
    go_enter Tryz.func83, Tryz.ntmps83
    go_wp2_with fail
    refine (nan_D b hb _).mono ?_; rintro e w1 ⟨rfl, hb1⟩
    have hc1 := hb1.cells; have hz1 : w.heap.size < w1.heap.size := by have := hb1.sizes; simp at this; omega
    go_wp2_with fail
    refine (none_D _).mono ?_; rintro e w2 ⟨rfl, hb2⟩
    go_wp2
    go_ret
    exact ⟨rfl, (by repeat (first | exact Within.refl _ | assumption | refine Within.alloc ?_ _ | refine Within.drew ?_ | refine Within.trans ?_ (by assumption)))⟩
  · have hn' : nanD b = false := by simpa using hn
    have hv : (canonD b : Int) = b := by unfold canonD; rw [if_neg hn]
    rw [hv]; clear hv hn
    go_enter Tryz.func83, Tryz.ntmps83
    go_wp2_with fail
    refine (nan_D b hb _).mono ?_; rintro e w1 ⟨rfl, hb1⟩
    have hc1 := hb1.cells; have hz1 : w.heap.size < w1.heap.size := by have := hb1.sizes; simp at this; omega
    go_wp2
    go_ret
    exact ⟨rfl, (by repeat (first | exact Within.refl _ | assumption | refine Within.alloc ?_ _ | refine Within.drew ?_ | refine Within.trans ?_ (by assumption)))⟩
def nanS (b : Nat) : Bool := decide (2139095040 < b % 2147483648)
def canonS (b : Nat) : Nat := if nanS b then 2143289344 else b
set_option maxHeartbeats 400000 in
theorem hidden_S (w : World) : Calls Tryz.prog 137 #[sgl] w fun e w' => e = .returned (.int .u64 8388608) ∧ Within w w' := by
  go_enter Tryz.func137, Tryz.ntmps137
  go_wp2
  go_ret
  exact ⟨rfl, (Within.refl _).alloc _⟩
set_option maxHeartbeats 400000 in
theorem sign_S (w : World) : Calls Tryz.prog 135 #[sgl] w fun e w' => e = .returned (.int .u64 2147483648) ∧ Within w w' := by
  go_enter Tryz.func135, Tryz.ntmps135
  go_wp2
  go_ret
  exact ⟨rfl, (Within.refl _).alloc _⟩
set_option maxHeartbeats 400000 in
theorem infinite_S (w : World) : Calls Tryz.prog 136 #[sgl] w fun e w' => e = .returned (.int .u64 2139095040) ∧ Within w w' := by
  go_enter Tryz.func136, Tryz.ntmps136
  go_wp2
  go_ret
  exact ⟨rfl, (Within.refl _).alloc _⟩
set_option maxHeartbeats 400000 in
theorem none_S (w : World) : Calls Tryz.prog 118 #[sgl] w fun e w' => e = .returned (.int .u64 2143289344) ∧ Within w w' := by
  go_enter Tryz.func118, Tryz.ntmps118
  go_wp2
  refine wp_region_within (by kernel_rfl) (by kernel_rfl) ?_
  repeat
    apply wpq_step rfl
    · intro wq hCq
      have hcq := hCq.cells
      go_simp
      first | rfl | exact hCq.call (infinite_S _) | exact hCq.call (hidden_S _) | (trace_state; fail)
    simp only [Act.put, List.setIfInBounds_toArray, List.set_cons_zero, List.set_cons_succ]
  refine wpQuiet_nil ?_
  intro w1 hC1
  go_wp2
  go_ret
  exact ⟨ret_int (by decide +kernel), (by repeat (first | exact Within.refl _ | assumption | refine Within.alloc ?_ _ | refine Within.drew ?_ | refine Within.trans ?_ (by assumption)))⟩
set_option maxHeartbeats 400000 in
theorem nan_S (b : Nat) (hb : b < 4294967296) (w : World) : Calls Tryz.prog 134 #[.int .u32 b, sgl] w fun e w' => e = .returned (.bool (nanS b)) ∧ Within w w' := by
  have e1 := u64_unsign32 b hb
  have ew : IntKind.u64.wrap (b : Int) = b := by rw [IntKind.wrap_u64]; omega
  go_enter Tryz.func134, Tryz.ntmps134
  go_wp2
  refine wp_region_within (by kernel_rfl) (by kernel_rfl) ?_
  repeat
    apply wpq_step rfl
    · intro wq hCq
      have hcq := hCq.cells
      go_simp
      first | rfl | exact hCq.call (infinite_S _) | exact hCq.call (sign_S _) | (trace_state; fail)
    simp only [Act.put, List.setIfInBounds_toArray, List.set_cons_zero, List.set_cons_succ]
  refine wpQuiet_nil ?_
  intro w1 hC1
  go_wp2
  go_ret
  exact ⟨ret_dec (by omega), (by repeat (first | exact Within.refl _ | assumption | refine Within.alloc ?_ _ | refine Within.drew ?_ | refine Within.trans ?_ (by assumption)))⟩
set_option maxHeartbeats 400000 in
theorem canon_S (b : Nat) (hb : b < 4294967296) (w : World) : Calls Tryz.prog 115 #[.int .u32 b, sgl] w fun e w' => e = .returned (.int .u32 (canonS b)) ∧ Within w w' := by
  by_cases hn : nanS b = true
  · have hv : (canonS b : Int) = 2143289344 := by unfold canonS; rw [if_pos hn]; rfl
    rw [hv]; clear hv
    go_enter Tryz.func115, Tryz.ntmps115
    go_wp2_with fail
    refine (nan_S b hb _).mono ?_; rintro e w1 ⟨rfl, hb1⟩
    have hc1 := hb1.cells; have hz1 : w.heap.size < w1.heap.size := by have := hb1.sizes; simp at this; omega
    go_wp2_with fail
    refine (none_S _).mono ?_; rintro e w2 ⟨rfl, hb2⟩
    go_wp2
    go_ret
    exact ⟨rfl, (by repeat (first | exact Within.refl _ | assumption | refine Within.alloc ?_ _ | refine Within.drew ?_ | refine Within.trans ?_ (by assumption)))⟩
  · have hn' : nanS b = false := by simpa using hn
    have hv : (canonS b : Int) = b := by unfold canonS; rw [if_neg hn]
    rw [hv]; clear hv hn
    go_enter Tryz.func115, Tryz.ntmps115
    go_wp2_with fail
    refine (nan_S b hb _).mono ?_; rintro e w1 ⟨rfl, hb1⟩
    have hc1 := hb1.cells; have hz1 : w.heap.size < w1.heap.size := by have := hb1.sizes; simp at this; omega
    go_wp2
    go_ret
    exact ⟨rfl, (by repeat (first | exact Within.refl _ | assumption | refine Within.alloc ?_ _ | refine Within.drew ?_ | refine Within.trans ?_ (by assumption)))⟩
@[go_sem] theorem ext_bits64 (a : Nat) (w : World) : (callFunc 84 #[.float .f64 a]).run Tryz.prog w = .ok (.value (.int .u64 a)) w := by kernel_rfl
@[go_sem] theorem ext_from64 (a : Int) (w : World) : (callFunc 46 #[.int .u64 a]).run Tryz.prog w = .ok (.value (.float .f64 a.toNat)) w := by kernel_rfl
@[go_sem] theorem ext_bits32 (a : Nat) (w : World) : (callFunc 82 #[.float .f32 a]).run Tryz.prog w = .ok (.value (.int .u32 a)) w := by kernel_rfl
@[go_sem] theorem ext_from32 (a : Int) (w : World) : (callFunc 32 #[.int .u32 a]).run Tryz.prog w = .ok (.value (.float .f32 a.toNat)) w := by kernel_rfl
set_option maxRecDepth 100000 in
set_option maxHeartbeats 600000 in
theorem of_D (w : World) : Calls Tryz.prog 85 #[.int .i64 0] w fun e w' => e = .returned dbl ∧ Within w w' := by
  go_enter Tryz.func85, Tryz.ntmps85
  have hi : ∀ w, (Instr.index 137 (.agg #[.int .u64 52, .int .i64 2047, .int .i64 1075, .int .u64 23, .int .i64 255, .int .i64 150]) (.int .i64 0)).run Tryz.prog w = .ok dbl w := fun _ => by kernel_rfl
  go_wp2
  refine bodyPost_ret (v := dbl) (by simp [results, Tryz.results85, go_sem]) rfl ⟨rfl, ?_⟩
  exact (by repeat (with_reducible first | exact Within.refl _ | assumption | refine Within.alloc ?_ _ | refine Within.drew ?_ | refine Within.setCell ?_ (by first | (simp; done) | (simp; omega)) _ | refine Within.trans ?_ (by assumption)))
set_option maxRecDepth 100000 in
set_option maxHeartbeats 600000 in
theorem of_S (w : World) : Calls Tryz.prog 85 #[.int .i64 1] w fun e w' => e = .returned sgl ∧ Within w w' := by
  go_enter Tryz.func85, Tryz.ntmps85
  have hi : ∀ w, (Instr.index 137 (.agg #[.int .u64 52, .int .i64 2047, .int .i64 1075, .int .u64 23, .int .i64 255, .int .i64 150]) (.int .i64 1)).run Tryz.prog w = .ok sgl w := fun _ => by kernel_rfl
  go_wp2
  refine bodyPost_ret (v := sgl) (by simp [results, Tryz.results85, go_sem]) rfl ⟨rfl, ?_⟩
  exact (by repeat (with_reducible first | exact Within.refl _ | assumption | refine Within.alloc ?_ _ | refine Within.drew ?_ | refine Within.setCell ?_ (by first | (simp; done) | (simp; omega)) _ | refine Within.trans ?_ (by assumption)))
set_option maxRecDepth 100000 in
set_option maxHeartbeats 600000 in
theorem Canon_D (a : Nat) (ha : a < 18446744073709551616) (w : World) : Calls Tryz.prog 41 #[.float .f64 a] w fun e w' => e = .returned (.float .f64 (canonD a)) ∧ Within w w' := by
  have HA := Lib.hid ha; clear ha
  go_enter Tryz.func41, Tryz.ntmps41
  go_wp2_with fail
  refine (of_D _).mono ?_; rintro e1 w1 ⟨rfl, hb1⟩
  go_wp2_with fail
  refine (canon_D a HA.out _).mono ?_; rintro e2 w2 ⟨rfl, hb2⟩
  go_wp2
  go_ret
  exact ⟨rfl, (by repeat (with_reducible first | exact Within.refl _ | assumption | refine Within.alloc ?_ _ | refine Within.drew ?_ | refine Within.setCell ?_ (by first | (simp; done) | (simp; omega)) _ | refine Within.trans ?_ (by assumption)))⟩
set_option maxRecDepth 100000 in
set_option maxHeartbeats 600000 in
theorem Canon_S (a : Nat) (ha : a < 4294967296) (w : World) : Calls Tryz.prog 76 #[.float .f32 a] w fun e w' => e = .returned (.float .f32 (canonS a)) ∧ Within w w' := by
  have HA := Lib.hid ha; clear ha
  go_enter Tryz.func76, Tryz.ntmps76
  go_wp2_with fail
  refine (of_S _).mono ?_; rintro e1 w1 ⟨rfl, hb1⟩
  go_wp2_with fail
  refine (canon_S a HA.out _).mono ?_; rintro e2 w2 ⟨rfl, hb2⟩
  go_wp2
  go_ret
  exact ⟨rfl, (by repeat (with_reducible first | exact Within.refl _ | assumption | refine Within.alloc ?_ _ | refine Within.drew ?_ | refine Within.setCell ?_ (by first | (simp; done) | (simp; omega)) _ | refine Within.trans ?_ (by assumption)))⟩
end Go.Proofs.YtifgngmebnjfkaaGreatDoor
end

section
namespace Go.Proofs.YtifgngmebnjfkaaGreatDoor
open Go.RowKit
def FmS (w : World) : Prop := w.cell? ⟨0, 0, none⟩ = some (.int .i64 24) ∧ w.cell? ⟨0, 1, none⟩ = some (.int .i64 (-126)) ∧ w.cell? ⟨0, 2, none⟩ = some (.int .i64 127)
theorem FmS.of {w w' : World} (h : FmS w) (k : Within w w') : FmS w' :=
  ⟨(k.cells _ _ (World.block_lt_of_cell? w _ h.1)).trans h.1, (k.cells _ _ (World.block_lt_of_cell? w _ h.2.1)).trans h.2.1, (k.cells _ _ (World.block_lt_of_cell? w _ h.2.2)).trans h.2.2⟩
theorem int_of_is {a N : Nat} {s : Bool} (h : Fp.Is Ieee.double a s (N * 2 ^ Fp.deep Ieee.double)) : (Ieee.double.read a).toInt .zero = some (Fp.val s N) := by
  obtain ⟨m, e, r1, l1, u1⟩ := h.read
  rw [r1]
  rw [Fp.dL] at l1 u1
  unfold Ieee.Datum.toInt Ieee.Datum.integral
  show some (Ieee.signed s (Ieee.Toward.zero.cut s (m <<< e.toNat) (-e).toNat) 0) = _
  have key : Ieee.Toward.zero.cut s (m <<< e.toNat) (-e).toNat = N := by
    unfold Ieee.Toward.cut
    show (m <<< e.toNat) / (1 <<< min (-e).toNat ((m <<< e.toNat).log2 + 2)) + 0 = N
    rw [Nat.shiftLeft_eq, Nat.shiftLeft_eq, Nat.one_mul, Nat.add_zero]
    obtain ⟨J, hJ⟩ : ∃ J, J = Fp.deep Ieee.double := ⟨_, rfl⟩
    have hJ' : J = 1074 := by rw [hJ, Fp.dD]
    rw [← hJ] at u1
    by_cases he : 0 ≤ e
    · rw [show (-e).toNat = 0 by omega, Nat.zero_min, Nat.pow_zero, Nat.div_one]
      rw [show (e - -1074).toNat = e.toNat + J by omega, Nat.pow_add, ← Nat.mul_assoc] at u1
      exact Nat.eq_of_mul_eq_mul_right (Nat.two_pow_pos J) u1
    · rw [show e.toNat = 0 by omega, Nat.pow_zero, Nat.mul_one]
      have hm : m = N * 2 ^ (-e).toNat := by
        rw [show J = (-e).toNat + (e - -1074).toNat by omega, Nat.pow_add, ← Nat.mul_assoc] at u1
        exact Nat.eq_of_mul_eq_mul_right (Nat.two_pow_pos _) u1
      by_cases hN : N = 0
      · rw [hm, hN, Nat.zero_mul, Nat.zero_div]
      · rw [hm, Fp.log2_mul_pow N _ hN, Nat.min_eq_left (by omega), Nat.mul_div_cancel _ (Nat.two_pow_pos _)]
  rw [key]
  unfold Ieee.signed Fp.val
  rw [Nat.shiftLeft_zero]
theorem u64_of_is {a N : Nat} (h : Fp.Is Ieee.double a false (N * 2 ^ Fp.deep Ieee.double)) (hN : N < 18446744073709551616) : floatToIntVal .f64 a .u64 = some (N : Int) := by
  unfold floatToIntVal
  show (match (Ieee.double.read a).toInt .zero with | some n => if IntKind.u64.min ≤ n ∧ n ≤ IntKind.u64.max then some n else none | none => none) = _
  rw [int_of_is h]
  show (if (0 : Int) ≤ (N : Int) ∧ (N : Int) ≤ 18446744073709551615 then some ((N : Nat) : Int) else none) = _
  rw [if_pos (by omega)]
theorem top53_bounds {n : Nat} (h0 : n ≠ 0) (hr : Fp.Rep Ieee.double n) : 4503599627370496 ≤ top53 n ∧ top53 n < 9007199254740992 ∧ n.log2 ≤ 2097 ∧ top53 n * 2 ^ n.log2 = n * 2 ^ 52 := by
  have hlt : n.log2 ≤ 2097 := by
    have h1 : n < 2 ^ Fp.dtop := by rw [← Fp.mag_infD, ← hr.2]; exact Fp.mag_mono_lt Ieee.double hr.1
    have := (Nat.log2_lt h0).2 h1
    unfold Fp.dtop at this; omega
  obtain ⟨r1, r2⟩ := rep_lt hr
  by_cases hh : 4503599627370496 ≤ Fp.num Ieee.double false n
  · obtain ⟨t1, t2, _⟩ := high_top hh r2
    have e := rung_high hh
    rw [r2] at e
    refine ⟨by omega, by omega, hlt, ?_⟩
    rw [t1]
    conv => rhs; rw [e]
    rw [Nat.mul_assoc, ← Nat.pow_add]; congr 2; omega
  · rw [mag_low (by omega)] at r2
    obtain ⟨l1, l2, l3, l4⟩ := top53_low h0 (by omega)
    refine ⟨l1, l2, hlt, ?_⟩
    rw [l3, Nat.mul_assoc, ← Nat.pow_add]; congr 2; omega
set_option maxRecDepth 100000 in
set_option maxHeartbeats 600000 in
theorem take_core (a r y z T : Nat) (b : Bool) (F E : Int) (hE : E = F - 53) (hF1 : -3000 ≤ F) (hF2 : F ≤ 3000) (HA : Hid (∀ w, Calls Tryz.prog 88 #[.float .f64 a] w fun e w' => e = .returned (.float .f64 r) ∧ w = w')) (HF : Hid (∀ w, Calls Tryz.prog 87 #[.float .f64 r] w fun e w' => e = .returned (.tuple #[.float .f64 y, .int .i64 F]) ∧ w = w')) (HS : Hid (∀ w, Calls Tryz.prog 79 #[.float .f64 a] w fun e w' => e = .returned (.bool b) ∧ w = w')) (HL : Hid (∀ w, Calls Tryz.prog 58 #[.float .f64 y, .int .i64 53] w fun e w' => e = .returned (.float .f64 z) ∧ w = w')) (hcv : floatToIntVal .f64 z .u64 = some (T : Int)) (w : World) : Calls Tryz.prog 43 #[.float .f64 a] w fun e w' => e = .returned (.agg #[.bool b, .int .u64 T, .int .i64 E]) ∧ Within w w' := by
  have hcv' := fun (w : World) => run_convert_float_int (P := Tryz.prog) w 34 33 .f64 .u64 z (T : Int) (by kernel_rfl) (by kernel_rfl) hcv
  subst hE
  clear hcv
  go_enter Tryz.func43, Tryz.ntmps43
  go_wp2_with fail
  refine (HA.out _).mono ?_; rintro e1 w1 ⟨rfl, rfl⟩
  go_wp2_with fail
  refine (HF.out _).mono ?_; rintro e2 w2 ⟨rfl, rfl⟩
  go_wp2_with fail
  refine (HS.out _).mono ?_; rintro e3 w3 ⟨rfl, rfl⟩
  go_wp2_with fail
  refine (HL.out _).mono ?_; rintro e4 w4 ⟨rfl, rfl⟩
  go_wp2
  refine bodyPost_ret (v := .agg #[.bool b, .int .u64 T, .int .i64 (F - 53)]) (by simp [results, Tryz.results43, go_sem]) rfl ⟨rfl, ?_⟩
  exact (by repeat (with_reducible first | exact Within.refl _ | assumption | refine Within.alloc ?_ _ | refine Within.drew ?_ | refine Within.setCell ?_ (by first | (simp; done) | (simp; omega)) _ | refine Within.trans ?_ (by assumption)))
theorem take_any (a n : Nat) (ha : a < 18446744073709551616) (h0 : n ≠ 0) (hf : a % 9223372036854775808 < 9218868437227405312) (hm : Fp.mag Ieee.double (a % 9223372036854775808) = n) (w : World) : Calls Tryz.prog 43 #[.float .f64 a] w fun e w' => e = .returned (.agg #[.bool (decide (9223372036854775808 ≤ a)), .int .u64 (top53 n), .int .i64 ((n.log2 : Int) - 1126)]) ∧ Within w w' := by
  have hr0 : 0 < a % 9223372036854775808 := by
    by_cases hz : a % 9223372036854775808 = 0
    · rw [hz, Fp.mag_zero] at hm; omega
    · omega
  have hrep : Fp.Rep Ieee.double n := hm ▸ Fp.rep_mag Ieee.double Fp.dF (by rw [Fp.dI]; exact hf)
  obtain ⟨b1, b2, b3, _⟩ := top53_bounds h0 hrep
  have HA := Lib.hid (fun w => m_abs a ha w)
  have HS := Lib.hid (fun w => m_signbit a ha w)
  have HF := Lib.hid (fun w => frexp_is (a % 9223372036854775808) n hr0 hf hm w)
  have hy : Fp.mag Ieee.double (4598175219545276416 + top53 n) = top53 n * 2 ^ 1021 := by
    rw [rung_high (by omega)]
    have e1 : (4598175219545276416 + top53 n) % 4503599627370496 = top53 n - 4503599627370496 := by omega
    have e2 : (4598175219545276416 + top53 n) / 4503599627370496 - 1 = 1021 := by omega
    rw [e1, e2, show 4503599627370496 + (top53 n - 4503599627370496) = top53 n by omega]
  have hfi := float_int (q := top53 n) (by omega)
  have HL := Lib.hid (fun w => ldexp_is (4598175219545276416 + top53 n) _ (top53 n * 2 ^ Fp.deep Ieee.double) 53 (by omega) (by omega) hy hfi.2 (Nat.mul_ne_zero (by omega) (Nat.ne_of_gt (Nat.two_pow_pos _)))
    (fun _ => by
      obtain ⟨j, hj⟩ : ∃ j : Nat, j = 1021 := ⟨_, rfl⟩
      rw [← hj, Nat.mul_assoc, ← Nat.pow_add, show j + (53 : Int).toNat = Fp.deep Ieee.double by rw [Fp.dD]; omega]) (fun h => absurd h (by decide)) w)
  exact take_core a _ _ _ (top53 n) _ _ _ (by omega) (by omega) (by omega) HA HF HS HL (u64_of_is (Fp.Rep.is hfi.2 false) (by omega)) w
theorem known_any (mode : Int) (w : World) : Calls Tryz.prog 29 #[.int .i64 mode] w fun e w' => e = .returned (.bool (decide (0 ≤ mode ∧ mode ≤ 4))) ∧ w = w' := by
  by_cases h1 : 0 ≤ mode
  · have d1 : decide (mode ≥ 0) = true := decide_eq_true h1
    have d1' : decide (0 ≤ mode) = true := decide_eq_true h1
    have hr : decide (0 ≤ mode ∧ mode ≤ 4) = decide (mode ≤ 4) := decide_eq_decide.2 (by omega)
    rw [hr]
    clear h1 hr
    go_enter Tryz.func29, Tryz.ntmps29
    go_wp2
    go_ret
    exact ⟨rfl, rfl⟩
  · have d1 : decide (mode ≥ 0) = false := decide_eq_false h1
    have d1' : decide (0 ≤ mode) = false := decide_eq_false h1
    rw [show decide (0 ≤ mode ∧ mode ≤ 4) = false from decide_eq_false (by omega)]
    clear h1
    go_enter Tryz.func29, Tryz.ntmps29
    go_wp2
    go_ret
    exact ⟨rfl, rfl⟩
theorem plain_any (a : Nat) (ha : a < 18446744073709551616) (hn : a % 9223372036854775808 ≤ 9218868437227405312) (w : World) : Calls Tryz.prog 42 #[.float .f64 a] w fun e w' => e = .returned (.bool (decide (a % 9223372036854775808 = 0 ∨ a % 9223372036854775808 = 9218868437227405312))) ∧ w = w' := by
  have HI := Lib.hid (fun w => m_isinf a ha w)
  have hz := eq_zero hn
  by_cases h : a % 9223372036854775808 = 0
  · rw [decide_eq_true h] at hz
    rw [decide_eq_true (.inl h)]
    clear ha hn h
    go_enter Tryz.func42, Tryz.ntmps42
    go_wp2
    go_ret
    exact ⟨rfl, rfl⟩
  · rw [decide_eq_false h] at hz
    rw [show decide (a % 9223372036854775808 = 0 ∨ a % 9223372036854775808 = 9218868437227405312) = decide (a % 9223372036854775808 = 9218868437227405312) from decide_eq_decide.2 (by omega)]
    generalize decide (a % 9223372036854775808 = 9218868437227405312) = p at *
    clear ha hn h
    go_enter Tryz.func42, Tryz.ntmps42
    go_wp2_with fail
    refine (HI.out _).mono ?_; rintro e1 w1 ⟨rfl, rfl⟩
    go_wp2
    go_ret
    exact ⟨rfl, rfl⟩
theorem run_widen_nan (src dst : TypeId) (s k : FloatKind) (b : Nat) (P : Program) (w : World) (hne : s ≠ k) (hs : (P.underlying src).isSome = true) (hd : P.underlying dst = some (.float k)) (g : Bool) (t : Nat) (h : s.decode b = .nan g t) :
    (convert src dst (.float s b)).run P w = .ok (.float k ((Question.nanConv k b).cut (w.tape w.drawn (.nanConv k b)))) w.drew := by
  obtain ⟨u, hs'⟩ := Option.isSome_iff_exists.1 hs
  cases u <;> simp [convert, run_underlying hs', run_underlying hd, Conv.floatToFloat, hne, h, run_choose_drew, Question.forced]
theorem nan_cutS (b t : Nat) : canonS ((Question.nanConv .f32 b).cut t) = 2143289344 ∧ (Question.nanConv .f32 b).cut t < 4294967296 := by
  have e : (Question.nanConv .f32 b).cut t = (t % 2) * 2 ^ 31 + 0x7f800000 + 1 + (t / 2) % (2 ^ 23 - 1) := rfl
  have h1 : t / 2 % (2 ^ 23 - 1) < 8388607 := Nat.mod_lt _ (by decide)
  unfold canonS nanS
  rw [e]
  generalize t / 2 % (2 ^ 23 - 1) = r at *
  rcases Nat.mod_two_eq_zero_or_one t with h | h <;> rw [h] <;> refine ⟨if_pos (decide_eq_true (by omega)), by omega⟩
theorem nan_cutD (b t : Nat) : canonD ((Question.nanConv .f64 b).cut t) = 9221120237041090561 ∧ (Question.nanConv .f64 b).cut t < 18446744073709551616 := by
  have e : (Question.nanConv .f64 b).cut t = (t % 2) * 2 ^ 63 + 0x7ff0000000000000 + 1 + (t / 2) % (2 ^ 52 - 1) := rfl
  have h1 : t / 2 % (2 ^ 52 - 1) < 4503599627370495 := Nat.mod_lt _ (by decide)
  unfold canonD nanD
  rw [e]
  generalize t / 2 % (2 ^ 52 - 1) = r at *
  rcases Nat.mod_two_eq_zero_or_one t with h | h <;> rw [h] <;> refine ⟨if_pos (decide_eq_true (by omega)), by omega⟩
set_option maxRecDepth 100000 in
set_option maxHeartbeats 600000 in
theorem m_nan (w : World) : Calls Tryz.prog 77 #[] w fun e w' => e = .returned (.float .f64 9221120237041090561) ∧ w = w' := by
  go_enter Tryz.func77, Tryz.ntmps77
  go_wp2
  go_ret
  exact ⟨rfl, rfl⟩
set_option maxRecDepth 100000 in
set_option maxHeartbeats 600000 in
theorem none_any (w : World) : Calls Tryz.prog 30 #[] w fun e w' => e = .returned (.float .f32 2143289344) ∧ Within w w' := by
  have hcv := fun (w : World) => run_widen_nan 34 23 .f64 .f32 9221120237041090561 Tryz.prog w (by decide) (by kernel_rfl) (by kernel_rfl) false 2251799813685249 (by decide +kernel)
  have HC := Lib.hid (fun t w => Canon_S ((Question.nanConv .f32 9221120237041090561).cut t) (nan_cutS 9221120237041090561 t).2 w)
  simp only [(nan_cutS _ _).1] at HC
  go_enter Tryz.func30, Tryz.ntmps30
  go_wp2_with fail
  refine (m_nan _).mono ?_; rintro e1 w1 ⟨rfl, rfl⟩
  go_wp2_with fail
  refine (HC.out _ _).mono ?_; rintro e2 w2 ⟨rfl, hb2⟩
  go_wp2
  go_ret
  exact ⟨rfl, (by repeat (with_reducible first | exact Within.refl _ | assumption | refine Within.alloc ?_ _ | refine Within.drew ?_ | refine Within.setCell ?_ (by first | (simp; done) | (simp; omega)) _ | refine Within.trans ?_ (by assumption)))⟩
end Go.Proofs.YtifgngmebnjfkaaGreatDoor
end

section
namespace Go.Proofs.YtifgngmebnjfkaaGreatDoor
open Go.RowKit
set_option maxRecDepth 100000 in
set_option maxHeartbeats 600000 in
theorem narrow_bad (a : Nat) (mode : Int) (KN : Hid (∀ w, Calls Tryz.prog 29 #[.int .i64 mode] w fun e' w' => e' = .returned (.bool false) ∧ w = w')) (w : World) : Calls Tryz.prog 38 #[.float .f64 a, .int .i64 mode] w fun e' w' => e' = .returned (.tuple #[.float .f32 0, .int .i64 0, .int .i64 20]) ∧ Within w w' := by
  go_enter Tryz.func38, Tryz.ntmps38
  go_wp2_with fail
  refine (KN.out _).mono ?_; rintro e1 w1 ⟨rfl, rfl⟩
  go_wp2
  go_ret3
  exact ⟨rfl, (by repeat (with_reducible first | exact Within.refl _ | assumption | refine Within.alloc ?_ _ | refine Within.drew ?_ | refine Within.setCell ?_ (by first | (simp; done) | (simp; omega)) _ | refine Within.trans ?_ (by assumption)))⟩
set_option maxRecDepth 100000 in
set_option maxHeartbeats 600000 in
theorem narrow_nan (a : Nat) (mode : Int) (KN : Hid (∀ w, Calls Tryz.prog 29 #[.int .i64 mode] w fun e' w' => e' = .returned (.bool true) ∧ w = w')) (hx : (FloatKind.f64.format.order a a != some .eq) = true) (NO : Hid (∀ w, Calls Tryz.prog 30 #[] w fun e' w' => e' = .returned (.float .f32 2143289344) ∧ Within w w')) (w : World) : Calls Tryz.prog 38 #[.float .f64 a, .int .i64 mode] w fun e' w' => e' = .returned (.tuple #[.float .f32 2143289344, .int .i64 0, .int .i64 0]) ∧ Within w w' := by
  go_enter Tryz.func38, Tryz.ntmps38
  go_wp2_with fail
  refine (KN.out _).mono ?_; rintro e1 w1 ⟨rfl, rfl⟩
  go_wp2_with fail
  refine (NO.out _).mono ?_; rintro e2 w2 ⟨rfl, hb2⟩
  go_wp2
  go_ret3
  exact ⟨rfl, (by repeat (with_reducible first | exact Within.refl _ | assumption | refine Within.alloc ?_ _ | refine Within.drew ?_ | refine Within.setCell ?_ (by first | (simp; done) | (simp; omega)) _ | refine Within.trans ?_ (by assumption)))⟩
set_option maxRecDepth 100000 in
set_option maxHeartbeats 600000 in
theorem narrow_plain (a s : Nat) (mode : Int) (KN : Hid (∀ w, Calls Tryz.prog 29 #[.int .i64 mode] w fun e' w' => e' = .returned (.bool true) ∧ w = w')) (hx : (FloatKind.f64.format.order a a != some .eq) = false) (PL : Hid (∀ w, Calls Tryz.prog 42 #[.float .f64 a] w fun e' w' => e' = .returned (.bool true) ∧ w = w')) (hc : floatToFloatBits .f64 a .f32 = some s) (w : World) : Calls Tryz.prog 38 #[.float .f64 a, .int .i64 mode] w fun e' w' => e' = .returned (.tuple #[.float .f32 s, .int .i64 0, .int .i64 0]) ∧ Within w w' := by
  have hcv := fun (w : World) => run_convert_float_float (P := Tryz.prog) w 34 23 .f64 .f32 a s (by kernel_rfl) (by kernel_rfl) hc
  clear hc
  go_enter Tryz.func38, Tryz.ntmps38
  go_wp2_with fail
  refine (KN.out _).mono ?_; rintro e1 w1 ⟨rfl, rfl⟩
  go_wp2_with fail
  refine (PL.out _).mono ?_; rintro e2 w2 ⟨rfl, rfl⟩
  go_wp2
  go_ret3
  exact ⟨rfl, (by repeat (with_reducible first | exact Within.refl _ | assumption | refine Within.alloc ?_ _ | refine Within.drew ?_ | refine Within.setCell ?_ (by first | (simp; done) | (simp; omega)) _ | refine Within.trans ?_ (by assumption)))⟩
set_option maxRecDepth 100000 in
set_option maxHeartbeats 600000 in
theorem narrow_main (a s y m : Nat) (b : Bool) (e mode fl : Int) (KN : Hid (∀ w, Calls Tryz.prog 29 #[.int .i64 mode] w fun e' w' => e' = .returned (.bool true) ∧ w = w')) (hx : (FloatKind.f64.format.order a a != some .eq) = false) (PL : Hid (∀ w, Calls Tryz.prog 42 #[.float .f64 a] w fun e' w' => e' = .returned (.bool false) ∧ w = w')) (TK : Hid (∀ w, Calls Tryz.prog 43 #[.float .f64 a] w fun e' w' => e' = .returned (.agg #[.bool b, .int .u64 m, .int .i64 e]) ∧ Within w w')) (RN : Hid (∀ w, Calls Tryz.prog 68 #[.agg #[.bool b, .int .u64 m, .int .i64 e], .agg #[.int .i64 24, .int .i64 (-126), .int .i64 127], .int .i64 mode] w fun e' w' => e' = .returned (.tuple #[.float .f64 y, .int .i64 fl]) ∧ Within w w')) (hc : floatToFloatBits .f64 y .f32 = some s) (w : World) (hT : FmS w) : Calls Tryz.prog 38 #[.float .f64 a, .int .i64 mode] w fun e' w' => e' = .returned (.tuple #[.float .f32 s, .int .i64 fl, .int .i64 0]) ∧ Within w w' := by
  have hcv := fun (w : World) => run_convert_float_float (P := Tryz.prog) w 34 23 .f64 .f32 y s (by kernel_rfl) (by kernel_rfl) hc
  clear hc
  go_enter Tryz.func38, Tryz.ntmps38
  go_wp2_with fail
  refine (KN.out _).mono ?_; rintro e1 w1 ⟨rfl, rfl⟩
  go_wp2_with fail
  refine (PL.out _).mono ?_; rintro e2 w2 ⟨rfl, rfl⟩
  go_wp2
  refine wp_region_within (by kernel_rfl) (by kernel_rfl) ?_
  repeat
    apply wpq_step rfl
    · intro wq hCq
      have q0 := (hT.of hCq).1; have q1 := (hT.of hCq).2.1; have q2 := (hT.of hCq).2.2
      go_simp
      first | rfl | exact hCq.call (TK.out _) | exact hCq.call (RN.out _) | (trace_state; fail)
    simp only [Act.put, List.setIfInBounds_toArray, List.set_cons_zero, List.set_cons_succ]
  refine wpQuiet_nil ?_
  intro w3 hb3
  go_wp2
  go_ret3
  exact ⟨rfl, (by repeat (with_reducible first | exact Within.refl _ | assumption | refine Within.alloc ?_ _ | refine Within.drew ?_ | refine Within.setCell ?_ (by first | (simp; done) | (simp; omega)) _ | refine Within.trans ?_ (by assumption)))⟩
/-! what it comes to -/
def magD (a : Nat) : Nat := Fp.mag Ieee.double (a % 9223372036854775808)
def sgnS (b : Bool) : Nat := if b then 2147483648 else 0
def sgnD (b : Bool) : Nat := if b then 9223372036854775808 else 0
def ngD (a : Nat) : Bool := decide (9223372036854775808 ≤ a)
def sWord (neg : Bool) (m : Nat) (e mode : Int) : Nat :=
  (if rOver 24 (-149) 127 neg m e mode then (if rTop neg mode then 2139095039 else 2139095040) else Fp.num Ieee.single false (rQ 24 (-149) neg m e mode * 2 ^ (rK 24 (-149) m e + 149).toNat)) + sgnS neg
def nWord (a : Nat) (mode : Int) : Nat :=
  if ¬ (0 ≤ mode ∧ mode ≤ 4) then 0
  else if 9218868437227405312 < a % 9223372036854775808 then 2143289344
  else if a % 9223372036854775808 = 0 then sgnS (ngD a)
  else if a % 9223372036854775808 = 9218868437227405312 then 2139095040 + sgnS (ngD a)
  else sWord (ngD a) (top53 (magD a)) (((magD a).log2 : Int) - 1126) mode
def nFlags (a : Nat) (mode : Int) : Int :=
  if ¬ (0 ≤ mode ∧ mode ≤ 4) then 0
  else if 9218868437227405312 < a % 9223372036854775808 then 0
  else if a % 9223372036854775808 = 0 then 0
  else if a % 9223372036854775808 = 9218868437227405312 then 0
  else rFlags 24 (-149) 127 (ngD a) (top53 (magD a)) (((magD a).log2 : Int) - 1126) mode
def nErr (mode : Int) : Int := if 0 ≤ mode ∧ mode ≤ 4 then 0 else 20
theorem nbits_num {x s : Nat} (hx : x % 9223372036854775808 < 9218868437227405312) (hs : s % 2147483648 < 2139095040) (hw : Ieee.single.write (Ieee.double.read x) = s) : floatToFloatBits .f64 x .f32 = some s := by
  obtain ⟨m, e, r1, _⟩ := Fp.read_fin Ieee.double x (by rw [Fp.rg64, Fp.dI]; exact hx)
  obtain ⟨n, k, r2, _⟩ := Fp.read_fin Ieee.single s (by rw [Fp.rg32, Fp.sI]; exact hs)
  unfold floatToFloatBits
  rw [if_neg (by decide)]
  show (match Ieee.double.read x with | .nan _ _ => none | .infinity s => some (Ieee.single.write (.infinity s)) | .number s m e => if (Ieee.single.read (Ieee.single.write (.number s m e))).isInfinity then none else some (Ieee.single.write (.number s m e))) = some s
  rw [r1] at hw ⊢
  show (if (Ieee.single.read (Ieee.single.write _)).isInfinity then none else some (Ieee.single.write _)) = some s
  rw [hw, r2]; exact if_neg Bool.false_ne_true
theorem wbits_num {x s : Nat} (hx : x % 2147483648 < 2139095040) (hs : s % 9223372036854775808 < 9218868437227405312) (hw : Ieee.double.write (Ieee.single.read x) = s) : floatToFloatBits .f32 x .f64 = some s := by
  obtain ⟨m, e, r1, _⟩ := Fp.read_fin Ieee.single x (by rw [Fp.rg32, Fp.sI]; exact hx)
  obtain ⟨n, k, r2, _⟩ := Fp.read_fin Ieee.double s (by rw [Fp.rg64, Fp.dI]; exact hs)
  unfold floatToFloatBits
  rw [if_neg (by decide)]
  show (match Ieee.single.read x with | .nan _ _ => none | .infinity s => some (Ieee.double.write (.infinity s)) | .number s m e => if (Ieee.double.read (Ieee.double.write (.number s m e))).isInfinity then none else some (Ieee.double.write (.number s m e))) = some s
  rw [r1] at hw ⊢
  show (if (Ieee.double.read (Ieee.double.write _)).isInfinity then none else some (Ieee.double.write _)) = some s
  rw [hw, r2]; exact if_neg Bool.false_ne_true
theorem nbits_inf (b : Bool) : floatToFloatBits .f64 (9218868437227405312 + sgnD b) .f32 = some (2139095040 + sgnS b) := by cases b <;> decide +kernel
theorem wbits_inf (b : Bool) : floatToFloatBits .f32 (2139095040 + sgnS b) .f64 = some (9218868437227405312 + sgnD b) := by cases b <;> decide +kernel
theorem nbits_zero (b : Bool) : floatToFloatBits .f64 (sgnD b) .f32 = some (sgnS b) := by cases b <;> decide +kernel
theorem num_sgn (b : Bool) (n : Nat) : Fp.num Ieee.double b n = Fp.num Ieee.double false n + sgnD b := by
  unfold Fp.num Ieee.Format.word sgnD
  rw [Fp.dS]
  generalize Fp.grid Ieee.double n 0 = g
  cases b <;> simp
  exact Nat.add_comm _ _
theorem num_sgnS (b : Bool) (n : Nat) : Fp.num Ieee.single b n = Fp.num Ieee.single false n + sgnS b := by
  unfold Fp.num Ieee.Format.word sgnS
  rw [Fp.sS]
  generalize Fp.grid Ieee.single n 0 = g
  cases b <;> simp
  exact Nat.add_comm _ _
theorem num_ltS {n : Nat} (h : Fp.Rep Ieee.single n) : Fp.num Ieee.single false n < 2139095040 := by
  have h1 := h.1
  rw [Fp.sI] at h1
  exact h1
theorem sAmt_rep (neg : Bool) {m : Nat} (e mode : Int) (h0 : m ≠ 0) (hm : m < 18446744073709551616) (h : rOver 24 (-149) 127 neg m e mode = false) :
    Fp.Rep Ieee.single (rQ 24 (-149) neg m e mode * 2 ^ (rK 24 (-149) m e + 149).toNat) ∧ rAmt 24 (-149) neg m e mode = rQ 24 (-149) neg m e mode * 2 ^ (rK 24 (-149) m e + 149).toNat * 2 ^ Fp.sgap := by
  have hq := (rQ_le (D := 24) (lo := -149) neg e mode h0 hm (by decide)).1
  have hk : -149 ≤ rK 24 (-149) m e := by unfold rK; omega
  have hov : rK 24 (-149) m e + (Lib.bitLen (rQ 24 (-149) neg m e mode) : Nat) ≤ 127 + 1 := by unfold rOver at h; simp at h; omega
  unfold rAmt
  have hq' : rQ 24 (-149) neg m e mode ≤ 16777216 := hq
  generalize rQ 24 (-149) neg m e mode = q at *
  generalize rK 24 (-149) m e = k at *
  refine ⟨?_, ?_⟩
  · have hlt : q * 2 ^ (k + 149).toNat < Fp.mag Ieee.single Ieee.single.infRung := by
      obtain ⟨J, hJ⟩ : ∃ J : Nat, J = 253 := ⟨_, rfl⟩
      have e1 : Fp.mag Ieee.single Ieee.single.infRung = 2 ^ 24 * 2 ^ J := by rw [hJ]; decide +kernel
      rw [e1, ← Nat.pow_add]
      have h1 : q * 2 ^ (k + 149).toNat < 2 ^ Lib.bitLen q * 2 ^ (k + 149).toNat := Nat.mul_lt_mul_of_pos_right (lt_bl (by omega)) (Nat.two_pow_pos _)
      rw [← Nat.pow_add] at h1
      exact Nat.lt_of_lt_of_le h1 (Nat.pow_le_pow_right (by decide) (by omega))
    by_cases hq2 : q = 16777216
    · refine Fp.rep_of Ieee.single 1 (24 + (k + 149).toNat) ?_ (by decide) hlt
      rw [hq2, Nat.pow_add, Nat.one_mul, show (2 : Nat) ^ 24 = 16777216 by decide]
    · exact Fp.rep_of Ieee.single q _ rfl (by show q < 2 ^ 24; omega) hlt
  · have := Fp.sgap_eq
    rw [Nat.mul_assoc, ← Nat.pow_add]; congr 2; omega
theorem sWord_bits (neg : Bool) {m : Nat} (e mode : Int) (h0 : m ≠ 0) (hm : m < 18446744073709551616) :
    floatToFloatBits .f64 (rWord 24 (-149) 127 topS neg m e mode) .f32 = some (sWord neg m e mode) := by
  unfold rWord sWord
  have hsg : (if neg = true then 9223372036854775808 else 0) = sgnD neg := rfl
  rw [hsg]
  cases hov : rOver 24 (-149) 127 neg m e mode
  · rw [if_neg Bool.false_ne_true, if_neg Bool.false_ne_true]
    obtain ⟨r1, r2⟩ := sAmt_rep neg e mode h0 hm hov
    have r3 : Fp.Rep Ieee.double (rAmt 24 (-149) neg m e mode) := rAmt_rep (D := 24) (lo := -149) (most := 127) neg e mode h0 hm (by decide) (by decide) (by decide) hov
    have hI := Fp.Rep.is r3 neg
    have hl := num_lt r3
    have hl2 := num_ltS r1
    rw [r2] at hI
    have hn := Fp.narrow_is hI r1
    rw [← r2, num_sgn, num_sgnS] at hn
    refine nbits_num ?_ ?_ hn
    · unfold sgnD; split <;> omega
    · unfold sgnS; split <;> omega
  · rw [if_pos rfl, if_pos rfl]
    cases ht : rTop neg mode
    · rw [if_neg Bool.false_ne_true, if_neg Bool.false_ne_true]
      exact nbits_inf neg
    · rw [if_pos rfl, if_pos rfl]
      cases neg <;> decide +kernel
theorem sgn_split {a : Nat} (ha : a < 18446744073709551616) : a = a % 9223372036854775808 + sgnD (ngD a) := by
  unfold sgnD ngD
  by_cases h : 9223372036854775808 ≤ a
  · rw [decide_eq_true h, if_pos rfl]; omega
  · rw [decide_eq_false h, if_neg Bool.false_ne_true]; omega
theorem magD_rep {a : Nat} (hf : a % 9223372036854775808 < 9218868437227405312) : Fp.Rep Ieee.double (magD a) := Fp.rep_mag Ieee.double Fp.dF (by rw [Fp.dI]; exact hf)
theorem magD_zero {a : Nat} : magD a = 0 ↔ a % 9223372036854775808 = 0 := by
  unfold magD
  have := Fp.mag_inj Ieee.double (r := a % 9223372036854775808) (r' := 0)
  rwa [Fp.mag_zero] at this
theorem Narrow_any (a : Nat) (mode : Int) (ha : a < 18446744073709551616) (w : World) (hT : FmS w) : Calls Tryz.prog 38 #[.float .f64 a, .int .i64 mode] w fun e' w' => e' = .returned (.tuple #[.float .f32 (nWord a mode), .int .i64 (nFlags a mode), .int .i64 (nErr mode)]) ∧ Within w w' := by
  have KN := Lib.hid (fun w => known_any mode w)
  unfold nWord nFlags nErr
  by_cases hmode : 0 ≤ mode ∧ mode ≤ 4
  · rw [decide_eq_true hmode] at KN
    have hm' : ¬¬(0 ≤ mode ∧ mode ≤ 4) := fun h => h hmode
    rw [if_neg hm', if_neg hm', if_pos hmode]
    have hx := ne_self (a := a)
    by_cases hn : 9218868437227405312 < a % 9223372036854775808
    · rw [decide_eq_true hn] at hx
      rw [if_pos hn, if_pos hn]
      exact narrow_nan a mode KN hx (Lib.hid none_any) w
    rw [decide_eq_false hn] at hx
    rw [if_neg hn, if_neg hn]
    have PL := Lib.hid (fun w => plain_any a ha (by omega) w)
    have hsp := sgn_split ha
    by_cases hz : a % 9223372036854775808 = 0
    · rw [decide_eq_true (.inl hz)] at PL
      rw [if_pos hz, if_pos hz]
      refine narrow_plain a _ mode KN hx PL ?_ w
      rw [hz, Nat.zero_add] at hsp
      conv => lhs; rw [hsp]
      exact nbits_zero _
    rw [if_neg hz, if_neg hz]
    by_cases hi : a % 9223372036854775808 = 9218868437227405312
    · rw [decide_eq_true (.inr hi)] at PL
      rw [if_pos hi, if_pos hi]
      refine narrow_plain a _ mode KN hx PL ?_ w
      rw [hi] at hsp
      conv => lhs; rw [hsp]
      exact nbits_inf _
    rw [if_neg hi, if_neg hi]
    rw [decide_eq_false (show ¬ (a % 9223372036854775808 = 0 ∨ a % 9223372036854775808 = 9218868437227405312) by omega)] at PL
    have h0 : magD a ≠ 0 := fun h => hz (magD_zero.1 h)
    obtain ⟨t1, t2, t3, _⟩ := top53_bounds h0 (magD_rep (by omega))
    have TK := Lib.hid (fun w => take_any a (magD a) ha h0 (by omega) rfl w)
    have RN := Lib.hid (fun w => round_S (ngD a) (top53 (magD a)) (((magD a).log2 : Int) - 1126) mode (by omega) (by omega) (by omega) (by omega) hmode w)
    exact narrow_main a _ _ _ _ _ mode _ KN hx PL TK RN (sWord_bits (ngD a) _ mode (by omega) (by omega)) w hT
  · rw [decide_eq_false hmode] at KN
    rw [if_pos hmode, if_pos hmode, if_neg hmode]
    exact narrow_bad a mode KN w
set_option maxRecDepth 100000 in
set_option maxHeartbeats 600000 in
theorem Fits_any (a : Nat) (ha : a < 18446744073709551616) (w : World) (hT : FmS w) : Calls Tryz.prog 39 #[.float .f64 a] w fun e w' => e = .returned (.bool (nFlags a 0 == 0)) ∧ Within w w' := by
  have NA := Lib.hid (fun w h => Narrow_any a 0 ha w h)
  generalize nWord a 0 = x at *
  generalize nFlags a 0 = y at *
  have hE : nErr 0 = 0 := by decide
  rw [hE] at NA
  clear ha hE
  go_enter Tryz.func39, Tryz.ntmps39
  go_wp2_with fail
  refine (NA.out _ (hT.of (by repeat (with_reducible first | exact Within.refl _ | assumption | refine Within.alloc ?_ _ | refine Within.drew ?_ | refine Within.setCell ?_ (by first | (simp; done) | (simp; omega)) _ | refine Within.trans ?_ (by assumption))))).mono ?_; rintro e1 w1 ⟨rfl, hb1⟩
  go_wp2
  go_ret
  exact ⟨rfl, (by repeat (with_reducible first | exact Within.refl _ | assumption | refine Within.alloc ?_ _ | refine Within.drew ?_ | refine Within.setCell ?_ (by first | (simp; done) | (simp; omega)) _ | refine Within.trans ?_ (by assumption)))⟩
def wWord (b : Nat) : Nat :=
  if 2139095040 < b % 2147483648 then 9221120237041090561
  else if b % 2147483648 = 2139095040 then 9218868437227405312 + sgnD (decide (2147483648 ≤ b))
  else Fp.num Ieee.double (decide (2147483648 ≤ b)) (Fp.mag Ieee.single (b % 2147483648) * 2 ^ Fp.sgap)
theorem single_is {b : Nat} (hb : b < 4294967296) (hf : b % 2147483648 < 2139095040) : Fp.Is Ieee.single b (decide (2147483648 ≤ b)) (Fp.mag Ieee.single (b % 2147483648)) := by
  have hr : Fp.rg Ieee.single b = b % 2147483648 := Fp.rg32 b
  refine ⟨hb, by rw [hr, Fp.sI]; exact hf, ?_, by rw [hr]⟩
  rw [Fp.sg32]
  by_cases h : 2147483648 ≤ b
  · rw [decide_eq_true h, show b / 2147483648 = 1 by omega]; rfl
  · rw [decide_eq_false h, show b / 2147483648 = 0 by omega]; rfl
set_option maxRecDepth 100000 in
set_option maxHeartbeats 600000 in
theorem widen_core (b x c : Nat) (hc : floatToFloatBits .f32 b .f64 = some x) (CA : Hid (∀ w, Calls Tryz.prog 41 #[.float .f64 x] w fun e w' => e = .returned (.float .f64 c) ∧ Within w w')) (w : World) : Calls Tryz.prog 40 #[.float .f32 b] w fun e w' => e = .returned (.float .f64 c) ∧ Within w w' := by
  have hcv := fun (w : World) => run_convert_float_float (P := Tryz.prog) w 23 34 .f32 .f64 b x (by kernel_rfl) (by kernel_rfl) hc
  clear hc
  go_enter Tryz.func40, Tryz.ntmps40
  go_wp2_with fail
  refine (CA.out _).mono ?_; rintro e1 w1 ⟨rfl, hb1⟩
  go_wp2
  go_ret
  exact ⟨rfl, (by repeat (with_reducible first | exact Within.refl _ | assumption | refine Within.alloc ?_ _ | refine Within.drew ?_ | refine Within.setCell ?_ (by first | (simp; done) | (simp; omega)) _ | refine Within.trans ?_ (by assumption)))⟩
set_option maxRecDepth 100000 in
set_option maxHeartbeats 600000 in
theorem widen_nan (b t : Nat) (g : Bool) (h : FloatKind.f32.decode b = .nan g t) (w : World) : Calls Tryz.prog 40 #[.float .f32 b] w fun e w' => e = .returned (.float .f64 9221120237041090561) ∧ Within w w' := by
  have hcv := fun (w : World) => run_widen_nan 23 34 .f32 .f64 b Tryz.prog w (by decide) (by kernel_rfl) (by kernel_rfl) g t h
  have HC := Lib.hid (fun t w => Canon_D ((Question.nanConv .f64 b).cut t) (nan_cutD b t).2 w)
  simp only [(nan_cutD _ _).1] at HC
  clear h
  go_enter Tryz.func40, Tryz.ntmps40
  go_wp2_with fail
  refine (HC.out _ _).mono ?_; rintro e1 w1 ⟨rfl, hb1⟩
  go_wp2
  go_ret
  exact ⟨rfl, (by repeat (with_reducible first | exact Within.refl _ | assumption | refine Within.alloc ?_ _ | refine Within.drew ?_ | refine Within.setCell ?_ (by first | (simp; done) | (simp; omega)) _ | refine Within.trans ?_ (by assumption)))⟩
theorem Widen_any (b : Nat) (hb : b < 4294967296) (w : World) : Calls Tryz.prog 40 #[.float .f32 b] w fun e w' => e = .returned (.float .f64 (wWord b)) ∧ Within w w' := by
  unfold wWord
  by_cases hn : 2139095040 < b % 2147483648
  · rw [if_pos hn]
    have := Fp.read_nan Ieee.single b (by rw [Fp.rg32, Fp.sI]; exact hn) Fp.sBI
    exact widen_nan b _ _ this w
  rw [if_neg hn]
  by_cases hi : b % 2147483648 = 2139095040
  · rw [if_pos hi]
    have hsp : b = 2139095040 + sgnS (decide (2147483648 ≤ b)) := by
      unfold sgnS
      by_cases h : 2147483648 ≤ b
      · rw [decide_eq_true h, if_pos rfl]; omega
      · rw [decide_eq_false h, if_neg Bool.false_ne_true]; omega
    have hc := wbits_inf (decide (2147483648 ≤ b))
    rw [← hsp] at hc
    have hcan : canonD (9218868437227405312 + sgnD (decide (2147483648 ≤ b))) = 9218868437227405312 + sgnD (decide (2147483648 ≤ b)) := by cases decide (2147483648 ≤ b) <;> decide
    have CA := Lib.hid (fun w => Canon_D (9218868437227405312 + sgnD (decide (2147483648 ≤ b))) (by unfold sgnD; split <;> omega) w)
    rw [hcan] at CA
    exact widen_core b _ _ hc CA w
  · rw [if_neg hi]
    have hI := single_is hb (by omega)
    obtain ⟨h1, h2⟩ := Fp.widen_is hI
    have hl := num_lt h2
    have hlt : Fp.num Ieee.double (decide (2147483648 ≤ b)) (Fp.mag Ieee.single (b % 2147483648) * 2 ^ Fp.sgap) % 9223372036854775808 < 9218868437227405312 ∧ Fp.num Ieee.double (decide (2147483648 ≤ b)) (Fp.mag Ieee.single (b % 2147483648) * 2 ^ Fp.sgap) < 18446744073709551616 := by
      rw [num_sgn]; unfold sgnD; split <;> omega
    have hc := wbits_num (by omega) hlt.1 h1
    have CA := Lib.hid (fun w => Canon_D (Fp.num Ieee.double (decide (2147483648 ≤ b)) (Fp.mag Ieee.single (b % 2147483648) * 2 ^ Fp.sgap)) hlt.2 w)
    have hcan : canonD (Fp.num Ieee.double (decide (2147483648 ≤ b)) (Fp.mag Ieee.single (b % 2147483648) * 2 ^ Fp.sgap)) = Fp.num Ieee.double (decide (2147483648 ≤ b)) (Fp.mag Ieee.single (b % 2147483648) * 2 ^ Fp.sgap) := by
      unfold canonD nanD; rw [decide_eq_false (by omega)]; exact if_neg Bool.false_ne_true
    rw [hcan] at CA
    exact widen_core b _ _ hc CA w
end Go.Proofs.YtifgngmebnjfkaaGreatDoor
end

section
namespace Go.Proofs.YtifgngmebnjfkaaGreatDoor
open Go.RowKit
set_option maxRecDepth 100000 in
set_option maxHeartbeats 600000 in
theorem whole_bad (a : Nat) (mode : Int) (KN : Hid (∀ w, Calls Tryz.prog 29 #[.int .i64 mode] w fun e' w' => e' = .returned (.bool false) ∧ w = w')) (w : World) : Calls Tryz.prog 11 #[.float .f64 a, .int .i64 mode] w fun e' w' => e' = .returned (.tuple #[.float .f64 0, .int .i64 0, .int .i64 20]) ∧ Within w w' := by
  go_enter Tryz.func11, Tryz.ntmps11
  go_wp2_with fail
  refine (KN.out _).mono ?_; rintro e1 w1 ⟨rfl, rfl⟩
  go_wp2
  go_ret3
  exact ⟨rfl, (by repeat (with_reducible first | exact Within.refl _ | assumption | refine Within.alloc ?_ _ | refine Within.drew ?_ | refine Within.setCell ?_ (by first | (simp; done) | (simp; omega)) _ | refine Within.trans ?_ (by assumption)))⟩
set_option maxRecDepth 100000 in
set_option maxHeartbeats 600000 in
theorem whole_nan (a c : Nat) (mode : Int) (KN : Hid (∀ w, Calls Tryz.prog 29 #[.int .i64 mode] w fun e' w' => e' = .returned (.bool true) ∧ w = w')) (hx : (FloatKind.f64.format.order a a != some .eq) = true) (CA : Hid (∀ w, Calls Tryz.prog 41 #[.float .f64 a] w fun e' w' => e' = .returned (.float .f64 c) ∧ Within w w')) (w : World) : Calls Tryz.prog 11 #[.float .f64 a, .int .i64 mode] w fun e' w' => e' = .returned (.tuple #[.float .f64 c, .int .i64 0, .int .i64 0]) ∧ Within w w' := by
  go_enter Tryz.func11, Tryz.ntmps11
  go_wp2_with fail
  refine (KN.out _).mono ?_; rintro e1 w1 ⟨rfl, rfl⟩
  go_wp2_with fail
  refine (CA.out _).mono ?_; rintro e2 w2 ⟨rfl, hb2⟩
  go_wp2
  go_ret3
  exact ⟨rfl, (by repeat (with_reducible first | exact Within.refl _ | assumption | refine Within.alloc ?_ _ | refine Within.drew ?_ | refine Within.setCell ?_ (by first | (simp; done) | (simp; omega)) _ | refine Within.trans ?_ (by assumption)))⟩
set_option maxRecDepth 100000 in
set_option maxHeartbeats 600000 in
theorem whole_plain (a : Nat) (mode : Int) (KN : Hid (∀ w, Calls Tryz.prog 29 #[.int .i64 mode] w fun e' w' => e' = .returned (.bool true) ∧ w = w')) (hx : (FloatKind.f64.format.order a a != some .eq) = false) (PL : Hid (∀ w, Calls Tryz.prog 42 #[.float .f64 a] w fun e' w' => e' = .returned (.bool true) ∧ w = w')) (w : World) : Calls Tryz.prog 11 #[.float .f64 a, .int .i64 mode] w fun e' w' => e' = .returned (.tuple #[.float .f64 a, .int .i64 0, .int .i64 0]) ∧ Within w w' := by
  go_enter Tryz.func11, Tryz.ntmps11
  go_wp2_with fail
  refine (KN.out _).mono ?_; rintro e1 w1 ⟨rfl, rfl⟩
  go_wp2_with fail
  refine (PL.out _).mono ?_; rintro e2 w2 ⟨rfl, rfl⟩
  go_wp2
  go_ret3
  exact ⟨rfl, (by repeat (with_reducible first | exact Within.refl _ | assumption | refine Within.alloc ?_ _ | refine Within.drew ?_ | refine Within.setCell ?_ (by first | (simp; done) | (simp; omega)) _ | refine Within.trans ?_ (by assumption)))⟩
set_option maxRecDepth 100000 in
set_option maxHeartbeats 600000 in
theorem whole_is (a m : Nat) (b : Bool) (e mode : Int) (KN : Hid (∀ w, Calls Tryz.prog 29 #[.int .i64 mode] w fun e' w' => e' = .returned (.bool true) ∧ w = w')) (hx : (FloatKind.f64.format.order a a != some .eq) = false) (PL : Hid (∀ w, Calls Tryz.prog 42 #[.float .f64 a] w fun e' w' => e' = .returned (.bool false) ∧ w = w')) (TK : Hid (∀ w, Calls Tryz.prog 43 #[.float .f64 a] w fun e' w' => e' = .returned (.agg #[.bool b, .int .u64 m, .int .i64 e]) ∧ Within w w')) (he : decide (e ≥ 0) = true) (w : World) : Calls Tryz.prog 11 #[.float .f64 a, .int .i64 mode] w fun e' w' => e' = .returned (.tuple #[.float .f64 a, .int .i64 0, .int .i64 0]) ∧ Within w w' := by
  have he' : decide (0 ≤ e) = true := by simpa using he
  go_enter Tryz.func11, Tryz.ntmps11
  go_wp2_with fail
  refine (KN.out _).mono ?_; rintro e1 w1 ⟨rfl, rfl⟩
  go_wp2_with fail
  refine (PL.out _).mono ?_; rintro e2 w2 ⟨rfl, rfl⟩
  go_wp2_with fail
  refine (TK.out _).mono ?_; rintro e3 w3 ⟨rfl, hb3⟩
  go_wp2
  go_ret3
  exact ⟨rfl, (by repeat (with_reducible first | exact Within.refl _ | assumption | refine Within.alloc ?_ _ | refine Within.drew ?_ | refine Within.setCell ?_ (by first | (simp; done) | (simp; omega)) _ | refine Within.trans ?_ (by assumption)))⟩
set_option maxRecDepth 100000 in
set_option maxHeartbeats 600000 in
theorem whole_cut_false (a m q x z s : Nat) (b : Bool) (e mode : Int) (KN : Hid (∀ w, Calls Tryz.prog 29 #[.int .i64 mode] w fun e' w' => e' = .returned (.bool true) ∧ w = w')) (hx : (FloatKind.f64.format.order a a != some .eq) = false) (PL : Hid (∀ w, Calls Tryz.prog 42 #[.float .f64 a] w fun e' w' => e' = .returned (.bool false) ∧ w = w')) (TK : Hid (∀ w, Calls Tryz.prog 43 #[.float .f64 a] w fun e' w' => e' = .returned (.agg #[.bool b, .int .u64 m, .int .i64 e]) ∧ Within w w')) (he : e = -(s : Int)) (hs : 0 < s) (hs2 : s ≤ 3000) (DR : Hid (∀ w, Calls Tryz.prog 44 #[.agg #[.bool b, .int .u64 m, .int .i64 e], .int .i64 (s : Int), .int .i64 mode] w fun e' w' => e' = .returned (.tuple #[.int .u64 q, .bool false]) ∧ Within w w')) (hcv : floatOfInt .f64 (q : Int) = x) (SG : Hid (∀ w, Calls Tryz.prog 45 #[.float .f64 x, .bool b] w fun e' w' => e' = .returned (.float .f64 z) ∧ w = w')) (w : World) : Calls Tryz.prog 11 #[.float .f64 a, .int .i64 mode] w fun e' w' => e' = .returned (.tuple #[.float .f64 z, .int .i64 0, .int .i64 0]) ∧ Within w w' := by
  subst he
  have d1 : decide (-(s : Int) ≥ 0) = false := decide_eq_false (by omega)
  have d1' : decide (0 ≤ -(s : Int)) = false := decide_eq_false (by omega)
  have g1 : IntKind.i64.wrap (- -(s : Int)) = (s : Int) := by rw [IntKind.wrap_i64]; omega
  have g2 : - -(s : Int) = (s : Int) := by omega
  have hcv' := fun (w : World) => run_convert_int_float (P := Tryz.prog) w 33 34 .u64 .f64 (q : Int) (by kernel_rfl) (by kernel_rfl)
  rw [hcv] at hcv'
  clear hcv
  go_enter Tryz.func11, Tryz.ntmps11
  go_wp2_with fail
  refine (KN.out _).mono ?_; rintro e1 w1 ⟨rfl, rfl⟩
  go_wp2_with fail
  refine (PL.out _).mono ?_; rintro e2 w2 ⟨rfl, rfl⟩
  go_wp2_with fail
  refine (TK.out _).mono ?_; rintro e3 w3 ⟨rfl, hb3⟩
  have t0 : w3.heap.size < (w3.alloc (.cells #[.bool b, .int .u64 m, .int .i64 (-(s : Int))] 74)).heap.size := by simp
  go_wp2_with fail
  refine (DR.out _).mono ?_; rintro e4 w4 ⟨rfl, hb4⟩
  have r0 : w4.cell? ⟨w3.heap.size, 0, none⟩ = some (.bool b) := (hb4.cells _ _ (by simp)).trans (by simp)
  go_wp2_with fail
  refine (SG.out _).mono ?_; rintro e5 w5 ⟨rfl, rfl⟩
  go_wp2
  go_ret3
  exact ⟨rfl, (by repeat (with_reducible first | exact Within.refl _ | assumption | refine Within.alloc ?_ _ | refine Within.drew ?_ | refine Within.setCell ?_ (by first | (simp; done) | (simp; omega)) _ | refine Within.trans ?_ (by assumption)))⟩
set_option maxRecDepth 100000 in
set_option maxHeartbeats 600000 in
theorem whole_cut_true (a m q x z s : Nat) (b : Bool) (e mode : Int) (KN : Hid (∀ w, Calls Tryz.prog 29 #[.int .i64 mode] w fun e' w' => e' = .returned (.bool true) ∧ w = w')) (hx : (FloatKind.f64.format.order a a != some .eq) = false) (PL : Hid (∀ w, Calls Tryz.prog 42 #[.float .f64 a] w fun e' w' => e' = .returned (.bool false) ∧ w = w')) (TK : Hid (∀ w, Calls Tryz.prog 43 #[.float .f64 a] w fun e' w' => e' = .returned (.agg #[.bool b, .int .u64 m, .int .i64 e]) ∧ Within w w')) (he : e = -(s : Int)) (hs : 0 < s) (hs2 : s ≤ 3000) (DR : Hid (∀ w, Calls Tryz.prog 44 #[.agg #[.bool b, .int .u64 m, .int .i64 e], .int .i64 (s : Int), .int .i64 mode] w fun e' w' => e' = .returned (.tuple #[.int .u64 q, .bool true]) ∧ Within w w')) (hcv : floatOfInt .f64 (q : Int) = x) (SG : Hid (∀ w, Calls Tryz.prog 45 #[.float .f64 x, .bool b] w fun e' w' => e' = .returned (.float .f64 z) ∧ w = w')) (w : World) : Calls Tryz.prog 11 #[.float .f64 a, .int .i64 mode] w fun e' w' => e' = .returned (.tuple #[.float .f64 z, .int .i64 1, .int .i64 0]) ∧ Within w w' := by
  subst he
  have d1 : decide (-(s : Int) ≥ 0) = false := decide_eq_false (by omega)
  have d1' : decide (0 ≤ -(s : Int)) = false := decide_eq_false (by omega)
  have g1 : IntKind.i64.wrap (- -(s : Int)) = (s : Int) := by rw [IntKind.wrap_i64]; omega
  have g2 : - -(s : Int) = (s : Int) := by omega
  have hcv' := fun (w : World) => run_convert_int_float (P := Tryz.prog) w 33 34 .u64 .f64 (q : Int) (by kernel_rfl) (by kernel_rfl)
  rw [hcv] at hcv'
  clear hcv
  go_enter Tryz.func11, Tryz.ntmps11
  go_wp2_with fail
  refine (KN.out _).mono ?_; rintro e1 w1 ⟨rfl, rfl⟩
  go_wp2_with fail
  refine (PL.out _).mono ?_; rintro e2 w2 ⟨rfl, rfl⟩
  go_wp2_with fail
  refine (TK.out _).mono ?_; rintro e3 w3 ⟨rfl, hb3⟩
  have t0 : w3.heap.size < (w3.alloc (.cells #[.bool b, .int .u64 m, .int .i64 (-(s : Int))] 74)).heap.size := by simp
  go_wp2_with fail
  refine (DR.out _).mono ?_; rintro e4 w4 ⟨rfl, hb4⟩
  have r0 : w4.cell? ⟨w3.heap.size, 0, none⟩ = some (.bool b) := (hb4.cells _ _ (by simp)).trans (by simp)
  go_wp2_with fail
  refine (SG.out _).mono ?_; rintro e5 w5 ⟨rfl, rfl⟩
  go_wp2
  go_ret3
  exact ⟨rfl, (by repeat (with_reducible first | exact Within.refl _ | assumption | refine Within.alloc ?_ _ | refine Within.drew ?_ | refine Within.setCell ?_ (by first | (simp; done) | (simp; omega)) _ | refine Within.trans ?_ (by assumption)))⟩
/-! what it comes to -/
def dLow (a : Nat) : Nat := 1126 - (magD a).log2
def hWord (a : Nat) (mode : Int) : Nat :=
  if ¬ (0 ≤ mode ∧ mode ≤ 4) then 0
  else if 9218868437227405312 < a % 9223372036854775808 then canonD a
  else if a % 9223372036854775808 = 0 ∨ a % 9223372036854775808 = 9218868437227405312 then a
  else if 1126 ≤ (magD a).log2 then a
  else Fp.num Ieee.double false (cutQ (top53 (magD a)) (dLow a) (ngD a) mode * 2 ^ Fp.deep Ieee.double) + sgnD (ngD a)
def hFlags (a : Nat) (mode : Int) : Int :=
  if ¬ (0 ≤ mode ∧ mode ≤ 4) then 0
  else if 9218868437227405312 < a % 9223372036854775808 then 0
  else if a % 9223372036854775808 = 0 ∨ a % 9223372036854775808 = 9218868437227405312 then 0
  else if 1126 ≤ (magD a).log2 then 0
  else if top53 (magD a) % 2 ^ dLow a ≠ 0 then 1 else 0
theorem cutQ_le {m s : Nat} (neg : Bool) (mode : Int) (hm : m < 9007199254740992) (hs : 1 ≤ s) : cutQ m s neg mode ≤ 4503599627370496 := by
  unfold cutQ
  have h1 : (goes m s neg mode).toNat ≤ 1 := by cases goes m s neg mode <;> decide
  have h2 : m / 2 ^ s ≤ m / 2 := Nat.div_le_div_left (by have := Nat.pow_le_pow_right (n := 2) (by decide) hs; omega) (by decide)
  omega
theorem Whole_any (a : Nat) (mode : Int) (ha : a < 18446744073709551616) (w : World) : Calls Tryz.prog 11 #[.float .f64 a, .int .i64 mode] w fun e' w' => e' = .returned (.tuple #[.float .f64 (hWord a mode), .int .i64 (hFlags a mode), .int .i64 (nErr mode)]) ∧ Within w w' := by
  have KN := Lib.hid (fun w => known_any mode w)
  unfold hWord hFlags nErr
  by_cases hmode : 0 ≤ mode ∧ mode ≤ 4
  · rw [decide_eq_true hmode] at KN
    have hm' : ¬¬(0 ≤ mode ∧ mode ≤ 4) := fun h => h hmode
    rw [if_neg hm', if_neg hm', if_pos hmode]
    have hx := ne_self (a := a)
    by_cases hn : 9218868437227405312 < a % 9223372036854775808
    · rw [decide_eq_true hn] at hx
      rw [if_pos hn, if_pos hn]
      exact whole_nan a _ mode KN hx (Lib.hid fun w => Canon_D a ha w) w
    rw [decide_eq_false hn] at hx
    rw [if_neg hn, if_neg hn]
    have PL := Lib.hid (fun w => plain_any a ha (by omega) w)
    by_cases hz : a % 9223372036854775808 = 0 ∨ a % 9223372036854775808 = 9218868437227405312
    · rw [decide_eq_true hz] at PL
      rw [if_pos hz, if_pos hz]
      exact whole_plain a mode KN hx PL w
    rw [if_neg hz, if_neg hz]
    rw [decide_eq_false hz] at PL
    have h0 : magD a ≠ 0 := fun h => hz (.inl (magD_zero.1 h))
    obtain ⟨t1, t2, t3, _⟩ := top53_bounds h0 (magD_rep (by omega))
    have TK := Lib.hid (fun w => take_any a (magD a) ha h0 (by omega) rfl w)
    by_cases he : 1126 ≤ (magD a).log2
    · rw [if_pos he, if_pos he]
      exact whole_is a _ _ _ mode KN hx PL TK (decide_eq_true (by omega)) w
    rw [if_neg he, if_neg he]
    have hs : dLow a = 1126 - (magD a).log2 := rfl
    have DR := Lib.hid (fun w => drop_down (ngD a) (top53 (magD a)) (dLow a) (((magD a).log2 : Int) - 1126) mode (by omega) (by omega) (by omega) hmode w)
    have hq := cutQ_le (ngD a) mode t2 (show 1 ≤ dLow a by omega)
    have hfi := float_int (q := cutQ (top53 (magD a)) (dLow a) (ngD a) mode) (by omega)
    have SG := Lib.hid (fun w => signed_any (ngD a) (Nat.lt_trans (num_lt hfi.2) (by decide)) w)
    by_cases hl : top53 (magD a) % 2 ^ dLow a ≠ 0
    · rw [decide_eq_true hl] at DR
      rw [if_pos hl]
      exact whole_cut_true a _ _ _ _ (dLow a) _ _ mode KN hx PL TK (by omega) (by omega) (by omega) DR hfi.1 SG w
    · rw [decide_eq_false hl] at DR
      rw [if_neg hl]
      exact whole_cut_false a _ _ _ _ (dLow a) _ _ mode KN hx PL TK (by omega) (by omega) (by omega) DR hfi.1 SG w
  · rw [decide_eq_false hmode] at KN
    rw [if_pos hmode, if_pos hmode, if_neg hmode]
    exact whole_bad a mode KN w
set_option maxRecDepth 100000 in
set_option maxHeartbeats 600000 in
theorem fits_8 (w : World) : Calls Tryz.prog 57 #[.int .i64 8] w fun e w' => e = .returned (.bool true) ∧ w = w' := by
  go_enter Tryz.func57, Tryz.ntmps57
  go_wp2
  refine wp_loop_rounds 1 ?_
  rw [rounds_succ]
  go_wp2
  go_ret
  exact ⟨rfl, rfl⟩
end Go.Proofs.YtifgngmebnjfkaaGreatDoor
end

section
namespace Go.Proofs.YtifgngmebnjfkaaGreatDoor
open Go.RowKit
theorem m_pow (k : Nat) (hk : k ≤ 1000) (w : World) : Calls Tryz.prog 58 #[.float .f64 4607182418800017408, .int .i64 (k : Int)] w fun e w' => e = .returned (.float .f64 ((1023 + k) * 4503599627370496)) ∧ w = w' := by
  refine m_ldexp (fun w => ?_) w
  have h := m_ldexp_norm 4607182418800017408 (1023 + k) (k : Int) (by decide) (by decide) (by omega) (by omega) (by omega) (by
    rw [show 4607182418800017408 % 4503599627370496 = 0 by decide, Nat.add_zero]
    exact one_mul (by omega)) w
  rwa [show 4607182418800017408 % 4503599627370496 = 0 by decide, Nat.add_zero] at h
set_option maxRecDepth 100000 in
set_option maxHeartbeats 600000 in
theorem Int_8_high (a x : Nat) (mode fl : Int) (WH : Hid (∀ w, Calls Tryz.prog 11 #[.float .f64 a, .int .i64 mode] w fun e' w' => e' = .returned (.tuple #[.float .f64 x, .int .i64 fl, .int .i64 0]) ∧ Within w w')) (hx : (FloatKind.f64.format.order x x != some .eq) = false) (hl : (FloatKind.f64.format.order x 13862079653046386688 == some .lt) = false) (hg : (FloatKind.f64.format.order x 4638707616191610880 == some .gt || FloatKind.f64.format.order x 4638707616191610880 == some .eq) = true) (w : World) : Calls Tryz.prog 15 #[.float .f64 a, .int .i64 8, .int .i64 mode] w fun e' w' => e' = .returned (.tuple #[.int .i64 127, .int .i64 8, .int .i64 0]) ∧ Within w w' := by
  have LD : Hid (∀ w, Calls Tryz.prog 58 #[.float .f64 4607182418800017408, .int .i64 7] w fun e w' => e = .returned (.float .f64 4638707616191610880) ∧ w = w') := Lib.hid fun w => m_pow 7 (by decide) w
  have hng := neg_pos (a := 4638707616191610880) (by decide)
  rw [show 4638707616191610880 + 9223372036854775808 = 13862079653046386688 by decide] at hng
  go_enter Tryz.func15, Tryz.ntmps15
  go_wp2_with fail
  refine (WH.out _).mono ?_; rintro e1 w1 ⟨rfl, hb1⟩
  go_wp2_with fail
  refine (fits_8 _).mono ?_; rintro e2 w2 ⟨rfl, rfl⟩
  go_wp2_with fail
  refine (LD.out _).mono ?_; rintro e3 w3 ⟨rfl, rfl⟩
  go_wp2
  go_ret3
  exact ⟨rfl, (by repeat (with_reducible first | exact Within.refl _ | assumption | refine Within.alloc ?_ _ | refine Within.drew ?_ | refine Within.setCell ?_ (by first | (simp; done) | (simp; omega)) _ | refine Within.trans ?_ (by assumption)))⟩
end Go.Proofs.YtifgngmebnjfkaaGreatDoor
end

section
namespace Go.Proofs.YtifgngmebnjfkaaGreatDoor
open Go.RowKit
theorem u64_or_sgn (a : Nat) (ha : a < 9223372036854775808) : bits .or .u64 (a : Int) 9223372036854775808 = ((a + 9223372036854775808 : Nat) : Int) := by
  rw [show (9223372036854775808 : Int) = ((9223372036854775808 : Nat) : Int) from rfl, u64_or_nat a 9223372036854775808 (by omega) (by decide), Nat.or_comm, nat_join 63 9223372036854775808 a (by decide) ha, Nat.add_comm]
set_option maxRecDepth 100000 in
set_option maxHeartbeats 600000 in
theorem m_copysign_neg (a : Nat) (ha : a < 9223372036854775808) (w : World) : Calls Tryz.prog 116 #[.float .f64 a, .float .f64 13830554455654793216] w fun e w' => e = .returned (.float .f64 (a + 9223372036854775808)) ∧ w = w' := by
  have h1 := u64_unsign a (by omega)
  rw [Nat.mod_eq_of_lt ha] at h1
  have h2 : bits .and .u64 13830554455654793216 9223372036854775808 = 9223372036854775808 := by decide +kernel
  have h3 := u64_or_sgn a ha
  generalize hs : a + 9223372036854775808 = s at *
  have HS := Lib.hid hs; clear ha hs
  go_enter Tryz.func116, Tryz.ntmps116
  go_wp2
  go_ret
  exact ⟨rfl, rfl⟩
set_option maxRecDepth 100000 in
set_option maxHeartbeats 600000 in
theorem nought_nn (mode : Int) (w : World) : Calls Tryz.prog 78 #[.bool true, .bool true, .int .i64 mode] w fun e w' => e = .returned (.float .f32 2147483648) ∧ w = w' := by
  have hcv := fun (w : World) => run_convert_float_float (P := Tryz.prog) w 34 23 .f64 .f32 9223372036854775808 2147483648 (by kernel_rfl) (by kernel_rfl) (by decide +kernel)
  have CP : Hid (∀ w, Calls Tryz.prog 116 #[.float .f64 0, .float .f64 13830554455654793216] w fun e w' => e = .returned (.float .f64 9223372036854775808) ∧ w = w') := Lib.hid (fun w => m_copysign_neg 0 (by decide) w)
  go_enter Tryz.func78, Tryz.ntmps78
  go_wp2_with fail
  refine (CP.out _).mono ?_; rintro e1 w1 ⟨rfl, rfl⟩
  go_wp2
  go_ret
  exact ⟨rfl, rfl⟩
set_option maxRecDepth 100000 in
set_option maxHeartbeats 600000 in
theorem nought_pp (mode : Int) (w : World) : Calls Tryz.prog 78 #[.bool false, .bool false, .int .i64 mode] w fun e w' => e = .returned (.float .f32 0) ∧ w = w' := by
  go_enter Tryz.func78, Tryz.ntmps78
  go_wp2
  go_ret
  exact ⟨rfl, rfl⟩
set_option maxRecDepth 100000 in
set_option maxHeartbeats 600000 in
theorem nought_true_down (w : World) : Calls Tryz.prog 78 #[.bool true, .bool false, .int .i64 4] w fun e w' => e = .returned (.float .f32 2147483648) ∧ w = w' := by
  have hcv := fun (w : World) => run_convert_float_float (P := Tryz.prog) w 34 23 .f64 .f32 9223372036854775808 2147483648 (by kernel_rfl) (by kernel_rfl) (by decide +kernel)
  have CP : Hid (∀ w, Calls Tryz.prog 116 #[.float .f64 0, .float .f64 13830554455654793216] w fun e w' => e = .returned (.float .f64 9223372036854775808) ∧ w = w') := Lib.hid (fun w => m_copysign_neg 0 (by decide) w)
  go_enter Tryz.func78, Tryz.ntmps78
  go_wp2_with fail
  refine (CP.out _).mono ?_; rintro e1 w1 ⟨rfl, rfl⟩
  go_wp2
  go_ret
  exact ⟨rfl, rfl⟩
set_option maxRecDepth 100000 in
set_option maxHeartbeats 600000 in
theorem nought_true_other (mode : Int) (hm : (mode == 4) = false) (w : World) : Calls Tryz.prog 78 #[.bool true, .bool false, .int .i64 mode] w fun e w' => e = .returned (.float .f32 0) ∧ w = w' := by
  go_enter Tryz.func78, Tryz.ntmps78
  go_wp2
  go_ret
  exact ⟨rfl, rfl⟩
set_option maxRecDepth 100000 in
set_option maxHeartbeats 600000 in
theorem nought_false_down (w : World) : Calls Tryz.prog 78 #[.bool false, .bool true, .int .i64 4] w fun e w' => e = .returned (.float .f32 2147483648) ∧ w = w' := by
  have hcv := fun (w : World) => run_convert_float_float (P := Tryz.prog) w 34 23 .f64 .f32 9223372036854775808 2147483648 (by kernel_rfl) (by kernel_rfl) (by decide +kernel)
  have CP : Hid (∀ w, Calls Tryz.prog 116 #[.float .f64 0, .float .f64 13830554455654793216] w fun e w' => e = .returned (.float .f64 9223372036854775808) ∧ w = w') := Lib.hid (fun w => m_copysign_neg 0 (by decide) w)
  go_enter Tryz.func78, Tryz.ntmps78
  go_wp2_with fail
  refine (CP.out _).mono ?_; rintro e1 w1 ⟨rfl, rfl⟩
  go_wp2
  go_ret
  exact ⟨rfl, rfl⟩
set_option maxRecDepth 100000 in
set_option maxHeartbeats 600000 in
theorem nought_false_other (mode : Int) (hm : (mode == 4) = false) (w : World) : Calls Tryz.prog 78 #[.bool false, .bool true, .int .i64 mode] w fun e w' => e = .returned (.float .f32 0) ∧ w = w' := by
  go_enter Tryz.func78, Tryz.ntmps78
  go_wp2
  go_ret
  exact ⟨rfl, rfl⟩
set_option maxRecDepth 100000 in
set_option maxHeartbeats 600000 in
theorem finite_core (s z : Nat) (b : Bool) (hs : Ieee.double.sub s s = some z) (hz : (FloatKind.f64.format.order z 0 == some .eq) = b) (w : World) : Calls Tryz.prog 70 #[.float .f64 s] w fun e w' => e = .returned (.bool b) ∧ w = w' := by
  have hf := fun t P w => run_float_arith (P := P) w .sub t .f64 _ _ _ hs
  clear hs
  go_enter Tryz.func70, Tryz.ntmps70
  go_wp2
  go_ret
  exact ⟨rfl, rfl⟩
set_option maxRecDepth 100000 in
set_option maxHeartbeats 600000 in
theorem sum_cancel (a b s r : Nat) (mode : Int) (hxa : (FloatKind.f64.format.order a a != some .eq) = false) (hxb : (FloatKind.f64.format.order b b != some .eq) = false) (hxs : (FloatKind.f64.format.order s s != some .eq) = false) (hadd : Ieee.double.add a b = some s) (FI : Hid (∀ w, Calls Tryz.prog 70 #[.float .f64 s] w fun e' w' => e' = .returned (.bool true) ∧ w = w')) (hz : (FloatKind.f64.format.order s 0 == some .eq) = true) (ha0 : (FloatKind.f64.format.order a 0 != some .eq) = true) (NT : Hid (∀ w, Calls Tryz.prog 78 #[.bool false, .bool true, .int .i64 mode] w fun e w' => e = .returned (.float .f32 r) ∧ w = w')) (w : World) : Calls Tryz.prog 31 #[.float .f64 a, .float .f64 b, .int .i64 mode] w fun e' w' => e' = .returned (.tuple #[.float .f32 r, .int .i64 0]) ∧ Within w w' := by
  have hadd' := fun t P w => run_float_arith (P := P) w .add t .f64 _ _ _ hadd
  clear hadd
  go_enter Tryz.func31, Tryz.ntmps31
  go_wp2_with fail
  refine (FI.out _).mono ?_; rintro e1 w1 ⟨rfl, rfl⟩
  go_wp2_with fail
  refine (NT.out _).mono ?_; rintro e2 w2 ⟨rfl, rfl⟩
  go_wp2
  go_ret2
  exact ⟨rfl, (by repeat (with_reducible first | exact Within.refl _ | assumption | refine Within.alloc ?_ _ | refine Within.drew ?_ | refine Within.setCell ?_ (by first | (simp; done) | (simp; omega)) _ | refine Within.trans ?_ (by assumption)))⟩
set_option maxRecDepth 100000 in
set_option maxHeartbeats 600000 in
theorem add_core (x y a b r : Nat) (mode fl : Int) (KN : Hid (∀ w, Calls Tryz.prog 29 #[.int .i64 mode] w fun e' w' => e' = .returned (.bool true) ∧ w = w')) (hca : floatToFloatBits .f32 x .f64 = some a) (hcb : floatToFloatBits .f32 y .f64 = some b) (SU : Hid (∀ w, FmS w → Calls Tryz.prog 31 #[.float .f64 a, .float .f64 b, .int .i64 mode] w fun e' w' => e' = .returned (.tuple #[.float .f32 r, .int .i64 fl]) ∧ Within w w')) (w : World) (hT : FmS w) : Calls Tryz.prog 19 #[.float .f32 x, .float .f32 y, .int .i64 mode] w fun e' w' => e' = .returned (.tuple #[.float .f32 r, .int .i64 fl, .int .i64 0]) ∧ Within w w' := by
  have c1 := fun (w : World) => run_convert_float_float (P := Tryz.prog) w 23 34 .f32 .f64 x a (by kernel_rfl) (by kernel_rfl) hca
  have c2 := fun (w : World) => run_convert_float_float (P := Tryz.prog) w 23 34 .f32 .f64 y b (by kernel_rfl) (by kernel_rfl) hcb
  clear hca hcb
  go_enter Tryz.func19, Tryz.ntmps19
  go_wp2_with fail
  refine (KN.out _).mono ?_; rintro e1 w1 ⟨rfl, rfl⟩
  go_wp2_with fail
  refine (SU.out _ (hT.of (by repeat (with_reducible first | exact Within.refl _ | assumption | refine Within.alloc ?_ _ | refine Within.drew ?_ | refine Within.setCell ?_ (by first | (simp; done) | (simp; omega)) _ | refine Within.trans ?_ (by assumption))))).mono ?_; rintro e2 w2 ⟨rfl, hb2⟩
  go_wp2
  go_ret3
  exact ⟨rfl, (by repeat (with_reducible first | exact Within.refl _ | assumption | refine Within.alloc ?_ _ | refine Within.drew ?_ | refine Within.setCell ?_ (by first | (simp; done) | (simp; omega)) _ | refine Within.trans ?_ (by assumption)))⟩
set_option maxRecDepth 100000 in
set_option maxHeartbeats 600000 in
theorem is32_any (a b : Nat) (w : World) : Calls Tryz.prog 37 #[.float .f32 a, .int .u32 b] w fun e w' => e = .returned (.bool ((a : Int) == b)) ∧ w = w' := by
  go_enter Tryz.func37, Tryz.ntmps37
  go_wp2
  go_ret
  exact ⟨rfl, rfl⟩
set_option maxRecDepth 100000 in
set_option maxHeartbeats 600000 in
theorem g_any (a : Nat) (w : World) : Calls Tryz.prog 7 #[.int .u32 a] w fun e w' => e = .returned (.float .f32 a) ∧ w = w' := by
  go_enter Tryz.func7, Tryz.ntmps7
  go_wp2
  go_ret
  exact ⟨rfl, rfl⟩
theorem add_awake (w : World) (hT : FmS w) : Calls Tryz.prog 19 #[.float .f32 1065353216, .float .f32 3212836864, .int .i64 4] w fun e w' => e = .returned (.tuple #[.float .f32 2147483648, .int .i64 0, .int .i64 0]) ∧ Within w w' := by
  have FI := Lib.hid (fun w => finite_core 0 0 true (by decide +kernel) (by decide +kernel) w)
  have NT := Lib.hid (fun w => nought_false_down w)
  have SU := Lib.hid (fun (w : World) (_ : FmS w) => sum_cancel 4607182418800017408 13830554455654793216 0 2147483648 4 (by decide +kernel) (by decide +kernel) (by decide +kernel) (by decide +kernel) FI (by decide +kernel) (by decide +kernel) NT w)
  exact add_core 1065353216 3212836864 _ _ _ 4 _ (Lib.hid fun w => known_any 4 w) (by decide +kernel) (by decide +kernel) SU w hT
theorem nar_up (w : World) (hT : FmS w) : Calls Tryz.prog 38 #[.float .f64 4607182419068452864, .int .i64 3] w fun e w' => e = .returned (.tuple #[.float .f32 1065353217, .int .i64 1, .int .i64 0]) ∧ Within w w' := by
  have h := Narrow_any 4607182419068452864 3 (by decide) w hT
  rwa [show nWord 4607182419068452864 3 = 1065353217 by decide +kernel, show nFlags 4607182419068452864 3 = 1 by decide +kernel, show nErr 3 = 0 by decide] at h
theorem nar_near (w : World) (hT : FmS w) : Calls Tryz.prog 38 #[.float .f64 4607182419068452864, .int .i64 0] w fun e w' => e = .returned (.tuple #[.float .f32 1065353216, .int .i64 1, .int .i64 0]) ∧ Within w w' := by
  have h := Narrow_any 4607182419068452864 0 (by decide) w hT
  rwa [show nWord 4607182419068452864 0 = 1065353216 by decide +kernel, show nFlags 4607182419068452864 0 = 1 by decide +kernel, show nErr 0 = 0 by decide] at h
theorem fits_half (w : World) (hT : FmS w) : Calls Tryz.prog 39 #[.float .f64 4602678819172646912] w fun e w' => e = .returned (.bool true) ∧ Within w w' := by
  have h := Fits_any 4602678819172646912 (by decide) w hT
  rwa [show (nFlags 4602678819172646912 0 == 0) = true by decide +kernel] at h
theorem widen_half (w : World) : Calls Tryz.prog 40 #[.float .f32 1056964608] w fun e w' => e = .returned (.float .f64 4602678819172646912) ∧ Within w w' := by
  have h := Widen_any 1056964608 (by decide) w
  rwa [show wWord 1056964608 = 4602678819172646912 by decide +kernel] at h
theorem int_awake (w : World) : Calls Tryz.prog 15 #[.float .f64 4643985272004935680, .int .i64 8, .int .i64 0] w fun e w' => e = .returned (.tuple #[.int .i64 127, .int .i64 8, .int .i64 0]) ∧ Within w w' := by
  have WH := Lib.hid (fun w => Whole_any 4643985272004935680 0 (by decide) w)
  rw [show hWord 4643985272004935680 0 = 4643985272004935680 by decide +kernel, show hFlags 4643985272004935680 0 = 0 by decide +kernel, show nErr 0 = 0 by decide] at WH
  exact Int_8_high 4643985272004935680 4643985272004935680 0 0 WH (by decide +kernel) (by decide +kernel) (by decide +kernel) w
set_option maxRecDepth 100000 in
set_option maxHeartbeats 600000 in
theorem awake_true (w : World) (hT : FmS w) : Calls Tryz.prog 10 #[] w fun e w' => e = .returned (.bool true) ∧ Within w w' := by
  have i1 : ((1065353217 : Int) == 1065353217) = true := by decide
  have i2 : ((1065353216 : Int) == 1065353216) = true := by decide
  have i3 : ((2147483648 : Int) == 2147483648) = true := by decide
  have z : (FloatKind.f64.format.order 4602678819172646912 4602678819172646912 == some .eq) = true := by decide +kernel
  have I1 : Hid (∀ w, Calls Tryz.prog 37 #[.float .f32 1065353217, .int .u32 1065353217] w fun e w' => e = .returned (.bool true) ∧ w = w') := Lib.hid (fun w => is32_any 1065353217 1065353217 w)
  have I2 : Hid (∀ w, Calls Tryz.prog 37 #[.float .f32 1065353216, .int .u32 1065353216] w fun e w' => e = .returned (.bool true) ∧ w = w') := Lib.hid (fun w => is32_any 1065353216 1065353216 w)
  have I3 : Hid (∀ w, Calls Tryz.prog 37 #[.float .f32 2147483648, .int .u32 2147483648] w fun e w' => e = .returned (.bool true) ∧ w = w') := Lib.hid (fun w => is32_any 2147483648 2147483648 w)
  clear i1 i2 i3
  go_enter Tryz.func10, Tryz.ntmps10
  go_wp2_with fail
  refine (nar_up _ (hT.of (by repeat (with_reducible first | exact Within.refl _ | assumption | refine Within.alloc ?_ _ | refine Within.drew ?_ | refine Within.setCell ?_ (by first | (simp; done) | (simp; omega)) _ | refine Within.trans ?_ (by assumption))))).mono ?_; rintro e1 w1 ⟨rfl, hb1⟩
  go_wp2_with fail
  refine (nar_near _ (hT.of (by repeat (with_reducible first | exact Within.refl _ | assumption | refine Within.alloc ?_ _ | refine Within.drew ?_ | refine Within.setCell ?_ (by first | (simp; done) | (simp; omega)) _ | refine Within.trans ?_ (by assumption))))).mono ?_; rintro e2 w2 ⟨rfl, hb2⟩
  go_wp2_with fail
  refine (add_awake _ (hT.of (by repeat (with_reducible first | exact Within.refl _ | assumption | refine Within.alloc ?_ _ | refine Within.drew ?_ | refine Within.setCell ?_ (by first | (simp; done) | (simp; omega)) _ | refine Within.trans ?_ (by assumption))))).mono ?_; rintro e3 w3 ⟨rfl, hb3⟩
  go_wp2_with fail
  refine (int_awake _).mono ?_; rintro e4 w4 ⟨rfl, hb4⟩
  go_wp2_with fail
  refine (I1.out _).mono ?_; rintro e5 w5 ⟨rfl, rfl⟩
  go_wp2_with fail
  refine (I2.out _).mono ?_; rintro e6 w6 ⟨rfl, rfl⟩
  go_wp2_with fail
  refine (I3.out _).mono ?_; rintro e7 w7 ⟨rfl, rfl⟩
  go_wp2_with fail
  refine (fits_half _ (hT.of (by repeat (with_reducible first | exact Within.refl _ | assumption | refine Within.alloc ?_ _ | refine Within.drew ?_ | refine Within.setCell ?_ (by first | (simp; done) | (simp; omega)) _ | refine Within.trans ?_ (by assumption))))).mono ?_; rintro e8 w8 ⟨rfl, hb8⟩
  go_wp2_with fail
  refine (widen_half _).mono ?_; rintro e9 w9 ⟨rfl, hb9⟩
  go_wp2
  go_ret
  exact ⟨rfl, (by repeat (with_reducible first | exact Within.refl _ | assumption | refine Within.alloc ?_ _ | refine Within.drew ?_ | refine Within.setCell ?_ (by first | (simp; done) | (simp; omega)) _ | refine Within.trans ?_ (by assumption)))⟩
end Go.Proofs.YtifgngmebnjfkaaGreatDoor
end
