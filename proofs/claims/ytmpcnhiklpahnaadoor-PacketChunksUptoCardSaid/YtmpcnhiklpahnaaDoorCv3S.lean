/- 'round' of package convert to a single: walks, way by way. -/
import Derived.Test.YtmpcnhiklpahnaaDoorCv2
namespace Go.Proofs.YtmpcnhiklpahnaaDoor
open Go.RowKit

set_option maxRecDepth 100000 in
set_option maxHeartbeats 600000 in
theorem round_S_in0 (neg : Bool) (m L q Lq : Nat) (e k : Int) (mode : Int) (h1 : -20000 ≤ e) (h2 : e ≤ 20000) (hL : L ≤ 64) (hLq : Lq ≤ 64) (hk : max (e + (L : Int) - 24) (-149) = k) (LM : Hid (∀ w, Calls Tryd.prog 72 #[.int .u64 m] w fun e' w' => e' = .returned (.int .i64 (L : Nat)) ∧ w = w')) (DR : Hid (∀ w, Calls Tryd.prog 73 #[.agg #[.bool neg, .int .u64 m, .int .i64 e], .int .i64 (k - e), .int .i64 mode] w fun e' w' => e' = .returned (.tuple #[.int .u64 q, .bool false]) ∧ Within w w')) (LQ : Hid (∀ w, Calls Tryd.prog 72 #[.int .u64 q] w fun e' w' => e' = .returned (.int .i64 (Lq : Nat)) ∧ w = w')) (x y z : Nat) (hin : k + (Lq : Int) ≤ 128) (hcv : floatOfInt .f64 (q : Int) = x) (LD : Hid (∀ w, Calls Tryd.prog 71 #[.float .f64 x, .int .i64 k] w fun e' w' => e' = .returned (.float .f64 y) ∧ w = w')) (SG : Hid (∀ w, Calls Tryd.prog 74 #[.float .f64 y, .bool neg] w fun e' w' => e' = .returned (.float .f64 z) ∧ w = w')) (w : World) : Calls Tryd.prog 58 #[.agg #[.bool neg, .int .u64 m, .int .i64 e], .agg #[.int .i64 24, .int .i64 (-126), .int .i64 127], .int .i64 mode] w fun e' w' => e' = .returned (.tuple #[.float .f64 z, .int .i64 0]) ∧ Within w w' := by
  have kl : -20100 ≤ k := by omega
  have ku : k ≤ 20100 := by omega
  have gw1 : IntKind.i64.wrap (e + (L : Int)) = e + (L : Int) := by rw [IntKind.wrap_i64]; omega
  have gw2 : IntKind.i64.wrap (k + (Lq : Int)) = k + (Lq : Int) := by rw [IntKind.wrap_i64]; omega
  have gw3 : IntKind.i64.wrap 128 = 128 := by decide
  have hcv' := fun (w : World) => run_convert_int_float (P := Tryd.prog) w 45 75 .u64 .f64 (q : Int) (by kernel_rfl) (by kernel_rfl)
  rw [hcv] at hcv'
  have d : decide (k + (Lq : Int) ≤ 128) = true := decide_eq_true (by omega)
  clear hcv hin
  go_enter Tryd.func58, Tryd.ntmps58
  go_wp2
  refine wp_region_within (by kernel_rfl) (by kernel_rfl) ?_
  repeat
    apply wpq_step rfl
    · intro wq hCq
      have q0 : wq.cell? ⟨w.heap.size, 0, none⟩ = some (.bool neg) := (hCq.cells _ _ (by first | (simp; done) | (simp; omega) | omega)).trans (by simp)
      have q1 : wq.cell? ⟨w.heap.size, 1, none⟩ = some (.int .u64 m) := (hCq.cells _ _ (by first | (simp; done) | (simp; omega) | omega)).trans (by simp)
      have q2 : wq.cell? ⟨w.heap.size, 2, none⟩ = some (.int .i64 e) := (hCq.cells _ _ (by first | (simp; done) | (simp; omega) | omega)).trans (by simp)
      have q3 : wq.cell? ⟨(w.heap.size + 1), 0, none⟩ = some (.int .i64 (24)) := (hCq.cells _ _ (by first | (simp; done) | (simp; omega) | omega)).trans (by simp)
      have q4 : wq.cell? ⟨(w.heap.size + 1), 1, none⟩ = some (.int .i64 (-126)) := (hCq.cells _ _ (by first | (simp; done) | (simp; omega) | omega)).trans (by simp)
      have q5 : wq.cell? ⟨(w.heap.size + 1), 2, none⟩ = some (.int .i64 (127)) := (hCq.cells _ _ (by first | (simp; done) | (simp; omega) | omega)).trans (by simp)
      have qz : w.heap.size + 1 < wq.heap.size := World.block_lt_of_cell? _ _ q3
      go_simp
      first | rfl | exact hCq.same (LM.out _) | (trace_state; fail)
    simp only [Act.put, List.setIfInBounds_toArray, List.set_cons_zero, List.set_cons_succ]
  refine wpQuiet_nil ?_
  intro w1 hb1
  have r0 : w1.cell? ⟨w.heap.size, 0, none⟩ = some (.bool neg) := (hb1.cells _ _ (by first | (simp; done) | (simp; omega) | omega)).trans (by simp)
  have r1 : w1.cell? ⟨w.heap.size, 1, none⟩ = some (.int .u64 m) := (hb1.cells _ _ (by first | (simp; done) | (simp; omega) | omega)).trans (by simp)
  have r2 : w1.cell? ⟨w.heap.size, 2, none⟩ = some (.int .i64 e) := (hb1.cells _ _ (by first | (simp; done) | (simp; omega) | omega)).trans (by simp)
  have r3 : w1.cell? ⟨(w.heap.size + 1), 0, none⟩ = some (.int .i64 (24)) := (hb1.cells _ _ (by first | (simp; done) | (simp; omega) | omega)).trans (by simp)
  have r4 : w1.cell? ⟨(w.heap.size + 1), 1, none⟩ = some (.int .i64 (-126)) := (hb1.cells _ _ (by first | (simp; done) | (simp; omega) | omega)).trans (by simp)
  have r5 : w1.cell? ⟨(w.heap.size + 1), 2, none⟩ = some (.int .i64 (127)) := (hb1.cells _ _ (by first | (simp; done) | (simp; omega) | omega)).trans (by simp)
  have rz : w.heap.size + 1 < w1.heap.size := World.block_lt_of_cell? _ _ r3
  go_wp2_with fail
  refine (DR.out _).mono ?_; rintro e2 w2 ⟨rfl, hb2⟩
  have s0 : w2.cell? ⟨w.heap.size, 0, none⟩ = some (.bool neg) := (hb2.cells _ _ (by first | (simp; done) | (simp; omega) | omega)).trans r0
  have s1 : w2.cell? ⟨w.heap.size, 1, none⟩ = some (.int .u64 m) := (hb2.cells _ _ (by first | (simp; done) | (simp; omega) | omega)).trans r1
  have s2 : w2.cell? ⟨w.heap.size, 2, none⟩ = some (.int .i64 e) := (hb2.cells _ _ (by first | (simp; done) | (simp; omega) | omega)).trans r2
  have s3 : w2.cell? ⟨(w.heap.size + 1), 0, none⟩ = some (.int .i64 (24)) := (hb2.cells _ _ (by first | (simp; done) | (simp; omega) | omega)).trans r3
  have s4 : w2.cell? ⟨(w.heap.size + 1), 1, none⟩ = some (.int .i64 (-126)) := (hb2.cells _ _ (by first | (simp; done) | (simp; omega) | omega)).trans r4
  have s5 : w2.cell? ⟨(w.heap.size + 1), 2, none⟩ = some (.int .i64 (127)) := (hb2.cells _ _ (by first | (simp; done) | (simp; omega) | omega)).trans r5
  have sz : w.heap.size + 1 < w2.heap.size := World.block_lt_of_cell? _ _ s3
  clear r0 r1 r2 r3 r4 r5 rz
  go_wp2
  refine wp_region_within (by kernel_rfl) (by kernel_rfl) ?_
  repeat
    apply wpq_step rfl
    · intro wq hCq
      have q0 : wq.cell? ⟨w.heap.size, 0, none⟩ = some (.bool neg) := (hCq.cells _ _ (by first | (simp; done) | (simp; omega) | omega)).trans s0
      have q1 : wq.cell? ⟨w.heap.size, 1, none⟩ = some (.int .u64 m) := (hCq.cells _ _ (by first | (simp; done) | (simp; omega) | omega)).trans s1
      have q2 : wq.cell? ⟨w.heap.size, 2, none⟩ = some (.int .i64 e) := (hCq.cells _ _ (by first | (simp; done) | (simp; omega) | omega)).trans s2
      have q3 : wq.cell? ⟨(w.heap.size + 1), 0, none⟩ = some (.int .i64 (24)) := (hCq.cells _ _ (by first | (simp; done) | (simp; omega) | omega)).trans s3
      have q4 : wq.cell? ⟨(w.heap.size + 1), 1, none⟩ = some (.int .i64 (-126)) := (hCq.cells _ _ (by first | (simp; done) | (simp; omega) | omega)).trans s4
      have q5 : wq.cell? ⟨(w.heap.size + 1), 2, none⟩ = some (.int .i64 (127)) := (hCq.cells _ _ (by first | (simp; done) | (simp; omega) | omega)).trans s5
      have qz : w.heap.size + 1 < wq.heap.size := World.block_lt_of_cell? _ _ q3
      go_simp
      first | rfl | exact hCq.same (LQ.out _) | (trace_state; fail)
    simp only [Act.put, List.setIfInBounds_toArray, List.set_cons_zero, List.set_cons_succ]
  refine wpQuiet_nil ?_
  intro w3 hb3
  have t0 : w3.cell? ⟨w.heap.size, 0, none⟩ = some (.bool neg) := (hb3.cells _ _ (by first | (simp; done) | (simp; omega) | omega)).trans s0
  have t1 : w3.cell? ⟨w.heap.size, 1, none⟩ = some (.int .u64 m) := (hb3.cells _ _ (by first | (simp; done) | (simp; omega) | omega)).trans s1
  have t2 : w3.cell? ⟨w.heap.size, 2, none⟩ = some (.int .i64 e) := (hb3.cells _ _ (by first | (simp; done) | (simp; omega) | omega)).trans s2
  have t3 : w3.cell? ⟨(w.heap.size + 1), 0, none⟩ = some (.int .i64 (24)) := (hb3.cells _ _ (by first | (simp; done) | (simp; omega) | omega)).trans s3
  have t4 : w3.cell? ⟨(w.heap.size + 1), 1, none⟩ = some (.int .i64 (-126)) := (hb3.cells _ _ (by first | (simp; done) | (simp; omega) | omega)).trans s4
  have t5 : w3.cell? ⟨(w.heap.size + 1), 2, none⟩ = some (.int .i64 (127)) := (hb3.cells _ _ (by first | (simp; done) | (simp; omega) | omega)).trans s5
  have tz : w.heap.size + 1 < w3.heap.size := World.block_lt_of_cell? _ _ t3
  clear s0 s1 s2 s3 s4 s5 sz
  go_wp2
  refine wp_region_within (by kernel_rfl) (by kernel_rfl) ?_
  repeat
    apply wpq_step rfl
    · intro wq hCq
      have q0 : wq.cell? ⟨w.heap.size, 0, none⟩ = some (.bool neg) := (hCq.cells _ _ (by first | (simp; done) | (simp; omega) | omega)).trans t0
      have q1 : wq.cell? ⟨w.heap.size, 1, none⟩ = some (.int .u64 m) := (hCq.cells _ _ (by first | (simp; done) | (simp; omega) | omega)).trans t1
      have q2 : wq.cell? ⟨w.heap.size, 2, none⟩ = some (.int .i64 e) := (hCq.cells _ _ (by first | (simp; done) | (simp; omega) | omega)).trans t2
      have q3 : wq.cell? ⟨(w.heap.size + 1), 0, none⟩ = some (.int .i64 (24)) := (hCq.cells _ _ (by first | (simp; done) | (simp; omega) | omega)).trans t3
      have q4 : wq.cell? ⟨(w.heap.size + 1), 1, none⟩ = some (.int .i64 (-126)) := (hCq.cells _ _ (by first | (simp; done) | (simp; omega) | omega)).trans t4
      have q5 : wq.cell? ⟨(w.heap.size + 1), 2, none⟩ = some (.int .i64 (127)) := (hCq.cells _ _ (by first | (simp; done) | (simp; omega) | omega)).trans t5
      have qz : w.heap.size + 1 < wq.heap.size := World.block_lt_of_cell? _ _ q3
      go_simp
      first | rfl | exact hCq.same (LD.out _) | exact hCq.same (SG.out _) | (trace_state; fail)
    simp only [Act.put, List.setIfInBounds_toArray, List.set_cons_zero, List.set_cons_succ]
  refine wpQuiet_nil ?_
  intro w4 hb4
  go_wp2
  go_ret2
  exact ⟨rfl, (by repeat (first | with_reducible exact Within.refl _ | with_reducible assumption | with_reducible refine Within.alloc ?_ _ | with_reducible refine Within.drew ?_ | with_reducible refine Within.setCell ?_ (by first | (simp; done) | (simp; omega)) _ | with_reducible refine Within.trans ?_ (by assumption)))⟩

set_option maxRecDepth 100000 in
set_option maxHeartbeats 600000 in
theorem round_S_in1 (neg : Bool) (m L q Lq : Nat) (e k : Int) (mode : Int) (h1 : -20000 ≤ e) (h2 : e ≤ 20000) (hL : L ≤ 64) (hLq : Lq ≤ 64) (hk : max (e + (L : Int) - 24) (-149) = k) (LM : Hid (∀ w, Calls Tryd.prog 72 #[.int .u64 m] w fun e' w' => e' = .returned (.int .i64 (L : Nat)) ∧ w = w')) (DR : Hid (∀ w, Calls Tryd.prog 73 #[.agg #[.bool neg, .int .u64 m, .int .i64 e], .int .i64 (k - e), .int .i64 mode] w fun e' w' => e' = .returned (.tuple #[.int .u64 q, .bool true]) ∧ Within w w')) (LQ : Hid (∀ w, Calls Tryd.prog 72 #[.int .u64 q] w fun e' w' => e' = .returned (.int .i64 (Lq : Nat)) ∧ w = w')) (x y z : Nat) (hin : k + (Lq : Int) ≤ 128) (hcv : floatOfInt .f64 (q : Int) = x) (LD : Hid (∀ w, Calls Tryd.prog 71 #[.float .f64 x, .int .i64 k] w fun e' w' => e' = .returned (.float .f64 y) ∧ w = w')) (SG : Hid (∀ w, Calls Tryd.prog 74 #[.float .f64 y, .bool neg] w fun e' w' => e' = .returned (.float .f64 z) ∧ w = w')) (hs : decide (e + (L : Int) - 1 < -126) = false) (w : World) : Calls Tryd.prog 58 #[.agg #[.bool neg, .int .u64 m, .int .i64 e], .agg #[.int .i64 24, .int .i64 (-126), .int .i64 127], .int .i64 mode] w fun e' w' => e' = .returned (.tuple #[.float .f64 z, .int .i64 1]) ∧ Within w w' := by
  have kl : -20100 ≤ k := by omega
  have ku : k ≤ 20100 := by omega
  have gw1 : IntKind.i64.wrap (e + (L : Int)) = e + (L : Int) := by rw [IntKind.wrap_i64]; omega
  have gw2 : IntKind.i64.wrap (k + (Lq : Int)) = k + (Lq : Int) := by rw [IntKind.wrap_i64]; omega
  have gw3 : IntKind.i64.wrap 128 = 128 := by decide
  have hcv' := fun (w : World) => run_convert_int_float (P := Tryd.prog) w 45 75 .u64 .f64 (q : Int) (by kernel_rfl) (by kernel_rfl)
  rw [hcv] at hcv'
  have d : decide (k + (Lq : Int) ≤ 128) = true := decide_eq_true (by omega)
  clear hcv hin
  go_enter Tryd.func58, Tryd.ntmps58
  go_wp2
  refine wp_region_within (by kernel_rfl) (by kernel_rfl) ?_
  repeat
    apply wpq_step rfl
    · intro wq hCq
      have q0 : wq.cell? ⟨w.heap.size, 0, none⟩ = some (.bool neg) := (hCq.cells _ _ (by first | (simp; done) | (simp; omega) | omega)).trans (by simp)
      have q1 : wq.cell? ⟨w.heap.size, 1, none⟩ = some (.int .u64 m) := (hCq.cells _ _ (by first | (simp; done) | (simp; omega) | omega)).trans (by simp)
      have q2 : wq.cell? ⟨w.heap.size, 2, none⟩ = some (.int .i64 e) := (hCq.cells _ _ (by first | (simp; done) | (simp; omega) | omega)).trans (by simp)
      have q3 : wq.cell? ⟨(w.heap.size + 1), 0, none⟩ = some (.int .i64 (24)) := (hCq.cells _ _ (by first | (simp; done) | (simp; omega) | omega)).trans (by simp)
      have q4 : wq.cell? ⟨(w.heap.size + 1), 1, none⟩ = some (.int .i64 (-126)) := (hCq.cells _ _ (by first | (simp; done) | (simp; omega) | omega)).trans (by simp)
      have q5 : wq.cell? ⟨(w.heap.size + 1), 2, none⟩ = some (.int .i64 (127)) := (hCq.cells _ _ (by first | (simp; done) | (simp; omega) | omega)).trans (by simp)
      have qz : w.heap.size + 1 < wq.heap.size := World.block_lt_of_cell? _ _ q3
      go_simp
      first | rfl | exact hCq.same (LM.out _) | (trace_state; fail)
    simp only [Act.put, List.setIfInBounds_toArray, List.set_cons_zero, List.set_cons_succ]
  refine wpQuiet_nil ?_
  intro w1 hb1
  have r0 : w1.cell? ⟨w.heap.size, 0, none⟩ = some (.bool neg) := (hb1.cells _ _ (by first | (simp; done) | (simp; omega) | omega)).trans (by simp)
  have r1 : w1.cell? ⟨w.heap.size, 1, none⟩ = some (.int .u64 m) := (hb1.cells _ _ (by first | (simp; done) | (simp; omega) | omega)).trans (by simp)
  have r2 : w1.cell? ⟨w.heap.size, 2, none⟩ = some (.int .i64 e) := (hb1.cells _ _ (by first | (simp; done) | (simp; omega) | omega)).trans (by simp)
  have r3 : w1.cell? ⟨(w.heap.size + 1), 0, none⟩ = some (.int .i64 (24)) := (hb1.cells _ _ (by first | (simp; done) | (simp; omega) | omega)).trans (by simp)
  have r4 : w1.cell? ⟨(w.heap.size + 1), 1, none⟩ = some (.int .i64 (-126)) := (hb1.cells _ _ (by first | (simp; done) | (simp; omega) | omega)).trans (by simp)
  have r5 : w1.cell? ⟨(w.heap.size + 1), 2, none⟩ = some (.int .i64 (127)) := (hb1.cells _ _ (by first | (simp; done) | (simp; omega) | omega)).trans (by simp)
  have rz : w.heap.size + 1 < w1.heap.size := World.block_lt_of_cell? _ _ r3
  go_wp2_with fail
  refine (DR.out _).mono ?_; rintro e2 w2 ⟨rfl, hb2⟩
  have s0 : w2.cell? ⟨w.heap.size, 0, none⟩ = some (.bool neg) := (hb2.cells _ _ (by first | (simp; done) | (simp; omega) | omega)).trans r0
  have s1 : w2.cell? ⟨w.heap.size, 1, none⟩ = some (.int .u64 m) := (hb2.cells _ _ (by first | (simp; done) | (simp; omega) | omega)).trans r1
  have s2 : w2.cell? ⟨w.heap.size, 2, none⟩ = some (.int .i64 e) := (hb2.cells _ _ (by first | (simp; done) | (simp; omega) | omega)).trans r2
  have s3 : w2.cell? ⟨(w.heap.size + 1), 0, none⟩ = some (.int .i64 (24)) := (hb2.cells _ _ (by first | (simp; done) | (simp; omega) | omega)).trans r3
  have s4 : w2.cell? ⟨(w.heap.size + 1), 1, none⟩ = some (.int .i64 (-126)) := (hb2.cells _ _ (by first | (simp; done) | (simp; omega) | omega)).trans r4
  have s5 : w2.cell? ⟨(w.heap.size + 1), 2, none⟩ = some (.int .i64 (127)) := (hb2.cells _ _ (by first | (simp; done) | (simp; omega) | omega)).trans r5
  have sz : w.heap.size + 1 < w2.heap.size := World.block_lt_of_cell? _ _ s3
  clear r0 r1 r2 r3 r4 r5 rz
  go_wp2
  refine wp_region_within (by kernel_rfl) (by kernel_rfl) ?_
  repeat
    apply wpq_step rfl
    · intro wq hCq
      have q0 : wq.cell? ⟨w.heap.size, 0, none⟩ = some (.bool neg) := (hCq.cells _ _ (by first | (simp; done) | (simp; omega) | omega)).trans s0
      have q1 : wq.cell? ⟨w.heap.size, 1, none⟩ = some (.int .u64 m) := (hCq.cells _ _ (by first | (simp; done) | (simp; omega) | omega)).trans s1
      have q2 : wq.cell? ⟨w.heap.size, 2, none⟩ = some (.int .i64 e) := (hCq.cells _ _ (by first | (simp; done) | (simp; omega) | omega)).trans s2
      have q3 : wq.cell? ⟨(w.heap.size + 1), 0, none⟩ = some (.int .i64 (24)) := (hCq.cells _ _ (by first | (simp; done) | (simp; omega) | omega)).trans s3
      have q4 : wq.cell? ⟨(w.heap.size + 1), 1, none⟩ = some (.int .i64 (-126)) := (hCq.cells _ _ (by first | (simp; done) | (simp; omega) | omega)).trans s4
      have q5 : wq.cell? ⟨(w.heap.size + 1), 2, none⟩ = some (.int .i64 (127)) := (hCq.cells _ _ (by first | (simp; done) | (simp; omega) | omega)).trans s5
      have qz : w.heap.size + 1 < wq.heap.size := World.block_lt_of_cell? _ _ q3
      go_simp
      first | rfl | exact hCq.same (LQ.out _) | (trace_state; fail)
    simp only [Act.put, List.setIfInBounds_toArray, List.set_cons_zero, List.set_cons_succ]
  refine wpQuiet_nil ?_
  intro w3 hb3
  have t0 : w3.cell? ⟨w.heap.size, 0, none⟩ = some (.bool neg) := (hb3.cells _ _ (by first | (simp; done) | (simp; omega) | omega)).trans s0
  have t1 : w3.cell? ⟨w.heap.size, 1, none⟩ = some (.int .u64 m) := (hb3.cells _ _ (by first | (simp; done) | (simp; omega) | omega)).trans s1
  have t2 : w3.cell? ⟨w.heap.size, 2, none⟩ = some (.int .i64 e) := (hb3.cells _ _ (by first | (simp; done) | (simp; omega) | omega)).trans s2
  have t3 : w3.cell? ⟨(w.heap.size + 1), 0, none⟩ = some (.int .i64 (24)) := (hb3.cells _ _ (by first | (simp; done) | (simp; omega) | omega)).trans s3
  have t4 : w3.cell? ⟨(w.heap.size + 1), 1, none⟩ = some (.int .i64 (-126)) := (hb3.cells _ _ (by first | (simp; done) | (simp; omega) | omega)).trans s4
  have t5 : w3.cell? ⟨(w.heap.size + 1), 2, none⟩ = some (.int .i64 (127)) := (hb3.cells _ _ (by first | (simp; done) | (simp; omega) | omega)).trans s5
  have tz : w.heap.size + 1 < w3.heap.size := World.block_lt_of_cell? _ _ t3
  clear s0 s1 s2 s3 s4 s5 sz
  go_wp2
  refine wp_region_within (by kernel_rfl) (by kernel_rfl) ?_
  repeat
    apply wpq_step rfl
    · intro wq hCq
      have q0 : wq.cell? ⟨w.heap.size, 0, none⟩ = some (.bool neg) := (hCq.cells _ _ (by first | (simp; done) | (simp; omega) | omega)).trans t0
      have q1 : wq.cell? ⟨w.heap.size, 1, none⟩ = some (.int .u64 m) := (hCq.cells _ _ (by first | (simp; done) | (simp; omega) | omega)).trans t1
      have q2 : wq.cell? ⟨w.heap.size, 2, none⟩ = some (.int .i64 e) := (hCq.cells _ _ (by first | (simp; done) | (simp; omega) | omega)).trans t2
      have q3 : wq.cell? ⟨(w.heap.size + 1), 0, none⟩ = some (.int .i64 (24)) := (hCq.cells _ _ (by first | (simp; done) | (simp; omega) | omega)).trans t3
      have q4 : wq.cell? ⟨(w.heap.size + 1), 1, none⟩ = some (.int .i64 (-126)) := (hCq.cells _ _ (by first | (simp; done) | (simp; omega) | omega)).trans t4
      have q5 : wq.cell? ⟨(w.heap.size + 1), 2, none⟩ = some (.int .i64 (127)) := (hCq.cells _ _ (by first | (simp; done) | (simp; omega) | omega)).trans t5
      have qz : w.heap.size + 1 < wq.heap.size := World.block_lt_of_cell? _ _ q3
      go_simp
      first | rfl | exact hCq.same (LD.out _) | exact hCq.same (SG.out _) | (trace_state; fail)
    simp only [Act.put, List.setIfInBounds_toArray, List.set_cons_zero, List.set_cons_succ]
  refine wpQuiet_nil ?_
  intro w4 hb4
  go_wp2
  go_ret2
  exact ⟨rfl, (by repeat (first | with_reducible exact Within.refl _ | with_reducible assumption | with_reducible refine Within.alloc ?_ _ | with_reducible refine Within.drew ?_ | with_reducible refine Within.setCell ?_ (by first | (simp; done) | (simp; omega)) _ | with_reducible refine Within.trans ?_ (by assumption)))⟩

set_option maxRecDepth 100000 in
set_option maxHeartbeats 600000 in
theorem round_S_in3 (neg : Bool) (m L q Lq : Nat) (e k : Int) (mode : Int) (h1 : -20000 ≤ e) (h2 : e ≤ 20000) (hL : L ≤ 64) (hLq : Lq ≤ 64) (hk : max (e + (L : Int) - 24) (-149) = k) (LM : Hid (∀ w, Calls Tryd.prog 72 #[.int .u64 m] w fun e' w' => e' = .returned (.int .i64 (L : Nat)) ∧ w = w')) (DR : Hid (∀ w, Calls Tryd.prog 73 #[.agg #[.bool neg, .int .u64 m, .int .i64 e], .int .i64 (k - e), .int .i64 mode] w fun e' w' => e' = .returned (.tuple #[.int .u64 q, .bool true]) ∧ Within w w')) (LQ : Hid (∀ w, Calls Tryd.prog 72 #[.int .u64 q] w fun e' w' => e' = .returned (.int .i64 (Lq : Nat)) ∧ w = w')) (x y z : Nat) (hin : k + (Lq : Int) ≤ 128) (hcv : floatOfInt .f64 (q : Int) = x) (LD : Hid (∀ w, Calls Tryd.prog 71 #[.float .f64 x, .int .i64 k] w fun e' w' => e' = .returned (.float .f64 y) ∧ w = w')) (SG : Hid (∀ w, Calls Tryd.prog 74 #[.float .f64 y, .bool neg] w fun e' w' => e' = .returned (.float .f64 z) ∧ w = w')) (hs : decide (e + (L : Int) - 1 < -126) = true) (w : World) : Calls Tryd.prog 58 #[.agg #[.bool neg, .int .u64 m, .int .i64 e], .agg #[.int .i64 24, .int .i64 (-126), .int .i64 127], .int .i64 mode] w fun e' w' => e' = .returned (.tuple #[.float .f64 z, .int .i64 3]) ∧ Within w w' := by
  have kl : -20100 ≤ k := by omega
  have ku : k ≤ 20100 := by omega
  have gw1 : IntKind.i64.wrap (e + (L : Int)) = e + (L : Int) := by rw [IntKind.wrap_i64]; omega
  have gw2 : IntKind.i64.wrap (k + (Lq : Int)) = k + (Lq : Int) := by rw [IntKind.wrap_i64]; omega
  have gw3 : IntKind.i64.wrap 128 = 128 := by decide
  have hcv' := fun (w : World) => run_convert_int_float (P := Tryd.prog) w 45 75 .u64 .f64 (q : Int) (by kernel_rfl) (by kernel_rfl)
  rw [hcv] at hcv'
  have d : decide (k + (Lq : Int) ≤ 128) = true := decide_eq_true (by omega)
  clear hcv hin
  go_enter Tryd.func58, Tryd.ntmps58
  go_wp2
  refine wp_region_within (by kernel_rfl) (by kernel_rfl) ?_
  repeat
    apply wpq_step rfl
    · intro wq hCq
      have q0 : wq.cell? ⟨w.heap.size, 0, none⟩ = some (.bool neg) := (hCq.cells _ _ (by first | (simp; done) | (simp; omega) | omega)).trans (by simp)
      have q1 : wq.cell? ⟨w.heap.size, 1, none⟩ = some (.int .u64 m) := (hCq.cells _ _ (by first | (simp; done) | (simp; omega) | omega)).trans (by simp)
      have q2 : wq.cell? ⟨w.heap.size, 2, none⟩ = some (.int .i64 e) := (hCq.cells _ _ (by first | (simp; done) | (simp; omega) | omega)).trans (by simp)
      have q3 : wq.cell? ⟨(w.heap.size + 1), 0, none⟩ = some (.int .i64 (24)) := (hCq.cells _ _ (by first | (simp; done) | (simp; omega) | omega)).trans (by simp)
      have q4 : wq.cell? ⟨(w.heap.size + 1), 1, none⟩ = some (.int .i64 (-126)) := (hCq.cells _ _ (by first | (simp; done) | (simp; omega) | omega)).trans (by simp)
      have q5 : wq.cell? ⟨(w.heap.size + 1), 2, none⟩ = some (.int .i64 (127)) := (hCq.cells _ _ (by first | (simp; done) | (simp; omega) | omega)).trans (by simp)
      have qz : w.heap.size + 1 < wq.heap.size := World.block_lt_of_cell? _ _ q3
      go_simp
      first | rfl | exact hCq.same (LM.out _) | (trace_state; fail)
    simp only [Act.put, List.setIfInBounds_toArray, List.set_cons_zero, List.set_cons_succ]
  refine wpQuiet_nil ?_
  intro w1 hb1
  have r0 : w1.cell? ⟨w.heap.size, 0, none⟩ = some (.bool neg) := (hb1.cells _ _ (by first | (simp; done) | (simp; omega) | omega)).trans (by simp)
  have r1 : w1.cell? ⟨w.heap.size, 1, none⟩ = some (.int .u64 m) := (hb1.cells _ _ (by first | (simp; done) | (simp; omega) | omega)).trans (by simp)
  have r2 : w1.cell? ⟨w.heap.size, 2, none⟩ = some (.int .i64 e) := (hb1.cells _ _ (by first | (simp; done) | (simp; omega) | omega)).trans (by simp)
  have r3 : w1.cell? ⟨(w.heap.size + 1), 0, none⟩ = some (.int .i64 (24)) := (hb1.cells _ _ (by first | (simp; done) | (simp; omega) | omega)).trans (by simp)
  have r4 : w1.cell? ⟨(w.heap.size + 1), 1, none⟩ = some (.int .i64 (-126)) := (hb1.cells _ _ (by first | (simp; done) | (simp; omega) | omega)).trans (by simp)
  have r5 : w1.cell? ⟨(w.heap.size + 1), 2, none⟩ = some (.int .i64 (127)) := (hb1.cells _ _ (by first | (simp; done) | (simp; omega) | omega)).trans (by simp)
  have rz : w.heap.size + 1 < w1.heap.size := World.block_lt_of_cell? _ _ r3
  go_wp2_with fail
  refine (DR.out _).mono ?_; rintro e2 w2 ⟨rfl, hb2⟩
  have s0 : w2.cell? ⟨w.heap.size, 0, none⟩ = some (.bool neg) := (hb2.cells _ _ (by first | (simp; done) | (simp; omega) | omega)).trans r0
  have s1 : w2.cell? ⟨w.heap.size, 1, none⟩ = some (.int .u64 m) := (hb2.cells _ _ (by first | (simp; done) | (simp; omega) | omega)).trans r1
  have s2 : w2.cell? ⟨w.heap.size, 2, none⟩ = some (.int .i64 e) := (hb2.cells _ _ (by first | (simp; done) | (simp; omega) | omega)).trans r2
  have s3 : w2.cell? ⟨(w.heap.size + 1), 0, none⟩ = some (.int .i64 (24)) := (hb2.cells _ _ (by first | (simp; done) | (simp; omega) | omega)).trans r3
  have s4 : w2.cell? ⟨(w.heap.size + 1), 1, none⟩ = some (.int .i64 (-126)) := (hb2.cells _ _ (by first | (simp; done) | (simp; omega) | omega)).trans r4
  have s5 : w2.cell? ⟨(w.heap.size + 1), 2, none⟩ = some (.int .i64 (127)) := (hb2.cells _ _ (by first | (simp; done) | (simp; omega) | omega)).trans r5
  have sz : w.heap.size + 1 < w2.heap.size := World.block_lt_of_cell? _ _ s3
  clear r0 r1 r2 r3 r4 r5 rz
  go_wp2
  refine wp_region_within (by kernel_rfl) (by kernel_rfl) ?_
  repeat
    apply wpq_step rfl
    · intro wq hCq
      have q0 : wq.cell? ⟨w.heap.size, 0, none⟩ = some (.bool neg) := (hCq.cells _ _ (by first | (simp; done) | (simp; omega) | omega)).trans s0
      have q1 : wq.cell? ⟨w.heap.size, 1, none⟩ = some (.int .u64 m) := (hCq.cells _ _ (by first | (simp; done) | (simp; omega) | omega)).trans s1
      have q2 : wq.cell? ⟨w.heap.size, 2, none⟩ = some (.int .i64 e) := (hCq.cells _ _ (by first | (simp; done) | (simp; omega) | omega)).trans s2
      have q3 : wq.cell? ⟨(w.heap.size + 1), 0, none⟩ = some (.int .i64 (24)) := (hCq.cells _ _ (by first | (simp; done) | (simp; omega) | omega)).trans s3
      have q4 : wq.cell? ⟨(w.heap.size + 1), 1, none⟩ = some (.int .i64 (-126)) := (hCq.cells _ _ (by first | (simp; done) | (simp; omega) | omega)).trans s4
      have q5 : wq.cell? ⟨(w.heap.size + 1), 2, none⟩ = some (.int .i64 (127)) := (hCq.cells _ _ (by first | (simp; done) | (simp; omega) | omega)).trans s5
      have qz : w.heap.size + 1 < wq.heap.size := World.block_lt_of_cell? _ _ q3
      go_simp
      first | rfl | exact hCq.same (LQ.out _) | (trace_state; fail)
    simp only [Act.put, List.setIfInBounds_toArray, List.set_cons_zero, List.set_cons_succ]
  refine wpQuiet_nil ?_
  intro w3 hb3
  have t0 : w3.cell? ⟨w.heap.size, 0, none⟩ = some (.bool neg) := (hb3.cells _ _ (by first | (simp; done) | (simp; omega) | omega)).trans s0
  have t1 : w3.cell? ⟨w.heap.size, 1, none⟩ = some (.int .u64 m) := (hb3.cells _ _ (by first | (simp; done) | (simp; omega) | omega)).trans s1
  have t2 : w3.cell? ⟨w.heap.size, 2, none⟩ = some (.int .i64 e) := (hb3.cells _ _ (by first | (simp; done) | (simp; omega) | omega)).trans s2
  have t3 : w3.cell? ⟨(w.heap.size + 1), 0, none⟩ = some (.int .i64 (24)) := (hb3.cells _ _ (by first | (simp; done) | (simp; omega) | omega)).trans s3
  have t4 : w3.cell? ⟨(w.heap.size + 1), 1, none⟩ = some (.int .i64 (-126)) := (hb3.cells _ _ (by first | (simp; done) | (simp; omega) | omega)).trans s4
  have t5 : w3.cell? ⟨(w.heap.size + 1), 2, none⟩ = some (.int .i64 (127)) := (hb3.cells _ _ (by first | (simp; done) | (simp; omega) | omega)).trans s5
  have tz : w.heap.size + 1 < w3.heap.size := World.block_lt_of_cell? _ _ t3
  clear s0 s1 s2 s3 s4 s5 sz
  go_wp2
  refine wp_region_within (by kernel_rfl) (by kernel_rfl) ?_
  repeat
    apply wpq_step rfl
    · intro wq hCq
      have q0 : wq.cell? ⟨w.heap.size, 0, none⟩ = some (.bool neg) := (hCq.cells _ _ (by first | (simp; done) | (simp; omega) | omega)).trans t0
      have q1 : wq.cell? ⟨w.heap.size, 1, none⟩ = some (.int .u64 m) := (hCq.cells _ _ (by first | (simp; done) | (simp; omega) | omega)).trans t1
      have q2 : wq.cell? ⟨w.heap.size, 2, none⟩ = some (.int .i64 e) := (hCq.cells _ _ (by first | (simp; done) | (simp; omega) | omega)).trans t2
      have q3 : wq.cell? ⟨(w.heap.size + 1), 0, none⟩ = some (.int .i64 (24)) := (hCq.cells _ _ (by first | (simp; done) | (simp; omega) | omega)).trans t3
      have q4 : wq.cell? ⟨(w.heap.size + 1), 1, none⟩ = some (.int .i64 (-126)) := (hCq.cells _ _ (by first | (simp; done) | (simp; omega) | omega)).trans t4
      have q5 : wq.cell? ⟨(w.heap.size + 1), 2, none⟩ = some (.int .i64 (127)) := (hCq.cells _ _ (by first | (simp; done) | (simp; omega) | omega)).trans t5
      have qz : w.heap.size + 1 < wq.heap.size := World.block_lt_of_cell? _ _ q3
      go_simp
      first | rfl | exact hCq.same (LD.out _) | exact hCq.same (SG.out _) | (trace_state; fail)
    simp only [Act.put, List.setIfInBounds_toArray, List.set_cons_zero, List.set_cons_succ]
  refine wpQuiet_nil ?_
  intro w4 hb4
  go_wp2
  go_ret2
  exact ⟨rfl, (by repeat (first | with_reducible exact Within.refl _ | with_reducible assumption | with_reducible refine Within.alloc ?_ _ | with_reducible refine Within.drew ?_ | with_reducible refine Within.setCell ?_ (by first | (simp; done) | (simp; omega)) _ | with_reducible refine Within.trans ?_ (by assumption)))⟩

set_option maxRecDepth 100000 in
set_option maxHeartbeats 600000 in
theorem round_S_top0_2 (neg : Bool) (m L q Lq : Nat) (e k : Int) (h1 : -20000 ≤ e) (h2 : e ≤ 20000) (hL : L ≤ 64) (hLq : Lq ≤ 64) (hk : max (e + (L : Int) - 24) (-149) = k) (LM : Hid (∀ w, Calls Tryd.prog 72 #[.int .u64 m] w fun e' w' => e' = .returned (.int .i64 (L : Nat)) ∧ w = w')) (DR : Hid (∀ w, Calls Tryd.prog 73 #[.agg #[.bool neg, .int .u64 m, .int .i64 e], .int .i64 (k - e), .int .i64 2] w fun e' w' => e' = .returned (.tuple #[.int .u64 q, .bool false]) ∧ Within w w')) (LQ : Hid (∀ w, Calls Tryd.prog 72 #[.int .u64 q] w fun e' w' => e' = .returned (.int .i64 (Lq : Nat)) ∧ w = w')) (x g z : Nat) (hin : 128 < k + (Lq : Int)) (hcv : floatOfInt .f64 (16777215 : Int) = x) (LD : Hid (∀ w, Calls Tryd.prog 71 #[.float .f64 x, .int .i64 104] w fun e' w' => e' = .returned (.float .f64 g) ∧ w = w'))  (SG : Hid (∀ w, Calls Tryd.prog 74 #[.float .f64 g, .bool neg] w fun e' w' => e' = .returned (.float .f64 z) ∧ w = w')) (w : World) : Calls Tryd.prog 58 #[.agg #[.bool neg, .int .u64 m, .int .i64 e], .agg #[.int .i64 24, .int .i64 (-126), .int .i64 127], .int .i64 2] w fun e' w' => e' = .returned (.tuple #[.float .f64 z, .int .i64 5]) ∧ Within w w' := by
  have kl : -20100 ≤ k := by omega
  have ku : k ≤ 20100 := by omega
  have gw1 : IntKind.i64.wrap (e + (L : Int)) = e + (L : Int) := by rw [IntKind.wrap_i64]; omega
  have gw2 : IntKind.i64.wrap (k + (Lq : Int)) = k + (Lq : Int) := by rw [IntKind.wrap_i64]; omega
  have gw3 : IntKind.i64.wrap 128 = 128 := by decide
  have hcv' := fun (w : World) => run_convert_int_float (P := Tryd.prog) w 45 75 .u64 .f64 (16777215 : Int) (by kernel_rfl) (by kernel_rfl)
  rw [hcv] at hcv'
  have d : decide (k + (Lq : Int) ≤ 128) = false := decide_eq_false (by omega)
  clear hcv hin
  go_enter Tryd.func58, Tryd.ntmps58
  go_wp2
  refine wp_region_within (by kernel_rfl) (by kernel_rfl) ?_
  repeat
    apply wpq_step rfl
    · intro wq hCq
      have q0 : wq.cell? ⟨w.heap.size, 0, none⟩ = some (.bool neg) := (hCq.cells _ _ (by first | (simp; done) | (simp; omega) | omega)).trans (by simp)
      have q1 : wq.cell? ⟨w.heap.size, 1, none⟩ = some (.int .u64 m) := (hCq.cells _ _ (by first | (simp; done) | (simp; omega) | omega)).trans (by simp)
      have q2 : wq.cell? ⟨w.heap.size, 2, none⟩ = some (.int .i64 e) := (hCq.cells _ _ (by first | (simp; done) | (simp; omega) | omega)).trans (by simp)
      have q3 : wq.cell? ⟨(w.heap.size + 1), 0, none⟩ = some (.int .i64 (24)) := (hCq.cells _ _ (by first | (simp; done) | (simp; omega) | omega)).trans (by simp)
      have q4 : wq.cell? ⟨(w.heap.size + 1), 1, none⟩ = some (.int .i64 (-126)) := (hCq.cells _ _ (by first | (simp; done) | (simp; omega) | omega)).trans (by simp)
      have q5 : wq.cell? ⟨(w.heap.size + 1), 2, none⟩ = some (.int .i64 (127)) := (hCq.cells _ _ (by first | (simp; done) | (simp; omega) | omega)).trans (by simp)
      have qz : w.heap.size + 1 < wq.heap.size := World.block_lt_of_cell? _ _ q3
      go_simp
      first | rfl | exact hCq.same (LM.out _) | (trace_state; fail)
    simp only [Act.put, List.setIfInBounds_toArray, List.set_cons_zero, List.set_cons_succ]
  refine wpQuiet_nil ?_
  intro w1 hb1
  have r0 : w1.cell? ⟨w.heap.size, 0, none⟩ = some (.bool neg) := (hb1.cells _ _ (by first | (simp; done) | (simp; omega) | omega)).trans (by simp)
  have r1 : w1.cell? ⟨w.heap.size, 1, none⟩ = some (.int .u64 m) := (hb1.cells _ _ (by first | (simp; done) | (simp; omega) | omega)).trans (by simp)
  have r2 : w1.cell? ⟨w.heap.size, 2, none⟩ = some (.int .i64 e) := (hb1.cells _ _ (by first | (simp; done) | (simp; omega) | omega)).trans (by simp)
  have r3 : w1.cell? ⟨(w.heap.size + 1), 0, none⟩ = some (.int .i64 (24)) := (hb1.cells _ _ (by first | (simp; done) | (simp; omega) | omega)).trans (by simp)
  have r4 : w1.cell? ⟨(w.heap.size + 1), 1, none⟩ = some (.int .i64 (-126)) := (hb1.cells _ _ (by first | (simp; done) | (simp; omega) | omega)).trans (by simp)
  have r5 : w1.cell? ⟨(w.heap.size + 1), 2, none⟩ = some (.int .i64 (127)) := (hb1.cells _ _ (by first | (simp; done) | (simp; omega) | omega)).trans (by simp)
  have rz : w.heap.size + 1 < w1.heap.size := World.block_lt_of_cell? _ _ r3
  go_wp2_with fail
  refine (DR.out _).mono ?_; rintro e2 w2 ⟨rfl, hb2⟩
  have s0 : w2.cell? ⟨w.heap.size, 0, none⟩ = some (.bool neg) := (hb2.cells _ _ (by first | (simp; done) | (simp; omega) | omega)).trans r0
  have s1 : w2.cell? ⟨w.heap.size, 1, none⟩ = some (.int .u64 m) := (hb2.cells _ _ (by first | (simp; done) | (simp; omega) | omega)).trans r1
  have s2 : w2.cell? ⟨w.heap.size, 2, none⟩ = some (.int .i64 e) := (hb2.cells _ _ (by first | (simp; done) | (simp; omega) | omega)).trans r2
  have s3 : w2.cell? ⟨(w.heap.size + 1), 0, none⟩ = some (.int .i64 (24)) := (hb2.cells _ _ (by first | (simp; done) | (simp; omega) | omega)).trans r3
  have s4 : w2.cell? ⟨(w.heap.size + 1), 1, none⟩ = some (.int .i64 (-126)) := (hb2.cells _ _ (by first | (simp; done) | (simp; omega) | omega)).trans r4
  have s5 : w2.cell? ⟨(w.heap.size + 1), 2, none⟩ = some (.int .i64 (127)) := (hb2.cells _ _ (by first | (simp; done) | (simp; omega) | omega)).trans r5
  have sz : w.heap.size + 1 < w2.heap.size := World.block_lt_of_cell? _ _ s3
  clear r0 r1 r2 r3 r4 r5 rz
  go_wp2
  refine wp_region_within (by kernel_rfl) (by kernel_rfl) ?_
  repeat
    apply wpq_step rfl
    · intro wq hCq
      have q0 : wq.cell? ⟨w.heap.size, 0, none⟩ = some (.bool neg) := (hCq.cells _ _ (by first | (simp; done) | (simp; omega) | omega)).trans s0
      have q1 : wq.cell? ⟨w.heap.size, 1, none⟩ = some (.int .u64 m) := (hCq.cells _ _ (by first | (simp; done) | (simp; omega) | omega)).trans s1
      have q2 : wq.cell? ⟨w.heap.size, 2, none⟩ = some (.int .i64 e) := (hCq.cells _ _ (by first | (simp; done) | (simp; omega) | omega)).trans s2
      have q3 : wq.cell? ⟨(w.heap.size + 1), 0, none⟩ = some (.int .i64 (24)) := (hCq.cells _ _ (by first | (simp; done) | (simp; omega) | omega)).trans s3
      have q4 : wq.cell? ⟨(w.heap.size + 1), 1, none⟩ = some (.int .i64 (-126)) := (hCq.cells _ _ (by first | (simp; done) | (simp; omega) | omega)).trans s4
      have q5 : wq.cell? ⟨(w.heap.size + 1), 2, none⟩ = some (.int .i64 (127)) := (hCq.cells _ _ (by first | (simp; done) | (simp; omega) | omega)).trans s5
      have qz : w.heap.size + 1 < wq.heap.size := World.block_lt_of_cell? _ _ q3
      go_simp
      first | rfl | exact hCq.same (LQ.out _) | (trace_state; fail)
    simp only [Act.put, List.setIfInBounds_toArray, List.set_cons_zero, List.set_cons_succ]
  refine wpQuiet_nil ?_
  intro w3 hb3
  have t0 : w3.cell? ⟨w.heap.size, 0, none⟩ = some (.bool neg) := (hb3.cells _ _ (by first | (simp; done) | (simp; omega) | omega)).trans s0
  have t1 : w3.cell? ⟨w.heap.size, 1, none⟩ = some (.int .u64 m) := (hb3.cells _ _ (by first | (simp; done) | (simp; omega) | omega)).trans s1
  have t2 : w3.cell? ⟨w.heap.size, 2, none⟩ = some (.int .i64 e) := (hb3.cells _ _ (by first | (simp; done) | (simp; omega) | omega)).trans s2
  have t3 : w3.cell? ⟨(w.heap.size + 1), 0, none⟩ = some (.int .i64 (24)) := (hb3.cells _ _ (by first | (simp; done) | (simp; omega) | omega)).trans s3
  have t4 : w3.cell? ⟨(w.heap.size + 1), 1, none⟩ = some (.int .i64 (-126)) := (hb3.cells _ _ (by first | (simp; done) | (simp; omega) | omega)).trans s4
  have t5 : w3.cell? ⟨(w.heap.size + 1), 2, none⟩ = some (.int .i64 (127)) := (hb3.cells _ _ (by first | (simp; done) | (simp; omega) | omega)).trans s5
  have tz : w.heap.size + 1 < w3.heap.size := World.block_lt_of_cell? _ _ t3
  clear s0 s1 s2 s3 s4 s5 sz
  go_wp2_with fail
  refine (LD.out _).mono ?_; rintro e4 w4 ⟨rfl, rfl⟩
  go_wp2_with fail
  refine (SG.out _).mono ?_; rintro e5 w5 ⟨rfl, rfl⟩
  go_wp2
  go_ret2
  exact ⟨rfl, (by repeat (first | with_reducible exact Within.refl _ | with_reducible assumption | with_reducible refine Within.alloc ?_ _ | with_reducible refine Within.drew ?_ | with_reducible refine Within.setCell ?_ (by first | (simp; done) | (simp; omega)) _ | with_reducible refine Within.trans ?_ (by assumption)))⟩

set_option maxRecDepth 100000 in
set_option maxHeartbeats 600000 in
theorem round_S_top0_3 (m L q Lq : Nat) (e k : Int) (h1 : -20000 ≤ e) (h2 : e ≤ 20000) (hL : L ≤ 64) (hLq : Lq ≤ 64) (hk : max (e + (L : Int) - 24) (-149) = k) (LM : Hid (∀ w, Calls Tryd.prog 72 #[.int .u64 m] w fun e' w' => e' = .returned (.int .i64 (L : Nat)) ∧ w = w')) (DR : Hid (∀ w, Calls Tryd.prog 73 #[.agg #[.bool true, .int .u64 m, .int .i64 e], .int .i64 (k - e), .int .i64 3] w fun e' w' => e' = .returned (.tuple #[.int .u64 q, .bool false]) ∧ Within w w')) (LQ : Hid (∀ w, Calls Tryd.prog 72 #[.int .u64 q] w fun e' w' => e' = .returned (.int .i64 (Lq : Nat)) ∧ w = w')) (x g z : Nat) (hin : 128 < k + (Lq : Int)) (hcv : floatOfInt .f64 (16777215 : Int) = x) (LD : Hid (∀ w, Calls Tryd.prog 71 #[.float .f64 x, .int .i64 104] w fun e' w' => e' = .returned (.float .f64 g) ∧ w = w'))  (SG : Hid (∀ w, Calls Tryd.prog 74 #[.float .f64 g, .bool true] w fun e' w' => e' = .returned (.float .f64 z) ∧ w = w')) (w : World) : Calls Tryd.prog 58 #[.agg #[.bool true, .int .u64 m, .int .i64 e], .agg #[.int .i64 24, .int .i64 (-126), .int .i64 127], .int .i64 3] w fun e' w' => e' = .returned (.tuple #[.float .f64 z, .int .i64 5]) ∧ Within w w' := by
  have kl : -20100 ≤ k := by omega
  have ku : k ≤ 20100 := by omega
  have gw1 : IntKind.i64.wrap (e + (L : Int)) = e + (L : Int) := by rw [IntKind.wrap_i64]; omega
  have gw2 : IntKind.i64.wrap (k + (Lq : Int)) = k + (Lq : Int) := by rw [IntKind.wrap_i64]; omega
  have gw3 : IntKind.i64.wrap 128 = 128 := by decide
  have hcv' := fun (w : World) => run_convert_int_float (P := Tryd.prog) w 45 75 .u64 .f64 (16777215 : Int) (by kernel_rfl) (by kernel_rfl)
  rw [hcv] at hcv'
  have d : decide (k + (Lq : Int) ≤ 128) = false := decide_eq_false (by omega)
  clear hcv hin
  go_enter Tryd.func58, Tryd.ntmps58
  go_wp2
  refine wp_region_within (by kernel_rfl) (by kernel_rfl) ?_
  repeat
    apply wpq_step rfl
    · intro wq hCq
      have q0 : wq.cell? ⟨w.heap.size, 0, none⟩ = some (.bool true) := (hCq.cells _ _ (by first | (simp; done) | (simp; omega) | omega)).trans (by simp)
      have q1 : wq.cell? ⟨w.heap.size, 1, none⟩ = some (.int .u64 m) := (hCq.cells _ _ (by first | (simp; done) | (simp; omega) | omega)).trans (by simp)
      have q2 : wq.cell? ⟨w.heap.size, 2, none⟩ = some (.int .i64 e) := (hCq.cells _ _ (by first | (simp; done) | (simp; omega) | omega)).trans (by simp)
      have q3 : wq.cell? ⟨(w.heap.size + 1), 0, none⟩ = some (.int .i64 (24)) := (hCq.cells _ _ (by first | (simp; done) | (simp; omega) | omega)).trans (by simp)
      have q4 : wq.cell? ⟨(w.heap.size + 1), 1, none⟩ = some (.int .i64 (-126)) := (hCq.cells _ _ (by first | (simp; done) | (simp; omega) | omega)).trans (by simp)
      have q5 : wq.cell? ⟨(w.heap.size + 1), 2, none⟩ = some (.int .i64 (127)) := (hCq.cells _ _ (by first | (simp; done) | (simp; omega) | omega)).trans (by simp)
      have qz : w.heap.size + 1 < wq.heap.size := World.block_lt_of_cell? _ _ q3
      go_simp
      first | rfl | exact hCq.same (LM.out _) | (trace_state; fail)
    simp only [Act.put, List.setIfInBounds_toArray, List.set_cons_zero, List.set_cons_succ]
  refine wpQuiet_nil ?_
  intro w1 hb1
  have r0 : w1.cell? ⟨w.heap.size, 0, none⟩ = some (.bool true) := (hb1.cells _ _ (by first | (simp; done) | (simp; omega) | omega)).trans (by simp)
  have r1 : w1.cell? ⟨w.heap.size, 1, none⟩ = some (.int .u64 m) := (hb1.cells _ _ (by first | (simp; done) | (simp; omega) | omega)).trans (by simp)
  have r2 : w1.cell? ⟨w.heap.size, 2, none⟩ = some (.int .i64 e) := (hb1.cells _ _ (by first | (simp; done) | (simp; omega) | omega)).trans (by simp)
  have r3 : w1.cell? ⟨(w.heap.size + 1), 0, none⟩ = some (.int .i64 (24)) := (hb1.cells _ _ (by first | (simp; done) | (simp; omega) | omega)).trans (by simp)
  have r4 : w1.cell? ⟨(w.heap.size + 1), 1, none⟩ = some (.int .i64 (-126)) := (hb1.cells _ _ (by first | (simp; done) | (simp; omega) | omega)).trans (by simp)
  have r5 : w1.cell? ⟨(w.heap.size + 1), 2, none⟩ = some (.int .i64 (127)) := (hb1.cells _ _ (by first | (simp; done) | (simp; omega) | omega)).trans (by simp)
  have rz : w.heap.size + 1 < w1.heap.size := World.block_lt_of_cell? _ _ r3
  go_wp2_with fail
  refine (DR.out _).mono ?_; rintro e2 w2 ⟨rfl, hb2⟩
  have s0 : w2.cell? ⟨w.heap.size, 0, none⟩ = some (.bool true) := (hb2.cells _ _ (by first | (simp; done) | (simp; omega) | omega)).trans r0
  have s1 : w2.cell? ⟨w.heap.size, 1, none⟩ = some (.int .u64 m) := (hb2.cells _ _ (by first | (simp; done) | (simp; omega) | omega)).trans r1
  have s2 : w2.cell? ⟨w.heap.size, 2, none⟩ = some (.int .i64 e) := (hb2.cells _ _ (by first | (simp; done) | (simp; omega) | omega)).trans r2
  have s3 : w2.cell? ⟨(w.heap.size + 1), 0, none⟩ = some (.int .i64 (24)) := (hb2.cells _ _ (by first | (simp; done) | (simp; omega) | omega)).trans r3
  have s4 : w2.cell? ⟨(w.heap.size + 1), 1, none⟩ = some (.int .i64 (-126)) := (hb2.cells _ _ (by first | (simp; done) | (simp; omega) | omega)).trans r4
  have s5 : w2.cell? ⟨(w.heap.size + 1), 2, none⟩ = some (.int .i64 (127)) := (hb2.cells _ _ (by first | (simp; done) | (simp; omega) | omega)).trans r5
  have sz : w.heap.size + 1 < w2.heap.size := World.block_lt_of_cell? _ _ s3
  clear r0 r1 r2 r3 r4 r5 rz
  go_wp2
  refine wp_region_within (by kernel_rfl) (by kernel_rfl) ?_
  repeat
    apply wpq_step rfl
    · intro wq hCq
      have q0 : wq.cell? ⟨w.heap.size, 0, none⟩ = some (.bool true) := (hCq.cells _ _ (by first | (simp; done) | (simp; omega) | omega)).trans s0
      have q1 : wq.cell? ⟨w.heap.size, 1, none⟩ = some (.int .u64 m) := (hCq.cells _ _ (by first | (simp; done) | (simp; omega) | omega)).trans s1
      have q2 : wq.cell? ⟨w.heap.size, 2, none⟩ = some (.int .i64 e) := (hCq.cells _ _ (by first | (simp; done) | (simp; omega) | omega)).trans s2
      have q3 : wq.cell? ⟨(w.heap.size + 1), 0, none⟩ = some (.int .i64 (24)) := (hCq.cells _ _ (by first | (simp; done) | (simp; omega) | omega)).trans s3
      have q4 : wq.cell? ⟨(w.heap.size + 1), 1, none⟩ = some (.int .i64 (-126)) := (hCq.cells _ _ (by first | (simp; done) | (simp; omega) | omega)).trans s4
      have q5 : wq.cell? ⟨(w.heap.size + 1), 2, none⟩ = some (.int .i64 (127)) := (hCq.cells _ _ (by first | (simp; done) | (simp; omega) | omega)).trans s5
      have qz : w.heap.size + 1 < wq.heap.size := World.block_lt_of_cell? _ _ q3
      go_simp
      first | rfl | exact hCq.same (LQ.out _) | (trace_state; fail)
    simp only [Act.put, List.setIfInBounds_toArray, List.set_cons_zero, List.set_cons_succ]
  refine wpQuiet_nil ?_
  intro w3 hb3
  have t0 : w3.cell? ⟨w.heap.size, 0, none⟩ = some (.bool true) := (hb3.cells _ _ (by first | (simp; done) | (simp; omega) | omega)).trans s0
  have t1 : w3.cell? ⟨w.heap.size, 1, none⟩ = some (.int .u64 m) := (hb3.cells _ _ (by first | (simp; done) | (simp; omega) | omega)).trans s1
  have t2 : w3.cell? ⟨w.heap.size, 2, none⟩ = some (.int .i64 e) := (hb3.cells _ _ (by first | (simp; done) | (simp; omega) | omega)).trans s2
  have t3 : w3.cell? ⟨(w.heap.size + 1), 0, none⟩ = some (.int .i64 (24)) := (hb3.cells _ _ (by first | (simp; done) | (simp; omega) | omega)).trans s3
  have t4 : w3.cell? ⟨(w.heap.size + 1), 1, none⟩ = some (.int .i64 (-126)) := (hb3.cells _ _ (by first | (simp; done) | (simp; omega) | omega)).trans s4
  have t5 : w3.cell? ⟨(w.heap.size + 1), 2, none⟩ = some (.int .i64 (127)) := (hb3.cells _ _ (by first | (simp; done) | (simp; omega) | omega)).trans s5
  have tz : w.heap.size + 1 < w3.heap.size := World.block_lt_of_cell? _ _ t3
  clear s0 s1 s2 s3 s4 s5 sz
  go_wp2_with fail
  refine (LD.out _).mono ?_; rintro e4 w4 ⟨rfl, rfl⟩
  go_wp2_with fail
  refine (SG.out _).mono ?_; rintro e5 w5 ⟨rfl, rfl⟩
  go_wp2
  go_ret2
  exact ⟨rfl, (by repeat (first | with_reducible exact Within.refl _ | with_reducible assumption | with_reducible refine Within.alloc ?_ _ | with_reducible refine Within.drew ?_ | with_reducible refine Within.setCell ?_ (by first | (simp; done) | (simp; omega)) _ | with_reducible refine Within.trans ?_ (by assumption)))⟩

set_option maxRecDepth 100000 in
set_option maxHeartbeats 600000 in
theorem round_S_top0_4 (m L q Lq : Nat) (e k : Int) (h1 : -20000 ≤ e) (h2 : e ≤ 20000) (hL : L ≤ 64) (hLq : Lq ≤ 64) (hk : max (e + (L : Int) - 24) (-149) = k) (LM : Hid (∀ w, Calls Tryd.prog 72 #[.int .u64 m] w fun e' w' => e' = .returned (.int .i64 (L : Nat)) ∧ w = w')) (DR : Hid (∀ w, Calls Tryd.prog 73 #[.agg #[.bool false, .int .u64 m, .int .i64 e], .int .i64 (k - e), .int .i64 4] w fun e' w' => e' = .returned (.tuple #[.int .u64 q, .bool false]) ∧ Within w w')) (LQ : Hid (∀ w, Calls Tryd.prog 72 #[.int .u64 q] w fun e' w' => e' = .returned (.int .i64 (Lq : Nat)) ∧ w = w')) (x g z : Nat) (hin : 128 < k + (Lq : Int)) (hcv : floatOfInt .f64 (16777215 : Int) = x) (LD : Hid (∀ w, Calls Tryd.prog 71 #[.float .f64 x, .int .i64 104] w fun e' w' => e' = .returned (.float .f64 g) ∧ w = w'))  (SG : Hid (∀ w, Calls Tryd.prog 74 #[.float .f64 g, .bool false] w fun e' w' => e' = .returned (.float .f64 z) ∧ w = w')) (w : World) : Calls Tryd.prog 58 #[.agg #[.bool false, .int .u64 m, .int .i64 e], .agg #[.int .i64 24, .int .i64 (-126), .int .i64 127], .int .i64 4] w fun e' w' => e' = .returned (.tuple #[.float .f64 z, .int .i64 5]) ∧ Within w w' := by
  have kl : -20100 ≤ k := by omega
  have ku : k ≤ 20100 := by omega
  have gw1 : IntKind.i64.wrap (e + (L : Int)) = e + (L : Int) := by rw [IntKind.wrap_i64]; omega
  have gw2 : IntKind.i64.wrap (k + (Lq : Int)) = k + (Lq : Int) := by rw [IntKind.wrap_i64]; omega
  have gw3 : IntKind.i64.wrap 128 = 128 := by decide
  have hcv' := fun (w : World) => run_convert_int_float (P := Tryd.prog) w 45 75 .u64 .f64 (16777215 : Int) (by kernel_rfl) (by kernel_rfl)
  rw [hcv] at hcv'
  have d : decide (k + (Lq : Int) ≤ 128) = false := decide_eq_false (by omega)
  clear hcv hin
  go_enter Tryd.func58, Tryd.ntmps58
  go_wp2
  refine wp_region_within (by kernel_rfl) (by kernel_rfl) ?_
  repeat
    apply wpq_step rfl
    · intro wq hCq
      have q0 : wq.cell? ⟨w.heap.size, 0, none⟩ = some (.bool false) := (hCq.cells _ _ (by first | (simp; done) | (simp; omega) | omega)).trans (by simp)
      have q1 : wq.cell? ⟨w.heap.size, 1, none⟩ = some (.int .u64 m) := (hCq.cells _ _ (by first | (simp; done) | (simp; omega) | omega)).trans (by simp)
      have q2 : wq.cell? ⟨w.heap.size, 2, none⟩ = some (.int .i64 e) := (hCq.cells _ _ (by first | (simp; done) | (simp; omega) | omega)).trans (by simp)
      have q3 : wq.cell? ⟨(w.heap.size + 1), 0, none⟩ = some (.int .i64 (24)) := (hCq.cells _ _ (by first | (simp; done) | (simp; omega) | omega)).trans (by simp)
      have q4 : wq.cell? ⟨(w.heap.size + 1), 1, none⟩ = some (.int .i64 (-126)) := (hCq.cells _ _ (by first | (simp; done) | (simp; omega) | omega)).trans (by simp)
      have q5 : wq.cell? ⟨(w.heap.size + 1), 2, none⟩ = some (.int .i64 (127)) := (hCq.cells _ _ (by first | (simp; done) | (simp; omega) | omega)).trans (by simp)
      have qz : w.heap.size + 1 < wq.heap.size := World.block_lt_of_cell? _ _ q3
      go_simp
      first | rfl | exact hCq.same (LM.out _) | (trace_state; fail)
    simp only [Act.put, List.setIfInBounds_toArray, List.set_cons_zero, List.set_cons_succ]
  refine wpQuiet_nil ?_
  intro w1 hb1
  have r0 : w1.cell? ⟨w.heap.size, 0, none⟩ = some (.bool false) := (hb1.cells _ _ (by first | (simp; done) | (simp; omega) | omega)).trans (by simp)
  have r1 : w1.cell? ⟨w.heap.size, 1, none⟩ = some (.int .u64 m) := (hb1.cells _ _ (by first | (simp; done) | (simp; omega) | omega)).trans (by simp)
  have r2 : w1.cell? ⟨w.heap.size, 2, none⟩ = some (.int .i64 e) := (hb1.cells _ _ (by first | (simp; done) | (simp; omega) | omega)).trans (by simp)
  have r3 : w1.cell? ⟨(w.heap.size + 1), 0, none⟩ = some (.int .i64 (24)) := (hb1.cells _ _ (by first | (simp; done) | (simp; omega) | omega)).trans (by simp)
  have r4 : w1.cell? ⟨(w.heap.size + 1), 1, none⟩ = some (.int .i64 (-126)) := (hb1.cells _ _ (by first | (simp; done) | (simp; omega) | omega)).trans (by simp)
  have r5 : w1.cell? ⟨(w.heap.size + 1), 2, none⟩ = some (.int .i64 (127)) := (hb1.cells _ _ (by first | (simp; done) | (simp; omega) | omega)).trans (by simp)
  have rz : w.heap.size + 1 < w1.heap.size := World.block_lt_of_cell? _ _ r3
  go_wp2_with fail
  refine (DR.out _).mono ?_; rintro e2 w2 ⟨rfl, hb2⟩
  have s0 : w2.cell? ⟨w.heap.size, 0, none⟩ = some (.bool false) := (hb2.cells _ _ (by first | (simp; done) | (simp; omega) | omega)).trans r0
  have s1 : w2.cell? ⟨w.heap.size, 1, none⟩ = some (.int .u64 m) := (hb2.cells _ _ (by first | (simp; done) | (simp; omega) | omega)).trans r1
  have s2 : w2.cell? ⟨w.heap.size, 2, none⟩ = some (.int .i64 e) := (hb2.cells _ _ (by first | (simp; done) | (simp; omega) | omega)).trans r2
  have s3 : w2.cell? ⟨(w.heap.size + 1), 0, none⟩ = some (.int .i64 (24)) := (hb2.cells _ _ (by first | (simp; done) | (simp; omega) | omega)).trans r3
  have s4 : w2.cell? ⟨(w.heap.size + 1), 1, none⟩ = some (.int .i64 (-126)) := (hb2.cells _ _ (by first | (simp; done) | (simp; omega) | omega)).trans r4
  have s5 : w2.cell? ⟨(w.heap.size + 1), 2, none⟩ = some (.int .i64 (127)) := (hb2.cells _ _ (by first | (simp; done) | (simp; omega) | omega)).trans r5
  have sz : w.heap.size + 1 < w2.heap.size := World.block_lt_of_cell? _ _ s3
  clear r0 r1 r2 r3 r4 r5 rz
  go_wp2
  refine wp_region_within (by kernel_rfl) (by kernel_rfl) ?_
  repeat
    apply wpq_step rfl
    · intro wq hCq
      have q0 : wq.cell? ⟨w.heap.size, 0, none⟩ = some (.bool false) := (hCq.cells _ _ (by first | (simp; done) | (simp; omega) | omega)).trans s0
      have q1 : wq.cell? ⟨w.heap.size, 1, none⟩ = some (.int .u64 m) := (hCq.cells _ _ (by first | (simp; done) | (simp; omega) | omega)).trans s1
      have q2 : wq.cell? ⟨w.heap.size, 2, none⟩ = some (.int .i64 e) := (hCq.cells _ _ (by first | (simp; done) | (simp; omega) | omega)).trans s2
      have q3 : wq.cell? ⟨(w.heap.size + 1), 0, none⟩ = some (.int .i64 (24)) := (hCq.cells _ _ (by first | (simp; done) | (simp; omega) | omega)).trans s3
      have q4 : wq.cell? ⟨(w.heap.size + 1), 1, none⟩ = some (.int .i64 (-126)) := (hCq.cells _ _ (by first | (simp; done) | (simp; omega) | omega)).trans s4
      have q5 : wq.cell? ⟨(w.heap.size + 1), 2, none⟩ = some (.int .i64 (127)) := (hCq.cells _ _ (by first | (simp; done) | (simp; omega) | omega)).trans s5
      have qz : w.heap.size + 1 < wq.heap.size := World.block_lt_of_cell? _ _ q3
      go_simp
      first | rfl | exact hCq.same (LQ.out _) | (trace_state; fail)
    simp only [Act.put, List.setIfInBounds_toArray, List.set_cons_zero, List.set_cons_succ]
  refine wpQuiet_nil ?_
  intro w3 hb3
  have t0 : w3.cell? ⟨w.heap.size, 0, none⟩ = some (.bool false) := (hb3.cells _ _ (by first | (simp; done) | (simp; omega) | omega)).trans s0
  have t1 : w3.cell? ⟨w.heap.size, 1, none⟩ = some (.int .u64 m) := (hb3.cells _ _ (by first | (simp; done) | (simp; omega) | omega)).trans s1
  have t2 : w3.cell? ⟨w.heap.size, 2, none⟩ = some (.int .i64 e) := (hb3.cells _ _ (by first | (simp; done) | (simp; omega) | omega)).trans s2
  have t3 : w3.cell? ⟨(w.heap.size + 1), 0, none⟩ = some (.int .i64 (24)) := (hb3.cells _ _ (by first | (simp; done) | (simp; omega) | omega)).trans s3
  have t4 : w3.cell? ⟨(w.heap.size + 1), 1, none⟩ = some (.int .i64 (-126)) := (hb3.cells _ _ (by first | (simp; done) | (simp; omega) | omega)).trans s4
  have t5 : w3.cell? ⟨(w.heap.size + 1), 2, none⟩ = some (.int .i64 (127)) := (hb3.cells _ _ (by first | (simp; done) | (simp; omega) | omega)).trans s5
  have tz : w.heap.size + 1 < w3.heap.size := World.block_lt_of_cell? _ _ t3
  clear s0 s1 s2 s3 s4 s5 sz
  go_wp2_with fail
  refine (LD.out _).mono ?_; rintro e4 w4 ⟨rfl, rfl⟩
  go_wp2_with fail
  refine (SG.out _).mono ?_; rintro e5 w5 ⟨rfl, rfl⟩
  go_wp2
  go_ret2
  exact ⟨rfl, (by repeat (first | with_reducible exact Within.refl _ | with_reducible assumption | with_reducible refine Within.alloc ?_ _ | with_reducible refine Within.drew ?_ | with_reducible refine Within.setCell ?_ (by first | (simp; done) | (simp; omega)) _ | with_reducible refine Within.trans ?_ (by assumption)))⟩

set_option maxRecDepth 100000 in
set_option maxHeartbeats 600000 in
theorem round_S_inf0 (neg : Bool) (m L q Lq : Nat) (e k : Int) (mode : Int) (h1 : -20000 ≤ e) (h2 : e ≤ 20000) (hL : L ≤ 64) (hLq : Lq ≤ 64) (hk : max (e + (L : Int) - 24) (-149) = k) (LM : Hid (∀ w, Calls Tryd.prog 72 #[.int .u64 m] w fun e' w' => e' = .returned (.int .i64 (L : Nat)) ∧ w = w')) (DR : Hid (∀ w, Calls Tryd.prog 73 #[.agg #[.bool neg, .int .u64 m, .int .i64 e], .int .i64 (k - e), .int .i64 mode] w fun e' w' => e' = .returned (.tuple #[.int .u64 q, .bool false]) ∧ Within w w')) (LQ : Hid (∀ w, Calls Tryd.prog 72 #[.int .u64 q] w fun e' w' => e' = .returned (.int .i64 (Lq : Nat)) ∧ w = w')) (x g y z : Nat) (hin : 128 < k + (Lq : Int)) (hcv : floatOfInt .f64 (16777215 : Int) = x) (LD : Hid (∀ w, Calls Tryd.prog 71 #[.float .f64 x, .int .i64 104] w fun e' w' => e' = .returned (.float .f64 g) ∧ w = w')) (IN : Hid (∀ w, Calls Tryd.prog 75 #[.int .i64 1] w fun e' w' => e' = .returned (.float .f64 y) ∧ w = w')) (SG : Hid (∀ w, Calls Tryd.prog 74 #[.float .f64 y, .bool neg] w fun e' w' => e' = .returned (.float .f64 z) ∧ w = w')) (m2 : (mode == 2) = false) (m3 : (mode == 3) = false) (m4 : (mode == 4) = false) (w : World) : Calls Tryd.prog 58 #[.agg #[.bool neg, .int .u64 m, .int .i64 e], .agg #[.int .i64 24, .int .i64 (-126), .int .i64 127], .int .i64 mode] w fun e' w' => e' = .returned (.tuple #[.float .f64 z, .int .i64 5]) ∧ Within w w' := by
  have kl : -20100 ≤ k := by omega
  have ku : k ≤ 20100 := by omega
  have gw1 : IntKind.i64.wrap (e + (L : Int)) = e + (L : Int) := by rw [IntKind.wrap_i64]; omega
  have gw2 : IntKind.i64.wrap (k + (Lq : Int)) = k + (Lq : Int) := by rw [IntKind.wrap_i64]; omega
  have gw3 : IntKind.i64.wrap 128 = 128 := by decide
  have hcv' := fun (w : World) => run_convert_int_float (P := Tryd.prog) w 45 75 .u64 .f64 (16777215 : Int) (by kernel_rfl) (by kernel_rfl)
  rw [hcv] at hcv'
  have d : decide (k + (Lq : Int) ≤ 128) = false := decide_eq_false (by omega)
  clear hcv hin
  go_enter Tryd.func58, Tryd.ntmps58
  go_wp2
  refine wp_region_within (by kernel_rfl) (by kernel_rfl) ?_
  repeat
    apply wpq_step rfl
    · intro wq hCq
      have q0 : wq.cell? ⟨w.heap.size, 0, none⟩ = some (.bool neg) := (hCq.cells _ _ (by first | (simp; done) | (simp; omega) | omega)).trans (by simp)
      have q1 : wq.cell? ⟨w.heap.size, 1, none⟩ = some (.int .u64 m) := (hCq.cells _ _ (by first | (simp; done) | (simp; omega) | omega)).trans (by simp)
      have q2 : wq.cell? ⟨w.heap.size, 2, none⟩ = some (.int .i64 e) := (hCq.cells _ _ (by first | (simp; done) | (simp; omega) | omega)).trans (by simp)
      have q3 : wq.cell? ⟨(w.heap.size + 1), 0, none⟩ = some (.int .i64 (24)) := (hCq.cells _ _ (by first | (simp; done) | (simp; omega) | omega)).trans (by simp)
      have q4 : wq.cell? ⟨(w.heap.size + 1), 1, none⟩ = some (.int .i64 (-126)) := (hCq.cells _ _ (by first | (simp; done) | (simp; omega) | omega)).trans (by simp)
      have q5 : wq.cell? ⟨(w.heap.size + 1), 2, none⟩ = some (.int .i64 (127)) := (hCq.cells _ _ (by first | (simp; done) | (simp; omega) | omega)).trans (by simp)
      have qz : w.heap.size + 1 < wq.heap.size := World.block_lt_of_cell? _ _ q3
      go_simp
      first | rfl | exact hCq.same (LM.out _) | (trace_state; fail)
    simp only [Act.put, List.setIfInBounds_toArray, List.set_cons_zero, List.set_cons_succ]
  refine wpQuiet_nil ?_
  intro w1 hb1
  have r0 : w1.cell? ⟨w.heap.size, 0, none⟩ = some (.bool neg) := (hb1.cells _ _ (by first | (simp; done) | (simp; omega) | omega)).trans (by simp)
  have r1 : w1.cell? ⟨w.heap.size, 1, none⟩ = some (.int .u64 m) := (hb1.cells _ _ (by first | (simp; done) | (simp; omega) | omega)).trans (by simp)
  have r2 : w1.cell? ⟨w.heap.size, 2, none⟩ = some (.int .i64 e) := (hb1.cells _ _ (by first | (simp; done) | (simp; omega) | omega)).trans (by simp)
  have r3 : w1.cell? ⟨(w.heap.size + 1), 0, none⟩ = some (.int .i64 (24)) := (hb1.cells _ _ (by first | (simp; done) | (simp; omega) | omega)).trans (by simp)
  have r4 : w1.cell? ⟨(w.heap.size + 1), 1, none⟩ = some (.int .i64 (-126)) := (hb1.cells _ _ (by first | (simp; done) | (simp; omega) | omega)).trans (by simp)
  have r5 : w1.cell? ⟨(w.heap.size + 1), 2, none⟩ = some (.int .i64 (127)) := (hb1.cells _ _ (by first | (simp; done) | (simp; omega) | omega)).trans (by simp)
  have rz : w.heap.size + 1 < w1.heap.size := World.block_lt_of_cell? _ _ r3
  go_wp2_with fail
  refine (DR.out _).mono ?_; rintro e2 w2 ⟨rfl, hb2⟩
  have s0 : w2.cell? ⟨w.heap.size, 0, none⟩ = some (.bool neg) := (hb2.cells _ _ (by first | (simp; done) | (simp; omega) | omega)).trans r0
  have s1 : w2.cell? ⟨w.heap.size, 1, none⟩ = some (.int .u64 m) := (hb2.cells _ _ (by first | (simp; done) | (simp; omega) | omega)).trans r1
  have s2 : w2.cell? ⟨w.heap.size, 2, none⟩ = some (.int .i64 e) := (hb2.cells _ _ (by first | (simp; done) | (simp; omega) | omega)).trans r2
  have s3 : w2.cell? ⟨(w.heap.size + 1), 0, none⟩ = some (.int .i64 (24)) := (hb2.cells _ _ (by first | (simp; done) | (simp; omega) | omega)).trans r3
  have s4 : w2.cell? ⟨(w.heap.size + 1), 1, none⟩ = some (.int .i64 (-126)) := (hb2.cells _ _ (by first | (simp; done) | (simp; omega) | omega)).trans r4
  have s5 : w2.cell? ⟨(w.heap.size + 1), 2, none⟩ = some (.int .i64 (127)) := (hb2.cells _ _ (by first | (simp; done) | (simp; omega) | omega)).trans r5
  have sz : w.heap.size + 1 < w2.heap.size := World.block_lt_of_cell? _ _ s3
  clear r0 r1 r2 r3 r4 r5 rz
  go_wp2
  refine wp_region_within (by kernel_rfl) (by kernel_rfl) ?_
  repeat
    apply wpq_step rfl
    · intro wq hCq
      have q0 : wq.cell? ⟨w.heap.size, 0, none⟩ = some (.bool neg) := (hCq.cells _ _ (by first | (simp; done) | (simp; omega) | omega)).trans s0
      have q1 : wq.cell? ⟨w.heap.size, 1, none⟩ = some (.int .u64 m) := (hCq.cells _ _ (by first | (simp; done) | (simp; omega) | omega)).trans s1
      have q2 : wq.cell? ⟨w.heap.size, 2, none⟩ = some (.int .i64 e) := (hCq.cells _ _ (by first | (simp; done) | (simp; omega) | omega)).trans s2
      have q3 : wq.cell? ⟨(w.heap.size + 1), 0, none⟩ = some (.int .i64 (24)) := (hCq.cells _ _ (by first | (simp; done) | (simp; omega) | omega)).trans s3
      have q4 : wq.cell? ⟨(w.heap.size + 1), 1, none⟩ = some (.int .i64 (-126)) := (hCq.cells _ _ (by first | (simp; done) | (simp; omega) | omega)).trans s4
      have q5 : wq.cell? ⟨(w.heap.size + 1), 2, none⟩ = some (.int .i64 (127)) := (hCq.cells _ _ (by first | (simp; done) | (simp; omega) | omega)).trans s5
      have qz : w.heap.size + 1 < wq.heap.size := World.block_lt_of_cell? _ _ q3
      go_simp
      first | rfl | exact hCq.same (LQ.out _) | (trace_state; fail)
    simp only [Act.put, List.setIfInBounds_toArray, List.set_cons_zero, List.set_cons_succ]
  refine wpQuiet_nil ?_
  intro w3 hb3
  have t0 : w3.cell? ⟨w.heap.size, 0, none⟩ = some (.bool neg) := (hb3.cells _ _ (by first | (simp; done) | (simp; omega) | omega)).trans s0
  have t1 : w3.cell? ⟨w.heap.size, 1, none⟩ = some (.int .u64 m) := (hb3.cells _ _ (by first | (simp; done) | (simp; omega) | omega)).trans s1
  have t2 : w3.cell? ⟨w.heap.size, 2, none⟩ = some (.int .i64 e) := (hb3.cells _ _ (by first | (simp; done) | (simp; omega) | omega)).trans s2
  have t3 : w3.cell? ⟨(w.heap.size + 1), 0, none⟩ = some (.int .i64 (24)) := (hb3.cells _ _ (by first | (simp; done) | (simp; omega) | omega)).trans s3
  have t4 : w3.cell? ⟨(w.heap.size + 1), 1, none⟩ = some (.int .i64 (-126)) := (hb3.cells _ _ (by first | (simp; done) | (simp; omega) | omega)).trans s4
  have t5 : w3.cell? ⟨(w.heap.size + 1), 2, none⟩ = some (.int .i64 (127)) := (hb3.cells _ _ (by first | (simp; done) | (simp; omega) | omega)).trans s5
  have tz : w.heap.size + 1 < w3.heap.size := World.block_lt_of_cell? _ _ t3
  clear s0 s1 s2 s3 s4 s5 sz
  go_wp2_with fail
  refine (LD.out _).mono ?_; rintro e4 w4 ⟨rfl, rfl⟩
  go_wp2
  refine wp_region_within (by kernel_rfl) (by kernel_rfl) ?_
  repeat
    apply wpq_step rfl
    · intro wq hCq
      have q0 : wq.cell? ⟨w.heap.size, 0, none⟩ = some (.bool neg) := (hCq.cells _ _ (by first | (simp; done) | (simp; omega) | omega)).trans t0
      have q1 : wq.cell? ⟨w.heap.size, 1, none⟩ = some (.int .u64 m) := (hCq.cells _ _ (by first | (simp; done) | (simp; omega) | omega)).trans t1
      have q2 : wq.cell? ⟨w.heap.size, 2, none⟩ = some (.int .i64 e) := (hCq.cells _ _ (by first | (simp; done) | (simp; omega) | omega)).trans t2
      have q3 : wq.cell? ⟨(w.heap.size + 1), 0, none⟩ = some (.int .i64 (24)) := (hCq.cells _ _ (by first | (simp; done) | (simp; omega) | omega)).trans t3
      have q4 : wq.cell? ⟨(w.heap.size + 1), 1, none⟩ = some (.int .i64 (-126)) := (hCq.cells _ _ (by first | (simp; done) | (simp; omega) | omega)).trans t4
      have q5 : wq.cell? ⟨(w.heap.size + 1), 2, none⟩ = some (.int .i64 (127)) := (hCq.cells _ _ (by first | (simp; done) | (simp; omega) | omega)).trans t5
      have qz : w.heap.size + 1 < wq.heap.size := World.block_lt_of_cell? _ _ q3
      go_simp
      first | rfl | exact hCq.same (IN.out _) | exact hCq.same (SG.out _) | (trace_state; fail)
    simp only [Act.put, List.setIfInBounds_toArray, List.set_cons_zero, List.set_cons_succ]
  refine wpQuiet_nil ?_
  intro w5 hb5
  go_wp2
  go_ret2
  exact ⟨rfl, (by repeat (first | with_reducible exact Within.refl _ | with_reducible assumption | with_reducible refine Within.alloc ?_ _ | with_reducible refine Within.drew ?_ | with_reducible refine Within.setCell ?_ (by first | (simp; done) | (simp; omega)) _ | with_reducible refine Within.trans ?_ (by assumption)))⟩

set_option maxRecDepth 100000 in
set_option maxHeartbeats 600000 in
theorem round_S_inf0_3 (m L q Lq : Nat) (e k : Int) (h1 : -20000 ≤ e) (h2 : e ≤ 20000) (hL : L ≤ 64) (hLq : Lq ≤ 64) (hk : max (e + (L : Int) - 24) (-149) = k) (LM : Hid (∀ w, Calls Tryd.prog 72 #[.int .u64 m] w fun e' w' => e' = .returned (.int .i64 (L : Nat)) ∧ w = w')) (DR : Hid (∀ w, Calls Tryd.prog 73 #[.agg #[.bool false, .int .u64 m, .int .i64 e], .int .i64 (k - e), .int .i64 3] w fun e' w' => e' = .returned (.tuple #[.int .u64 q, .bool false]) ∧ Within w w')) (LQ : Hid (∀ w, Calls Tryd.prog 72 #[.int .u64 q] w fun e' w' => e' = .returned (.int .i64 (Lq : Nat)) ∧ w = w')) (x g y z : Nat) (hin : 128 < k + (Lq : Int)) (hcv : floatOfInt .f64 (16777215 : Int) = x) (LD : Hid (∀ w, Calls Tryd.prog 71 #[.float .f64 x, .int .i64 104] w fun e' w' => e' = .returned (.float .f64 g) ∧ w = w')) (IN : Hid (∀ w, Calls Tryd.prog 75 #[.int .i64 1] w fun e' w' => e' = .returned (.float .f64 y) ∧ w = w')) (SG : Hid (∀ w, Calls Tryd.prog 74 #[.float .f64 y, .bool false] w fun e' w' => e' = .returned (.float .f64 z) ∧ w = w')) (w : World) : Calls Tryd.prog 58 #[.agg #[.bool false, .int .u64 m, .int .i64 e], .agg #[.int .i64 24, .int .i64 (-126), .int .i64 127], .int .i64 3] w fun e' w' => e' = .returned (.tuple #[.float .f64 z, .int .i64 5]) ∧ Within w w' := by
  have kl : -20100 ≤ k := by omega
  have ku : k ≤ 20100 := by omega
  have gw1 : IntKind.i64.wrap (e + (L : Int)) = e + (L : Int) := by rw [IntKind.wrap_i64]; omega
  have gw2 : IntKind.i64.wrap (k + (Lq : Int)) = k + (Lq : Int) := by rw [IntKind.wrap_i64]; omega
  have gw3 : IntKind.i64.wrap 128 = 128 := by decide
  have hcv' := fun (w : World) => run_convert_int_float (P := Tryd.prog) w 45 75 .u64 .f64 (16777215 : Int) (by kernel_rfl) (by kernel_rfl)
  rw [hcv] at hcv'
  have d : decide (k + (Lq : Int) ≤ 128) = false := decide_eq_false (by omega)
  clear hcv hin
  go_enter Tryd.func58, Tryd.ntmps58
  go_wp2
  refine wp_region_within (by kernel_rfl) (by kernel_rfl) ?_
  repeat
    apply wpq_step rfl
    · intro wq hCq
      have q0 : wq.cell? ⟨w.heap.size, 0, none⟩ = some (.bool false) := (hCq.cells _ _ (by first | (simp; done) | (simp; omega) | omega)).trans (by simp)
      have q1 : wq.cell? ⟨w.heap.size, 1, none⟩ = some (.int .u64 m) := (hCq.cells _ _ (by first | (simp; done) | (simp; omega) | omega)).trans (by simp)
      have q2 : wq.cell? ⟨w.heap.size, 2, none⟩ = some (.int .i64 e) := (hCq.cells _ _ (by first | (simp; done) | (simp; omega) | omega)).trans (by simp)
      have q3 : wq.cell? ⟨(w.heap.size + 1), 0, none⟩ = some (.int .i64 (24)) := (hCq.cells _ _ (by first | (simp; done) | (simp; omega) | omega)).trans (by simp)
      have q4 : wq.cell? ⟨(w.heap.size + 1), 1, none⟩ = some (.int .i64 (-126)) := (hCq.cells _ _ (by first | (simp; done) | (simp; omega) | omega)).trans (by simp)
      have q5 : wq.cell? ⟨(w.heap.size + 1), 2, none⟩ = some (.int .i64 (127)) := (hCq.cells _ _ (by first | (simp; done) | (simp; omega) | omega)).trans (by simp)
      have qz : w.heap.size + 1 < wq.heap.size := World.block_lt_of_cell? _ _ q3
      go_simp
      first | rfl | exact hCq.same (LM.out _) | (trace_state; fail)
    simp only [Act.put, List.setIfInBounds_toArray, List.set_cons_zero, List.set_cons_succ]
  refine wpQuiet_nil ?_
  intro w1 hb1
  have r0 : w1.cell? ⟨w.heap.size, 0, none⟩ = some (.bool false) := (hb1.cells _ _ (by first | (simp; done) | (simp; omega) | omega)).trans (by simp)
  have r1 : w1.cell? ⟨w.heap.size, 1, none⟩ = some (.int .u64 m) := (hb1.cells _ _ (by first | (simp; done) | (simp; omega) | omega)).trans (by simp)
  have r2 : w1.cell? ⟨w.heap.size, 2, none⟩ = some (.int .i64 e) := (hb1.cells _ _ (by first | (simp; done) | (simp; omega) | omega)).trans (by simp)
  have r3 : w1.cell? ⟨(w.heap.size + 1), 0, none⟩ = some (.int .i64 (24)) := (hb1.cells _ _ (by first | (simp; done) | (simp; omega) | omega)).trans (by simp)
  have r4 : w1.cell? ⟨(w.heap.size + 1), 1, none⟩ = some (.int .i64 (-126)) := (hb1.cells _ _ (by first | (simp; done) | (simp; omega) | omega)).trans (by simp)
  have r5 : w1.cell? ⟨(w.heap.size + 1), 2, none⟩ = some (.int .i64 (127)) := (hb1.cells _ _ (by first | (simp; done) | (simp; omega) | omega)).trans (by simp)
  have rz : w.heap.size + 1 < w1.heap.size := World.block_lt_of_cell? _ _ r3
  go_wp2_with fail
  refine (DR.out _).mono ?_; rintro e2 w2 ⟨rfl, hb2⟩
  have s0 : w2.cell? ⟨w.heap.size, 0, none⟩ = some (.bool false) := (hb2.cells _ _ (by first | (simp; done) | (simp; omega) | omega)).trans r0
  have s1 : w2.cell? ⟨w.heap.size, 1, none⟩ = some (.int .u64 m) := (hb2.cells _ _ (by first | (simp; done) | (simp; omega) | omega)).trans r1
  have s2 : w2.cell? ⟨w.heap.size, 2, none⟩ = some (.int .i64 e) := (hb2.cells _ _ (by first | (simp; done) | (simp; omega) | omega)).trans r2
  have s3 : w2.cell? ⟨(w.heap.size + 1), 0, none⟩ = some (.int .i64 (24)) := (hb2.cells _ _ (by first | (simp; done) | (simp; omega) | omega)).trans r3
  have s4 : w2.cell? ⟨(w.heap.size + 1), 1, none⟩ = some (.int .i64 (-126)) := (hb2.cells _ _ (by first | (simp; done) | (simp; omega) | omega)).trans r4
  have s5 : w2.cell? ⟨(w.heap.size + 1), 2, none⟩ = some (.int .i64 (127)) := (hb2.cells _ _ (by first | (simp; done) | (simp; omega) | omega)).trans r5
  have sz : w.heap.size + 1 < w2.heap.size := World.block_lt_of_cell? _ _ s3
  clear r0 r1 r2 r3 r4 r5 rz
  go_wp2
  refine wp_region_within (by kernel_rfl) (by kernel_rfl) ?_
  repeat
    apply wpq_step rfl
    · intro wq hCq
      have q0 : wq.cell? ⟨w.heap.size, 0, none⟩ = some (.bool false) := (hCq.cells _ _ (by first | (simp; done) | (simp; omega) | omega)).trans s0
      have q1 : wq.cell? ⟨w.heap.size, 1, none⟩ = some (.int .u64 m) := (hCq.cells _ _ (by first | (simp; done) | (simp; omega) | omega)).trans s1
      have q2 : wq.cell? ⟨w.heap.size, 2, none⟩ = some (.int .i64 e) := (hCq.cells _ _ (by first | (simp; done) | (simp; omega) | omega)).trans s2
      have q3 : wq.cell? ⟨(w.heap.size + 1), 0, none⟩ = some (.int .i64 (24)) := (hCq.cells _ _ (by first | (simp; done) | (simp; omega) | omega)).trans s3
      have q4 : wq.cell? ⟨(w.heap.size + 1), 1, none⟩ = some (.int .i64 (-126)) := (hCq.cells _ _ (by first | (simp; done) | (simp; omega) | omega)).trans s4
      have q5 : wq.cell? ⟨(w.heap.size + 1), 2, none⟩ = some (.int .i64 (127)) := (hCq.cells _ _ (by first | (simp; done) | (simp; omega) | omega)).trans s5
      have qz : w.heap.size + 1 < wq.heap.size := World.block_lt_of_cell? _ _ q3
      go_simp
      first | rfl | exact hCq.same (LQ.out _) | (trace_state; fail)
    simp only [Act.put, List.setIfInBounds_toArray, List.set_cons_zero, List.set_cons_succ]
  refine wpQuiet_nil ?_
  intro w3 hb3
  have t0 : w3.cell? ⟨w.heap.size, 0, none⟩ = some (.bool false) := (hb3.cells _ _ (by first | (simp; done) | (simp; omega) | omega)).trans s0
  have t1 : w3.cell? ⟨w.heap.size, 1, none⟩ = some (.int .u64 m) := (hb3.cells _ _ (by first | (simp; done) | (simp; omega) | omega)).trans s1
  have t2 : w3.cell? ⟨w.heap.size, 2, none⟩ = some (.int .i64 e) := (hb3.cells _ _ (by first | (simp; done) | (simp; omega) | omega)).trans s2
  have t3 : w3.cell? ⟨(w.heap.size + 1), 0, none⟩ = some (.int .i64 (24)) := (hb3.cells _ _ (by first | (simp; done) | (simp; omega) | omega)).trans s3
  have t4 : w3.cell? ⟨(w.heap.size + 1), 1, none⟩ = some (.int .i64 (-126)) := (hb3.cells _ _ (by first | (simp; done) | (simp; omega) | omega)).trans s4
  have t5 : w3.cell? ⟨(w.heap.size + 1), 2, none⟩ = some (.int .i64 (127)) := (hb3.cells _ _ (by first | (simp; done) | (simp; omega) | omega)).trans s5
  have tz : w.heap.size + 1 < w3.heap.size := World.block_lt_of_cell? _ _ t3
  clear s0 s1 s2 s3 s4 s5 sz
  go_wp2_with fail
  refine (LD.out _).mono ?_; rintro e4 w4 ⟨rfl, rfl⟩
  go_wp2
  refine wp_region_within (by kernel_rfl) (by kernel_rfl) ?_
  repeat
    apply wpq_step rfl
    · intro wq hCq
      have q0 : wq.cell? ⟨w.heap.size, 0, none⟩ = some (.bool false) := (hCq.cells _ _ (by first | (simp; done) | (simp; omega) | omega)).trans t0
      have q1 : wq.cell? ⟨w.heap.size, 1, none⟩ = some (.int .u64 m) := (hCq.cells _ _ (by first | (simp; done) | (simp; omega) | omega)).trans t1
      have q2 : wq.cell? ⟨w.heap.size, 2, none⟩ = some (.int .i64 e) := (hCq.cells _ _ (by first | (simp; done) | (simp; omega) | omega)).trans t2
      have q3 : wq.cell? ⟨(w.heap.size + 1), 0, none⟩ = some (.int .i64 (24)) := (hCq.cells _ _ (by first | (simp; done) | (simp; omega) | omega)).trans t3
      have q4 : wq.cell? ⟨(w.heap.size + 1), 1, none⟩ = some (.int .i64 (-126)) := (hCq.cells _ _ (by first | (simp; done) | (simp; omega) | omega)).trans t4
      have q5 : wq.cell? ⟨(w.heap.size + 1), 2, none⟩ = some (.int .i64 (127)) := (hCq.cells _ _ (by first | (simp; done) | (simp; omega) | omega)).trans t5
      have qz : w.heap.size + 1 < wq.heap.size := World.block_lt_of_cell? _ _ q3
      go_simp
      first | rfl | exact hCq.same (IN.out _) | exact hCq.same (SG.out _) | (trace_state; fail)
    simp only [Act.put, List.setIfInBounds_toArray, List.set_cons_zero, List.set_cons_succ]
  refine wpQuiet_nil ?_
  intro w5 hb5
  go_wp2
  go_ret2
  exact ⟨rfl, (by repeat (first | with_reducible exact Within.refl _ | with_reducible assumption | with_reducible refine Within.alloc ?_ _ | with_reducible refine Within.drew ?_ | with_reducible refine Within.setCell ?_ (by first | (simp; done) | (simp; omega)) _ | with_reducible refine Within.trans ?_ (by assumption)))⟩

set_option maxRecDepth 100000 in
set_option maxHeartbeats 600000 in
theorem round_S_inf0_4 (m L q Lq : Nat) (e k : Int) (h1 : -20000 ≤ e) (h2 : e ≤ 20000) (hL : L ≤ 64) (hLq : Lq ≤ 64) (hk : max (e + (L : Int) - 24) (-149) = k) (LM : Hid (∀ w, Calls Tryd.prog 72 #[.int .u64 m] w fun e' w' => e' = .returned (.int .i64 (L : Nat)) ∧ w = w')) (DR : Hid (∀ w, Calls Tryd.prog 73 #[.agg #[.bool true, .int .u64 m, .int .i64 e], .int .i64 (k - e), .int .i64 4] w fun e' w' => e' = .returned (.tuple #[.int .u64 q, .bool false]) ∧ Within w w')) (LQ : Hid (∀ w, Calls Tryd.prog 72 #[.int .u64 q] w fun e' w' => e' = .returned (.int .i64 (Lq : Nat)) ∧ w = w')) (x g y z : Nat) (hin : 128 < k + (Lq : Int)) (hcv : floatOfInt .f64 (16777215 : Int) = x) (LD : Hid (∀ w, Calls Tryd.prog 71 #[.float .f64 x, .int .i64 104] w fun e' w' => e' = .returned (.float .f64 g) ∧ w = w')) (IN : Hid (∀ w, Calls Tryd.prog 75 #[.int .i64 1] w fun e' w' => e' = .returned (.float .f64 y) ∧ w = w')) (SG : Hid (∀ w, Calls Tryd.prog 74 #[.float .f64 y, .bool true] w fun e' w' => e' = .returned (.float .f64 z) ∧ w = w')) (w : World) : Calls Tryd.prog 58 #[.agg #[.bool true, .int .u64 m, .int .i64 e], .agg #[.int .i64 24, .int .i64 (-126), .int .i64 127], .int .i64 4] w fun e' w' => e' = .returned (.tuple #[.float .f64 z, .int .i64 5]) ∧ Within w w' := by
  have kl : -20100 ≤ k := by omega
  have ku : k ≤ 20100 := by omega
  have gw1 : IntKind.i64.wrap (e + (L : Int)) = e + (L : Int) := by rw [IntKind.wrap_i64]; omega
  have gw2 : IntKind.i64.wrap (k + (Lq : Int)) = k + (Lq : Int) := by rw [IntKind.wrap_i64]; omega
  have gw3 : IntKind.i64.wrap 128 = 128 := by decide
  have hcv' := fun (w : World) => run_convert_int_float (P := Tryd.prog) w 45 75 .u64 .f64 (16777215 : Int) (by kernel_rfl) (by kernel_rfl)
  rw [hcv] at hcv'
  have d : decide (k + (Lq : Int) ≤ 128) = false := decide_eq_false (by omega)
  clear hcv hin
  go_enter Tryd.func58, Tryd.ntmps58
  go_wp2
  refine wp_region_within (by kernel_rfl) (by kernel_rfl) ?_
  repeat
    apply wpq_step rfl
    · intro wq hCq
      have q0 : wq.cell? ⟨w.heap.size, 0, none⟩ = some (.bool true) := (hCq.cells _ _ (by first | (simp; done) | (simp; omega) | omega)).trans (by simp)
      have q1 : wq.cell? ⟨w.heap.size, 1, none⟩ = some (.int .u64 m) := (hCq.cells _ _ (by first | (simp; done) | (simp; omega) | omega)).trans (by simp)
      have q2 : wq.cell? ⟨w.heap.size, 2, none⟩ = some (.int .i64 e) := (hCq.cells _ _ (by first | (simp; done) | (simp; omega) | omega)).trans (by simp)
      have q3 : wq.cell? ⟨(w.heap.size + 1), 0, none⟩ = some (.int .i64 (24)) := (hCq.cells _ _ (by first | (simp; done) | (simp; omega) | omega)).trans (by simp)
      have q4 : wq.cell? ⟨(w.heap.size + 1), 1, none⟩ = some (.int .i64 (-126)) := (hCq.cells _ _ (by first | (simp; done) | (simp; omega) | omega)).trans (by simp)
      have q5 : wq.cell? ⟨(w.heap.size + 1), 2, none⟩ = some (.int .i64 (127)) := (hCq.cells _ _ (by first | (simp; done) | (simp; omega) | omega)).trans (by simp)
      have qz : w.heap.size + 1 < wq.heap.size := World.block_lt_of_cell? _ _ q3
      go_simp
      first | rfl | exact hCq.same (LM.out _) | (trace_state; fail)
    simp only [Act.put, List.setIfInBounds_toArray, List.set_cons_zero, List.set_cons_succ]
  refine wpQuiet_nil ?_
  intro w1 hb1
  have r0 : w1.cell? ⟨w.heap.size, 0, none⟩ = some (.bool true) := (hb1.cells _ _ (by first | (simp; done) | (simp; omega) | omega)).trans (by simp)
  have r1 : w1.cell? ⟨w.heap.size, 1, none⟩ = some (.int .u64 m) := (hb1.cells _ _ (by first | (simp; done) | (simp; omega) | omega)).trans (by simp)
  have r2 : w1.cell? ⟨w.heap.size, 2, none⟩ = some (.int .i64 e) := (hb1.cells _ _ (by first | (simp; done) | (simp; omega) | omega)).trans (by simp)
  have r3 : w1.cell? ⟨(w.heap.size + 1), 0, none⟩ = some (.int .i64 (24)) := (hb1.cells _ _ (by first | (simp; done) | (simp; omega) | omega)).trans (by simp)
  have r4 : w1.cell? ⟨(w.heap.size + 1), 1, none⟩ = some (.int .i64 (-126)) := (hb1.cells _ _ (by first | (simp; done) | (simp; omega) | omega)).trans (by simp)
  have r5 : w1.cell? ⟨(w.heap.size + 1), 2, none⟩ = some (.int .i64 (127)) := (hb1.cells _ _ (by first | (simp; done) | (simp; omega) | omega)).trans (by simp)
  have rz : w.heap.size + 1 < w1.heap.size := World.block_lt_of_cell? _ _ r3
  go_wp2_with fail
  refine (DR.out _).mono ?_; rintro e2 w2 ⟨rfl, hb2⟩
  have s0 : w2.cell? ⟨w.heap.size, 0, none⟩ = some (.bool true) := (hb2.cells _ _ (by first | (simp; done) | (simp; omega) | omega)).trans r0
  have s1 : w2.cell? ⟨w.heap.size, 1, none⟩ = some (.int .u64 m) := (hb2.cells _ _ (by first | (simp; done) | (simp; omega) | omega)).trans r1
  have s2 : w2.cell? ⟨w.heap.size, 2, none⟩ = some (.int .i64 e) := (hb2.cells _ _ (by first | (simp; done) | (simp; omega) | omega)).trans r2
  have s3 : w2.cell? ⟨(w.heap.size + 1), 0, none⟩ = some (.int .i64 (24)) := (hb2.cells _ _ (by first | (simp; done) | (simp; omega) | omega)).trans r3
  have s4 : w2.cell? ⟨(w.heap.size + 1), 1, none⟩ = some (.int .i64 (-126)) := (hb2.cells _ _ (by first | (simp; done) | (simp; omega) | omega)).trans r4
  have s5 : w2.cell? ⟨(w.heap.size + 1), 2, none⟩ = some (.int .i64 (127)) := (hb2.cells _ _ (by first | (simp; done) | (simp; omega) | omega)).trans r5
  have sz : w.heap.size + 1 < w2.heap.size := World.block_lt_of_cell? _ _ s3
  clear r0 r1 r2 r3 r4 r5 rz
  go_wp2
  refine wp_region_within (by kernel_rfl) (by kernel_rfl) ?_
  repeat
    apply wpq_step rfl
    · intro wq hCq
      have q0 : wq.cell? ⟨w.heap.size, 0, none⟩ = some (.bool true) := (hCq.cells _ _ (by first | (simp; done) | (simp; omega) | omega)).trans s0
      have q1 : wq.cell? ⟨w.heap.size, 1, none⟩ = some (.int .u64 m) := (hCq.cells _ _ (by first | (simp; done) | (simp; omega) | omega)).trans s1
      have q2 : wq.cell? ⟨w.heap.size, 2, none⟩ = some (.int .i64 e) := (hCq.cells _ _ (by first | (simp; done) | (simp; omega) | omega)).trans s2
      have q3 : wq.cell? ⟨(w.heap.size + 1), 0, none⟩ = some (.int .i64 (24)) := (hCq.cells _ _ (by first | (simp; done) | (simp; omega) | omega)).trans s3
      have q4 : wq.cell? ⟨(w.heap.size + 1), 1, none⟩ = some (.int .i64 (-126)) := (hCq.cells _ _ (by first | (simp; done) | (simp; omega) | omega)).trans s4
      have q5 : wq.cell? ⟨(w.heap.size + 1), 2, none⟩ = some (.int .i64 (127)) := (hCq.cells _ _ (by first | (simp; done) | (simp; omega) | omega)).trans s5
      have qz : w.heap.size + 1 < wq.heap.size := World.block_lt_of_cell? _ _ q3
      go_simp
      first | rfl | exact hCq.same (LQ.out _) | (trace_state; fail)
    simp only [Act.put, List.setIfInBounds_toArray, List.set_cons_zero, List.set_cons_succ]
  refine wpQuiet_nil ?_
  intro w3 hb3
  have t0 : w3.cell? ⟨w.heap.size, 0, none⟩ = some (.bool true) := (hb3.cells _ _ (by first | (simp; done) | (simp; omega) | omega)).trans s0
  have t1 : w3.cell? ⟨w.heap.size, 1, none⟩ = some (.int .u64 m) := (hb3.cells _ _ (by first | (simp; done) | (simp; omega) | omega)).trans s1
  have t2 : w3.cell? ⟨w.heap.size, 2, none⟩ = some (.int .i64 e) := (hb3.cells _ _ (by first | (simp; done) | (simp; omega) | omega)).trans s2
  have t3 : w3.cell? ⟨(w.heap.size + 1), 0, none⟩ = some (.int .i64 (24)) := (hb3.cells _ _ (by first | (simp; done) | (simp; omega) | omega)).trans s3
  have t4 : w3.cell? ⟨(w.heap.size + 1), 1, none⟩ = some (.int .i64 (-126)) := (hb3.cells _ _ (by first | (simp; done) | (simp; omega) | omega)).trans s4
  have t5 : w3.cell? ⟨(w.heap.size + 1), 2, none⟩ = some (.int .i64 (127)) := (hb3.cells _ _ (by first | (simp; done) | (simp; omega) | omega)).trans s5
  have tz : w.heap.size + 1 < w3.heap.size := World.block_lt_of_cell? _ _ t3
  clear s0 s1 s2 s3 s4 s5 sz
  go_wp2_with fail
  refine (LD.out _).mono ?_; rintro e4 w4 ⟨rfl, rfl⟩
  go_wp2
  refine wp_region_within (by kernel_rfl) (by kernel_rfl) ?_
  repeat
    apply wpq_step rfl
    · intro wq hCq
      have q0 : wq.cell? ⟨w.heap.size, 0, none⟩ = some (.bool true) := (hCq.cells _ _ (by first | (simp; done) | (simp; omega) | omega)).trans t0
      have q1 : wq.cell? ⟨w.heap.size, 1, none⟩ = some (.int .u64 m) := (hCq.cells _ _ (by first | (simp; done) | (simp; omega) | omega)).trans t1
      have q2 : wq.cell? ⟨w.heap.size, 2, none⟩ = some (.int .i64 e) := (hCq.cells _ _ (by first | (simp; done) | (simp; omega) | omega)).trans t2
      have q3 : wq.cell? ⟨(w.heap.size + 1), 0, none⟩ = some (.int .i64 (24)) := (hCq.cells _ _ (by first | (simp; done) | (simp; omega) | omega)).trans t3
      have q4 : wq.cell? ⟨(w.heap.size + 1), 1, none⟩ = some (.int .i64 (-126)) := (hCq.cells _ _ (by first | (simp; done) | (simp; omega) | omega)).trans t4
      have q5 : wq.cell? ⟨(w.heap.size + 1), 2, none⟩ = some (.int .i64 (127)) := (hCq.cells _ _ (by first | (simp; done) | (simp; omega) | omega)).trans t5
      have qz : w.heap.size + 1 < wq.heap.size := World.block_lt_of_cell? _ _ q3
      go_simp
      first | rfl | exact hCq.same (IN.out _) | exact hCq.same (SG.out _) | (trace_state; fail)
    simp only [Act.put, List.setIfInBounds_toArray, List.set_cons_zero, List.set_cons_succ]
  refine wpQuiet_nil ?_
  intro w5 hb5
  go_wp2
  go_ret2
  exact ⟨rfl, (by repeat (first | with_reducible exact Within.refl _ | with_reducible assumption | with_reducible refine Within.alloc ?_ _ | with_reducible refine Within.drew ?_ | with_reducible refine Within.setCell ?_ (by first | (simp; done) | (simp; omega)) _ | with_reducible refine Within.trans ?_ (by assumption)))⟩

set_option maxRecDepth 100000 in
set_option maxHeartbeats 600000 in
theorem round_S_top1_2 (neg : Bool) (m L q Lq : Nat) (e k : Int) (h1 : -20000 ≤ e) (h2 : e ≤ 20000) (hL : L ≤ 64) (hLq : Lq ≤ 64) (hk : max (e + (L : Int) - 24) (-149) = k) (LM : Hid (∀ w, Calls Tryd.prog 72 #[.int .u64 m] w fun e' w' => e' = .returned (.int .i64 (L : Nat)) ∧ w = w')) (DR : Hid (∀ w, Calls Tryd.prog 73 #[.agg #[.bool neg, .int .u64 m, .int .i64 e], .int .i64 (k - e), .int .i64 2] w fun e' w' => e' = .returned (.tuple #[.int .u64 q, .bool true]) ∧ Within w w')) (LQ : Hid (∀ w, Calls Tryd.prog 72 #[.int .u64 q] w fun e' w' => e' = .returned (.int .i64 (Lq : Nat)) ∧ w = w')) (x g z : Nat) (hin : 128 < k + (Lq : Int)) (hcv : floatOfInt .f64 (16777215 : Int) = x) (LD : Hid (∀ w, Calls Tryd.prog 71 #[.float .f64 x, .int .i64 104] w fun e' w' => e' = .returned (.float .f64 g) ∧ w = w'))  (SG : Hid (∀ w, Calls Tryd.prog 74 #[.float .f64 g, .bool neg] w fun e' w' => e' = .returned (.float .f64 z) ∧ w = w')) (hs : decide (e + (L : Int) - 1 < -126) = false) (w : World) : Calls Tryd.prog 58 #[.agg #[.bool neg, .int .u64 m, .int .i64 e], .agg #[.int .i64 24, .int .i64 (-126), .int .i64 127], .int .i64 2] w fun e' w' => e' = .returned (.tuple #[.float .f64 z, .int .i64 5]) ∧ Within w w' := by
  have kl : -20100 ≤ k := by omega
  have ku : k ≤ 20100 := by omega
  have gw1 : IntKind.i64.wrap (e + (L : Int)) = e + (L : Int) := by rw [IntKind.wrap_i64]; omega
  have gw2 : IntKind.i64.wrap (k + (Lq : Int)) = k + (Lq : Int) := by rw [IntKind.wrap_i64]; omega
  have gw3 : IntKind.i64.wrap 128 = 128 := by decide
  have hcv' := fun (w : World) => run_convert_int_float (P := Tryd.prog) w 45 75 .u64 .f64 (16777215 : Int) (by kernel_rfl) (by kernel_rfl)
  rw [hcv] at hcv'
  have d : decide (k + (Lq : Int) ≤ 128) = false := decide_eq_false (by omega)
  clear hcv hin
  go_enter Tryd.func58, Tryd.ntmps58
  go_wp2
  refine wp_region_within (by kernel_rfl) (by kernel_rfl) ?_
  repeat
    apply wpq_step rfl
    · intro wq hCq
      have q0 : wq.cell? ⟨w.heap.size, 0, none⟩ = some (.bool neg) := (hCq.cells _ _ (by first | (simp; done) | (simp; omega) | omega)).trans (by simp)
      have q1 : wq.cell? ⟨w.heap.size, 1, none⟩ = some (.int .u64 m) := (hCq.cells _ _ (by first | (simp; done) | (simp; omega) | omega)).trans (by simp)
      have q2 : wq.cell? ⟨w.heap.size, 2, none⟩ = some (.int .i64 e) := (hCq.cells _ _ (by first | (simp; done) | (simp; omega) | omega)).trans (by simp)
      have q3 : wq.cell? ⟨(w.heap.size + 1), 0, none⟩ = some (.int .i64 (24)) := (hCq.cells _ _ (by first | (simp; done) | (simp; omega) | omega)).trans (by simp)
      have q4 : wq.cell? ⟨(w.heap.size + 1), 1, none⟩ = some (.int .i64 (-126)) := (hCq.cells _ _ (by first | (simp; done) | (simp; omega) | omega)).trans (by simp)
      have q5 : wq.cell? ⟨(w.heap.size + 1), 2, none⟩ = some (.int .i64 (127)) := (hCq.cells _ _ (by first | (simp; done) | (simp; omega) | omega)).trans (by simp)
      have qz : w.heap.size + 1 < wq.heap.size := World.block_lt_of_cell? _ _ q3
      go_simp
      first | rfl | exact hCq.same (LM.out _) | (trace_state; fail)
    simp only [Act.put, List.setIfInBounds_toArray, List.set_cons_zero, List.set_cons_succ]
  refine wpQuiet_nil ?_
  intro w1 hb1
  have r0 : w1.cell? ⟨w.heap.size, 0, none⟩ = some (.bool neg) := (hb1.cells _ _ (by first | (simp; done) | (simp; omega) | omega)).trans (by simp)
  have r1 : w1.cell? ⟨w.heap.size, 1, none⟩ = some (.int .u64 m) := (hb1.cells _ _ (by first | (simp; done) | (simp; omega) | omega)).trans (by simp)
  have r2 : w1.cell? ⟨w.heap.size, 2, none⟩ = some (.int .i64 e) := (hb1.cells _ _ (by first | (simp; done) | (simp; omega) | omega)).trans (by simp)
  have r3 : w1.cell? ⟨(w.heap.size + 1), 0, none⟩ = some (.int .i64 (24)) := (hb1.cells _ _ (by first | (simp; done) | (simp; omega) | omega)).trans (by simp)
  have r4 : w1.cell? ⟨(w.heap.size + 1), 1, none⟩ = some (.int .i64 (-126)) := (hb1.cells _ _ (by first | (simp; done) | (simp; omega) | omega)).trans (by simp)
  have r5 : w1.cell? ⟨(w.heap.size + 1), 2, none⟩ = some (.int .i64 (127)) := (hb1.cells _ _ (by first | (simp; done) | (simp; omega) | omega)).trans (by simp)
  have rz : w.heap.size + 1 < w1.heap.size := World.block_lt_of_cell? _ _ r3
  go_wp2_with fail
  refine (DR.out _).mono ?_; rintro e2 w2 ⟨rfl, hb2⟩
  have s0 : w2.cell? ⟨w.heap.size, 0, none⟩ = some (.bool neg) := (hb2.cells _ _ (by first | (simp; done) | (simp; omega) | omega)).trans r0
  have s1 : w2.cell? ⟨w.heap.size, 1, none⟩ = some (.int .u64 m) := (hb2.cells _ _ (by first | (simp; done) | (simp; omega) | omega)).trans r1
  have s2 : w2.cell? ⟨w.heap.size, 2, none⟩ = some (.int .i64 e) := (hb2.cells _ _ (by first | (simp; done) | (simp; omega) | omega)).trans r2
  have s3 : w2.cell? ⟨(w.heap.size + 1), 0, none⟩ = some (.int .i64 (24)) := (hb2.cells _ _ (by first | (simp; done) | (simp; omega) | omega)).trans r3
  have s4 : w2.cell? ⟨(w.heap.size + 1), 1, none⟩ = some (.int .i64 (-126)) := (hb2.cells _ _ (by first | (simp; done) | (simp; omega) | omega)).trans r4
  have s5 : w2.cell? ⟨(w.heap.size + 1), 2, none⟩ = some (.int .i64 (127)) := (hb2.cells _ _ (by first | (simp; done) | (simp; omega) | omega)).trans r5
  have sz : w.heap.size + 1 < w2.heap.size := World.block_lt_of_cell? _ _ s3
  clear r0 r1 r2 r3 r4 r5 rz
  go_wp2
  refine wp_region_within (by kernel_rfl) (by kernel_rfl) ?_
  repeat
    apply wpq_step rfl
    · intro wq hCq
      have q0 : wq.cell? ⟨w.heap.size, 0, none⟩ = some (.bool neg) := (hCq.cells _ _ (by first | (simp; done) | (simp; omega) | omega)).trans s0
      have q1 : wq.cell? ⟨w.heap.size, 1, none⟩ = some (.int .u64 m) := (hCq.cells _ _ (by first | (simp; done) | (simp; omega) | omega)).trans s1
      have q2 : wq.cell? ⟨w.heap.size, 2, none⟩ = some (.int .i64 e) := (hCq.cells _ _ (by first | (simp; done) | (simp; omega) | omega)).trans s2
      have q3 : wq.cell? ⟨(w.heap.size + 1), 0, none⟩ = some (.int .i64 (24)) := (hCq.cells _ _ (by first | (simp; done) | (simp; omega) | omega)).trans s3
      have q4 : wq.cell? ⟨(w.heap.size + 1), 1, none⟩ = some (.int .i64 (-126)) := (hCq.cells _ _ (by first | (simp; done) | (simp; omega) | omega)).trans s4
      have q5 : wq.cell? ⟨(w.heap.size + 1), 2, none⟩ = some (.int .i64 (127)) := (hCq.cells _ _ (by first | (simp; done) | (simp; omega) | omega)).trans s5
      have qz : w.heap.size + 1 < wq.heap.size := World.block_lt_of_cell? _ _ q3
      go_simp
      first | rfl | exact hCq.same (LQ.out _) | (trace_state; fail)
    simp only [Act.put, List.setIfInBounds_toArray, List.set_cons_zero, List.set_cons_succ]
  refine wpQuiet_nil ?_
  intro w3 hb3
  have t0 : w3.cell? ⟨w.heap.size, 0, none⟩ = some (.bool neg) := (hb3.cells _ _ (by first | (simp; done) | (simp; omega) | omega)).trans s0
  have t1 : w3.cell? ⟨w.heap.size, 1, none⟩ = some (.int .u64 m) := (hb3.cells _ _ (by first | (simp; done) | (simp; omega) | omega)).trans s1
  have t2 : w3.cell? ⟨w.heap.size, 2, none⟩ = some (.int .i64 e) := (hb3.cells _ _ (by first | (simp; done) | (simp; omega) | omega)).trans s2
  have t3 : w3.cell? ⟨(w.heap.size + 1), 0, none⟩ = some (.int .i64 (24)) := (hb3.cells _ _ (by first | (simp; done) | (simp; omega) | omega)).trans s3
  have t4 : w3.cell? ⟨(w.heap.size + 1), 1, none⟩ = some (.int .i64 (-126)) := (hb3.cells _ _ (by first | (simp; done) | (simp; omega) | omega)).trans s4
  have t5 : w3.cell? ⟨(w.heap.size + 1), 2, none⟩ = some (.int .i64 (127)) := (hb3.cells _ _ (by first | (simp; done) | (simp; omega) | omega)).trans s5
  have tz : w.heap.size + 1 < w3.heap.size := World.block_lt_of_cell? _ _ t3
  clear s0 s1 s2 s3 s4 s5 sz
  go_wp2_with fail
  refine (LD.out _).mono ?_; rintro e4 w4 ⟨rfl, rfl⟩
  go_wp2_with fail
  refine (SG.out _).mono ?_; rintro e5 w5 ⟨rfl, rfl⟩
  go_wp2
  go_ret2
  exact ⟨rfl, (by repeat (first | with_reducible exact Within.refl _ | with_reducible assumption | with_reducible refine Within.alloc ?_ _ | with_reducible refine Within.drew ?_ | with_reducible refine Within.setCell ?_ (by first | (simp; done) | (simp; omega)) _ | with_reducible refine Within.trans ?_ (by assumption)))⟩

set_option maxRecDepth 100000 in
set_option maxHeartbeats 600000 in
theorem round_S_top1_3 (m L q Lq : Nat) (e k : Int) (h1 : -20000 ≤ e) (h2 : e ≤ 20000) (hL : L ≤ 64) (hLq : Lq ≤ 64) (hk : max (e + (L : Int) - 24) (-149) = k) (LM : Hid (∀ w, Calls Tryd.prog 72 #[.int .u64 m] w fun e' w' => e' = .returned (.int .i64 (L : Nat)) ∧ w = w')) (DR : Hid (∀ w, Calls Tryd.prog 73 #[.agg #[.bool true, .int .u64 m, .int .i64 e], .int .i64 (k - e), .int .i64 3] w fun e' w' => e' = .returned (.tuple #[.int .u64 q, .bool true]) ∧ Within w w')) (LQ : Hid (∀ w, Calls Tryd.prog 72 #[.int .u64 q] w fun e' w' => e' = .returned (.int .i64 (Lq : Nat)) ∧ w = w')) (x g z : Nat) (hin : 128 < k + (Lq : Int)) (hcv : floatOfInt .f64 (16777215 : Int) = x) (LD : Hid (∀ w, Calls Tryd.prog 71 #[.float .f64 x, .int .i64 104] w fun e' w' => e' = .returned (.float .f64 g) ∧ w = w'))  (SG : Hid (∀ w, Calls Tryd.prog 74 #[.float .f64 g, .bool true] w fun e' w' => e' = .returned (.float .f64 z) ∧ w = w')) (hs : decide (e + (L : Int) - 1 < -126) = false) (w : World) : Calls Tryd.prog 58 #[.agg #[.bool true, .int .u64 m, .int .i64 e], .agg #[.int .i64 24, .int .i64 (-126), .int .i64 127], .int .i64 3] w fun e' w' => e' = .returned (.tuple #[.float .f64 z, .int .i64 5]) ∧ Within w w' := by
  have kl : -20100 ≤ k := by omega
  have ku : k ≤ 20100 := by omega
  have gw1 : IntKind.i64.wrap (e + (L : Int)) = e + (L : Int) := by rw [IntKind.wrap_i64]; omega
  have gw2 : IntKind.i64.wrap (k + (Lq : Int)) = k + (Lq : Int) := by rw [IntKind.wrap_i64]; omega
  have gw3 : IntKind.i64.wrap 128 = 128 := by decide
  have hcv' := fun (w : World) => run_convert_int_float (P := Tryd.prog) w 45 75 .u64 .f64 (16777215 : Int) (by kernel_rfl) (by kernel_rfl)
  rw [hcv] at hcv'
  have d : decide (k + (Lq : Int) ≤ 128) = false := decide_eq_false (by omega)
  clear hcv hin
  go_enter Tryd.func58, Tryd.ntmps58
  go_wp2
  refine wp_region_within (by kernel_rfl) (by kernel_rfl) ?_
  repeat
    apply wpq_step rfl
    · intro wq hCq
      have q0 : wq.cell? ⟨w.heap.size, 0, none⟩ = some (.bool true) := (hCq.cells _ _ (by first | (simp; done) | (simp; omega) | omega)).trans (by simp)
      have q1 : wq.cell? ⟨w.heap.size, 1, none⟩ = some (.int .u64 m) := (hCq.cells _ _ (by first | (simp; done) | (simp; omega) | omega)).trans (by simp)
      have q2 : wq.cell? ⟨w.heap.size, 2, none⟩ = some (.int .i64 e) := (hCq.cells _ _ (by first | (simp; done) | (simp; omega) | omega)).trans (by simp)
      have q3 : wq.cell? ⟨(w.heap.size + 1), 0, none⟩ = some (.int .i64 (24)) := (hCq.cells _ _ (by first | (simp; done) | (simp; omega) | omega)).trans (by simp)
      have q4 : wq.cell? ⟨(w.heap.size + 1), 1, none⟩ = some (.int .i64 (-126)) := (hCq.cells _ _ (by first | (simp; done) | (simp; omega) | omega)).trans (by simp)
      have q5 : wq.cell? ⟨(w.heap.size + 1), 2, none⟩ = some (.int .i64 (127)) := (hCq.cells _ _ (by first | (simp; done) | (simp; omega) | omega)).trans (by simp)
      have qz : w.heap.size + 1 < wq.heap.size := World.block_lt_of_cell? _ _ q3
      go_simp
      first | rfl | exact hCq.same (LM.out _) | (trace_state; fail)
    simp only [Act.put, List.setIfInBounds_toArray, List.set_cons_zero, List.set_cons_succ]
  refine wpQuiet_nil ?_
  intro w1 hb1
  have r0 : w1.cell? ⟨w.heap.size, 0, none⟩ = some (.bool true) := (hb1.cells _ _ (by first | (simp; done) | (simp; omega) | omega)).trans (by simp)
  have r1 : w1.cell? ⟨w.heap.size, 1, none⟩ = some (.int .u64 m) := (hb1.cells _ _ (by first | (simp; done) | (simp; omega) | omega)).trans (by simp)
  have r2 : w1.cell? ⟨w.heap.size, 2, none⟩ = some (.int .i64 e) := (hb1.cells _ _ (by first | (simp; done) | (simp; omega) | omega)).trans (by simp)
  have r3 : w1.cell? ⟨(w.heap.size + 1), 0, none⟩ = some (.int .i64 (24)) := (hb1.cells _ _ (by first | (simp; done) | (simp; omega) | omega)).trans (by simp)
  have r4 : w1.cell? ⟨(w.heap.size + 1), 1, none⟩ = some (.int .i64 (-126)) := (hb1.cells _ _ (by first | (simp; done) | (simp; omega) | omega)).trans (by simp)
  have r5 : w1.cell? ⟨(w.heap.size + 1), 2, none⟩ = some (.int .i64 (127)) := (hb1.cells _ _ (by first | (simp; done) | (simp; omega) | omega)).trans (by simp)
  have rz : w.heap.size + 1 < w1.heap.size := World.block_lt_of_cell? _ _ r3
  go_wp2_with fail
  refine (DR.out _).mono ?_; rintro e2 w2 ⟨rfl, hb2⟩
  have s0 : w2.cell? ⟨w.heap.size, 0, none⟩ = some (.bool true) := (hb2.cells _ _ (by first | (simp; done) | (simp; omega) | omega)).trans r0
  have s1 : w2.cell? ⟨w.heap.size, 1, none⟩ = some (.int .u64 m) := (hb2.cells _ _ (by first | (simp; done) | (simp; omega) | omega)).trans r1
  have s2 : w2.cell? ⟨w.heap.size, 2, none⟩ = some (.int .i64 e) := (hb2.cells _ _ (by first | (simp; done) | (simp; omega) | omega)).trans r2
  have s3 : w2.cell? ⟨(w.heap.size + 1), 0, none⟩ = some (.int .i64 (24)) := (hb2.cells _ _ (by first | (simp; done) | (simp; omega) | omega)).trans r3
  have s4 : w2.cell? ⟨(w.heap.size + 1), 1, none⟩ = some (.int .i64 (-126)) := (hb2.cells _ _ (by first | (simp; done) | (simp; omega) | omega)).trans r4
  have s5 : w2.cell? ⟨(w.heap.size + 1), 2, none⟩ = some (.int .i64 (127)) := (hb2.cells _ _ (by first | (simp; done) | (simp; omega) | omega)).trans r5
  have sz : w.heap.size + 1 < w2.heap.size := World.block_lt_of_cell? _ _ s3
  clear r0 r1 r2 r3 r4 r5 rz
  go_wp2
  refine wp_region_within (by kernel_rfl) (by kernel_rfl) ?_
  repeat
    apply wpq_step rfl
    · intro wq hCq
      have q0 : wq.cell? ⟨w.heap.size, 0, none⟩ = some (.bool true) := (hCq.cells _ _ (by first | (simp; done) | (simp; omega) | omega)).trans s0
      have q1 : wq.cell? ⟨w.heap.size, 1, none⟩ = some (.int .u64 m) := (hCq.cells _ _ (by first | (simp; done) | (simp; omega) | omega)).trans s1
      have q2 : wq.cell? ⟨w.heap.size, 2, none⟩ = some (.int .i64 e) := (hCq.cells _ _ (by first | (simp; done) | (simp; omega) | omega)).trans s2
      have q3 : wq.cell? ⟨(w.heap.size + 1), 0, none⟩ = some (.int .i64 (24)) := (hCq.cells _ _ (by first | (simp; done) | (simp; omega) | omega)).trans s3
      have q4 : wq.cell? ⟨(w.heap.size + 1), 1, none⟩ = some (.int .i64 (-126)) := (hCq.cells _ _ (by first | (simp; done) | (simp; omega) | omega)).trans s4
      have q5 : wq.cell? ⟨(w.heap.size + 1), 2, none⟩ = some (.int .i64 (127)) := (hCq.cells _ _ (by first | (simp; done) | (simp; omega) | omega)).trans s5
      have qz : w.heap.size + 1 < wq.heap.size := World.block_lt_of_cell? _ _ q3
      go_simp
      first | rfl | exact hCq.same (LQ.out _) | (trace_state; fail)
    simp only [Act.put, List.setIfInBounds_toArray, List.set_cons_zero, List.set_cons_succ]
  refine wpQuiet_nil ?_
  intro w3 hb3
  have t0 : w3.cell? ⟨w.heap.size, 0, none⟩ = some (.bool true) := (hb3.cells _ _ (by first | (simp; done) | (simp; omega) | omega)).trans s0
  have t1 : w3.cell? ⟨w.heap.size, 1, none⟩ = some (.int .u64 m) := (hb3.cells _ _ (by first | (simp; done) | (simp; omega) | omega)).trans s1
  have t2 : w3.cell? ⟨w.heap.size, 2, none⟩ = some (.int .i64 e) := (hb3.cells _ _ (by first | (simp; done) | (simp; omega) | omega)).trans s2
  have t3 : w3.cell? ⟨(w.heap.size + 1), 0, none⟩ = some (.int .i64 (24)) := (hb3.cells _ _ (by first | (simp; done) | (simp; omega) | omega)).trans s3
  have t4 : w3.cell? ⟨(w.heap.size + 1), 1, none⟩ = some (.int .i64 (-126)) := (hb3.cells _ _ (by first | (simp; done) | (simp; omega) | omega)).trans s4
  have t5 : w3.cell? ⟨(w.heap.size + 1), 2, none⟩ = some (.int .i64 (127)) := (hb3.cells _ _ (by first | (simp; done) | (simp; omega) | omega)).trans s5
  have tz : w.heap.size + 1 < w3.heap.size := World.block_lt_of_cell? _ _ t3
  clear s0 s1 s2 s3 s4 s5 sz
  go_wp2_with fail
  refine (LD.out _).mono ?_; rintro e4 w4 ⟨rfl, rfl⟩
  go_wp2_with fail
  refine (SG.out _).mono ?_; rintro e5 w5 ⟨rfl, rfl⟩
  go_wp2
  go_ret2
  exact ⟨rfl, (by repeat (first | with_reducible exact Within.refl _ | with_reducible assumption | with_reducible refine Within.alloc ?_ _ | with_reducible refine Within.drew ?_ | with_reducible refine Within.setCell ?_ (by first | (simp; done) | (simp; omega)) _ | with_reducible refine Within.trans ?_ (by assumption)))⟩

set_option maxRecDepth 100000 in
set_option maxHeartbeats 600000 in
theorem round_S_top1_4 (m L q Lq : Nat) (e k : Int) (h1 : -20000 ≤ e) (h2 : e ≤ 20000) (hL : L ≤ 64) (hLq : Lq ≤ 64) (hk : max (e + (L : Int) - 24) (-149) = k) (LM : Hid (∀ w, Calls Tryd.prog 72 #[.int .u64 m] w fun e' w' => e' = .returned (.int .i64 (L : Nat)) ∧ w = w')) (DR : Hid (∀ w, Calls Tryd.prog 73 #[.agg #[.bool false, .int .u64 m, .int .i64 e], .int .i64 (k - e), .int .i64 4] w fun e' w' => e' = .returned (.tuple #[.int .u64 q, .bool true]) ∧ Within w w')) (LQ : Hid (∀ w, Calls Tryd.prog 72 #[.int .u64 q] w fun e' w' => e' = .returned (.int .i64 (Lq : Nat)) ∧ w = w')) (x g z : Nat) (hin : 128 < k + (Lq : Int)) (hcv : floatOfInt .f64 (16777215 : Int) = x) (LD : Hid (∀ w, Calls Tryd.prog 71 #[.float .f64 x, .int .i64 104] w fun e' w' => e' = .returned (.float .f64 g) ∧ w = w'))  (SG : Hid (∀ w, Calls Tryd.prog 74 #[.float .f64 g, .bool false] w fun e' w' => e' = .returned (.float .f64 z) ∧ w = w')) (hs : decide (e + (L : Int) - 1 < -126) = false) (w : World) : Calls Tryd.prog 58 #[.agg #[.bool false, .int .u64 m, .int .i64 e], .agg #[.int .i64 24, .int .i64 (-126), .int .i64 127], .int .i64 4] w fun e' w' => e' = .returned (.tuple #[.float .f64 z, .int .i64 5]) ∧ Within w w' := by
  have kl : -20100 ≤ k := by omega
  have ku : k ≤ 20100 := by omega
  have gw1 : IntKind.i64.wrap (e + (L : Int)) = e + (L : Int) := by rw [IntKind.wrap_i64]; omega
  have gw2 : IntKind.i64.wrap (k + (Lq : Int)) = k + (Lq : Int) := by rw [IntKind.wrap_i64]; omega
  have gw3 : IntKind.i64.wrap 128 = 128 := by decide
  have hcv' := fun (w : World) => run_convert_int_float (P := Tryd.prog) w 45 75 .u64 .f64 (16777215 : Int) (by kernel_rfl) (by kernel_rfl)
  rw [hcv] at hcv'
  have d : decide (k + (Lq : Int) ≤ 128) = false := decide_eq_false (by omega)
  clear hcv hin
  go_enter Tryd.func58, Tryd.ntmps58
  go_wp2
  refine wp_region_within (by kernel_rfl) (by kernel_rfl) ?_
  repeat
    apply wpq_step rfl
    · intro wq hCq
      have q0 : wq.cell? ⟨w.heap.size, 0, none⟩ = some (.bool false) := (hCq.cells _ _ (by first | (simp; done) | (simp; omega) | omega)).trans (by simp)
      have q1 : wq.cell? ⟨w.heap.size, 1, none⟩ = some (.int .u64 m) := (hCq.cells _ _ (by first | (simp; done) | (simp; omega) | omega)).trans (by simp)
      have q2 : wq.cell? ⟨w.heap.size, 2, none⟩ = some (.int .i64 e) := (hCq.cells _ _ (by first | (simp; done) | (simp; omega) | omega)).trans (by simp)
      have q3 : wq.cell? ⟨(w.heap.size + 1), 0, none⟩ = some (.int .i64 (24)) := (hCq.cells _ _ (by first | (simp; done) | (simp; omega) | omega)).trans (by simp)
      have q4 : wq.cell? ⟨(w.heap.size + 1), 1, none⟩ = some (.int .i64 (-126)) := (hCq.cells _ _ (by first | (simp; done) | (simp; omega) | omega)).trans (by simp)
      have q5 : wq.cell? ⟨(w.heap.size + 1), 2, none⟩ = some (.int .i64 (127)) := (hCq.cells _ _ (by first | (simp; done) | (simp; omega) | omega)).trans (by simp)
      have qz : w.heap.size + 1 < wq.heap.size := World.block_lt_of_cell? _ _ q3
      go_simp
      first | rfl | exact hCq.same (LM.out _) | (trace_state; fail)
    simp only [Act.put, List.setIfInBounds_toArray, List.set_cons_zero, List.set_cons_succ]
  refine wpQuiet_nil ?_
  intro w1 hb1
  have r0 : w1.cell? ⟨w.heap.size, 0, none⟩ = some (.bool false) := (hb1.cells _ _ (by first | (simp; done) | (simp; omega) | omega)).trans (by simp)
  have r1 : w1.cell? ⟨w.heap.size, 1, none⟩ = some (.int .u64 m) := (hb1.cells _ _ (by first | (simp; done) | (simp; omega) | omega)).trans (by simp)
  have r2 : w1.cell? ⟨w.heap.size, 2, none⟩ = some (.int .i64 e) := (hb1.cells _ _ (by first | (simp; done) | (simp; omega) | omega)).trans (by simp)
  have r3 : w1.cell? ⟨(w.heap.size + 1), 0, none⟩ = some (.int .i64 (24)) := (hb1.cells _ _ (by first | (simp; done) | (simp; omega) | omega)).trans (by simp)
  have r4 : w1.cell? ⟨(w.heap.size + 1), 1, none⟩ = some (.int .i64 (-126)) := (hb1.cells _ _ (by first | (simp; done) | (simp; omega) | omega)).trans (by simp)
  have r5 : w1.cell? ⟨(w.heap.size + 1), 2, none⟩ = some (.int .i64 (127)) := (hb1.cells _ _ (by first | (simp; done) | (simp; omega) | omega)).trans (by simp)
  have rz : w.heap.size + 1 < w1.heap.size := World.block_lt_of_cell? _ _ r3
  go_wp2_with fail
  refine (DR.out _).mono ?_; rintro e2 w2 ⟨rfl, hb2⟩
  have s0 : w2.cell? ⟨w.heap.size, 0, none⟩ = some (.bool false) := (hb2.cells _ _ (by first | (simp; done) | (simp; omega) | omega)).trans r0
  have s1 : w2.cell? ⟨w.heap.size, 1, none⟩ = some (.int .u64 m) := (hb2.cells _ _ (by first | (simp; done) | (simp; omega) | omega)).trans r1
  have s2 : w2.cell? ⟨w.heap.size, 2, none⟩ = some (.int .i64 e) := (hb2.cells _ _ (by first | (simp; done) | (simp; omega) | omega)).trans r2
  have s3 : w2.cell? ⟨(w.heap.size + 1), 0, none⟩ = some (.int .i64 (24)) := (hb2.cells _ _ (by first | (simp; done) | (simp; omega) | omega)).trans r3
  have s4 : w2.cell? ⟨(w.heap.size + 1), 1, none⟩ = some (.int .i64 (-126)) := (hb2.cells _ _ (by first | (simp; done) | (simp; omega) | omega)).trans r4
  have s5 : w2.cell? ⟨(w.heap.size + 1), 2, none⟩ = some (.int .i64 (127)) := (hb2.cells _ _ (by first | (simp; done) | (simp; omega) | omega)).trans r5
  have sz : w.heap.size + 1 < w2.heap.size := World.block_lt_of_cell? _ _ s3
  clear r0 r1 r2 r3 r4 r5 rz
  go_wp2
  refine wp_region_within (by kernel_rfl) (by kernel_rfl) ?_
  repeat
    apply wpq_step rfl
    · intro wq hCq
      have q0 : wq.cell? ⟨w.heap.size, 0, none⟩ = some (.bool false) := (hCq.cells _ _ (by first | (simp; done) | (simp; omega) | omega)).trans s0
      have q1 : wq.cell? ⟨w.heap.size, 1, none⟩ = some (.int .u64 m) := (hCq.cells _ _ (by first | (simp; done) | (simp; omega) | omega)).trans s1
      have q2 : wq.cell? ⟨w.heap.size, 2, none⟩ = some (.int .i64 e) := (hCq.cells _ _ (by first | (simp; done) | (simp; omega) | omega)).trans s2
      have q3 : wq.cell? ⟨(w.heap.size + 1), 0, none⟩ = some (.int .i64 (24)) := (hCq.cells _ _ (by first | (simp; done) | (simp; omega) | omega)).trans s3
      have q4 : wq.cell? ⟨(w.heap.size + 1), 1, none⟩ = some (.int .i64 (-126)) := (hCq.cells _ _ (by first | (simp; done) | (simp; omega) | omega)).trans s4
      have q5 : wq.cell? ⟨(w.heap.size + 1), 2, none⟩ = some (.int .i64 (127)) := (hCq.cells _ _ (by first | (simp; done) | (simp; omega) | omega)).trans s5
      have qz : w.heap.size + 1 < wq.heap.size := World.block_lt_of_cell? _ _ q3
      go_simp
      first | rfl | exact hCq.same (LQ.out _) | (trace_state; fail)
    simp only [Act.put, List.setIfInBounds_toArray, List.set_cons_zero, List.set_cons_succ]
  refine wpQuiet_nil ?_
  intro w3 hb3
  have t0 : w3.cell? ⟨w.heap.size, 0, none⟩ = some (.bool false) := (hb3.cells _ _ (by first | (simp; done) | (simp; omega) | omega)).trans s0
  have t1 : w3.cell? ⟨w.heap.size, 1, none⟩ = some (.int .u64 m) := (hb3.cells _ _ (by first | (simp; done) | (simp; omega) | omega)).trans s1
  have t2 : w3.cell? ⟨w.heap.size, 2, none⟩ = some (.int .i64 e) := (hb3.cells _ _ (by first | (simp; done) | (simp; omega) | omega)).trans s2
  have t3 : w3.cell? ⟨(w.heap.size + 1), 0, none⟩ = some (.int .i64 (24)) := (hb3.cells _ _ (by first | (simp; done) | (simp; omega) | omega)).trans s3
  have t4 : w3.cell? ⟨(w.heap.size + 1), 1, none⟩ = some (.int .i64 (-126)) := (hb3.cells _ _ (by first | (simp; done) | (simp; omega) | omega)).trans s4
  have t5 : w3.cell? ⟨(w.heap.size + 1), 2, none⟩ = some (.int .i64 (127)) := (hb3.cells _ _ (by first | (simp; done) | (simp; omega) | omega)).trans s5
  have tz : w.heap.size + 1 < w3.heap.size := World.block_lt_of_cell? _ _ t3
  clear s0 s1 s2 s3 s4 s5 sz
  go_wp2_with fail
  refine (LD.out _).mono ?_; rintro e4 w4 ⟨rfl, rfl⟩
  go_wp2_with fail
  refine (SG.out _).mono ?_; rintro e5 w5 ⟨rfl, rfl⟩
  go_wp2
  go_ret2
  exact ⟨rfl, (by repeat (first | with_reducible exact Within.refl _ | with_reducible assumption | with_reducible refine Within.alloc ?_ _ | with_reducible refine Within.drew ?_ | with_reducible refine Within.setCell ?_ (by first | (simp; done) | (simp; omega)) _ | with_reducible refine Within.trans ?_ (by assumption)))⟩

set_option maxRecDepth 100000 in
set_option maxHeartbeats 600000 in
theorem round_S_inf1 (neg : Bool) (m L q Lq : Nat) (e k : Int) (mode : Int) (h1 : -20000 ≤ e) (h2 : e ≤ 20000) (hL : L ≤ 64) (hLq : Lq ≤ 64) (hk : max (e + (L : Int) - 24) (-149) = k) (LM : Hid (∀ w, Calls Tryd.prog 72 #[.int .u64 m] w fun e' w' => e' = .returned (.int .i64 (L : Nat)) ∧ w = w')) (DR : Hid (∀ w, Calls Tryd.prog 73 #[.agg #[.bool neg, .int .u64 m, .int .i64 e], .int .i64 (k - e), .int .i64 mode] w fun e' w' => e' = .returned (.tuple #[.int .u64 q, .bool true]) ∧ Within w w')) (LQ : Hid (∀ w, Calls Tryd.prog 72 #[.int .u64 q] w fun e' w' => e' = .returned (.int .i64 (Lq : Nat)) ∧ w = w')) (x g y z : Nat) (hin : 128 < k + (Lq : Int)) (hcv : floatOfInt .f64 (16777215 : Int) = x) (LD : Hid (∀ w, Calls Tryd.prog 71 #[.float .f64 x, .int .i64 104] w fun e' w' => e' = .returned (.float .f64 g) ∧ w = w')) (IN : Hid (∀ w, Calls Tryd.prog 75 #[.int .i64 1] w fun e' w' => e' = .returned (.float .f64 y) ∧ w = w')) (SG : Hid (∀ w, Calls Tryd.prog 74 #[.float .f64 y, .bool neg] w fun e' w' => e' = .returned (.float .f64 z) ∧ w = w')) (m2 : (mode == 2) = false) (m3 : (mode == 3) = false) (m4 : (mode == 4) = false) (hs : decide (e + (L : Int) - 1 < -126) = false) (w : World) : Calls Tryd.prog 58 #[.agg #[.bool neg, .int .u64 m, .int .i64 e], .agg #[.int .i64 24, .int .i64 (-126), .int .i64 127], .int .i64 mode] w fun e' w' => e' = .returned (.tuple #[.float .f64 z, .int .i64 5]) ∧ Within w w' := by
  have kl : -20100 ≤ k := by omega
  have ku : k ≤ 20100 := by omega
  have gw1 : IntKind.i64.wrap (e + (L : Int)) = e + (L : Int) := by rw [IntKind.wrap_i64]; omega
  have gw2 : IntKind.i64.wrap (k + (Lq : Int)) = k + (Lq : Int) := by rw [IntKind.wrap_i64]; omega
  have gw3 : IntKind.i64.wrap 128 = 128 := by decide
  have hcv' := fun (w : World) => run_convert_int_float (P := Tryd.prog) w 45 75 .u64 .f64 (16777215 : Int) (by kernel_rfl) (by kernel_rfl)
  rw [hcv] at hcv'
  have d : decide (k + (Lq : Int) ≤ 128) = false := decide_eq_false (by omega)
  clear hcv hin
  go_enter Tryd.func58, Tryd.ntmps58
  go_wp2
  refine wp_region_within (by kernel_rfl) (by kernel_rfl) ?_
  repeat
    apply wpq_step rfl
    · intro wq hCq
      have q0 : wq.cell? ⟨w.heap.size, 0, none⟩ = some (.bool neg) := (hCq.cells _ _ (by first | (simp; done) | (simp; omega) | omega)).trans (by simp)
      have q1 : wq.cell? ⟨w.heap.size, 1, none⟩ = some (.int .u64 m) := (hCq.cells _ _ (by first | (simp; done) | (simp; omega) | omega)).trans (by simp)
      have q2 : wq.cell? ⟨w.heap.size, 2, none⟩ = some (.int .i64 e) := (hCq.cells _ _ (by first | (simp; done) | (simp; omega) | omega)).trans (by simp)
      have q3 : wq.cell? ⟨(w.heap.size + 1), 0, none⟩ = some (.int .i64 (24)) := (hCq.cells _ _ (by first | (simp; done) | (simp; omega) | omega)).trans (by simp)
      have q4 : wq.cell? ⟨(w.heap.size + 1), 1, none⟩ = some (.int .i64 (-126)) := (hCq.cells _ _ (by first | (simp; done) | (simp; omega) | omega)).trans (by simp)
      have q5 : wq.cell? ⟨(w.heap.size + 1), 2, none⟩ = some (.int .i64 (127)) := (hCq.cells _ _ (by first | (simp; done) | (simp; omega) | omega)).trans (by simp)
      have qz : w.heap.size + 1 < wq.heap.size := World.block_lt_of_cell? _ _ q3
      go_simp
      first | rfl | exact hCq.same (LM.out _) | (trace_state; fail)
    simp only [Act.put, List.setIfInBounds_toArray, List.set_cons_zero, List.set_cons_succ]
  refine wpQuiet_nil ?_
  intro w1 hb1
  have r0 : w1.cell? ⟨w.heap.size, 0, none⟩ = some (.bool neg) := (hb1.cells _ _ (by first | (simp; done) | (simp; omega) | omega)).trans (by simp)
  have r1 : w1.cell? ⟨w.heap.size, 1, none⟩ = some (.int .u64 m) := (hb1.cells _ _ (by first | (simp; done) | (simp; omega) | omega)).trans (by simp)
  have r2 : w1.cell? ⟨w.heap.size, 2, none⟩ = some (.int .i64 e) := (hb1.cells _ _ (by first | (simp; done) | (simp; omega) | omega)).trans (by simp)
  have r3 : w1.cell? ⟨(w.heap.size + 1), 0, none⟩ = some (.int .i64 (24)) := (hb1.cells _ _ (by first | (simp; done) | (simp; omega) | omega)).trans (by simp)
  have r4 : w1.cell? ⟨(w.heap.size + 1), 1, none⟩ = some (.int .i64 (-126)) := (hb1.cells _ _ (by first | (simp; done) | (simp; omega) | omega)).trans (by simp)
  have r5 : w1.cell? ⟨(w.heap.size + 1), 2, none⟩ = some (.int .i64 (127)) := (hb1.cells _ _ (by first | (simp; done) | (simp; omega) | omega)).trans (by simp)
  have rz : w.heap.size + 1 < w1.heap.size := World.block_lt_of_cell? _ _ r3
  go_wp2_with fail
  refine (DR.out _).mono ?_; rintro e2 w2 ⟨rfl, hb2⟩
  have s0 : w2.cell? ⟨w.heap.size, 0, none⟩ = some (.bool neg) := (hb2.cells _ _ (by first | (simp; done) | (simp; omega) | omega)).trans r0
  have s1 : w2.cell? ⟨w.heap.size, 1, none⟩ = some (.int .u64 m) := (hb2.cells _ _ (by first | (simp; done) | (simp; omega) | omega)).trans r1
  have s2 : w2.cell? ⟨w.heap.size, 2, none⟩ = some (.int .i64 e) := (hb2.cells _ _ (by first | (simp; done) | (simp; omega) | omega)).trans r2
  have s3 : w2.cell? ⟨(w.heap.size + 1), 0, none⟩ = some (.int .i64 (24)) := (hb2.cells _ _ (by first | (simp; done) | (simp; omega) | omega)).trans r3
  have s4 : w2.cell? ⟨(w.heap.size + 1), 1, none⟩ = some (.int .i64 (-126)) := (hb2.cells _ _ (by first | (simp; done) | (simp; omega) | omega)).trans r4
  have s5 : w2.cell? ⟨(w.heap.size + 1), 2, none⟩ = some (.int .i64 (127)) := (hb2.cells _ _ (by first | (simp; done) | (simp; omega) | omega)).trans r5
  have sz : w.heap.size + 1 < w2.heap.size := World.block_lt_of_cell? _ _ s3
  clear r0 r1 r2 r3 r4 r5 rz
  go_wp2
  refine wp_region_within (by kernel_rfl) (by kernel_rfl) ?_
  repeat
    apply wpq_step rfl
    · intro wq hCq
      have q0 : wq.cell? ⟨w.heap.size, 0, none⟩ = some (.bool neg) := (hCq.cells _ _ (by first | (simp; done) | (simp; omega) | omega)).trans s0
      have q1 : wq.cell? ⟨w.heap.size, 1, none⟩ = some (.int .u64 m) := (hCq.cells _ _ (by first | (simp; done) | (simp; omega) | omega)).trans s1
      have q2 : wq.cell? ⟨w.heap.size, 2, none⟩ = some (.int .i64 e) := (hCq.cells _ _ (by first | (simp; done) | (simp; omega) | omega)).trans s2
      have q3 : wq.cell? ⟨(w.heap.size + 1), 0, none⟩ = some (.int .i64 (24)) := (hCq.cells _ _ (by first | (simp; done) | (simp; omega) | omega)).trans s3
      have q4 : wq.cell? ⟨(w.heap.size + 1), 1, none⟩ = some (.int .i64 (-126)) := (hCq.cells _ _ (by first | (simp; done) | (simp; omega) | omega)).trans s4
      have q5 : wq.cell? ⟨(w.heap.size + 1), 2, none⟩ = some (.int .i64 (127)) := (hCq.cells _ _ (by first | (simp; done) | (simp; omega) | omega)).trans s5
      have qz : w.heap.size + 1 < wq.heap.size := World.block_lt_of_cell? _ _ q3
      go_simp
      first | rfl | exact hCq.same (LQ.out _) | (trace_state; fail)
    simp only [Act.put, List.setIfInBounds_toArray, List.set_cons_zero, List.set_cons_succ]
  refine wpQuiet_nil ?_
  intro w3 hb3
  have t0 : w3.cell? ⟨w.heap.size, 0, none⟩ = some (.bool neg) := (hb3.cells _ _ (by first | (simp; done) | (simp; omega) | omega)).trans s0
  have t1 : w3.cell? ⟨w.heap.size, 1, none⟩ = some (.int .u64 m) := (hb3.cells _ _ (by first | (simp; done) | (simp; omega) | omega)).trans s1
  have t2 : w3.cell? ⟨w.heap.size, 2, none⟩ = some (.int .i64 e) := (hb3.cells _ _ (by first | (simp; done) | (simp; omega) | omega)).trans s2
  have t3 : w3.cell? ⟨(w.heap.size + 1), 0, none⟩ = some (.int .i64 (24)) := (hb3.cells _ _ (by first | (simp; done) | (simp; omega) | omega)).trans s3
  have t4 : w3.cell? ⟨(w.heap.size + 1), 1, none⟩ = some (.int .i64 (-126)) := (hb3.cells _ _ (by first | (simp; done) | (simp; omega) | omega)).trans s4
  have t5 : w3.cell? ⟨(w.heap.size + 1), 2, none⟩ = some (.int .i64 (127)) := (hb3.cells _ _ (by first | (simp; done) | (simp; omega) | omega)).trans s5
  have tz : w.heap.size + 1 < w3.heap.size := World.block_lt_of_cell? _ _ t3
  clear s0 s1 s2 s3 s4 s5 sz
  go_wp2_with fail
  refine (LD.out _).mono ?_; rintro e4 w4 ⟨rfl, rfl⟩
  go_wp2
  refine wp_region_within (by kernel_rfl) (by kernel_rfl) ?_
  repeat
    apply wpq_step rfl
    · intro wq hCq
      have q0 : wq.cell? ⟨w.heap.size, 0, none⟩ = some (.bool neg) := (hCq.cells _ _ (by first | (simp; done) | (simp; omega) | omega)).trans t0
      have q1 : wq.cell? ⟨w.heap.size, 1, none⟩ = some (.int .u64 m) := (hCq.cells _ _ (by first | (simp; done) | (simp; omega) | omega)).trans t1
      have q2 : wq.cell? ⟨w.heap.size, 2, none⟩ = some (.int .i64 e) := (hCq.cells _ _ (by first | (simp; done) | (simp; omega) | omega)).trans t2
      have q3 : wq.cell? ⟨(w.heap.size + 1), 0, none⟩ = some (.int .i64 (24)) := (hCq.cells _ _ (by first | (simp; done) | (simp; omega) | omega)).trans t3
      have q4 : wq.cell? ⟨(w.heap.size + 1), 1, none⟩ = some (.int .i64 (-126)) := (hCq.cells _ _ (by first | (simp; done) | (simp; omega) | omega)).trans t4
      have q5 : wq.cell? ⟨(w.heap.size + 1), 2, none⟩ = some (.int .i64 (127)) := (hCq.cells _ _ (by first | (simp; done) | (simp; omega) | omega)).trans t5
      have qz : w.heap.size + 1 < wq.heap.size := World.block_lt_of_cell? _ _ q3
      go_simp
      first | rfl | exact hCq.same (IN.out _) | exact hCq.same (SG.out _) | (trace_state; fail)
    simp only [Act.put, List.setIfInBounds_toArray, List.set_cons_zero, List.set_cons_succ]
  refine wpQuiet_nil ?_
  intro w5 hb5
  go_wp2
  go_ret2
  exact ⟨rfl, (by repeat (first | with_reducible exact Within.refl _ | with_reducible assumption | with_reducible refine Within.alloc ?_ _ | with_reducible refine Within.drew ?_ | with_reducible refine Within.setCell ?_ (by first | (simp; done) | (simp; omega)) _ | with_reducible refine Within.trans ?_ (by assumption)))⟩

set_option maxRecDepth 100000 in
set_option maxHeartbeats 600000 in
theorem round_S_inf1_3 (m L q Lq : Nat) (e k : Int) (h1 : -20000 ≤ e) (h2 : e ≤ 20000) (hL : L ≤ 64) (hLq : Lq ≤ 64) (hk : max (e + (L : Int) - 24) (-149) = k) (LM : Hid (∀ w, Calls Tryd.prog 72 #[.int .u64 m] w fun e' w' => e' = .returned (.int .i64 (L : Nat)) ∧ w = w')) (DR : Hid (∀ w, Calls Tryd.prog 73 #[.agg #[.bool false, .int .u64 m, .int .i64 e], .int .i64 (k - e), .int .i64 3] w fun e' w' => e' = .returned (.tuple #[.int .u64 q, .bool true]) ∧ Within w w')) (LQ : Hid (∀ w, Calls Tryd.prog 72 #[.int .u64 q] w fun e' w' => e' = .returned (.int .i64 (Lq : Nat)) ∧ w = w')) (x g y z : Nat) (hin : 128 < k + (Lq : Int)) (hcv : floatOfInt .f64 (16777215 : Int) = x) (LD : Hid (∀ w, Calls Tryd.prog 71 #[.float .f64 x, .int .i64 104] w fun e' w' => e' = .returned (.float .f64 g) ∧ w = w')) (IN : Hid (∀ w, Calls Tryd.prog 75 #[.int .i64 1] w fun e' w' => e' = .returned (.float .f64 y) ∧ w = w')) (SG : Hid (∀ w, Calls Tryd.prog 74 #[.float .f64 y, .bool false] w fun e' w' => e' = .returned (.float .f64 z) ∧ w = w')) (hs : decide (e + (L : Int) - 1 < -126) = false) (w : World) : Calls Tryd.prog 58 #[.agg #[.bool false, .int .u64 m, .int .i64 e], .agg #[.int .i64 24, .int .i64 (-126), .int .i64 127], .int .i64 3] w fun e' w' => e' = .returned (.tuple #[.float .f64 z, .int .i64 5]) ∧ Within w w' := by
  have kl : -20100 ≤ k := by omega
  have ku : k ≤ 20100 := by omega
  have gw1 : IntKind.i64.wrap (e + (L : Int)) = e + (L : Int) := by rw [IntKind.wrap_i64]; omega
  have gw2 : IntKind.i64.wrap (k + (Lq : Int)) = k + (Lq : Int) := by rw [IntKind.wrap_i64]; omega
  have gw3 : IntKind.i64.wrap 128 = 128 := by decide
  have hcv' := fun (w : World) => run_convert_int_float (P := Tryd.prog) w 45 75 .u64 .f64 (16777215 : Int) (by kernel_rfl) (by kernel_rfl)
  rw [hcv] at hcv'
  have d : decide (k + (Lq : Int) ≤ 128) = false := decide_eq_false (by omega)
  clear hcv hin
  go_enter Tryd.func58, Tryd.ntmps58
  go_wp2
  refine wp_region_within (by kernel_rfl) (by kernel_rfl) ?_
  repeat
    apply wpq_step rfl
    · intro wq hCq
      have q0 : wq.cell? ⟨w.heap.size, 0, none⟩ = some (.bool false) := (hCq.cells _ _ (by first | (simp; done) | (simp; omega) | omega)).trans (by simp)
      have q1 : wq.cell? ⟨w.heap.size, 1, none⟩ = some (.int .u64 m) := (hCq.cells _ _ (by first | (simp; done) | (simp; omega) | omega)).trans (by simp)
      have q2 : wq.cell? ⟨w.heap.size, 2, none⟩ = some (.int .i64 e) := (hCq.cells _ _ (by first | (simp; done) | (simp; omega) | omega)).trans (by simp)
      have q3 : wq.cell? ⟨(w.heap.size + 1), 0, none⟩ = some (.int .i64 (24)) := (hCq.cells _ _ (by first | (simp; done) | (simp; omega) | omega)).trans (by simp)
      have q4 : wq.cell? ⟨(w.heap.size + 1), 1, none⟩ = some (.int .i64 (-126)) := (hCq.cells _ _ (by first | (simp; done) | (simp; omega) | omega)).trans (by simp)
      have q5 : wq.cell? ⟨(w.heap.size + 1), 2, none⟩ = some (.int .i64 (127)) := (hCq.cells _ _ (by first | (simp; done) | (simp; omega) | omega)).trans (by simp)
      have qz : w.heap.size + 1 < wq.heap.size := World.block_lt_of_cell? _ _ q3
      go_simp
      first | rfl | exact hCq.same (LM.out _) | (trace_state; fail)
    simp only [Act.put, List.setIfInBounds_toArray, List.set_cons_zero, List.set_cons_succ]
  refine wpQuiet_nil ?_
  intro w1 hb1
  have r0 : w1.cell? ⟨w.heap.size, 0, none⟩ = some (.bool false) := (hb1.cells _ _ (by first | (simp; done) | (simp; omega) | omega)).trans (by simp)
  have r1 : w1.cell? ⟨w.heap.size, 1, none⟩ = some (.int .u64 m) := (hb1.cells _ _ (by first | (simp; done) | (simp; omega) | omega)).trans (by simp)
  have r2 : w1.cell? ⟨w.heap.size, 2, none⟩ = some (.int .i64 e) := (hb1.cells _ _ (by first | (simp; done) | (simp; omega) | omega)).trans (by simp)
  have r3 : w1.cell? ⟨(w.heap.size + 1), 0, none⟩ = some (.int .i64 (24)) := (hb1.cells _ _ (by first | (simp; done) | (simp; omega) | omega)).trans (by simp)
  have r4 : w1.cell? ⟨(w.heap.size + 1), 1, none⟩ = some (.int .i64 (-126)) := (hb1.cells _ _ (by first | (simp; done) | (simp; omega) | omega)).trans (by simp)
  have r5 : w1.cell? ⟨(w.heap.size + 1), 2, none⟩ = some (.int .i64 (127)) := (hb1.cells _ _ (by first | (simp; done) | (simp; omega) | omega)).trans (by simp)
  have rz : w.heap.size + 1 < w1.heap.size := World.block_lt_of_cell? _ _ r3
  go_wp2_with fail
  refine (DR.out _).mono ?_; rintro e2 w2 ⟨rfl, hb2⟩
  have s0 : w2.cell? ⟨w.heap.size, 0, none⟩ = some (.bool false) := (hb2.cells _ _ (by first | (simp; done) | (simp; omega) | omega)).trans r0
  have s1 : w2.cell? ⟨w.heap.size, 1, none⟩ = some (.int .u64 m) := (hb2.cells _ _ (by first | (simp; done) | (simp; omega) | omega)).trans r1
  have s2 : w2.cell? ⟨w.heap.size, 2, none⟩ = some (.int .i64 e) := (hb2.cells _ _ (by first | (simp; done) | (simp; omega) | omega)).trans r2
  have s3 : w2.cell? ⟨(w.heap.size + 1), 0, none⟩ = some (.int .i64 (24)) := (hb2.cells _ _ (by first | (simp; done) | (simp; omega) | omega)).trans r3
  have s4 : w2.cell? ⟨(w.heap.size + 1), 1, none⟩ = some (.int .i64 (-126)) := (hb2.cells _ _ (by first | (simp; done) | (simp; omega) | omega)).trans r4
  have s5 : w2.cell? ⟨(w.heap.size + 1), 2, none⟩ = some (.int .i64 (127)) := (hb2.cells _ _ (by first | (simp; done) | (simp; omega) | omega)).trans r5
  have sz : w.heap.size + 1 < w2.heap.size := World.block_lt_of_cell? _ _ s3
  clear r0 r1 r2 r3 r4 r5 rz
  go_wp2
  refine wp_region_within (by kernel_rfl) (by kernel_rfl) ?_
  repeat
    apply wpq_step rfl
    · intro wq hCq
      have q0 : wq.cell? ⟨w.heap.size, 0, none⟩ = some (.bool false) := (hCq.cells _ _ (by first | (simp; done) | (simp; omega) | omega)).trans s0
      have q1 : wq.cell? ⟨w.heap.size, 1, none⟩ = some (.int .u64 m) := (hCq.cells _ _ (by first | (simp; done) | (simp; omega) | omega)).trans s1
      have q2 : wq.cell? ⟨w.heap.size, 2, none⟩ = some (.int .i64 e) := (hCq.cells _ _ (by first | (simp; done) | (simp; omega) | omega)).trans s2
      have q3 : wq.cell? ⟨(w.heap.size + 1), 0, none⟩ = some (.int .i64 (24)) := (hCq.cells _ _ (by first | (simp; done) | (simp; omega) | omega)).trans s3
      have q4 : wq.cell? ⟨(w.heap.size + 1), 1, none⟩ = some (.int .i64 (-126)) := (hCq.cells _ _ (by first | (simp; done) | (simp; omega) | omega)).trans s4
      have q5 : wq.cell? ⟨(w.heap.size + 1), 2, none⟩ = some (.int .i64 (127)) := (hCq.cells _ _ (by first | (simp; done) | (simp; omega) | omega)).trans s5
      have qz : w.heap.size + 1 < wq.heap.size := World.block_lt_of_cell? _ _ q3
      go_simp
      first | rfl | exact hCq.same (LQ.out _) | (trace_state; fail)
    simp only [Act.put, List.setIfInBounds_toArray, List.set_cons_zero, List.set_cons_succ]
  refine wpQuiet_nil ?_
  intro w3 hb3
  have t0 : w3.cell? ⟨w.heap.size, 0, none⟩ = some (.bool false) := (hb3.cells _ _ (by first | (simp; done) | (simp; omega) | omega)).trans s0
  have t1 : w3.cell? ⟨w.heap.size, 1, none⟩ = some (.int .u64 m) := (hb3.cells _ _ (by first | (simp; done) | (simp; omega) | omega)).trans s1
  have t2 : w3.cell? ⟨w.heap.size, 2, none⟩ = some (.int .i64 e) := (hb3.cells _ _ (by first | (simp; done) | (simp; omega) | omega)).trans s2
  have t3 : w3.cell? ⟨(w.heap.size + 1), 0, none⟩ = some (.int .i64 (24)) := (hb3.cells _ _ (by first | (simp; done) | (simp; omega) | omega)).trans s3
  have t4 : w3.cell? ⟨(w.heap.size + 1), 1, none⟩ = some (.int .i64 (-126)) := (hb3.cells _ _ (by first | (simp; done) | (simp; omega) | omega)).trans s4
  have t5 : w3.cell? ⟨(w.heap.size + 1), 2, none⟩ = some (.int .i64 (127)) := (hb3.cells _ _ (by first | (simp; done) | (simp; omega) | omega)).trans s5
  have tz : w.heap.size + 1 < w3.heap.size := World.block_lt_of_cell? _ _ t3
  clear s0 s1 s2 s3 s4 s5 sz
  go_wp2_with fail
  refine (LD.out _).mono ?_; rintro e4 w4 ⟨rfl, rfl⟩
  go_wp2
  refine wp_region_within (by kernel_rfl) (by kernel_rfl) ?_
  repeat
    apply wpq_step rfl
    · intro wq hCq
      have q0 : wq.cell? ⟨w.heap.size, 0, none⟩ = some (.bool false) := (hCq.cells _ _ (by first | (simp; done) | (simp; omega) | omega)).trans t0
      have q1 : wq.cell? ⟨w.heap.size, 1, none⟩ = some (.int .u64 m) := (hCq.cells _ _ (by first | (simp; done) | (simp; omega) | omega)).trans t1
      have q2 : wq.cell? ⟨w.heap.size, 2, none⟩ = some (.int .i64 e) := (hCq.cells _ _ (by first | (simp; done) | (simp; omega) | omega)).trans t2
      have q3 : wq.cell? ⟨(w.heap.size + 1), 0, none⟩ = some (.int .i64 (24)) := (hCq.cells _ _ (by first | (simp; done) | (simp; omega) | omega)).trans t3
      have q4 : wq.cell? ⟨(w.heap.size + 1), 1, none⟩ = some (.int .i64 (-126)) := (hCq.cells _ _ (by first | (simp; done) | (simp; omega) | omega)).trans t4
      have q5 : wq.cell? ⟨(w.heap.size + 1), 2, none⟩ = some (.int .i64 (127)) := (hCq.cells _ _ (by first | (simp; done) | (simp; omega) | omega)).trans t5
      have qz : w.heap.size + 1 < wq.heap.size := World.block_lt_of_cell? _ _ q3
      go_simp
      first | rfl | exact hCq.same (IN.out _) | exact hCq.same (SG.out _) | (trace_state; fail)
    simp only [Act.put, List.setIfInBounds_toArray, List.set_cons_zero, List.set_cons_succ]
  refine wpQuiet_nil ?_
  intro w5 hb5
  go_wp2
  go_ret2
  exact ⟨rfl, (by repeat (first | with_reducible exact Within.refl _ | with_reducible assumption | with_reducible refine Within.alloc ?_ _ | with_reducible refine Within.drew ?_ | with_reducible refine Within.setCell ?_ (by first | (simp; done) | (simp; omega)) _ | with_reducible refine Within.trans ?_ (by assumption)))⟩

set_option maxRecDepth 100000 in
set_option maxHeartbeats 600000 in
theorem round_S_inf1_4 (m L q Lq : Nat) (e k : Int) (h1 : -20000 ≤ e) (h2 : e ≤ 20000) (hL : L ≤ 64) (hLq : Lq ≤ 64) (hk : max (e + (L : Int) - 24) (-149) = k) (LM : Hid (∀ w, Calls Tryd.prog 72 #[.int .u64 m] w fun e' w' => e' = .returned (.int .i64 (L : Nat)) ∧ w = w')) (DR : Hid (∀ w, Calls Tryd.prog 73 #[.agg #[.bool true, .int .u64 m, .int .i64 e], .int .i64 (k - e), .int .i64 4] w fun e' w' => e' = .returned (.tuple #[.int .u64 q, .bool true]) ∧ Within w w')) (LQ : Hid (∀ w, Calls Tryd.prog 72 #[.int .u64 q] w fun e' w' => e' = .returned (.int .i64 (Lq : Nat)) ∧ w = w')) (x g y z : Nat) (hin : 128 < k + (Lq : Int)) (hcv : floatOfInt .f64 (16777215 : Int) = x) (LD : Hid (∀ w, Calls Tryd.prog 71 #[.float .f64 x, .int .i64 104] w fun e' w' => e' = .returned (.float .f64 g) ∧ w = w')) (IN : Hid (∀ w, Calls Tryd.prog 75 #[.int .i64 1] w fun e' w' => e' = .returned (.float .f64 y) ∧ w = w')) (SG : Hid (∀ w, Calls Tryd.prog 74 #[.float .f64 y, .bool true] w fun e' w' => e' = .returned (.float .f64 z) ∧ w = w')) (hs : decide (e + (L : Int) - 1 < -126) = false) (w : World) : Calls Tryd.prog 58 #[.agg #[.bool true, .int .u64 m, .int .i64 e], .agg #[.int .i64 24, .int .i64 (-126), .int .i64 127], .int .i64 4] w fun e' w' => e' = .returned (.tuple #[.float .f64 z, .int .i64 5]) ∧ Within w w' := by
  have kl : -20100 ≤ k := by omega
  have ku : k ≤ 20100 := by omega
  have gw1 : IntKind.i64.wrap (e + (L : Int)) = e + (L : Int) := by rw [IntKind.wrap_i64]; omega
  have gw2 : IntKind.i64.wrap (k + (Lq : Int)) = k + (Lq : Int) := by rw [IntKind.wrap_i64]; omega
  have gw3 : IntKind.i64.wrap 128 = 128 := by decide
  have hcv' := fun (w : World) => run_convert_int_float (P := Tryd.prog) w 45 75 .u64 .f64 (16777215 : Int) (by kernel_rfl) (by kernel_rfl)
  rw [hcv] at hcv'
  have d : decide (k + (Lq : Int) ≤ 128) = false := decide_eq_false (by omega)
  clear hcv hin
  go_enter Tryd.func58, Tryd.ntmps58
  go_wp2
  refine wp_region_within (by kernel_rfl) (by kernel_rfl) ?_
  repeat
    apply wpq_step rfl
    · intro wq hCq
      have q0 : wq.cell? ⟨w.heap.size, 0, none⟩ = some (.bool true) := (hCq.cells _ _ (by first | (simp; done) | (simp; omega) | omega)).trans (by simp)
      have q1 : wq.cell? ⟨w.heap.size, 1, none⟩ = some (.int .u64 m) := (hCq.cells _ _ (by first | (simp; done) | (simp; omega) | omega)).trans (by simp)
      have q2 : wq.cell? ⟨w.heap.size, 2, none⟩ = some (.int .i64 e) := (hCq.cells _ _ (by first | (simp; done) | (simp; omega) | omega)).trans (by simp)
      have q3 : wq.cell? ⟨(w.heap.size + 1), 0, none⟩ = some (.int .i64 (24)) := (hCq.cells _ _ (by first | (simp; done) | (simp; omega) | omega)).trans (by simp)
      have q4 : wq.cell? ⟨(w.heap.size + 1), 1, none⟩ = some (.int .i64 (-126)) := (hCq.cells _ _ (by first | (simp; done) | (simp; omega) | omega)).trans (by simp)
      have q5 : wq.cell? ⟨(w.heap.size + 1), 2, none⟩ = some (.int .i64 (127)) := (hCq.cells _ _ (by first | (simp; done) | (simp; omega) | omega)).trans (by simp)
      have qz : w.heap.size + 1 < wq.heap.size := World.block_lt_of_cell? _ _ q3
      go_simp
      first | rfl | exact hCq.same (LM.out _) | (trace_state; fail)
    simp only [Act.put, List.setIfInBounds_toArray, List.set_cons_zero, List.set_cons_succ]
  refine wpQuiet_nil ?_
  intro w1 hb1
  have r0 : w1.cell? ⟨w.heap.size, 0, none⟩ = some (.bool true) := (hb1.cells _ _ (by first | (simp; done) | (simp; omega) | omega)).trans (by simp)
  have r1 : w1.cell? ⟨w.heap.size, 1, none⟩ = some (.int .u64 m) := (hb1.cells _ _ (by first | (simp; done) | (simp; omega) | omega)).trans (by simp)
  have r2 : w1.cell? ⟨w.heap.size, 2, none⟩ = some (.int .i64 e) := (hb1.cells _ _ (by first | (simp; done) | (simp; omega) | omega)).trans (by simp)
  have r3 : w1.cell? ⟨(w.heap.size + 1), 0, none⟩ = some (.int .i64 (24)) := (hb1.cells _ _ (by first | (simp; done) | (simp; omega) | omega)).trans (by simp)
  have r4 : w1.cell? ⟨(w.heap.size + 1), 1, none⟩ = some (.int .i64 (-126)) := (hb1.cells _ _ (by first | (simp; done) | (simp; omega) | omega)).trans (by simp)
  have r5 : w1.cell? ⟨(w.heap.size + 1), 2, none⟩ = some (.int .i64 (127)) := (hb1.cells _ _ (by first | (simp; done) | (simp; omega) | omega)).trans (by simp)
  have rz : w.heap.size + 1 < w1.heap.size := World.block_lt_of_cell? _ _ r3
  go_wp2_with fail
  refine (DR.out _).mono ?_; rintro e2 w2 ⟨rfl, hb2⟩
  have s0 : w2.cell? ⟨w.heap.size, 0, none⟩ = some (.bool true) := (hb2.cells _ _ (by first | (simp; done) | (simp; omega) | omega)).trans r0
  have s1 : w2.cell? ⟨w.heap.size, 1, none⟩ = some (.int .u64 m) := (hb2.cells _ _ (by first | (simp; done) | (simp; omega) | omega)).trans r1
  have s2 : w2.cell? ⟨w.heap.size, 2, none⟩ = some (.int .i64 e) := (hb2.cells _ _ (by first | (simp; done) | (simp; omega) | omega)).trans r2
  have s3 : w2.cell? ⟨(w.heap.size + 1), 0, none⟩ = some (.int .i64 (24)) := (hb2.cells _ _ (by first | (simp; done) | (simp; omega) | omega)).trans r3
  have s4 : w2.cell? ⟨(w.heap.size + 1), 1, none⟩ = some (.int .i64 (-126)) := (hb2.cells _ _ (by first | (simp; done) | (simp; omega) | omega)).trans r4
  have s5 : w2.cell? ⟨(w.heap.size + 1), 2, none⟩ = some (.int .i64 (127)) := (hb2.cells _ _ (by first | (simp; done) | (simp; omega) | omega)).trans r5
  have sz : w.heap.size + 1 < w2.heap.size := World.block_lt_of_cell? _ _ s3
  clear r0 r1 r2 r3 r4 r5 rz
  go_wp2
  refine wp_region_within (by kernel_rfl) (by kernel_rfl) ?_
  repeat
    apply wpq_step rfl
    · intro wq hCq
      have q0 : wq.cell? ⟨w.heap.size, 0, none⟩ = some (.bool true) := (hCq.cells _ _ (by first | (simp; done) | (simp; omega) | omega)).trans s0
      have q1 : wq.cell? ⟨w.heap.size, 1, none⟩ = some (.int .u64 m) := (hCq.cells _ _ (by first | (simp; done) | (simp; omega) | omega)).trans s1
      have q2 : wq.cell? ⟨w.heap.size, 2, none⟩ = some (.int .i64 e) := (hCq.cells _ _ (by first | (simp; done) | (simp; omega) | omega)).trans s2
      have q3 : wq.cell? ⟨(w.heap.size + 1), 0, none⟩ = some (.int .i64 (24)) := (hCq.cells _ _ (by first | (simp; done) | (simp; omega) | omega)).trans s3
      have q4 : wq.cell? ⟨(w.heap.size + 1), 1, none⟩ = some (.int .i64 (-126)) := (hCq.cells _ _ (by first | (simp; done) | (simp; omega) | omega)).trans s4
      have q5 : wq.cell? ⟨(w.heap.size + 1), 2, none⟩ = some (.int .i64 (127)) := (hCq.cells _ _ (by first | (simp; done) | (simp; omega) | omega)).trans s5
      have qz : w.heap.size + 1 < wq.heap.size := World.block_lt_of_cell? _ _ q3
      go_simp
      first | rfl | exact hCq.same (LQ.out _) | (trace_state; fail)
    simp only [Act.put, List.setIfInBounds_toArray, List.set_cons_zero, List.set_cons_succ]
  refine wpQuiet_nil ?_
  intro w3 hb3
  have t0 : w3.cell? ⟨w.heap.size, 0, none⟩ = some (.bool true) := (hb3.cells _ _ (by first | (simp; done) | (simp; omega) | omega)).trans s0
  have t1 : w3.cell? ⟨w.heap.size, 1, none⟩ = some (.int .u64 m) := (hb3.cells _ _ (by first | (simp; done) | (simp; omega) | omega)).trans s1
  have t2 : w3.cell? ⟨w.heap.size, 2, none⟩ = some (.int .i64 e) := (hb3.cells _ _ (by first | (simp; done) | (simp; omega) | omega)).trans s2
  have t3 : w3.cell? ⟨(w.heap.size + 1), 0, none⟩ = some (.int .i64 (24)) := (hb3.cells _ _ (by first | (simp; done) | (simp; omega) | omega)).trans s3
  have t4 : w3.cell? ⟨(w.heap.size + 1), 1, none⟩ = some (.int .i64 (-126)) := (hb3.cells _ _ (by first | (simp; done) | (simp; omega) | omega)).trans s4
  have t5 : w3.cell? ⟨(w.heap.size + 1), 2, none⟩ = some (.int .i64 (127)) := (hb3.cells _ _ (by first | (simp; done) | (simp; omega) | omega)).trans s5
  have tz : w.heap.size + 1 < w3.heap.size := World.block_lt_of_cell? _ _ t3
  clear s0 s1 s2 s3 s4 s5 sz
  go_wp2_with fail
  refine (LD.out _).mono ?_; rintro e4 w4 ⟨rfl, rfl⟩
  go_wp2
  refine wp_region_within (by kernel_rfl) (by kernel_rfl) ?_
  repeat
    apply wpq_step rfl
    · intro wq hCq
      have q0 : wq.cell? ⟨w.heap.size, 0, none⟩ = some (.bool true) := (hCq.cells _ _ (by first | (simp; done) | (simp; omega) | omega)).trans t0
      have q1 : wq.cell? ⟨w.heap.size, 1, none⟩ = some (.int .u64 m) := (hCq.cells _ _ (by first | (simp; done) | (simp; omega) | omega)).trans t1
      have q2 : wq.cell? ⟨w.heap.size, 2, none⟩ = some (.int .i64 e) := (hCq.cells _ _ (by first | (simp; done) | (simp; omega) | omega)).trans t2
      have q3 : wq.cell? ⟨(w.heap.size + 1), 0, none⟩ = some (.int .i64 (24)) := (hCq.cells _ _ (by first | (simp; done) | (simp; omega) | omega)).trans t3
      have q4 : wq.cell? ⟨(w.heap.size + 1), 1, none⟩ = some (.int .i64 (-126)) := (hCq.cells _ _ (by first | (simp; done) | (simp; omega) | omega)).trans t4
      have q5 : wq.cell? ⟨(w.heap.size + 1), 2, none⟩ = some (.int .i64 (127)) := (hCq.cells _ _ (by first | (simp; done) | (simp; omega) | omega)).trans t5
      have qz : w.heap.size + 1 < wq.heap.size := World.block_lt_of_cell? _ _ q3
      go_simp
      first | rfl | exact hCq.same (IN.out _) | exact hCq.same (SG.out _) | (trace_state; fail)
    simp only [Act.put, List.setIfInBounds_toArray, List.set_cons_zero, List.set_cons_succ]
  refine wpQuiet_nil ?_
  intro w5 hb5
  go_wp2
  go_ret2
  exact ⟨rfl, (by repeat (first | with_reducible exact Within.refl _ | with_reducible assumption | with_reducible refine Within.alloc ?_ _ | with_reducible refine Within.drew ?_ | with_reducible refine Within.setCell ?_ (by first | (simp; done) | (simp; omega)) _ | with_reducible refine Within.trans ?_ (by assumption)))⟩

end Go.Proofs.YtmpcnhiklpahnaaDoor
