/- AnatomyParts: any number's parts, and the numbers that parts make: the walk. -/
import Derived.Test.YthjaponkbodooaaDoorRef10
namespace Go.Proofs.YthjaponkbodooaaDoor
open Go.RowKit

set_option maxRecDepth 100000 in
set_option maxHeartbeats 600000 in
theorem parts_core (a y mant md ms od os : Nat) (neg nd ns : Bool) (e ed es xd xs qd qs : Int) (w : World) (hT : Tab w) (PD : Hid (∀ w, Tab w → Calls Tryd.prog 12 #[.float .f64 a] w fun e' w' => e' = .returned (.tuple #[.agg #[.bool nd, .int .u64 md, .int .i64 ed], .int .i64 xd]) ∧ Within w w')) (RD : Hid (∀ w, Calls Tryd.prog 14 #[.float .f64 a] w fun e' w' => e' = .returned (.tuple #[.agg #[.bool nd, .int .u64 md, .int .i64 ed], .int .i64 xd]) ∧ Within w w')) (PS : Hid (∀ w, Tab w → Calls Tryd.prog 16 #[.float .f32 y] w fun e' w' => e' = .returned (.tuple #[.agg #[.bool ns, .int .u64 ms, .int .i64 es], .int .i64 xs]) ∧ Within w w')) (RS : Hid (∀ w, Calls Tryd.prog 18 #[.float .f32 y] w fun e' w' => e' = .returned (.tuple #[.agg #[.bool ns, .int .u64 ms, .int .i64 es], .int .i64 xs]) ∧ Within w w')) (OD : Hid (∀ w, Tab w → Calls Tryd.prog 19 #[.agg #[.bool neg, .int .u64 mant, .int .i64 e]] w fun e' w' => e' = .returned (.tuple #[.float .f64 od, .int .i64 qd]) ∧ Within w w')) (ROD : Hid (∀ w, Calls Tryd.prog 20 #[.agg #[.bool neg, .int .u64 mant, .int .i64 e]] w fun e' w' => e' = .returned (.tuple #[.float .f64 od, .int .i64 qd]) ∧ Within w w')) (OS : Hid (∀ w, Tab w → Calls Tryd.prog 22 #[.agg #[.bool neg, .int .u64 mant, .int .i64 e]] w fun e' w' => e' = .returned (.tuple #[.float .f32 os, .int .i64 qs]) ∧ Within w w')) (ROS : Hid (∀ w, Calls Tryd.prog 23 #[.agg #[.bool neg, .int .u64 mant, .int .i64 e]] w fun e' w' => e' = .returned (.tuple #[.float .f32 os, .int .i64 qs]) ∧ Within w w')) (SD : Hid (∀ w, Calls Tryd.prog 21 #[.float .f64 od, .float .f64 od] w fun e' w' => e' = .returned (.bool true) ∧ w = w')) (SS : Hid (∀ w, Calls Tryd.prog 24 #[.float .f32 os, .float .f32 os] w fun e' w' => e' = .returned (.bool true) ∧ w = w')) : Calls Tryd.prog 3 #[.int .u64 a, .int .u32 y, .agg #[.bool neg, .int .u64 mant, .int .i64 e]] w fun e' w' => e' = .returned (.bool true) ∧ Within w w' := by
  have j1 : (xd != xd) = false := by simp
  have j2 : (xs != xs) = false := by simp
  have j3 : (qd != qd) = false := by simp
  have j4 : (qs == qs) = true := by simp
  have LD := Lib.hid (fun w => lparts_any nd nd md md ed ed w)
  simp only [beq_self_eq_true, Bool.and_self] at LD
  have LS := Lib.hid (fun w => lparts_any ns ns ms ms es es w)
  simp only [beq_self_eq_true, Bool.and_self] at LS
  go_enter Tryd.func3, Tryd.ntmps3
  go_wp2_with fail
  refine (f_any a _).mono ?_; rintro e1 w1 ⟨rfl, rfl⟩
  go_wp2_with fail
  refine (PD.out _ (hT.of (by repeat (first | with_reducible exact Within.refl _ | with_reducible assumption | with_reducible refine Within.alloc ?_ _ | with_reducible refine Within.drew ?_ | with_reducible refine Within.setCell ?_ (by first | (simp; done) | (simp; omega)) _ | with_reducible refine Within.trans ?_ (by assumption))))).mono ?_; rintro e2 w2 ⟨rfl, hb2⟩
  have r2_p0 : w2.cell? ⟨w.heap.size, 0, none⟩ = some (.bool neg) := (hb2.cells _ _ (by first | (simp; done) | (simp; omega) | omega)).trans (by go_simp)
  have r2_p1 : w2.cell? ⟨w.heap.size, 1, none⟩ = some (.int .u64 mant) := (hb2.cells _ _ (by first | (simp; done) | (simp; omega) | omega)).trans (by go_simp)
  have r2_p2 : w2.cell? ⟨w.heap.size, 2, none⟩ = some (.int .i64 e) := (hb2.cells _ _ (by first | (simp; done) | (simp; omega) | omega)).trans (by go_simp)
  have z2_p : w.heap.size < w2.heap.size := World.block_lt_of_cell? _ _ r2_p0
  go_wp2_with fail
  refine (f_any a _).mono ?_; rintro e3 w3 ⟨rfl, rfl⟩
  go_wp2_with fail
  refine (RD.out _).mono ?_; rintro e4 w4 ⟨rfl, hb4⟩
  have r4_p0 : w4.cell? ⟨w.heap.size, 0, none⟩ = some (.bool neg) := (hb4.cells _ _ (by first | (simp; done) | (simp; omega) | omega)).trans (by go_simp)
  have r4_p1 : w4.cell? ⟨w.heap.size, 1, none⟩ = some (.int .u64 mant) := (hb4.cells _ _ (by first | (simp; done) | (simp; omega) | omega)).trans (by go_simp)
  have r4_p2 : w4.cell? ⟨w.heap.size, 2, none⟩ = some (.int .i64 e) := (hb4.cells _ _ (by first | (simp; done) | (simp; omega) | omega)).trans (by go_simp)
  have z4_p : w.heap.size < w4.heap.size := World.block_lt_of_cell? _ _ r4_p0
  have r4_q0 : w4.cell? ⟨w2.heap.size, 0, none⟩ = some (.bool nd) := (hb4.cells _ _ (by first | (simp; done) | (simp; omega) | omega)).trans (by go_simp)
  have y4_q0 : w4.frozen? ⟨w2.heap.size, 0, none⟩ = false := (hb4.frozens _ _ (by first | (simp; done) | (simp; omega) | omega)).trans (by go_simp)
  have r4_q1 : w4.cell? ⟨w2.heap.size, 1, none⟩ = some (.int .u64 md) := (hb4.cells _ _ (by first | (simp; done) | (simp; omega) | omega)).trans (by go_simp)
  have y4_q1 : w4.frozen? ⟨w2.heap.size, 1, none⟩ = false := (hb4.frozens _ _ (by first | (simp; done) | (simp; omega) | omega)).trans (by go_simp)
  have r4_q2 : w4.cell? ⟨w2.heap.size, 2, none⟩ = some (.int .i64 ed) := (hb4.cells _ _ (by first | (simp; done) | (simp; omega) | omega)).trans (by go_simp)
  have y4_q2 : w4.frozen? ⟨w2.heap.size, 2, none⟩ = false := (hb4.frozens _ _ (by first | (simp; done) | (simp; omega) | omega)).trans (by go_simp)
  have z4_q : w2.heap.size < w4.heap.size := World.block_lt_of_cell? _ _ r4_q0
  clear r2_p0 r2_p1 r2_p2
  go_wp2_with fail
  refine (LD.out _).mono ?_; rintro e5 w5 ⟨rfl, hb5⟩
  have r5_p0 : w5.cell? ⟨w.heap.size, 0, none⟩ = some (.bool neg) := (hb5.cells _ _ (by first | (simp; done) | (simp; omega) | omega)).trans (by go_simp)
  have r5_p1 : w5.cell? ⟨w.heap.size, 1, none⟩ = some (.int .u64 mant) := (hb5.cells _ _ (by first | (simp; done) | (simp; omega) | omega)).trans (by go_simp)
  have r5_p2 : w5.cell? ⟨w.heap.size, 2, none⟩ = some (.int .i64 e) := (hb5.cells _ _ (by first | (simp; done) | (simp; omega) | omega)).trans (by go_simp)
  have z5_p : w.heap.size < w5.heap.size := World.block_lt_of_cell? _ _ r5_p0
  have r5_q0 : w5.cell? ⟨w2.heap.size, 0, none⟩ = some (.bool nd) := (hb5.cells _ _ (by first | (simp; done) | (simp; omega) | omega)).trans (by go_simp)
  have y5_q0 : w5.frozen? ⟨w2.heap.size, 0, none⟩ = false := (hb5.frozens _ _ (by first | (simp; done) | (simp; omega) | omega)).trans (by go_simp)
  have r5_q1 : w5.cell? ⟨w2.heap.size, 1, none⟩ = some (.int .u64 md) := (hb5.cells _ _ (by first | (simp; done) | (simp; omega) | omega)).trans (by go_simp)
  have y5_q1 : w5.frozen? ⟨w2.heap.size, 1, none⟩ = false := (hb5.frozens _ _ (by first | (simp; done) | (simp; omega) | omega)).trans (by go_simp)
  have r5_q2 : w5.cell? ⟨w2.heap.size, 2, none⟩ = some (.int .i64 ed) := (hb5.cells _ _ (by first | (simp; done) | (simp; omega) | omega)).trans (by go_simp)
  have y5_q2 : w5.frozen? ⟨w2.heap.size, 2, none⟩ = false := (hb5.frozens _ _ (by first | (simp; done) | (simp; omega) | omega)).trans (by go_simp)
  have z5_q : w2.heap.size < w5.heap.size := World.block_lt_of_cell? _ _ r5_q0
  have r5_r0 : w5.cell? ⟨w4.heap.size, 0, none⟩ = some (.bool nd) := (hb5.cells _ _ (by first | (simp; done) | (simp; omega) | omega)).trans (by go_simp)
  have y5_r0 : w5.frozen? ⟨w4.heap.size, 0, none⟩ = false := (hb5.frozens _ _ (by first | (simp; done) | (simp; omega) | omega)).trans (by go_simp)
  have r5_r1 : w5.cell? ⟨w4.heap.size, 1, none⟩ = some (.int .u64 md) := (hb5.cells _ _ (by first | (simp; done) | (simp; omega) | omega)).trans (by go_simp)
  have y5_r1 : w5.frozen? ⟨w4.heap.size, 1, none⟩ = false := (hb5.frozens _ _ (by first | (simp; done) | (simp; omega) | omega)).trans (by go_simp)
  have r5_r2 : w5.cell? ⟨w4.heap.size, 2, none⟩ = some (.int .i64 ed) := (hb5.cells _ _ (by first | (simp; done) | (simp; omega) | omega)).trans (by go_simp)
  have y5_r2 : w5.frozen? ⟨w4.heap.size, 2, none⟩ = false := (hb5.frozens _ _ (by first | (simp; done) | (simp; omega) | omega)).trans (by go_simp)
  have z5_r : w4.heap.size < w5.heap.size := World.block_lt_of_cell? _ _ r5_r0
  clear r4_p0 r4_p1 r4_p2 r4_q0 y4_q0 r4_q1 y4_q1 r4_q2 y4_q2
  go_wp2_with fail
  refine (g_any y _).mono ?_; rintro e6 w6 ⟨rfl, rfl⟩
  go_wp2_with fail
  refine (PS.out _ (hT.of (by repeat (first | with_reducible exact Within.refl _ | with_reducible assumption | with_reducible refine Within.alloc ?_ _ | with_reducible refine Within.drew ?_ | with_reducible refine Within.setCell ?_ (by first | (simp; done) | (simp; omega)) _ | with_reducible refine Within.trans ?_ (by assumption))))).mono ?_; rintro e7 w7 ⟨rfl, hb7⟩
  have r7_p0 : w7.cell? ⟨w.heap.size, 0, none⟩ = some (.bool neg) := (hb7.cells _ _ (by first | (simp; done) | (simp; omega) | omega)).trans (by go_simp)
  have r7_p1 : w7.cell? ⟨w.heap.size, 1, none⟩ = some (.int .u64 mant) := (hb7.cells _ _ (by first | (simp; done) | (simp; omega) | omega)).trans (by go_simp)
  have r7_p2 : w7.cell? ⟨w.heap.size, 2, none⟩ = some (.int .i64 e) := (hb7.cells _ _ (by first | (simp; done) | (simp; omega) | omega)).trans (by go_simp)
  have z7_p : w.heap.size < w7.heap.size := World.block_lt_of_cell? _ _ r7_p0
  have r7_q0 : w7.cell? ⟨w2.heap.size, 0, none⟩ = some (.bool nd) := (hb7.cells _ _ (by first | (simp; done) | (simp; omega) | omega)).trans (by go_simp)
  have y7_q0 : w7.frozen? ⟨w2.heap.size, 0, none⟩ = false := (hb7.frozens _ _ (by first | (simp; done) | (simp; omega) | omega)).trans (by go_simp)
  have r7_q1 : w7.cell? ⟨w2.heap.size, 1, none⟩ = some (.int .u64 md) := (hb7.cells _ _ (by first | (simp; done) | (simp; omega) | omega)).trans (by go_simp)
  have y7_q1 : w7.frozen? ⟨w2.heap.size, 1, none⟩ = false := (hb7.frozens _ _ (by first | (simp; done) | (simp; omega) | omega)).trans (by go_simp)
  have r7_q2 : w7.cell? ⟨w2.heap.size, 2, none⟩ = some (.int .i64 ed) := (hb7.cells _ _ (by first | (simp; done) | (simp; omega) | omega)).trans (by go_simp)
  have y7_q2 : w7.frozen? ⟨w2.heap.size, 2, none⟩ = false := (hb7.frozens _ _ (by first | (simp; done) | (simp; omega) | omega)).trans (by go_simp)
  have z7_q : w2.heap.size < w7.heap.size := World.block_lt_of_cell? _ _ r7_q0
  have r7_r0 : w7.cell? ⟨w4.heap.size, 0, none⟩ = some (.bool nd) := (hb7.cells _ _ (by first | (simp; done) | (simp; omega) | omega)).trans (by go_simp)
  have y7_r0 : w7.frozen? ⟨w4.heap.size, 0, none⟩ = false := (hb7.frozens _ _ (by first | (simp; done) | (simp; omega) | omega)).trans (by go_simp)
  have r7_r1 : w7.cell? ⟨w4.heap.size, 1, none⟩ = some (.int .u64 md) := (hb7.cells _ _ (by first | (simp; done) | (simp; omega) | omega)).trans (by go_simp)
  have y7_r1 : w7.frozen? ⟨w4.heap.size, 1, none⟩ = false := (hb7.frozens _ _ (by first | (simp; done) | (simp; omega) | omega)).trans (by go_simp)
  have r7_r2 : w7.cell? ⟨w4.heap.size, 2, none⟩ = some (.int .i64 ed) := (hb7.cells _ _ (by first | (simp; done) | (simp; omega) | omega)).trans (by go_simp)
  have y7_r2 : w7.frozen? ⟨w4.heap.size, 2, none⟩ = false := (hb7.frozens _ _ (by first | (simp; done) | (simp; omega) | omega)).trans (by go_simp)
  have z7_r : w4.heap.size < w7.heap.size := World.block_lt_of_cell? _ _ r7_r0
  clear r5_p0 r5_p1 r5_p2 r5_q0 y5_q0 r5_q1 y5_q1 r5_q2 y5_q2 r5_r0 y5_r0 r5_r1 y5_r1 r5_r2 y5_r2
  go_wp2_with fail
  refine (g_any y _).mono ?_; rintro e8 w8 ⟨rfl, rfl⟩
  go_wp2_with fail
  refine (RS.out _).mono ?_; rintro e9 w9 ⟨rfl, hb9⟩
  have r9_p0 : w9.cell? ⟨w.heap.size, 0, none⟩ = some (.bool neg) := (hb9.cells _ _ (by first | (simp; done) | (simp; omega) | omega)).trans (by go_simp)
  have r9_p1 : w9.cell? ⟨w.heap.size, 1, none⟩ = some (.int .u64 mant) := (hb9.cells _ _ (by first | (simp; done) | (simp; omega) | omega)).trans (by go_simp)
  have r9_p2 : w9.cell? ⟨w.heap.size, 2, none⟩ = some (.int .i64 e) := (hb9.cells _ _ (by first | (simp; done) | (simp; omega) | omega)).trans (by go_simp)
  have z9_p : w.heap.size < w9.heap.size := World.block_lt_of_cell? _ _ r9_p0
  have r9_q0 : w9.cell? ⟨w2.heap.size, 0, none⟩ = some (.bool ns) := (hb9.cells _ _ (by first | (simp; done) | (simp; omega) | omega)).trans (by go_simp)
  have y9_q0 : w9.frozen? ⟨w2.heap.size, 0, none⟩ = false := (hb9.frozens _ _ (by first | (simp; done) | (simp; omega) | omega)).trans (by go_simp)
  have r9_q1 : w9.cell? ⟨w2.heap.size, 1, none⟩ = some (.int .u64 ms) := (hb9.cells _ _ (by first | (simp; done) | (simp; omega) | omega)).trans (by go_simp)
  have y9_q1 : w9.frozen? ⟨w2.heap.size, 1, none⟩ = false := (hb9.frozens _ _ (by first | (simp; done) | (simp; omega) | omega)).trans (by go_simp)
  have r9_q2 : w9.cell? ⟨w2.heap.size, 2, none⟩ = some (.int .i64 es) := (hb9.cells _ _ (by first | (simp; done) | (simp; omega) | omega)).trans (by go_simp)
  have y9_q2 : w9.frozen? ⟨w2.heap.size, 2, none⟩ = false := (hb9.frozens _ _ (by first | (simp; done) | (simp; omega) | omega)).trans (by go_simp)
  have z9_q : w2.heap.size < w9.heap.size := World.block_lt_of_cell? _ _ r9_q0
  have r9_r0 : w9.cell? ⟨w4.heap.size, 0, none⟩ = some (.bool nd) := (hb9.cells _ _ (by first | (simp; done) | (simp; omega) | omega)).trans (by go_simp)
  have y9_r0 : w9.frozen? ⟨w4.heap.size, 0, none⟩ = false := (hb9.frozens _ _ (by first | (simp; done) | (simp; omega) | omega)).trans (by go_simp)
  have r9_r1 : w9.cell? ⟨w4.heap.size, 1, none⟩ = some (.int .u64 md) := (hb9.cells _ _ (by first | (simp; done) | (simp; omega) | omega)).trans (by go_simp)
  have y9_r1 : w9.frozen? ⟨w4.heap.size, 1, none⟩ = false := (hb9.frozens _ _ (by first | (simp; done) | (simp; omega) | omega)).trans (by go_simp)
  have r9_r2 : w9.cell? ⟨w4.heap.size, 2, none⟩ = some (.int .i64 ed) := (hb9.cells _ _ (by first | (simp; done) | (simp; omega) | omega)).trans (by go_simp)
  have y9_r2 : w9.frozen? ⟨w4.heap.size, 2, none⟩ = false := (hb9.frozens _ _ (by first | (simp; done) | (simp; omega) | omega)).trans (by go_simp)
  have z9_r : w4.heap.size < w9.heap.size := World.block_lt_of_cell? _ _ r9_r0
  clear r7_p0 r7_p1 r7_p2 r7_q0 y7_q0 r7_q1 y7_q1 r7_q2 y7_q2 r7_r0 y7_r0 r7_r1 y7_r1 r7_r2 y7_r2
  go_wp2_with fail
  refine (LS.out _).mono ?_; rintro e10 w10 ⟨rfl, hb10⟩
  have r10_p0 : w10.cell? ⟨w.heap.size, 0, none⟩ = some (.bool neg) := (hb10.cells _ _ (by first | (simp; done) | (simp; omega) | omega)).trans (by go_simp)
  have r10_p1 : w10.cell? ⟨w.heap.size, 1, none⟩ = some (.int .u64 mant) := (hb10.cells _ _ (by first | (simp; done) | (simp; omega) | omega)).trans (by go_simp)
  have r10_p2 : w10.cell? ⟨w.heap.size, 2, none⟩ = some (.int .i64 e) := (hb10.cells _ _ (by first | (simp; done) | (simp; omega) | omega)).trans (by go_simp)
  have z10_p : w.heap.size < w10.heap.size := World.block_lt_of_cell? _ _ r10_p0
  have r10_q0 : w10.cell? ⟨w2.heap.size, 0, none⟩ = some (.bool ns) := (hb10.cells _ _ (by first | (simp; done) | (simp; omega) | omega)).trans (by go_simp)
  have y10_q0 : w10.frozen? ⟨w2.heap.size, 0, none⟩ = false := (hb10.frozens _ _ (by first | (simp; done) | (simp; omega) | omega)).trans (by go_simp)
  have r10_q1 : w10.cell? ⟨w2.heap.size, 1, none⟩ = some (.int .u64 ms) := (hb10.cells _ _ (by first | (simp; done) | (simp; omega) | omega)).trans (by go_simp)
  have y10_q1 : w10.frozen? ⟨w2.heap.size, 1, none⟩ = false := (hb10.frozens _ _ (by first | (simp; done) | (simp; omega) | omega)).trans (by go_simp)
  have r10_q2 : w10.cell? ⟨w2.heap.size, 2, none⟩ = some (.int .i64 es) := (hb10.cells _ _ (by first | (simp; done) | (simp; omega) | omega)).trans (by go_simp)
  have y10_q2 : w10.frozen? ⟨w2.heap.size, 2, none⟩ = false := (hb10.frozens _ _ (by first | (simp; done) | (simp; omega) | omega)).trans (by go_simp)
  have z10_q : w2.heap.size < w10.heap.size := World.block_lt_of_cell? _ _ r10_q0
  have r10_r0 : w10.cell? ⟨w4.heap.size, 0, none⟩ = some (.bool ns) := (hb10.cells _ _ (by first | (simp; done) | (simp; omega) | omega)).trans (by go_simp)
  have y10_r0 : w10.frozen? ⟨w4.heap.size, 0, none⟩ = false := (hb10.frozens _ _ (by first | (simp; done) | (simp; omega) | omega)).trans (by go_simp)
  have r10_r1 : w10.cell? ⟨w4.heap.size, 1, none⟩ = some (.int .u64 ms) := (hb10.cells _ _ (by first | (simp; done) | (simp; omega) | omega)).trans (by go_simp)
  have y10_r1 : w10.frozen? ⟨w4.heap.size, 1, none⟩ = false := (hb10.frozens _ _ (by first | (simp; done) | (simp; omega) | omega)).trans (by go_simp)
  have r10_r2 : w10.cell? ⟨w4.heap.size, 2, none⟩ = some (.int .i64 es) := (hb10.cells _ _ (by first | (simp; done) | (simp; omega) | omega)).trans (by go_simp)
  have y10_r2 : w10.frozen? ⟨w4.heap.size, 2, none⟩ = false := (hb10.frozens _ _ (by first | (simp; done) | (simp; omega) | omega)).trans (by go_simp)
  have z10_r : w4.heap.size < w10.heap.size := World.block_lt_of_cell? _ _ r10_r0
  clear r9_p0 r9_p1 r9_p2 r9_q0 y9_q0 r9_q1 y9_q1 r9_q2 y9_q2 r9_r0 y9_r0 r9_r1 y9_r1 r9_r2 y9_r2
  go_wp2_with fail
  refine (OD.out _ (hT.of (by repeat (first | with_reducible exact Within.refl _ | with_reducible assumption | with_reducible refine Within.alloc ?_ _ | with_reducible refine Within.drew ?_ | with_reducible refine Within.setCell ?_ (by first | (simp; done) | (simp; omega)) _ | with_reducible refine Within.trans ?_ (by assumption))))).mono ?_; rintro e11 w11 ⟨rfl, hb11⟩
  have r11_p0 : w11.cell? ⟨w.heap.size, 0, none⟩ = some (.bool neg) := (hb11.cells _ _ (by first | (simp; done) | (simp; omega) | omega)).trans (by go_simp)
  have r11_p1 : w11.cell? ⟨w.heap.size, 1, none⟩ = some (.int .u64 mant) := (hb11.cells _ _ (by first | (simp; done) | (simp; omega) | omega)).trans (by go_simp)
  have r11_p2 : w11.cell? ⟨w.heap.size, 2, none⟩ = some (.int .i64 e) := (hb11.cells _ _ (by first | (simp; done) | (simp; omega) | omega)).trans (by go_simp)
  have z11_p : w.heap.size < w11.heap.size := World.block_lt_of_cell? _ _ r11_p0
  clear r10_p0 r10_p1 r10_p2 r10_q0 y10_q0 r10_q1 y10_q1 r10_q2 y10_q2 r10_r0 y10_r0 r10_r1 y10_r1 r10_r2 y10_r2
  go_wp2_with fail
  refine (ROD.out _).mono ?_; rintro e12 w12 ⟨rfl, hb12⟩
  have r12_p0 : w12.cell? ⟨w.heap.size, 0, none⟩ = some (.bool neg) := (hb12.cells _ _ (by first | (simp; done) | (simp; omega) | omega)).trans (by go_simp)
  have r12_p1 : w12.cell? ⟨w.heap.size, 1, none⟩ = some (.int .u64 mant) := (hb12.cells _ _ (by first | (simp; done) | (simp; omega) | omega)).trans (by go_simp)
  have r12_p2 : w12.cell? ⟨w.heap.size, 2, none⟩ = some (.int .i64 e) := (hb12.cells _ _ (by first | (simp; done) | (simp; omega) | omega)).trans (by go_simp)
  have z12_p : w.heap.size < w12.heap.size := World.block_lt_of_cell? _ _ r12_p0
  clear r11_p0 r11_p1 r11_p2
  go_wp2_with fail
  refine (SD.out _).mono ?_; rintro e13 w13 ⟨rfl, rfl⟩
  go_wp2_with fail
  refine (OS.out _ (hT.of (by repeat (first | with_reducible exact Within.refl _ | with_reducible assumption | with_reducible refine Within.alloc ?_ _ | with_reducible refine Within.drew ?_ | with_reducible refine Within.setCell ?_ (by first | (simp; done) | (simp; omega)) _ | with_reducible refine Within.trans ?_ (by assumption))))).mono ?_; rintro e14 w14 ⟨rfl, hb14⟩
  have r14_p0 : w14.cell? ⟨w.heap.size, 0, none⟩ = some (.bool neg) := (hb14.cells _ _ (by first | (simp; done) | (simp; omega) | omega)).trans (by go_simp)
  have r14_p1 : w14.cell? ⟨w.heap.size, 1, none⟩ = some (.int .u64 mant) := (hb14.cells _ _ (by first | (simp; done) | (simp; omega) | omega)).trans (by go_simp)
  have r14_p2 : w14.cell? ⟨w.heap.size, 2, none⟩ = some (.int .i64 e) := (hb14.cells _ _ (by first | (simp; done) | (simp; omega) | omega)).trans (by go_simp)
  have z14_p : w.heap.size < w14.heap.size := World.block_lt_of_cell? _ _ r14_p0
  clear r12_p0 r12_p1 r12_p2
  go_wp2_with fail
  refine (ROS.out _).mono ?_; rintro e15 w15 ⟨rfl, hb15⟩
  have r15_p0 : w15.cell? ⟨w.heap.size, 0, none⟩ = some (.bool neg) := (hb15.cells _ _ (by first | (simp; done) | (simp; omega) | omega)).trans (by go_simp)
  have r15_p1 : w15.cell? ⟨w.heap.size, 1, none⟩ = some (.int .u64 mant) := (hb15.cells _ _ (by first | (simp; done) | (simp; omega) | omega)).trans (by go_simp)
  have r15_p2 : w15.cell? ⟨w.heap.size, 2, none⟩ = some (.int .i64 e) := (hb15.cells _ _ (by first | (simp; done) | (simp; omega) | omega)).trans (by go_simp)
  have z15_p : w.heap.size < w15.heap.size := World.block_lt_of_cell? _ _ r15_p0
  clear r14_p0 r14_p1 r14_p2
  go_wp2_with fail
  refine (SS.out _).mono ?_; rintro e16 w16 ⟨rfl, rfl⟩
  go_wp2_with fail
  refine (awake_true _ (hT.of (by repeat (first | with_reducible exact Within.refl _ | with_reducible assumption | with_reducible refine Within.alloc ?_ _ | with_reducible refine Within.drew ?_ | with_reducible refine Within.setCell ?_ (by first | (simp; done) | (simp; omega)) _ | with_reducible refine Within.trans ?_ (by assumption))))).mono ?_; rintro e17 w17 ⟨rfl, hb17⟩
  go_wp2
  go_ret
  exact ⟨rfl, (by repeat (first | with_reducible exact Within.refl _ | with_reducible assumption | with_reducible refine Within.alloc ?_ _ | with_reducible refine Within.drew ?_ | with_reducible refine Within.setCell ?_ (by first | (simp; done) | (simp; omega)) _ | with_reducible refine Within.trans ?_ (by assumption)))⟩

theorem parts_walk (a y : Nat) (neg : Bool) (mant : Nat) (e : Int) (ha : a < 18446744073709551616) (hy : y < 4294967296) (hm : mant < 18446744073709551616) (hlo : -9223372036854775808 ≤ e) (w : World) (hT : Tab w) : Calls Tryd.prog 3 #[.int .u64 a, .int .u32 y, .agg #[.bool neg, .int .u64 mant, .int .i64 e]] w fun e' w' => e' = .returned (.bool true) ∧ Within w w' := by
  have cD : canonD (madeD neg mant e) = madeD neg mant e := by
    by_cases he : madeED mant e = 0
    · by_cases h0 : mant = 0
      · subst h0; rw [(made_zero neg e).1]; cases neg <;> decide
      · exact canonD_id (made_parts neg mant e h0 hm he).2.1
    · rw [(made_err neg mant e he).1]; decide
  have cS : canonS (madeS neg mant e) = madeS neg mant e := by
    by_cases he : madeES mant e = 0
    · by_cases h0 : mant = 0
      · subst h0; rw [(made_zeroS neg e).1]; cases neg <;> decide
      · exact canonS_id (made_partsS neg mant e h0 hm he).2.1
    · rw [(made_errS neg mant e he).1]; decide
  have SD := Lib.hid (fun w => same_D (madeD neg mant e) (madeD neg mant e) w)
  rw [cD, decide_eq_true rfl] at SD
  have SS := Lib.hid (fun w => same_S (madeS neg mant e) (madeS neg mant e) w)
  rw [cS, decide_eq_true rfl] at SS
  exact parts_core a y mant _ _ _ _ neg _ _ e _ _ _ _ _ _ w hT (Lib.hid fun w t => Parts_D a ha w t) (Lib.hid fun w => Rparts_D a ha w) (Lib.hid fun w t => Parts_S y hy w t) (Lib.hid fun w => Rparts32_any y hy w)
    (Lib.hid fun w t => Of_D neg mant e hm w t) (Lib.hid fun w => Rof_any neg mant e hm hlo w) (Lib.hid fun w t => Of_S neg mant e hm w t) (Lib.hid fun w => Rof32_any neg mant e hm hlo w) SD SS

end Go.Proofs.YthjaponkbodooaaDoor
