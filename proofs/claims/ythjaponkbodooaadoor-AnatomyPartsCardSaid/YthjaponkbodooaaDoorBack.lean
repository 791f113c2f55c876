/- AnatomyBack: there and back: fields, parts, places: the walk. -/
import Derived.Test.YthjaponkbodooaaDoorRef2
import Derived.Test.YthjaponkbodooaaDoorMade
namespace Go.Proofs.YthjaponkbodooaaDoor
open Go.RowKit

theorem mant_down {mant cz m M : Nat} (hcz : cz < 64) (hs : mant = 2 ^ cz * (2 * m + 1)) (hM : M = 2 * m + 1) : ∀ i, i ≤ cz →
    0 < mant / 2 ^ i ∧ (i = cz → mant / 2 ^ i = M ∧ mant / 2 ^ i % 2 = 1) ∧ (i < cz → mant / 2 ^ i % 2 = 0 ∧ mant / 2 ^ i / 2 = mant / 2 ^ (i + 1)) := by
  intro i hi
  obtain ⟨d, rfl⟩ : ∃ d, cz = i + d := ⟨cz - i, by omega⟩
  have e1 : mant / 2 ^ i = 2 ^ d * (2 * m + 1) := by
    rw [hs, Nat.pow_add, Nat.mul_assoc, Nat.mul_div_cancel_left _ (Nat.two_pow_pos i)]
  have e2 : mant / 2 ^ i / 2 = mant / 2 ^ (i + 1) := by rw [Nat.div_div_eq_div_mul, Nat.pow_succ]
  rw [e1] at *
  refine ⟨Nat.mul_pos (Nat.two_pow_pos _) (by omega), fun h => ?_, fun h => ⟨?_, e2⟩⟩
  · have : d = 0 := by omega
    subst this
    rw [Nat.pow_zero, Nat.one_mul]; omega
  · obtain ⟨d', rfl⟩ : ∃ d', d = d' + 1 := ⟨d - 1, by omega⟩
    rw [Nat.pow_succ, Nat.mul_right_comm]; omega

set_option maxRecDepth 100000 in
set_option maxHeartbeats 600000 in
theorem back_x_err (a c mant : Nat) (neg ng : Bool) (e pE : Int) (pM q fr x : Nat) (k er : Int) (w : World) (hT : Tab w) (SP : Hid (∀ w, Calls Tryd.prog 35 #[.float .f64 a] w fun e' w' => e' = .returned (.tuple #[.bool ng, .int .i64 q, .int .u64 fr]) ∧ Within w w')) (JN : Hid (∀ w, Calls Tryd.prog 37 #[.bool ng, .int .i64 q, .int .u64 fr] w fun e' w' => e' = .returned (.tuple #[.float .f64 c, .int .i64 0]) ∧ Within w w')) (KY : Hid (∀ w, Calls Tryd.prog 47 #[.float .f64 a] w fun e' w' => e' = .returned (.int .i64 k) ∧ Within w w')) (UK : Hid (∀ w, Calls Tryd.prog 48 #[.int .i64 k] w fun e' w' => e' = .returned (.tuple #[.float .f64 c, .int .i64 0]) ∧ Within w w')) (SM : Hid (∀ w, Calls Tryd.prog 21 #[.float .f64 c, .float .f64 a] w fun e' w' => e' = .returned (.bool true) ∧ w = w')) (PA : Hid (∀ w, Tab w → Calls Tryd.prog 12 #[.float .f64 a] w fun e' w' => e' = .returned (.tuple #[.agg #[.bool false, .int .u64 0, .int .i64 0], .int .i64 4]) ∧ Within w w')) (OF : Hid (∀ w, Tab w → Calls Tryd.prog 19 #[.agg #[.bool neg, .int .u64 mant, .int .i64 e]] w fun e' w' => e' = .returned (.tuple #[.float .f64 0, .int .i64 er]) ∧ Within w w')) (her : (er != 0) = true) : Calls Tryd.prog 7 #[.int .u64 a, .agg #[.bool neg, .int .u64 mant, .int .i64 e]] w fun e' w' => e' = .returned (.bool true) ∧ Within w w' := by
  have z : (FloatKind.f64.format.order 0 0 == some .eq) = true := by decide
  go_enter Tryd.func7, Tryd.ntmps7
  go_wp2_with fail
  refine (f_any a _).mono ?_; rintro e1 w1 ⟨rfl, rfl⟩
  go_wp2_with fail
  refine (SP.out _).mono ?_; rintro e2 w2 ⟨rfl, hb2⟩
  have r2_0 : w2.cell? ⟨w.heap.size, 0, none⟩ = some (.bool neg) := (hb2.cells _ _ (by simp)).trans (by simp)
  have r2_1 : w2.cell? ⟨w.heap.size, 1, none⟩ = some (.int .u64 mant) := (hb2.cells _ _ (by simp)).trans (by simp)
  have r2_2 : w2.cell? ⟨w.heap.size, 2, none⟩ = some (.int .i64 e) := (hb2.cells _ _ (by simp)).trans (by simp)
  have y2_1 : w2.frozen? ⟨w.heap.size, 1, none⟩ = false := (hb2.frozens _ _ (by simp)).trans (by simp)
  have y2_2 : w2.frozen? ⟨w.heap.size, 2, none⟩ = false := (hb2.frozens _ _ (by simp)).trans (by simp)
  have z2 : w.heap.size < w2.heap.size := World.block_lt_of_cell? _ _ r2_0
  go_wp2_with fail
  refine (JN.out _).mono ?_; rintro e3 w3 ⟨rfl, hb3⟩
  have r3_0 : w3.cell? ⟨w.heap.size, 0, none⟩ = some (.bool neg) := (hb3.cells _ _ z2).trans r2_0
  have r3_1 : w3.cell? ⟨w.heap.size, 1, none⟩ = some (.int .u64 mant) := (hb3.cells _ _ z2).trans r2_1
  have r3_2 : w3.cell? ⟨w.heap.size, 2, none⟩ = some (.int .i64 e) := (hb3.cells _ _ z2).trans r2_2
  have y3_1 : w3.frozen? ⟨w.heap.size, 1, none⟩ = false := (hb3.frozens _ _ z2).trans y2_1
  have y3_2 : w3.frozen? ⟨w.heap.size, 2, none⟩ = false := (hb3.frozens _ _ z2).trans y2_2
  have z3 : w.heap.size < w3.heap.size := World.block_lt_of_cell? _ _ r3_0
  clear r2_0 r2_1 r2_2 y2_1 y2_2
  go_wp2_with fail
  refine (KY.out _).mono ?_; rintro e4 w4 ⟨rfl, hb4⟩
  have r4_0 : w4.cell? ⟨w.heap.size, 0, none⟩ = some (.bool neg) := (hb4.cells _ _ z3).trans r3_0
  have r4_1 : w4.cell? ⟨w.heap.size, 1, none⟩ = some (.int .u64 mant) := (hb4.cells _ _ z3).trans r3_1
  have r4_2 : w4.cell? ⟨w.heap.size, 2, none⟩ = some (.int .i64 e) := (hb4.cells _ _ z3).trans r3_2
  have y4_1 : w4.frozen? ⟨w.heap.size, 1, none⟩ = false := (hb4.frozens _ _ z3).trans y3_1
  have y4_2 : w4.frozen? ⟨w.heap.size, 2, none⟩ = false := (hb4.frozens _ _ z3).trans y3_2
  have z4 : w.heap.size < w4.heap.size := World.block_lt_of_cell? _ _ r4_0
  clear r3_0 r3_1 r3_2 y3_1 y3_2
  go_wp2_with fail
  refine (UK.out _).mono ?_; rintro e5 w5 ⟨rfl, hb5⟩
  have r5_0 : w5.cell? ⟨w.heap.size, 0, none⟩ = some (.bool neg) := (hb5.cells _ _ z4).trans r4_0
  have r5_1 : w5.cell? ⟨w.heap.size, 1, none⟩ = some (.int .u64 mant) := (hb5.cells _ _ z4).trans r4_1
  have r5_2 : w5.cell? ⟨w.heap.size, 2, none⟩ = some (.int .i64 e) := (hb5.cells _ _ z4).trans r4_2
  have y5_1 : w5.frozen? ⟨w.heap.size, 1, none⟩ = false := (hb5.frozens _ _ z4).trans y4_1
  have y5_2 : w5.frozen? ⟨w.heap.size, 2, none⟩ = false := (hb5.frozens _ _ z4).trans y4_2
  have z5 : w.heap.size < w5.heap.size := World.block_lt_of_cell? _ _ r5_0
  clear r4_0 r4_1 r4_2 y4_1 y4_2
  go_wp2_with fail
  refine (SM.out _).mono ?_; rintro e6 w6 ⟨rfl, rfl⟩
  go_wp2_with fail
  refine (SM.out _).mono ?_; rintro e7 w7 ⟨rfl, rfl⟩
  go_wp2_with fail
  refine (awake_true _ (hT.of (by repeat (first | with_reducible exact Within.refl _ | with_reducible assumption | with_reducible refine Within.alloc ?_ _ | with_reducible refine Within.drew ?_ | with_reducible refine Within.setCell ?_ (by first | (simp; done) | (simp; omega)) _ | with_reducible refine Within.trans ?_ (by assumption))))).mono ?_; rintro e8 w8 ⟨rfl, hb8⟩
  have r8_0 : w8.cell? ⟨w.heap.size, 0, none⟩ = some (.bool neg) := (hb8.cells _ _ z5).trans r5_0
  have r8_1 : w8.cell? ⟨w.heap.size, 1, none⟩ = some (.int .u64 mant) := (hb8.cells _ _ z5).trans r5_1
  have r8_2 : w8.cell? ⟨w.heap.size, 2, none⟩ = some (.int .i64 e) := (hb8.cells _ _ z5).trans r5_2
  have y8_1 : w8.frozen? ⟨w.heap.size, 1, none⟩ = false := (hb8.frozens _ _ z5).trans y5_1
  have y8_2 : w8.frozen? ⟨w.heap.size, 2, none⟩ = false := (hb8.frozens _ _ z5).trans y5_2
  have z8 : w.heap.size < w8.heap.size := World.block_lt_of_cell? _ _ r8_0
  clear r5_0 r5_1 r5_2 y5_1 y5_2
  go_wp2_with fail
  refine (PA.out _ (hT.of (by repeat (first | with_reducible exact Within.refl _ | with_reducible assumption | with_reducible refine Within.alloc ?_ _ | with_reducible refine Within.drew ?_ | with_reducible refine Within.setCell ?_ (by first | (simp; done) | (simp; omega)) _ | with_reducible refine Within.trans ?_ (by assumption))))).mono ?_; rintro e9 w9 ⟨rfl, hb9⟩
  have r9_0 : w9.cell? ⟨w.heap.size, 0, none⟩ = some (.bool neg) := (hb9.cells _ _ z8).trans r8_0
  have r9_1 : w9.cell? ⟨w.heap.size, 1, none⟩ = some (.int .u64 mant) := (hb9.cells _ _ z8).trans r8_1
  have r9_2 : w9.cell? ⟨w.heap.size, 2, none⟩ = some (.int .i64 e) := (hb9.cells _ _ z8).trans r8_2
  have y9_1 : w9.frozen? ⟨w.heap.size, 1, none⟩ = false := (hb9.frozens _ _ z8).trans y8_1
  have y9_2 : w9.frozen? ⟨w.heap.size, 2, none⟩ = false := (hb9.frozens _ _ z8).trans y8_2
  have z9 : w.heap.size < w9.heap.size := World.block_lt_of_cell? _ _ r9_0
  clear r8_0 r8_1 r8_2 y8_1 y8_2
  go_wp2_with fail
  refine (OF.out _ (hT.of (by repeat (first | with_reducible exact Within.refl _ | with_reducible assumption | with_reducible refine Within.alloc ?_ _ | with_reducible refine Within.drew ?_ | with_reducible refine Within.setCell ?_ (by first | (simp; done) | (simp; omega)) _ | with_reducible refine Within.trans ?_ (by assumption))))).mono ?_; rintro e12 w12 ⟨rfl, hb12⟩
  go_wp2
  go_ret
  exact ⟨rfl, (by repeat (first | with_reducible exact Within.refl _ | with_reducible assumption | with_reducible refine Within.alloc ?_ _ | with_reducible refine Within.drew ?_ | with_reducible refine Within.setCell ?_ (by first | (simp; done) | (simp; omega)) _ | with_reducible refine Within.trans ?_ (by assumption)))⟩

set_option maxRecDepth 100000 in
set_option maxHeartbeats 600000 in
theorem back_x_zero (a c mant : Nat) (neg ng : Bool) (e pE : Int) (pM q fr x : Nat) (k er : Int) (w : World) (hT : Tab w) (SP : Hid (∀ w, Calls Tryd.prog 35 #[.float .f64 a] w fun e' w' => e' = .returned (.tuple #[.bool ng, .int .i64 q, .int .u64 fr]) ∧ Within w w')) (JN : Hid (∀ w, Calls Tryd.prog 37 #[.bool ng, .int .i64 q, .int .u64 fr] w fun e' w' => e' = .returned (.tuple #[.float .f64 c, .int .i64 0]) ∧ Within w w')) (KY : Hid (∀ w, Calls Tryd.prog 47 #[.float .f64 a] w fun e' w' => e' = .returned (.int .i64 k) ∧ Within w w')) (UK : Hid (∀ w, Calls Tryd.prog 48 #[.int .i64 k] w fun e' w' => e' = .returned (.tuple #[.float .f64 c, .int .i64 0]) ∧ Within w w')) (SM : Hid (∀ w, Calls Tryd.prog 21 #[.float .f64 c, .float .f64 a] w fun e' w' => e' = .returned (.bool true) ∧ w = w')) (PA : Hid (∀ w, Tab w → Calls Tryd.prog 12 #[.float .f64 a] w fun e' w' => e' = .returned (.tuple #[.agg #[.bool false, .int .u64 0, .int .i64 0], .int .i64 4]) ∧ Within w w')) (OF : Hid (∀ w, Tab w → Calls Tryd.prog 19 #[.agg #[.bool neg, .int .u64 0, .int .i64 e]] w fun e' w' => e' = .returned (.tuple #[.float .f64 x, .int .i64 0]) ∧ Within w w')) (PN : Hid (∀ w, Tab w → Calls Tryd.prog 12 #[.float .f64 x] w fun e' w' => e' = .returned (.tuple #[.agg #[.bool neg, .int .u64 0, .int .i64 0], .int .i64 0]) ∧ Within w w')) : Calls Tryd.prog 7 #[.int .u64 a, .agg #[.bool neg, .int .u64 0, .int .i64 e]] w fun e' w' => e' = .returned (.bool true) ∧ Within w w' := by
  go_enter Tryd.func7, Tryd.ntmps7
  go_wp2_with fail
  refine (f_any a _).mono ?_; rintro e1 w1 ⟨rfl, rfl⟩
  go_wp2_with fail
  refine (SP.out _).mono ?_; rintro e2 w2 ⟨rfl, hb2⟩
  have r2_0 : w2.cell? ⟨w.heap.size, 0, none⟩ = some (.bool neg) := (hb2.cells _ _ (by simp)).trans (by simp)
  have r2_1 : w2.cell? ⟨w.heap.size, 1, none⟩ = some (.int .u64 0) := (hb2.cells _ _ (by simp)).trans (by simp)
  have r2_2 : w2.cell? ⟨w.heap.size, 2, none⟩ = some (.int .i64 e) := (hb2.cells _ _ (by simp)).trans (by simp)
  have y2_1 : w2.frozen? ⟨w.heap.size, 1, none⟩ = false := (hb2.frozens _ _ (by simp)).trans (by simp)
  have y2_2 : w2.frozen? ⟨w.heap.size, 2, none⟩ = false := (hb2.frozens _ _ (by simp)).trans (by simp)
  have z2 : w.heap.size < w2.heap.size := World.block_lt_of_cell? _ _ r2_0
  go_wp2_with fail
  refine (JN.out _).mono ?_; rintro e3 w3 ⟨rfl, hb3⟩
  have r3_0 : w3.cell? ⟨w.heap.size, 0, none⟩ = some (.bool neg) := (hb3.cells _ _ z2).trans r2_0
  have r3_1 : w3.cell? ⟨w.heap.size, 1, none⟩ = some (.int .u64 0) := (hb3.cells _ _ z2).trans r2_1
  have r3_2 : w3.cell? ⟨w.heap.size, 2, none⟩ = some (.int .i64 e) := (hb3.cells _ _ z2).trans r2_2
  have y3_1 : w3.frozen? ⟨w.heap.size, 1, none⟩ = false := (hb3.frozens _ _ z2).trans y2_1
  have y3_2 : w3.frozen? ⟨w.heap.size, 2, none⟩ = false := (hb3.frozens _ _ z2).trans y2_2
  have z3 : w.heap.size < w3.heap.size := World.block_lt_of_cell? _ _ r3_0
  clear r2_0 r2_1 r2_2 y2_1 y2_2
  go_wp2_with fail
  refine (KY.out _).mono ?_; rintro e4 w4 ⟨rfl, hb4⟩
  have r4_0 : w4.cell? ⟨w.heap.size, 0, none⟩ = some (.bool neg) := (hb4.cells _ _ z3).trans r3_0
  have r4_1 : w4.cell? ⟨w.heap.size, 1, none⟩ = some (.int .u64 0) := (hb4.cells _ _ z3).trans r3_1
  have r4_2 : w4.cell? ⟨w.heap.size, 2, none⟩ = some (.int .i64 e) := (hb4.cells _ _ z3).trans r3_2
  have y4_1 : w4.frozen? ⟨w.heap.size, 1, none⟩ = false := (hb4.frozens _ _ z3).trans y3_1
  have y4_2 : w4.frozen? ⟨w.heap.size, 2, none⟩ = false := (hb4.frozens _ _ z3).trans y3_2
  have z4 : w.heap.size < w4.heap.size := World.block_lt_of_cell? _ _ r4_0
  clear r3_0 r3_1 r3_2 y3_1 y3_2
  go_wp2_with fail
  refine (UK.out _).mono ?_; rintro e5 w5 ⟨rfl, hb5⟩
  have r5_0 : w5.cell? ⟨w.heap.size, 0, none⟩ = some (.bool neg) := (hb5.cells _ _ z4).trans r4_0
  have r5_1 : w5.cell? ⟨w.heap.size, 1, none⟩ = some (.int .u64 0) := (hb5.cells _ _ z4).trans r4_1
  have r5_2 : w5.cell? ⟨w.heap.size, 2, none⟩ = some (.int .i64 e) := (hb5.cells _ _ z4).trans r4_2
  have y5_1 : w5.frozen? ⟨w.heap.size, 1, none⟩ = false := (hb5.frozens _ _ z4).trans y4_1
  have y5_2 : w5.frozen? ⟨w.heap.size, 2, none⟩ = false := (hb5.frozens _ _ z4).trans y4_2
  have z5 : w.heap.size < w5.heap.size := World.block_lt_of_cell? _ _ r5_0
  clear r4_0 r4_1 r4_2 y4_1 y4_2
  go_wp2_with fail
  refine (SM.out _).mono ?_; rintro e6 w6 ⟨rfl, rfl⟩
  go_wp2_with fail
  refine (SM.out _).mono ?_; rintro e7 w7 ⟨rfl, rfl⟩
  go_wp2_with fail
  refine (awake_true _ (hT.of (by repeat (first | with_reducible exact Within.refl _ | with_reducible assumption | with_reducible refine Within.alloc ?_ _ | with_reducible refine Within.drew ?_ | with_reducible refine Within.setCell ?_ (by first | (simp; done) | (simp; omega)) _ | with_reducible refine Within.trans ?_ (by assumption))))).mono ?_; rintro e8 w8 ⟨rfl, hb8⟩
  have r8_0 : w8.cell? ⟨w.heap.size, 0, none⟩ = some (.bool neg) := (hb8.cells _ _ z5).trans r5_0
  have r8_1 : w8.cell? ⟨w.heap.size, 1, none⟩ = some (.int .u64 0) := (hb8.cells _ _ z5).trans r5_1
  have r8_2 : w8.cell? ⟨w.heap.size, 2, none⟩ = some (.int .i64 e) := (hb8.cells _ _ z5).trans r5_2
  have y8_1 : w8.frozen? ⟨w.heap.size, 1, none⟩ = false := (hb8.frozens _ _ z5).trans y5_1
  have y8_2 : w8.frozen? ⟨w.heap.size, 2, none⟩ = false := (hb8.frozens _ _ z5).trans y5_2
  have z8 : w.heap.size < w8.heap.size := World.block_lt_of_cell? _ _ r8_0
  clear r5_0 r5_1 r5_2 y5_1 y5_2
  go_wp2_with fail
  refine (PA.out _ (hT.of (by repeat (first | with_reducible exact Within.refl _ | with_reducible assumption | with_reducible refine Within.alloc ?_ _ | with_reducible refine Within.drew ?_ | with_reducible refine Within.setCell ?_ (by first | (simp; done) | (simp; omega)) _ | with_reducible refine Within.trans ?_ (by assumption))))).mono ?_; rintro e9 w9 ⟨rfl, hb9⟩
  have r9_0 : w9.cell? ⟨w.heap.size, 0, none⟩ = some (.bool neg) := (hb9.cells _ _ z8).trans r8_0
  have r9_1 : w9.cell? ⟨w.heap.size, 1, none⟩ = some (.int .u64 0) := (hb9.cells _ _ z8).trans r8_1
  have r9_2 : w9.cell? ⟨w.heap.size, 2, none⟩ = some (.int .i64 e) := (hb9.cells _ _ z8).trans r8_2
  have y9_1 : w9.frozen? ⟨w.heap.size, 1, none⟩ = false := (hb9.frozens _ _ z8).trans y8_1
  have y9_2 : w9.frozen? ⟨w.heap.size, 2, none⟩ = false := (hb9.frozens _ _ z8).trans y8_2
  have z9 : w.heap.size < w9.heap.size := World.block_lt_of_cell? _ _ r9_0
  clear r8_0 r8_1 r8_2 y8_1 y8_2
  go_wp2_with fail
  refine (OF.out _ (hT.of (by repeat (first | with_reducible exact Within.refl _ | with_reducible assumption | with_reducible refine Within.alloc ?_ _ | with_reducible refine Within.drew ?_ | with_reducible refine Within.setCell ?_ (by first | (simp; done) | (simp; omega)) _ | with_reducible refine Within.trans ?_ (by assumption))))).mono ?_; rintro e12 w12 ⟨rfl, hb12⟩
  have r12_0 : w12.cell? ⟨w.heap.size, 0, none⟩ = some (.bool neg) := (hb12.cells _ _ (by simp; omega)).trans ((((Within.refl w9).alloc _).cells _ _ z9).trans r9_0)
  have r12_1 : w12.cell? ⟨w.heap.size, 1, none⟩ = some (.int .u64 0) := (hb12.cells _ _ (by simp; omega)).trans ((((Within.refl w9).alloc _).cells _ _ z9).trans r9_1)
  have r12_2 : w12.cell? ⟨w.heap.size, 2, none⟩ = some (.int .i64 e) := (hb12.cells _ _ (by simp; omega)).trans ((((Within.refl w9).alloc _).cells _ _ z9).trans r9_2)
  have y12_1 : w12.frozen? ⟨w.heap.size, 1, none⟩ = false := (hb12.frozens _ _ (by simp; omega)).trans ((((Within.refl w9).alloc _).frozens _ _ z9).trans y9_1)
  have y12_2 : w12.frozen? ⟨w.heap.size, 2, none⟩ = false := (hb12.frozens _ _ (by simp; omega)).trans ((((Within.refl w9).alloc _).frozens _ _ z9).trans y9_2)
  have z12 : w.heap.size < w12.heap.size := World.block_lt_of_cell? _ _ r12_0
  clear r9_0 r9_1 r9_2 y9_1 y9_2
  go_wp2_with fail
  refine (PN.out _ (hT.of (by repeat (first | with_reducible exact Within.refl _ | with_reducible assumption | with_reducible refine Within.alloc ?_ _ | with_reducible refine Within.drew ?_ | with_reducible refine Within.setCell ?_ (by first | (simp; done) | (simp; omega)) _ | with_reducible refine Within.trans ?_ (by assumption))))).mono ?_; rintro e13 w13 ⟨rfl, hb13⟩
  have r13_0 : w13.cell? ⟨w.heap.size, 0, none⟩ = some (.bool neg) := (hb13.cells _ _ z12).trans r12_0
  have r13_1 : w13.cell? ⟨w.heap.size, 1, none⟩ = some (.int .u64 0) := (hb13.cells _ _ z12).trans r12_1
  have r13_2 : w13.cell? ⟨w.heap.size, 2, none⟩ = some (.int .i64 e) := (hb13.cells _ _ z12).trans r12_2
  have y13_1 : w13.frozen? ⟨w.heap.size, 1, none⟩ = false := (hb13.frozens _ _ z12).trans y12_1
  have y13_2 : w13.frozen? ⟨w.heap.size, 2, none⟩ = false := (hb13.frozens _ _ z12).trans y12_2
  have z13 : w.heap.size < w13.heap.size := World.block_lt_of_cell? _ _ r13_0
  clear r12_0 r12_1 r12_2 y12_1 y12_2
  go_wp2
  refine wp_loop_rounds 1 ?_
  rw [rounds_succ]
  go_wp2
  go_ret
  exact ⟨rfl, (by repeat (first | with_reducible exact Within.refl _ | with_reducible assumption | with_reducible refine Within.alloc ?_ _ | with_reducible refine Within.drew ?_ | with_reducible refine Within.setCell ?_ (by first | (simp; done) | (simp; omega)) _ | with_reducible refine Within.trans ?_ (by assumption)))⟩

set_option maxRecDepth 100000 in
set_option maxHeartbeats 600000 in
theorem back_x_main (a c mant : Nat) (neg ng : Bool) (e pE : Int) (pM q fr x : Nat) (k er : Int) (w : World) (hT : Tab w) (SP : Hid (∀ w, Calls Tryd.prog 35 #[.float .f64 a] w fun e' w' => e' = .returned (.tuple #[.bool ng, .int .i64 q, .int .u64 fr]) ∧ Within w w')) (JN : Hid (∀ w, Calls Tryd.prog 37 #[.bool ng, .int .i64 q, .int .u64 fr] w fun e' w' => e' = .returned (.tuple #[.float .f64 c, .int .i64 0]) ∧ Within w w')) (KY : Hid (∀ w, Calls Tryd.prog 47 #[.float .f64 a] w fun e' w' => e' = .returned (.int .i64 k) ∧ Within w w')) (UK : Hid (∀ w, Calls Tryd.prog 48 #[.int .i64 k] w fun e' w' => e' = .returned (.tuple #[.float .f64 c, .int .i64 0]) ∧ Within w w')) (SM : Hid (∀ w, Calls Tryd.prog 21 #[.float .f64 c, .float .f64 a] w fun e' w' => e' = .returned (.bool true) ∧ w = w')) (m cz M : Nat) (E : Int) (PA : Hid (∀ w, Tab w → Calls Tryd.prog 12 #[.float .f64 a] w fun e' w' => e' = .returned (.tuple #[.agg #[.bool false, .int .u64 0, .int .i64 0], .int .i64 4]) ∧ Within w w')) (OF : Hid (∀ w, Tab w → Calls Tryd.prog 19 #[.agg #[.bool neg, .int .u64 mant, .int .i64 e]] w fun e' w' => e' = .returned (.tuple #[.float .f64 x, .int .i64 0]) ∧ Within w w')) (PN : Hid (∀ w, Tab w → Calls Tryd.prog 12 #[.float .f64 x] w fun e' w' => e' = .returned (.tuple #[.agg #[.bool neg, .int .u64 M, .int .i64 E], .int .i64 0]) ∧ Within w w')) (hcz : cz < 64) (hs : mant = 2 ^ cz * (2 * m + 1)) (hM : M = 2 * m + 1) (hE : E = e + cz) (hlo : -2150 ≤ e) (hhi : e ≤ 2150) (hl : mant < 18446744073709551616) : Calls Tryd.prog 7 #[.int .u64 a, .agg #[.bool neg, .int .u64 mant, .int .i64 e]] w fun e' w' => e' = .returned (.bool true) ∧ Within w w' := by
  have m0 : ((mant : Int) == 0) = false := by have h0 : 0 < mant := (by rw [hs]; exact Nat.mul_pos (Nat.two_pow_pos _) (by omega)); rw [beq_eq_false_iff_ne]; omega
  have M0 : ((M : Int) == 0) = false := by rw [beq_eq_false_iff_ne]; omega
  have HV := Lib.hid (mant_down hcz hs hM)
  have HB := Lib.hid (And.intro (And.intro hlo hhi) (And.intro hcz hE))
  have HML := Lib.hid hl
  clear hcz hs hM hE hlo hhi hl
  go_enter Tryd.func7, Tryd.ntmps7
  go_wp2_with fail
  refine (f_any a _).mono ?_; rintro e1 w1 ⟨rfl, rfl⟩
  go_wp2_with fail
  refine (SP.out _).mono ?_; rintro e2 w2 ⟨rfl, hb2⟩
  have r2_0 : w2.cell? ⟨w.heap.size, 0, none⟩ = some (.bool neg) := (hb2.cells _ _ (by simp)).trans (by simp)
  have r2_1 : w2.cell? ⟨w.heap.size, 1, none⟩ = some (.int .u64 mant) := (hb2.cells _ _ (by simp)).trans (by simp)
  have r2_2 : w2.cell? ⟨w.heap.size, 2, none⟩ = some (.int .i64 e) := (hb2.cells _ _ (by simp)).trans (by simp)
  have y2_1 : w2.frozen? ⟨w.heap.size, 1, none⟩ = false := (hb2.frozens _ _ (by simp)).trans (by simp)
  have y2_2 : w2.frozen? ⟨w.heap.size, 2, none⟩ = false := (hb2.frozens _ _ (by simp)).trans (by simp)
  have z2 : w.heap.size < w2.heap.size := World.block_lt_of_cell? _ _ r2_0
  go_wp2_with fail
  refine (JN.out _).mono ?_; rintro e3 w3 ⟨rfl, hb3⟩
  have r3_0 : w3.cell? ⟨w.heap.size, 0, none⟩ = some (.bool neg) := (hb3.cells _ _ z2).trans r2_0
  have r3_1 : w3.cell? ⟨w.heap.size, 1, none⟩ = some (.int .u64 mant) := (hb3.cells _ _ z2).trans r2_1
  have r3_2 : w3.cell? ⟨w.heap.size, 2, none⟩ = some (.int .i64 e) := (hb3.cells _ _ z2).trans r2_2
  have y3_1 : w3.frozen? ⟨w.heap.size, 1, none⟩ = false := (hb3.frozens _ _ z2).trans y2_1
  have y3_2 : w3.frozen? ⟨w.heap.size, 2, none⟩ = false := (hb3.frozens _ _ z2).trans y2_2
  have z3 : w.heap.size < w3.heap.size := World.block_lt_of_cell? _ _ r3_0
  clear r2_0 r2_1 r2_2 y2_1 y2_2
  go_wp2_with fail
  refine (KY.out _).mono ?_; rintro e4 w4 ⟨rfl, hb4⟩
  have r4_0 : w4.cell? ⟨w.heap.size, 0, none⟩ = some (.bool neg) := (hb4.cells _ _ z3).trans r3_0
  have r4_1 : w4.cell? ⟨w.heap.size, 1, none⟩ = some (.int .u64 mant) := (hb4.cells _ _ z3).trans r3_1
  have r4_2 : w4.cell? ⟨w.heap.size, 2, none⟩ = some (.int .i64 e) := (hb4.cells _ _ z3).trans r3_2
  have y4_1 : w4.frozen? ⟨w.heap.size, 1, none⟩ = false := (hb4.frozens _ _ z3).trans y3_1
  have y4_2 : w4.frozen? ⟨w.heap.size, 2, none⟩ = false := (hb4.frozens _ _ z3).trans y3_2
  have z4 : w.heap.size < w4.heap.size := World.block_lt_of_cell? _ _ r4_0
  clear r3_0 r3_1 r3_2 y3_1 y3_2
  go_wp2_with fail
  refine (UK.out _).mono ?_; rintro e5 w5 ⟨rfl, hb5⟩
  have r5_0 : w5.cell? ⟨w.heap.size, 0, none⟩ = some (.bool neg) := (hb5.cells _ _ z4).trans r4_0
  have r5_1 : w5.cell? ⟨w.heap.size, 1, none⟩ = some (.int .u64 mant) := (hb5.cells _ _ z4).trans r4_1
  have r5_2 : w5.cell? ⟨w.heap.size, 2, none⟩ = some (.int .i64 e) := (hb5.cells _ _ z4).trans r4_2
  have y5_1 : w5.frozen? ⟨w.heap.size, 1, none⟩ = false := (hb5.frozens _ _ z4).trans y4_1
  have y5_2 : w5.frozen? ⟨w.heap.size, 2, none⟩ = false := (hb5.frozens _ _ z4).trans y4_2
  have z5 : w.heap.size < w5.heap.size := World.block_lt_of_cell? _ _ r5_0
  clear r4_0 r4_1 r4_2 y4_1 y4_2
  go_wp2_with fail
  refine (SM.out _).mono ?_; rintro e6 w6 ⟨rfl, rfl⟩
  go_wp2_with fail
  refine (SM.out _).mono ?_; rintro e7 w7 ⟨rfl, rfl⟩
  go_wp2_with fail
  refine (awake_true _ (hT.of (by repeat (first | with_reducible exact Within.refl _ | with_reducible assumption | with_reducible refine Within.alloc ?_ _ | with_reducible refine Within.drew ?_ | with_reducible refine Within.setCell ?_ (by first | (simp; done) | (simp; omega)) _ | with_reducible refine Within.trans ?_ (by assumption))))).mono ?_; rintro e8 w8 ⟨rfl, hb8⟩
  have r8_0 : w8.cell? ⟨w.heap.size, 0, none⟩ = some (.bool neg) := (hb8.cells _ _ z5).trans r5_0
  have r8_1 : w8.cell? ⟨w.heap.size, 1, none⟩ = some (.int .u64 mant) := (hb8.cells _ _ z5).trans r5_1
  have r8_2 : w8.cell? ⟨w.heap.size, 2, none⟩ = some (.int .i64 e) := (hb8.cells _ _ z5).trans r5_2
  have y8_1 : w8.frozen? ⟨w.heap.size, 1, none⟩ = false := (hb8.frozens _ _ z5).trans y5_1
  have y8_2 : w8.frozen? ⟨w.heap.size, 2, none⟩ = false := (hb8.frozens _ _ z5).trans y5_2
  have z8 : w.heap.size < w8.heap.size := World.block_lt_of_cell? _ _ r8_0
  clear r5_0 r5_1 r5_2 y5_1 y5_2
  go_wp2_with fail
  refine (PA.out _ (hT.of (by repeat (first | with_reducible exact Within.refl _ | with_reducible assumption | with_reducible refine Within.alloc ?_ _ | with_reducible refine Within.drew ?_ | with_reducible refine Within.setCell ?_ (by first | (simp; done) | (simp; omega)) _ | with_reducible refine Within.trans ?_ (by assumption))))).mono ?_; rintro e9 w9 ⟨rfl, hb9⟩
  have r9_0 : w9.cell? ⟨w.heap.size, 0, none⟩ = some (.bool neg) := (hb9.cells _ _ z8).trans r8_0
  have r9_1 : w9.cell? ⟨w.heap.size, 1, none⟩ = some (.int .u64 mant) := (hb9.cells _ _ z8).trans r8_1
  have r9_2 : w9.cell? ⟨w.heap.size, 2, none⟩ = some (.int .i64 e) := (hb9.cells _ _ z8).trans r8_2
  have y9_1 : w9.frozen? ⟨w.heap.size, 1, none⟩ = false := (hb9.frozens _ _ z8).trans y8_1
  have y9_2 : w9.frozen? ⟨w.heap.size, 2, none⟩ = false := (hb9.frozens _ _ z8).trans y8_2
  have z9 : w.heap.size < w9.heap.size := World.block_lt_of_cell? _ _ r9_0
  clear r8_0 r8_1 r8_2 y8_1 y8_2
  go_wp2_with fail
  refine (OF.out _ (hT.of (by repeat (first | with_reducible exact Within.refl _ | with_reducible assumption | with_reducible refine Within.alloc ?_ _ | with_reducible refine Within.drew ?_ | with_reducible refine Within.setCell ?_ (by first | (simp; done) | (simp; omega)) _ | with_reducible refine Within.trans ?_ (by assumption))))).mono ?_; rintro e12 w12 ⟨rfl, hb12⟩
  have r12_0 : w12.cell? ⟨w.heap.size, 0, none⟩ = some (.bool neg) := (hb12.cells _ _ (by simp; omega)).trans ((((Within.refl w9).alloc _).cells _ _ z9).trans r9_0)
  have r12_1 : w12.cell? ⟨w.heap.size, 1, none⟩ = some (.int .u64 mant) := (hb12.cells _ _ (by simp; omega)).trans ((((Within.refl w9).alloc _).cells _ _ z9).trans r9_1)
  have r12_2 : w12.cell? ⟨w.heap.size, 2, none⟩ = some (.int .i64 e) := (hb12.cells _ _ (by simp; omega)).trans ((((Within.refl w9).alloc _).cells _ _ z9).trans r9_2)
  have y12_1 : w12.frozen? ⟨w.heap.size, 1, none⟩ = false := (hb12.frozens _ _ (by simp; omega)).trans ((((Within.refl w9).alloc _).frozens _ _ z9).trans y9_1)
  have y12_2 : w12.frozen? ⟨w.heap.size, 2, none⟩ = false := (hb12.frozens _ _ (by simp; omega)).trans ((((Within.refl w9).alloc _).frozens _ _ z9).trans y9_2)
  have z12 : w.heap.size < w12.heap.size := World.block_lt_of_cell? _ _ r12_0
  clear r9_0 r9_1 r9_2 y9_1 y9_2
  go_wp2_with fail
  refine (PN.out _ (hT.of (by repeat (first | with_reducible exact Within.refl _ | with_reducible assumption | with_reducible refine Within.alloc ?_ _ | with_reducible refine Within.drew ?_ | with_reducible refine Within.setCell ?_ (by first | (simp; done) | (simp; omega)) _ | with_reducible refine Within.trans ?_ (by assumption))))).mono ?_; rintro e13 w13 ⟨rfl, hb13⟩
  have r13_0 : w13.cell? ⟨w.heap.size, 0, none⟩ = some (.bool neg) := (hb13.cells _ _ z12).trans r12_0
  have r13_1 : w13.cell? ⟨w.heap.size, 1, none⟩ = some (.int .u64 mant) := (hb13.cells _ _ z12).trans r12_1
  have r13_2 : w13.cell? ⟨w.heap.size, 2, none⟩ = some (.int .i64 e) := (hb13.cells _ _ z12).trans r12_2
  have y13_1 : w13.frozen? ⟨w.heap.size, 1, none⟩ = false := (hb13.frozens _ _ z12).trans y12_1
  have y13_2 : w13.frozen? ⟨w.heap.size, 2, none⟩ = false := (hb13.frozens _ _ z12).trans y12_2
  have z13 : w.heap.size < w13.heap.size := World.block_lt_of_cell? _ _ r13_0
  clear r12_0 r12_1 r12_2 y12_1 y12_2
  go_wp2
  go_loopw [15] (fun t wr => ∃ i : Nat, i ≤ cz ∧ t = .int .i64 i ∧ wr.cell? ⟨w.heap.size, 0, none⟩ = some (.bool neg) ∧ wr.cell? ⟨w.heap.size, 1, none⟩ = some (.int .u64 (mant / 2 ^ i : Nat)) ∧ wr.cell? ⟨w.heap.size, 2, none⟩ = some (.int .i64 (e + i)) ∧ wr.frozen? ⟨w.heap.size, 1, none⟩ = false ∧ wr.frozen? ⟨w.heap.size, 2, none⟩ = false ∧ wr.cell? ⟨w13.heap.size, 0, none⟩ = some (.bool neg) ∧ wr.cell? ⟨w13.heap.size, 1, none⟩ = some (.int .u64 M) ∧ wr.cell? ⟨w13.heap.size, 2, none⟩ = some (.int .i64 E) ∧ Within w wr) (fun t _ => cz - (intOf t).toNat)
  case atStart => exact ⟨0, Nat.zero_le _, rfl, (((Within.refl w13).alloc _).cells _ _ z13).trans r13_0, by rw [Nat.pow_zero, Nat.div_one]; exact (((Within.refl w13).alloc _).cells _ _ z13).trans r13_1, by rw [show e + ((0 : Nat) : Int) = e by omega]; exact (((Within.refl w13).alloc _).cells _ _ z13).trans r13_2, (((Within.refl w13).alloc _).frozens _ _ z13).trans y13_1, (((Within.refl w13).alloc _).frozens _ _ z13).trans y13_2, by simp, by simp, by simp, (by repeat (first | with_reducible exact Within.refl _ | with_reducible assumption | with_reducible refine Within.alloc ?_ _ | with_reducible refine Within.drew ?_ | with_reducible refine Within.setCell ?_ (by first | (simp; done) | (simp; omega)) _ | with_reducible refine Within.trans ?_ (by assumption)))⟩
  case round =>
    obtain ⟨i, hi, rfl, k0, k1, k2, f1, f2, q0, q1, q2, hwr⟩ := hrel
    have V := HV.out i hi
    have t : i < 64 := by have := HB.out.2.1; omega
    have HI := Lib.hid hi
    have NB := Lib.hid (show w13.heap.size ≠ w.heap.size by omega)
    have hv0 : (((mant / 2 ^ i : Nat) : Int) != 0) = true := by rw [bne_iff_ne]; have := V.1; omega
    have hv1 : (((mant / 2 ^ i : Nat) : Int) == 0) = false := by rw [beq_eq_false_iff_ne]; have := V.1; omega
    by_cases hic : i = cz
    · have hp : (((mant / 2 ^ i : Nat) : Int) % 2 == 0) = false := by rw [beq_eq_false_iff_ne]; have := V.2.1 hic; omega
      have hM : mant / 2 ^ i = M := (V.2.1 hic).1
      have hE : e + (i : Int) = E := by have := HB.out.2.2; omega
      rw [hM] at k1 hv0 hv1 hp; rw [hE] at k2
      clear V hi hic hM hE
      go_wp2
      go_ret
      exact ⟨rfl, (by repeat (first | with_reducible exact Within.refl _ | with_reducible assumption | with_reducible refine Within.alloc ?_ _ | with_reducible refine Within.drew ?_ | with_reducible refine Within.setCell ?_ (by first | (simp; done) | (simp; omega)) _ | with_reducible refine Within.trans ?_ (by assumption)))⟩
    · have hp : (((mant / 2 ^ i : Nat) : Int) % 2 == 0) = true := by rw [beq_iff_eq]; have := V.2.2 (by omega); omega
      have hn := (V.2.2 (by omega)).2
      have hvl : mant / 2 ^ i < 18446744073709551616 := Nat.lt_of_le_of_lt (Nat.div_le_self _ _) HML.out
      have g : IntKind.i64.wrap (e + (i : Int) + 1) = e + ((i + 1 : Nat) : Int) := by have := HB.out.1; rw [IntKind.wrap_i64]; omega
      have gi : IntKind.i64.wrap ((i : Int) + 1) = ((i + 1 : Nat) : Int) := by rw [IntKind.wrap_i64]; omega
      have HN := Lib.hid (And.intro hn hic)
      have hd : ((mant / 2 ^ i : Nat) : Int) / 2 = ((mant / 2 ^ (i + 1) : Nat) : Int) := by rw [← hn]; omega
      obtain ⟨v, hv⟩ : ∃ v, mant / 2 ^ i = v := ⟨_, rfl⟩
      rw [hv] at k1 hv0 hv1 hp hd hvl
      obtain ⟨v', hv'⟩ : ∃ v', mant / 2 ^ (i + 1) = v' := ⟨_, rfl⟩
      rw [hv'] at hd
      have gw : IntKind.u64.wrap (v' : Int) = v' := by rw [IntKind.wrap_u64]; omega
      have HVL := Lib.hid hv'
      clear V hi hic hn hv hv' hvl
      go_wp2
      go_roundw
      case rel => exact ⟨i + 1, by have := HI.out; have := HN.out.2; omega, by simp, by rw [World.cell?_setCell_other _ _ _ _ (by simp), World.cell?_setCell_other _ _ _ _ (by simp)]; exact k0, by rw [World.cell?_setCell_other _ _ _ _ (by simp), World.cell?_setCell_same _ _ _ k1, HVL.out], by rw [World.cell?_setCell_same _ _ _ ((World.cell?_setCell_other _ _ _ _ (by simp)).trans k2)]; exact congrArg some (v_int (by omega)), by rw [World.frozen?_setCell, World.frozen?_setCell]; exact f1, by rw [World.frozen?_setCell, World.frozen?_setCell]; exact f2, by rw [World.cell?_setCell_other _ _ _ _ (fun h => NB.out (congrArg Addr.block h).symm), World.cell?_setCell_other _ _ _ _ (fun h => NB.out (congrArg Addr.block h).symm)]; exact q0, by rw [World.cell?_setCell_other _ _ _ _ (fun h => NB.out (congrArg Addr.block h).symm), World.cell?_setCell_other _ _ _ _ (fun h => NB.out (congrArg Addr.block h).symm)]; exact q1, by rw [World.cell?_setCell_other _ _ _ _ (fun h => NB.out (congrArg Addr.block h).symm), World.cell?_setCell_other _ _ _ _ (fun h => NB.out (congrArg Addr.block h).symm)]; exact q2, (by repeat (first | with_reducible exact Within.refl _ | with_reducible assumption | with_reducible refine Within.alloc ?_ _ | with_reducible refine Within.drew ?_ | with_reducible refine Within.setCell ?_ (by first | (simp; done) | (simp; omega)) _ | with_reducible refine Within.trans ?_ (by assumption)))⟩
      case measure => have := HI.out; have := HN.out.2; simp [intOf]; omega

set_option maxRecDepth 100000 in
set_option maxHeartbeats 600000 in
theorem back_o_err (a c mant : Nat) (neg ng : Bool) (e pE : Int) (pM q fr x : Nat) (k er : Int) (w : World) (hT : Tab w) (SP : Hid (∀ w, Calls Tryd.prog 35 #[.float .f64 a] w fun e' w' => e' = .returned (.tuple #[.bool ng, .int .i64 q, .int .u64 fr]) ∧ Within w w')) (JN : Hid (∀ w, Calls Tryd.prog 37 #[.bool ng, .int .i64 q, .int .u64 fr] w fun e' w' => e' = .returned (.tuple #[.float .f64 c, .int .i64 0]) ∧ Within w w')) (KY : Hid (∀ w, Calls Tryd.prog 47 #[.float .f64 a] w fun e' w' => e' = .returned (.int .i64 k) ∧ Within w w')) (UK : Hid (∀ w, Calls Tryd.prog 48 #[.int .i64 k] w fun e' w' => e' = .returned (.tuple #[.float .f64 c, .int .i64 0]) ∧ Within w w')) (SM : Hid (∀ w, Calls Tryd.prog 21 #[.float .f64 c, .float .f64 a] w fun e' w' => e' = .returned (.bool true) ∧ w = w')) (PA : Hid (∀ w, Tab w → Calls Tryd.prog 12 #[.float .f64 a] w fun e' w' => e' = .returned (.tuple #[.agg #[.bool ng, .int .u64 pM, .int .i64 pE], .int .i64 0]) ∧ Within w w')) (OA : Hid (∀ w, Tab w → Calls Tryd.prog 19 #[.agg #[.bool ng, .int .u64 pM, .int .i64 pE]] w fun e' w' => e' = .returned (.tuple #[.float .f64 a, .int .i64 0]) ∧ Within w w')) (SA : Hid (∀ w, Calls Tryd.prog 21 #[.float .f64 a, .float .f64 a] w fun e' w' => e' = .returned (.bool true) ∧ w = w')) (od : ((pM : Int) % 2 == 0) = false) (OF : Hid (∀ w, Tab w → Calls Tryd.prog 19 #[.agg #[.bool neg, .int .u64 mant, .int .i64 e]] w fun e' w' => e' = .returned (.tuple #[.float .f64 0, .int .i64 er]) ∧ Within w w')) (her : (er != 0) = true) : Calls Tryd.prog 7 #[.int .u64 a, .agg #[.bool neg, .int .u64 mant, .int .i64 e]] w fun e' w' => e' = .returned (.bool true) ∧ Within w w' := by
  have z : (FloatKind.f64.format.order 0 0 == some .eq) = true := by decide
  go_enter Tryd.func7, Tryd.ntmps7
  go_wp2_with fail
  refine (f_any a _).mono ?_; rintro e1 w1 ⟨rfl, rfl⟩
  go_wp2_with fail
  refine (SP.out _).mono ?_; rintro e2 w2 ⟨rfl, hb2⟩
  have r2_0 : w2.cell? ⟨w.heap.size, 0, none⟩ = some (.bool neg) := (hb2.cells _ _ (by simp)).trans (by simp)
  have r2_1 : w2.cell? ⟨w.heap.size, 1, none⟩ = some (.int .u64 mant) := (hb2.cells _ _ (by simp)).trans (by simp)
  have r2_2 : w2.cell? ⟨w.heap.size, 2, none⟩ = some (.int .i64 e) := (hb2.cells _ _ (by simp)).trans (by simp)
  have y2_1 : w2.frozen? ⟨w.heap.size, 1, none⟩ = false := (hb2.frozens _ _ (by simp)).trans (by simp)
  have y2_2 : w2.frozen? ⟨w.heap.size, 2, none⟩ = false := (hb2.frozens _ _ (by simp)).trans (by simp)
  have z2 : w.heap.size < w2.heap.size := World.block_lt_of_cell? _ _ r2_0
  go_wp2_with fail
  refine (JN.out _).mono ?_; rintro e3 w3 ⟨rfl, hb3⟩
  have r3_0 : w3.cell? ⟨w.heap.size, 0, none⟩ = some (.bool neg) := (hb3.cells _ _ z2).trans r2_0
  have r3_1 : w3.cell? ⟨w.heap.size, 1, none⟩ = some (.int .u64 mant) := (hb3.cells _ _ z2).trans r2_1
  have r3_2 : w3.cell? ⟨w.heap.size, 2, none⟩ = some (.int .i64 e) := (hb3.cells _ _ z2).trans r2_2
  have y3_1 : w3.frozen? ⟨w.heap.size, 1, none⟩ = false := (hb3.frozens _ _ z2).trans y2_1
  have y3_2 : w3.frozen? ⟨w.heap.size, 2, none⟩ = false := (hb3.frozens _ _ z2).trans y2_2
  have z3 : w.heap.size < w3.heap.size := World.block_lt_of_cell? _ _ r3_0
  clear r2_0 r2_1 r2_2 y2_1 y2_2
  go_wp2_with fail
  refine (KY.out _).mono ?_; rintro e4 w4 ⟨rfl, hb4⟩
  have r4_0 : w4.cell? ⟨w.heap.size, 0, none⟩ = some (.bool neg) := (hb4.cells _ _ z3).trans r3_0
  have r4_1 : w4.cell? ⟨w.heap.size, 1, none⟩ = some (.int .u64 mant) := (hb4.cells _ _ z3).trans r3_1
  have r4_2 : w4.cell? ⟨w.heap.size, 2, none⟩ = some (.int .i64 e) := (hb4.cells _ _ z3).trans r3_2
  have y4_1 : w4.frozen? ⟨w.heap.size, 1, none⟩ = false := (hb4.frozens _ _ z3).trans y3_1
  have y4_2 : w4.frozen? ⟨w.heap.size, 2, none⟩ = false := (hb4.frozens _ _ z3).trans y3_2
  have z4 : w.heap.size < w4.heap.size := World.block_lt_of_cell? _ _ r4_0
  clear r3_0 r3_1 r3_2 y3_1 y3_2
  go_wp2_with fail
  refine (UK.out _).mono ?_; rintro e5 w5 ⟨rfl, hb5⟩
  have r5_0 : w5.cell? ⟨w.heap.size, 0, none⟩ = some (.bool neg) := (hb5.cells _ _ z4).trans r4_0
  have r5_1 : w5.cell? ⟨w.heap.size, 1, none⟩ = some (.int .u64 mant) := (hb5.cells _ _ z4).trans r4_1
  have r5_2 : w5.cell? ⟨w.heap.size, 2, none⟩ = some (.int .i64 e) := (hb5.cells _ _ z4).trans r4_2
  have y5_1 : w5.frozen? ⟨w.heap.size, 1, none⟩ = false := (hb5.frozens _ _ z4).trans y4_1
  have y5_2 : w5.frozen? ⟨w.heap.size, 2, none⟩ = false := (hb5.frozens _ _ z4).trans y4_2
  have z5 : w.heap.size < w5.heap.size := World.block_lt_of_cell? _ _ r5_0
  clear r4_0 r4_1 r4_2 y4_1 y4_2
  go_wp2_with fail
  refine (SM.out _).mono ?_; rintro e6 w6 ⟨rfl, rfl⟩
  go_wp2_with fail
  refine (SM.out _).mono ?_; rintro e7 w7 ⟨rfl, rfl⟩
  go_wp2_with fail
  refine (awake_true _ (hT.of (by repeat (first | with_reducible exact Within.refl _ | with_reducible assumption | with_reducible refine Within.alloc ?_ _ | with_reducible refine Within.drew ?_ | with_reducible refine Within.setCell ?_ (by first | (simp; done) | (simp; omega)) _ | with_reducible refine Within.trans ?_ (by assumption))))).mono ?_; rintro e8 w8 ⟨rfl, hb8⟩
  have r8_0 : w8.cell? ⟨w.heap.size, 0, none⟩ = some (.bool neg) := (hb8.cells _ _ z5).trans r5_0
  have r8_1 : w8.cell? ⟨w.heap.size, 1, none⟩ = some (.int .u64 mant) := (hb8.cells _ _ z5).trans r5_1
  have r8_2 : w8.cell? ⟨w.heap.size, 2, none⟩ = some (.int .i64 e) := (hb8.cells _ _ z5).trans r5_2
  have y8_1 : w8.frozen? ⟨w.heap.size, 1, none⟩ = false := (hb8.frozens _ _ z5).trans y5_1
  have y8_2 : w8.frozen? ⟨w.heap.size, 2, none⟩ = false := (hb8.frozens _ _ z5).trans y5_2
  have z8 : w.heap.size < w8.heap.size := World.block_lt_of_cell? _ _ r8_0
  clear r5_0 r5_1 r5_2 y5_1 y5_2
  go_wp2_with fail
  refine (PA.out _ (hT.of (by repeat (first | with_reducible exact Within.refl _ | with_reducible assumption | with_reducible refine Within.alloc ?_ _ | with_reducible refine Within.drew ?_ | with_reducible refine Within.setCell ?_ (by first | (simp; done) | (simp; omega)) _ | with_reducible refine Within.trans ?_ (by assumption))))).mono ?_; rintro e9 w9 ⟨rfl, hb9⟩
  have r9_0 : w9.cell? ⟨w.heap.size, 0, none⟩ = some (.bool neg) := (hb9.cells _ _ z8).trans r8_0
  have r9_1 : w9.cell? ⟨w.heap.size, 1, none⟩ = some (.int .u64 mant) := (hb9.cells _ _ z8).trans r8_1
  have r9_2 : w9.cell? ⟨w.heap.size, 2, none⟩ = some (.int .i64 e) := (hb9.cells _ _ z8).trans r8_2
  have y9_1 : w9.frozen? ⟨w.heap.size, 1, none⟩ = false := (hb9.frozens _ _ z8).trans y8_1
  have y9_2 : w9.frozen? ⟨w.heap.size, 2, none⟩ = false := (hb9.frozens _ _ z8).trans y8_2
  have z9 : w.heap.size < w9.heap.size := World.block_lt_of_cell? _ _ r9_0
  clear r8_0 r8_1 r8_2 y8_1 y8_2
  go_wp2_with fail
  refine (OA.out _ (hT.of (by repeat (first | with_reducible exact Within.refl _ | with_reducible assumption | with_reducible refine Within.alloc ?_ _ | with_reducible refine Within.drew ?_ | with_reducible refine Within.setCell ?_ (by first | (simp; done) | (simp; omega)) _ | with_reducible refine Within.trans ?_ (by assumption))))).mono ?_; rintro e10 w10 ⟨rfl, hb10⟩
  have r10_0 : w10.cell? ⟨w.heap.size, 0, none⟩ = some (.bool neg) := (hb10.cells _ _ (by simp; omega)).trans ((((Within.refl w9).alloc _).cells _ _ z9).trans r9_0)
  have r10_1 : w10.cell? ⟨w.heap.size, 1, none⟩ = some (.int .u64 mant) := (hb10.cells _ _ (by simp; omega)).trans ((((Within.refl w9).alloc _).cells _ _ z9).trans r9_1)
  have r10_2 : w10.cell? ⟨w.heap.size, 2, none⟩ = some (.int .i64 e) := (hb10.cells _ _ (by simp; omega)).trans ((((Within.refl w9).alloc _).cells _ _ z9).trans r9_2)
  have y10_1 : w10.frozen? ⟨w.heap.size, 1, none⟩ = false := (hb10.frozens _ _ (by simp; omega)).trans ((((Within.refl w9).alloc _).frozens _ _ z9).trans y9_1)
  have y10_2 : w10.frozen? ⟨w.heap.size, 2, none⟩ = false := (hb10.frozens _ _ (by simp; omega)).trans ((((Within.refl w9).alloc _).frozens _ _ z9).trans y9_2)
  have z10 : w.heap.size < w10.heap.size := World.block_lt_of_cell? _ _ r10_0
  clear r9_0 r9_1 r9_2 y9_1 y9_2
  have s10_0 : w10.cell? ⟨w9.heap.size, 0, none⟩ = some (.bool ng) := (hb10.cells _ _ (by simp)).trans (by simp)
  have s10_1 : w10.cell? ⟨w9.heap.size, 1, none⟩ = some (.int .u64 pM) := (hb10.cells _ _ (by simp)).trans (by simp)
  have s10_2 : w10.cell? ⟨w9.heap.size, 2, none⟩ = some (.int .i64 pE) := (hb10.cells _ _ (by simp)).trans (by simp)
  go_wp2_with fail
  refine (SA.out _).mono ?_; rintro e11 w11 ⟨rfl, rfl⟩
  go_wp2_with fail
  refine (OF.out _ (hT.of (by repeat (first | with_reducible exact Within.refl _ | with_reducible assumption | with_reducible refine Within.alloc ?_ _ | with_reducible refine Within.drew ?_ | with_reducible refine Within.setCell ?_ (by first | (simp; done) | (simp; omega)) _ | with_reducible refine Within.trans ?_ (by assumption))))).mono ?_; rintro e12 w12 ⟨rfl, hb12⟩
  go_wp2
  go_ret
  exact ⟨rfl, (by repeat (first | with_reducible exact Within.refl _ | with_reducible assumption | with_reducible refine Within.alloc ?_ _ | with_reducible refine Within.drew ?_ | with_reducible refine Within.setCell ?_ (by first | (simp; done) | (simp; omega)) _ | with_reducible refine Within.trans ?_ (by assumption)))⟩

set_option maxRecDepth 100000 in
set_option maxHeartbeats 600000 in
theorem back_o_zero (a c mant : Nat) (neg ng : Bool) (e pE : Int) (pM q fr x : Nat) (k er : Int) (w : World) (hT : Tab w) (SP : Hid (∀ w, Calls Tryd.prog 35 #[.float .f64 a] w fun e' w' => e' = .returned (.tuple #[.bool ng, .int .i64 q, .int .u64 fr]) ∧ Within w w')) (JN : Hid (∀ w, Calls Tryd.prog 37 #[.bool ng, .int .i64 q, .int .u64 fr] w fun e' w' => e' = .returned (.tuple #[.float .f64 c, .int .i64 0]) ∧ Within w w')) (KY : Hid (∀ w, Calls Tryd.prog 47 #[.float .f64 a] w fun e' w' => e' = .returned (.int .i64 k) ∧ Within w w')) (UK : Hid (∀ w, Calls Tryd.prog 48 #[.int .i64 k] w fun e' w' => e' = .returned (.tuple #[.float .f64 c, .int .i64 0]) ∧ Within w w')) (SM : Hid (∀ w, Calls Tryd.prog 21 #[.float .f64 c, .float .f64 a] w fun e' w' => e' = .returned (.bool true) ∧ w = w')) (PA : Hid (∀ w, Tab w → Calls Tryd.prog 12 #[.float .f64 a] w fun e' w' => e' = .returned (.tuple #[.agg #[.bool ng, .int .u64 pM, .int .i64 pE], .int .i64 0]) ∧ Within w w')) (OA : Hid (∀ w, Tab w → Calls Tryd.prog 19 #[.agg #[.bool ng, .int .u64 pM, .int .i64 pE]] w fun e' w' => e' = .returned (.tuple #[.float .f64 a, .int .i64 0]) ∧ Within w w')) (SA : Hid (∀ w, Calls Tryd.prog 21 #[.float .f64 a, .float .f64 a] w fun e' w' => e' = .returned (.bool true) ∧ w = w')) (od : ((pM : Int) % 2 == 0) = false) (OF : Hid (∀ w, Tab w → Calls Tryd.prog 19 #[.agg #[.bool neg, .int .u64 0, .int .i64 e]] w fun e' w' => e' = .returned (.tuple #[.float .f64 x, .int .i64 0]) ∧ Within w w')) (PN : Hid (∀ w, Tab w → Calls Tryd.prog 12 #[.float .f64 x] w fun e' w' => e' = .returned (.tuple #[.agg #[.bool neg, .int .u64 0, .int .i64 0], .int .i64 0]) ∧ Within w w')) : Calls Tryd.prog 7 #[.int .u64 a, .agg #[.bool neg, .int .u64 0, .int .i64 e]] w fun e' w' => e' = .returned (.bool true) ∧ Within w w' := by
  go_enter Tryd.func7, Tryd.ntmps7
  go_wp2_with fail
  refine (f_any a _).mono ?_; rintro e1 w1 ⟨rfl, rfl⟩
  go_wp2_with fail
  refine (SP.out _).mono ?_; rintro e2 w2 ⟨rfl, hb2⟩
  have r2_0 : w2.cell? ⟨w.heap.size, 0, none⟩ = some (.bool neg) := (hb2.cells _ _ (by simp)).trans (by simp)
  have r2_1 : w2.cell? ⟨w.heap.size, 1, none⟩ = some (.int .u64 0) := (hb2.cells _ _ (by simp)).trans (by simp)
  have r2_2 : w2.cell? ⟨w.heap.size, 2, none⟩ = some (.int .i64 e) := (hb2.cells _ _ (by simp)).trans (by simp)
  have y2_1 : w2.frozen? ⟨w.heap.size, 1, none⟩ = false := (hb2.frozens _ _ (by simp)).trans (by simp)
  have y2_2 : w2.frozen? ⟨w.heap.size, 2, none⟩ = false := (hb2.frozens _ _ (by simp)).trans (by simp)
  have z2 : w.heap.size < w2.heap.size := World.block_lt_of_cell? _ _ r2_0
  go_wp2_with fail
  refine (JN.out _).mono ?_; rintro e3 w3 ⟨rfl, hb3⟩
  have r3_0 : w3.cell? ⟨w.heap.size, 0, none⟩ = some (.bool neg) := (hb3.cells _ _ z2).trans r2_0
  have r3_1 : w3.cell? ⟨w.heap.size, 1, none⟩ = some (.int .u64 0) := (hb3.cells _ _ z2).trans r2_1
  have r3_2 : w3.cell? ⟨w.heap.size, 2, none⟩ = some (.int .i64 e) := (hb3.cells _ _ z2).trans r2_2
  have y3_1 : w3.frozen? ⟨w.heap.size, 1, none⟩ = false := (hb3.frozens _ _ z2).trans y2_1
  have y3_2 : w3.frozen? ⟨w.heap.size, 2, none⟩ = false := (hb3.frozens _ _ z2).trans y2_2
  have z3 : w.heap.size < w3.heap.size := World.block_lt_of_cell? _ _ r3_0
  clear r2_0 r2_1 r2_2 y2_1 y2_2
  go_wp2_with fail
  refine (KY.out _).mono ?_; rintro e4 w4 ⟨rfl, hb4⟩
  have r4_0 : w4.cell? ⟨w.heap.size, 0, none⟩ = some (.bool neg) := (hb4.cells _ _ z3).trans r3_0
  have r4_1 : w4.cell? ⟨w.heap.size, 1, none⟩ = some (.int .u64 0) := (hb4.cells _ _ z3).trans r3_1
  have r4_2 : w4.cell? ⟨w.heap.size, 2, none⟩ = some (.int .i64 e) := (hb4.cells _ _ z3).trans r3_2
  have y4_1 : w4.frozen? ⟨w.heap.size, 1, none⟩ = false := (hb4.frozens _ _ z3).trans y3_1
  have y4_2 : w4.frozen? ⟨w.heap.size, 2, none⟩ = false := (hb4.frozens _ _ z3).trans y3_2
  have z4 : w.heap.size < w4.heap.size := World.block_lt_of_cell? _ _ r4_0
  clear r3_0 r3_1 r3_2 y3_1 y3_2
  go_wp2_with fail
  refine (UK.out _).mono ?_; rintro e5 w5 ⟨rfl, hb5⟩
  have r5_0 : w5.cell? ⟨w.heap.size, 0, none⟩ = some (.bool neg) := (hb5.cells _ _ z4).trans r4_0
  have r5_1 : w5.cell? ⟨w.heap.size, 1, none⟩ = some (.int .u64 0) := (hb5.cells _ _ z4).trans r4_1
  have r5_2 : w5.cell? ⟨w.heap.size, 2, none⟩ = some (.int .i64 e) := (hb5.cells _ _ z4).trans r4_2
  have y5_1 : w5.frozen? ⟨w.heap.size, 1, none⟩ = false := (hb5.frozens _ _ z4).trans y4_1
  have y5_2 : w5.frozen? ⟨w.heap.size, 2, none⟩ = false := (hb5.frozens _ _ z4).trans y4_2
  have z5 : w.heap.size < w5.heap.size := World.block_lt_of_cell? _ _ r5_0
  clear r4_0 r4_1 r4_2 y4_1 y4_2
  go_wp2_with fail
  refine (SM.out _).mono ?_; rintro e6 w6 ⟨rfl, rfl⟩
  go_wp2_with fail
  refine (SM.out _).mono ?_; rintro e7 w7 ⟨rfl, rfl⟩
  go_wp2_with fail
  refine (awake_true _ (hT.of (by repeat (first | with_reducible exact Within.refl _ | with_reducible assumption | with_reducible refine Within.alloc ?_ _ | with_reducible refine Within.drew ?_ | with_reducible refine Within.setCell ?_ (by first | (simp; done) | (simp; omega)) _ | with_reducible refine Within.trans ?_ (by assumption))))).mono ?_; rintro e8 w8 ⟨rfl, hb8⟩
  have r8_0 : w8.cell? ⟨w.heap.size, 0, none⟩ = some (.bool neg) := (hb8.cells _ _ z5).trans r5_0
  have r8_1 : w8.cell? ⟨w.heap.size, 1, none⟩ = some (.int .u64 0) := (hb8.cells _ _ z5).trans r5_1
  have r8_2 : w8.cell? ⟨w.heap.size, 2, none⟩ = some (.int .i64 e) := (hb8.cells _ _ z5).trans r5_2
  have y8_1 : w8.frozen? ⟨w.heap.size, 1, none⟩ = false := (hb8.frozens _ _ z5).trans y5_1
  have y8_2 : w8.frozen? ⟨w.heap.size, 2, none⟩ = false := (hb8.frozens _ _ z5).trans y5_2
  have z8 : w.heap.size < w8.heap.size := World.block_lt_of_cell? _ _ r8_0
  clear r5_0 r5_1 r5_2 y5_1 y5_2
  go_wp2_with fail
  refine (PA.out _ (hT.of (by repeat (first | with_reducible exact Within.refl _ | with_reducible assumption | with_reducible refine Within.alloc ?_ _ | with_reducible refine Within.drew ?_ | with_reducible refine Within.setCell ?_ (by first | (simp; done) | (simp; omega)) _ | with_reducible refine Within.trans ?_ (by assumption))))).mono ?_; rintro e9 w9 ⟨rfl, hb9⟩
  have r9_0 : w9.cell? ⟨w.heap.size, 0, none⟩ = some (.bool neg) := (hb9.cells _ _ z8).trans r8_0
  have r9_1 : w9.cell? ⟨w.heap.size, 1, none⟩ = some (.int .u64 0) := (hb9.cells _ _ z8).trans r8_1
  have r9_2 : w9.cell? ⟨w.heap.size, 2, none⟩ = some (.int .i64 e) := (hb9.cells _ _ z8).trans r8_2
  have y9_1 : w9.frozen? ⟨w.heap.size, 1, none⟩ = false := (hb9.frozens _ _ z8).trans y8_1
  have y9_2 : w9.frozen? ⟨w.heap.size, 2, none⟩ = false := (hb9.frozens _ _ z8).trans y8_2
  have z9 : w.heap.size < w9.heap.size := World.block_lt_of_cell? _ _ r9_0
  clear r8_0 r8_1 r8_2 y8_1 y8_2
  go_wp2_with fail
  refine (OA.out _ (hT.of (by repeat (first | with_reducible exact Within.refl _ | with_reducible assumption | with_reducible refine Within.alloc ?_ _ | with_reducible refine Within.drew ?_ | with_reducible refine Within.setCell ?_ (by first | (simp; done) | (simp; omega)) _ | with_reducible refine Within.trans ?_ (by assumption))))).mono ?_; rintro e10 w10 ⟨rfl, hb10⟩
  have r10_0 : w10.cell? ⟨w.heap.size, 0, none⟩ = some (.bool neg) := (hb10.cells _ _ (by simp; omega)).trans ((((Within.refl w9).alloc _).cells _ _ z9).trans r9_0)
  have r10_1 : w10.cell? ⟨w.heap.size, 1, none⟩ = some (.int .u64 0) := (hb10.cells _ _ (by simp; omega)).trans ((((Within.refl w9).alloc _).cells _ _ z9).trans r9_1)
  have r10_2 : w10.cell? ⟨w.heap.size, 2, none⟩ = some (.int .i64 e) := (hb10.cells _ _ (by simp; omega)).trans ((((Within.refl w9).alloc _).cells _ _ z9).trans r9_2)
  have y10_1 : w10.frozen? ⟨w.heap.size, 1, none⟩ = false := (hb10.frozens _ _ (by simp; omega)).trans ((((Within.refl w9).alloc _).frozens _ _ z9).trans y9_1)
  have y10_2 : w10.frozen? ⟨w.heap.size, 2, none⟩ = false := (hb10.frozens _ _ (by simp; omega)).trans ((((Within.refl w9).alloc _).frozens _ _ z9).trans y9_2)
  have z10 : w.heap.size < w10.heap.size := World.block_lt_of_cell? _ _ r10_0
  clear r9_0 r9_1 r9_2 y9_1 y9_2
  have s10_0 : w10.cell? ⟨w9.heap.size, 0, none⟩ = some (.bool ng) := (hb10.cells _ _ (by simp)).trans (by simp)
  have s10_1 : w10.cell? ⟨w9.heap.size, 1, none⟩ = some (.int .u64 pM) := (hb10.cells _ _ (by simp)).trans (by simp)
  have s10_2 : w10.cell? ⟨w9.heap.size, 2, none⟩ = some (.int .i64 pE) := (hb10.cells _ _ (by simp)).trans (by simp)
  go_wp2_with fail
  refine (SA.out _).mono ?_; rintro e11 w11 ⟨rfl, rfl⟩
  go_wp2_with fail
  refine (OF.out _ (hT.of (by repeat (first | with_reducible exact Within.refl _ | with_reducible assumption | with_reducible refine Within.alloc ?_ _ | with_reducible refine Within.drew ?_ | with_reducible refine Within.setCell ?_ (by first | (simp; done) | (simp; omega)) _ | with_reducible refine Within.trans ?_ (by assumption))))).mono ?_; rintro e12 w12 ⟨rfl, hb12⟩
  have r12_0 : w12.cell? ⟨w.heap.size, 0, none⟩ = some (.bool neg) := (hb12.cells _ _ z10).trans r10_0
  have r12_1 : w12.cell? ⟨w.heap.size, 1, none⟩ = some (.int .u64 0) := (hb12.cells _ _ z10).trans r10_1
  have r12_2 : w12.cell? ⟨w.heap.size, 2, none⟩ = some (.int .i64 e) := (hb12.cells _ _ z10).trans r10_2
  have y12_1 : w12.frozen? ⟨w.heap.size, 1, none⟩ = false := (hb12.frozens _ _ z10).trans y10_1
  have y12_2 : w12.frozen? ⟨w.heap.size, 2, none⟩ = false := (hb12.frozens _ _ z10).trans y10_2
  have z12 : w.heap.size < w12.heap.size := World.block_lt_of_cell? _ _ r12_0
  clear r10_0 r10_1 r10_2 y10_1 y10_2
  go_wp2_with fail
  refine (PN.out _ (hT.of (by repeat (first | with_reducible exact Within.refl _ | with_reducible assumption | with_reducible refine Within.alloc ?_ _ | with_reducible refine Within.drew ?_ | with_reducible refine Within.setCell ?_ (by first | (simp; done) | (simp; omega)) _ | with_reducible refine Within.trans ?_ (by assumption))))).mono ?_; rintro e13 w13 ⟨rfl, hb13⟩
  have r13_0 : w13.cell? ⟨w.heap.size, 0, none⟩ = some (.bool neg) := (hb13.cells _ _ z12).trans r12_0
  have r13_1 : w13.cell? ⟨w.heap.size, 1, none⟩ = some (.int .u64 0) := (hb13.cells _ _ z12).trans r12_1
  have r13_2 : w13.cell? ⟨w.heap.size, 2, none⟩ = some (.int .i64 e) := (hb13.cells _ _ z12).trans r12_2
  have y13_1 : w13.frozen? ⟨w.heap.size, 1, none⟩ = false := (hb13.frozens _ _ z12).trans y12_1
  have y13_2 : w13.frozen? ⟨w.heap.size, 2, none⟩ = false := (hb13.frozens _ _ z12).trans y12_2
  have z13 : w.heap.size < w13.heap.size := World.block_lt_of_cell? _ _ r13_0
  clear r12_0 r12_1 r12_2 y12_1 y12_2
  go_wp2
  refine wp_loop_rounds 1 ?_
  rw [rounds_succ]
  go_wp2
  go_ret
  exact ⟨rfl, (by repeat (first | with_reducible exact Within.refl _ | with_reducible assumption | with_reducible refine Within.alloc ?_ _ | with_reducible refine Within.drew ?_ | with_reducible refine Within.setCell ?_ (by first | (simp; done) | (simp; omega)) _ | with_reducible refine Within.trans ?_ (by assumption)))⟩

set_option maxRecDepth 100000 in
set_option maxHeartbeats 600000 in
theorem back_o_main (a c mant : Nat) (neg ng : Bool) (e pE : Int) (pM q fr x : Nat) (k er : Int) (w : World) (hT : Tab w) (SP : Hid (∀ w, Calls Tryd.prog 35 #[.float .f64 a] w fun e' w' => e' = .returned (.tuple #[.bool ng, .int .i64 q, .int .u64 fr]) ∧ Within w w')) (JN : Hid (∀ w, Calls Tryd.prog 37 #[.bool ng, .int .i64 q, .int .u64 fr] w fun e' w' => e' = .returned (.tuple #[.float .f64 c, .int .i64 0]) ∧ Within w w')) (KY : Hid (∀ w, Calls Tryd.prog 47 #[.float .f64 a] w fun e' w' => e' = .returned (.int .i64 k) ∧ Within w w')) (UK : Hid (∀ w, Calls Tryd.prog 48 #[.int .i64 k] w fun e' w' => e' = .returned (.tuple #[.float .f64 c, .int .i64 0]) ∧ Within w w')) (SM : Hid (∀ w, Calls Tryd.prog 21 #[.float .f64 c, .float .f64 a] w fun e' w' => e' = .returned (.bool true) ∧ w = w')) (m cz M : Nat) (E : Int) (PA : Hid (∀ w, Tab w → Calls Tryd.prog 12 #[.float .f64 a] w fun e' w' => e' = .returned (.tuple #[.agg #[.bool ng, .int .u64 pM, .int .i64 pE], .int .i64 0]) ∧ Within w w')) (OA : Hid (∀ w, Tab w → Calls Tryd.prog 19 #[.agg #[.bool ng, .int .u64 pM, .int .i64 pE]] w fun e' w' => e' = .returned (.tuple #[.float .f64 a, .int .i64 0]) ∧ Within w w')) (SA : Hid (∀ w, Calls Tryd.prog 21 #[.float .f64 a, .float .f64 a] w fun e' w' => e' = .returned (.bool true) ∧ w = w')) (od : ((pM : Int) % 2 == 0) = false) (OF : Hid (∀ w, Tab w → Calls Tryd.prog 19 #[.agg #[.bool neg, .int .u64 mant, .int .i64 e]] w fun e' w' => e' = .returned (.tuple #[.float .f64 x, .int .i64 0]) ∧ Within w w')) (PN : Hid (∀ w, Tab w → Calls Tryd.prog 12 #[.float .f64 x] w fun e' w' => e' = .returned (.tuple #[.agg #[.bool neg, .int .u64 M, .int .i64 E], .int .i64 0]) ∧ Within w w')) (hcz : cz < 64) (hs : mant = 2 ^ cz * (2 * m + 1)) (hM : M = 2 * m + 1) (hE : E = e + cz) (hlo : -2150 ≤ e) (hhi : e ≤ 2150) (hl : mant < 18446744073709551616) : Calls Tryd.prog 7 #[.int .u64 a, .agg #[.bool neg, .int .u64 mant, .int .i64 e]] w fun e' w' => e' = .returned (.bool true) ∧ Within w w' := by
  have m0 : ((mant : Int) == 0) = false := by have h0 : 0 < mant := (by rw [hs]; exact Nat.mul_pos (Nat.two_pow_pos _) (by omega)); rw [beq_eq_false_iff_ne]; omega
  have M0 : ((M : Int) == 0) = false := by rw [beq_eq_false_iff_ne]; omega
  have HV := Lib.hid (mant_down hcz hs hM)
  have HB := Lib.hid (And.intro (And.intro hlo hhi) (And.intro hcz hE))
  have HML := Lib.hid hl
  clear hcz hs hM hE hlo hhi hl
  go_enter Tryd.func7, Tryd.ntmps7
  go_wp2_with fail
  refine (f_any a _).mono ?_; rintro e1 w1 ⟨rfl, rfl⟩
  go_wp2_with fail
  refine (SP.out _).mono ?_; rintro e2 w2 ⟨rfl, hb2⟩
  have r2_0 : w2.cell? ⟨w.heap.size, 0, none⟩ = some (.bool neg) := (hb2.cells _ _ (by simp)).trans (by simp)
  have r2_1 : w2.cell? ⟨w.heap.size, 1, none⟩ = some (.int .u64 mant) := (hb2.cells _ _ (by simp)).trans (by simp)
  have r2_2 : w2.cell? ⟨w.heap.size, 2, none⟩ = some (.int .i64 e) := (hb2.cells _ _ (by simp)).trans (by simp)
  have y2_1 : w2.frozen? ⟨w.heap.size, 1, none⟩ = false := (hb2.frozens _ _ (by simp)).trans (by simp)
  have y2_2 : w2.frozen? ⟨w.heap.size, 2, none⟩ = false := (hb2.frozens _ _ (by simp)).trans (by simp)
  have z2 : w.heap.size < w2.heap.size := World.block_lt_of_cell? _ _ r2_0
  go_wp2_with fail
  refine (JN.out _).mono ?_; rintro e3 w3 ⟨rfl, hb3⟩
  have r3_0 : w3.cell? ⟨w.heap.size, 0, none⟩ = some (.bool neg) := (hb3.cells _ _ z2).trans r2_0
  have r3_1 : w3.cell? ⟨w.heap.size, 1, none⟩ = some (.int .u64 mant) := (hb3.cells _ _ z2).trans r2_1
  have r3_2 : w3.cell? ⟨w.heap.size, 2, none⟩ = some (.int .i64 e) := (hb3.cells _ _ z2).trans r2_2
  have y3_1 : w3.frozen? ⟨w.heap.size, 1, none⟩ = false := (hb3.frozens _ _ z2).trans y2_1
  have y3_2 : w3.frozen? ⟨w.heap.size, 2, none⟩ = false := (hb3.frozens _ _ z2).trans y2_2
  have z3 : w.heap.size < w3.heap.size := World.block_lt_of_cell? _ _ r3_0
  clear r2_0 r2_1 r2_2 y2_1 y2_2
  go_wp2_with fail
  refine (KY.out _).mono ?_; rintro e4 w4 ⟨rfl, hb4⟩
  have r4_0 : w4.cell? ⟨w.heap.size, 0, none⟩ = some (.bool neg) := (hb4.cells _ _ z3).trans r3_0
  have r4_1 : w4.cell? ⟨w.heap.size, 1, none⟩ = some (.int .u64 mant) := (hb4.cells _ _ z3).trans r3_1
  have r4_2 : w4.cell? ⟨w.heap.size, 2, none⟩ = some (.int .i64 e) := (hb4.cells _ _ z3).trans r3_2
  have y4_1 : w4.frozen? ⟨w.heap.size, 1, none⟩ = false := (hb4.frozens _ _ z3).trans y3_1
  have y4_2 : w4.frozen? ⟨w.heap.size, 2, none⟩ = false := (hb4.frozens _ _ z3).trans y3_2
  have z4 : w.heap.size < w4.heap.size := World.block_lt_of_cell? _ _ r4_0
  clear r3_0 r3_1 r3_2 y3_1 y3_2
  go_wp2_with fail
  refine (UK.out _).mono ?_; rintro e5 w5 ⟨rfl, hb5⟩
  have r5_0 : w5.cell? ⟨w.heap.size, 0, none⟩ = some (.bool neg) := (hb5.cells _ _ z4).trans r4_0
  have r5_1 : w5.cell? ⟨w.heap.size, 1, none⟩ = some (.int .u64 mant) := (hb5.cells _ _ z4).trans r4_1
  have r5_2 : w5.cell? ⟨w.heap.size, 2, none⟩ = some (.int .i64 e) := (hb5.cells _ _ z4).trans r4_2
  have y5_1 : w5.frozen? ⟨w.heap.size, 1, none⟩ = false := (hb5.frozens _ _ z4).trans y4_1
  have y5_2 : w5.frozen? ⟨w.heap.size, 2, none⟩ = false := (hb5.frozens _ _ z4).trans y4_2
  have z5 : w.heap.size < w5.heap.size := World.block_lt_of_cell? _ _ r5_0
  clear r4_0 r4_1 r4_2 y4_1 y4_2
  go_wp2_with fail
  refine (SM.out _).mono ?_; rintro e6 w6 ⟨rfl, rfl⟩
  go_wp2_with fail
  refine (SM.out _).mono ?_; rintro e7 w7 ⟨rfl, rfl⟩
  go_wp2_with fail
  refine (awake_true _ (hT.of (by repeat (first | with_reducible exact Within.refl _ | with_reducible assumption | with_reducible refine Within.alloc ?_ _ | with_reducible refine Within.drew ?_ | with_reducible refine Within.setCell ?_ (by first | (simp; done) | (simp; omega)) _ | with_reducible refine Within.trans ?_ (by assumption))))).mono ?_; rintro e8 w8 ⟨rfl, hb8⟩
  have r8_0 : w8.cell? ⟨w.heap.size, 0, none⟩ = some (.bool neg) := (hb8.cells _ _ z5).trans r5_0
  have r8_1 : w8.cell? ⟨w.heap.size, 1, none⟩ = some (.int .u64 mant) := (hb8.cells _ _ z5).trans r5_1
  have r8_2 : w8.cell? ⟨w.heap.size, 2, none⟩ = some (.int .i64 e) := (hb8.cells _ _ z5).trans r5_2
  have y8_1 : w8.frozen? ⟨w.heap.size, 1, none⟩ = false := (hb8.frozens _ _ z5).trans y5_1
  have y8_2 : w8.frozen? ⟨w.heap.size, 2, none⟩ = false := (hb8.frozens _ _ z5).trans y5_2
  have z8 : w.heap.size < w8.heap.size := World.block_lt_of_cell? _ _ r8_0
  clear r5_0 r5_1 r5_2 y5_1 y5_2
  go_wp2_with fail
  refine (PA.out _ (hT.of (by repeat (first | with_reducible exact Within.refl _ | with_reducible assumption | with_reducible refine Within.alloc ?_ _ | with_reducible refine Within.drew ?_ | with_reducible refine Within.setCell ?_ (by first | (simp; done) | (simp; omega)) _ | with_reducible refine Within.trans ?_ (by assumption))))).mono ?_; rintro e9 w9 ⟨rfl, hb9⟩
  have r9_0 : w9.cell? ⟨w.heap.size, 0, none⟩ = some (.bool neg) := (hb9.cells _ _ z8).trans r8_0
  have r9_1 : w9.cell? ⟨w.heap.size, 1, none⟩ = some (.int .u64 mant) := (hb9.cells _ _ z8).trans r8_1
  have r9_2 : w9.cell? ⟨w.heap.size, 2, none⟩ = some (.int .i64 e) := (hb9.cells _ _ z8).trans r8_2
  have y9_1 : w9.frozen? ⟨w.heap.size, 1, none⟩ = false := (hb9.frozens _ _ z8).trans y8_1
  have y9_2 : w9.frozen? ⟨w.heap.size, 2, none⟩ = false := (hb9.frozens _ _ z8).trans y8_2
  have z9 : w.heap.size < w9.heap.size := World.block_lt_of_cell? _ _ r9_0
  clear r8_0 r8_1 r8_2 y8_1 y8_2
  go_wp2_with fail
  refine (OA.out _ (hT.of (by repeat (first | with_reducible exact Within.refl _ | with_reducible assumption | with_reducible refine Within.alloc ?_ _ | with_reducible refine Within.drew ?_ | with_reducible refine Within.setCell ?_ (by first | (simp; done) | (simp; omega)) _ | with_reducible refine Within.trans ?_ (by assumption))))).mono ?_; rintro e10 w10 ⟨rfl, hb10⟩
  have r10_0 : w10.cell? ⟨w.heap.size, 0, none⟩ = some (.bool neg) := (hb10.cells _ _ (by simp; omega)).trans ((((Within.refl w9).alloc _).cells _ _ z9).trans r9_0)
  have r10_1 : w10.cell? ⟨w.heap.size, 1, none⟩ = some (.int .u64 mant) := (hb10.cells _ _ (by simp; omega)).trans ((((Within.refl w9).alloc _).cells _ _ z9).trans r9_1)
  have r10_2 : w10.cell? ⟨w.heap.size, 2, none⟩ = some (.int .i64 e) := (hb10.cells _ _ (by simp; omega)).trans ((((Within.refl w9).alloc _).cells _ _ z9).trans r9_2)
  have y10_1 : w10.frozen? ⟨w.heap.size, 1, none⟩ = false := (hb10.frozens _ _ (by simp; omega)).trans ((((Within.refl w9).alloc _).frozens _ _ z9).trans y9_1)
  have y10_2 : w10.frozen? ⟨w.heap.size, 2, none⟩ = false := (hb10.frozens _ _ (by simp; omega)).trans ((((Within.refl w9).alloc _).frozens _ _ z9).trans y9_2)
  have z10 : w.heap.size < w10.heap.size := World.block_lt_of_cell? _ _ r10_0
  clear r9_0 r9_1 r9_2 y9_1 y9_2
  have s10_0 : w10.cell? ⟨w9.heap.size, 0, none⟩ = some (.bool ng) := (hb10.cells _ _ (by simp)).trans (by simp)
  have s10_1 : w10.cell? ⟨w9.heap.size, 1, none⟩ = some (.int .u64 pM) := (hb10.cells _ _ (by simp)).trans (by simp)
  have s10_2 : w10.cell? ⟨w9.heap.size, 2, none⟩ = some (.int .i64 pE) := (hb10.cells _ _ (by simp)).trans (by simp)
  go_wp2_with fail
  refine (SA.out _).mono ?_; rintro e11 w11 ⟨rfl, rfl⟩
  go_wp2_with fail
  refine (OF.out _ (hT.of (by repeat (first | with_reducible exact Within.refl _ | with_reducible assumption | with_reducible refine Within.alloc ?_ _ | with_reducible refine Within.drew ?_ | with_reducible refine Within.setCell ?_ (by first | (simp; done) | (simp; omega)) _ | with_reducible refine Within.trans ?_ (by assumption))))).mono ?_; rintro e12 w12 ⟨rfl, hb12⟩
  have r12_0 : w12.cell? ⟨w.heap.size, 0, none⟩ = some (.bool neg) := (hb12.cells _ _ z10).trans r10_0
  have r12_1 : w12.cell? ⟨w.heap.size, 1, none⟩ = some (.int .u64 mant) := (hb12.cells _ _ z10).trans r10_1
  have r12_2 : w12.cell? ⟨w.heap.size, 2, none⟩ = some (.int .i64 e) := (hb12.cells _ _ z10).trans r10_2
  have y12_1 : w12.frozen? ⟨w.heap.size, 1, none⟩ = false := (hb12.frozens _ _ z10).trans y10_1
  have y12_2 : w12.frozen? ⟨w.heap.size, 2, none⟩ = false := (hb12.frozens _ _ z10).trans y10_2
  have z12 : w.heap.size < w12.heap.size := World.block_lt_of_cell? _ _ r12_0
  clear r10_0 r10_1 r10_2 y10_1 y10_2
  go_wp2_with fail
  refine (PN.out _ (hT.of (by repeat (first | with_reducible exact Within.refl _ | with_reducible assumption | with_reducible refine Within.alloc ?_ _ | with_reducible refine Within.drew ?_ | with_reducible refine Within.setCell ?_ (by first | (simp; done) | (simp; omega)) _ | with_reducible refine Within.trans ?_ (by assumption))))).mono ?_; rintro e13 w13 ⟨rfl, hb13⟩
  have r13_0 : w13.cell? ⟨w.heap.size, 0, none⟩ = some (.bool neg) := (hb13.cells _ _ z12).trans r12_0
  have r13_1 : w13.cell? ⟨w.heap.size, 1, none⟩ = some (.int .u64 mant) := (hb13.cells _ _ z12).trans r12_1
  have r13_2 : w13.cell? ⟨w.heap.size, 2, none⟩ = some (.int .i64 e) := (hb13.cells _ _ z12).trans r12_2
  have y13_1 : w13.frozen? ⟨w.heap.size, 1, none⟩ = false := (hb13.frozens _ _ z12).trans y12_1
  have y13_2 : w13.frozen? ⟨w.heap.size, 2, none⟩ = false := (hb13.frozens _ _ z12).trans y12_2
  have z13 : w.heap.size < w13.heap.size := World.block_lt_of_cell? _ _ r13_0
  clear r12_0 r12_1 r12_2 y12_1 y12_2
  go_wp2
  go_loopw [15] (fun t wr => ∃ i : Nat, i ≤ cz ∧ t = .int .i64 i ∧ wr.cell? ⟨w.heap.size, 0, none⟩ = some (.bool neg) ∧ wr.cell? ⟨w.heap.size, 1, none⟩ = some (.int .u64 (mant / 2 ^ i : Nat)) ∧ wr.cell? ⟨w.heap.size, 2, none⟩ = some (.int .i64 (e + i)) ∧ wr.frozen? ⟨w.heap.size, 1, none⟩ = false ∧ wr.frozen? ⟨w.heap.size, 2, none⟩ = false ∧ wr.cell? ⟨w13.heap.size, 0, none⟩ = some (.bool neg) ∧ wr.cell? ⟨w13.heap.size, 1, none⟩ = some (.int .u64 M) ∧ wr.cell? ⟨w13.heap.size, 2, none⟩ = some (.int .i64 E) ∧ Within w wr) (fun t _ => cz - (intOf t).toNat)
  case atStart => exact ⟨0, Nat.zero_le _, rfl, (((Within.refl w13).alloc _).cells _ _ z13).trans r13_0, by rw [Nat.pow_zero, Nat.div_one]; exact (((Within.refl w13).alloc _).cells _ _ z13).trans r13_1, by rw [show e + ((0 : Nat) : Int) = e by omega]; exact (((Within.refl w13).alloc _).cells _ _ z13).trans r13_2, (((Within.refl w13).alloc _).frozens _ _ z13).trans y13_1, (((Within.refl w13).alloc _).frozens _ _ z13).trans y13_2, by simp, by simp, by simp, (by repeat (first | with_reducible exact Within.refl _ | with_reducible assumption | with_reducible refine Within.alloc ?_ _ | with_reducible refine Within.drew ?_ | with_reducible refine Within.setCell ?_ (by first | (simp; done) | (simp; omega)) _ | with_reducible refine Within.trans ?_ (by assumption)))⟩
  case round =>
    obtain ⟨i, hi, rfl, k0, k1, k2, f1, f2, q0, q1, q2, hwr⟩ := hrel
    have V := HV.out i hi
    have t : i < 64 := by have := HB.out.2.1; omega
    have HI := Lib.hid hi
    have NB := Lib.hid (show w13.heap.size ≠ w.heap.size by omega)
    have hv0 : (((mant / 2 ^ i : Nat) : Int) != 0) = true := by rw [bne_iff_ne]; have := V.1; omega
    have hv1 : (((mant / 2 ^ i : Nat) : Int) == 0) = false := by rw [beq_eq_false_iff_ne]; have := V.1; omega
    by_cases hic : i = cz
    · have hp : (((mant / 2 ^ i : Nat) : Int) % 2 == 0) = false := by rw [beq_eq_false_iff_ne]; have := V.2.1 hic; omega
      have hM : mant / 2 ^ i = M := (V.2.1 hic).1
      have hE : e + (i : Int) = E := by have := HB.out.2.2; omega
      rw [hM] at k1 hv0 hv1 hp; rw [hE] at k2
      clear V hi hic hM hE
      go_wp2
      go_ret
      exact ⟨rfl, (by repeat (first | with_reducible exact Within.refl _ | with_reducible assumption | with_reducible refine Within.alloc ?_ _ | with_reducible refine Within.drew ?_ | with_reducible refine Within.setCell ?_ (by first | (simp; done) | (simp; omega)) _ | with_reducible refine Within.trans ?_ (by assumption)))⟩
    · have hp : (((mant / 2 ^ i : Nat) : Int) % 2 == 0) = true := by rw [beq_iff_eq]; have := V.2.2 (by omega); omega
      have hn := (V.2.2 (by omega)).2
      have hvl : mant / 2 ^ i < 18446744073709551616 := Nat.lt_of_le_of_lt (Nat.div_le_self _ _) HML.out
      have g : IntKind.i64.wrap (e + (i : Int) + 1) = e + ((i + 1 : Nat) : Int) := by have := HB.out.1; rw [IntKind.wrap_i64]; omega
      have gi : IntKind.i64.wrap ((i : Int) + 1) = ((i + 1 : Nat) : Int) := by rw [IntKind.wrap_i64]; omega
      have HN := Lib.hid (And.intro hn hic)
      have hd : ((mant / 2 ^ i : Nat) : Int) / 2 = ((mant / 2 ^ (i + 1) : Nat) : Int) := by rw [← hn]; omega
      obtain ⟨v, hv⟩ : ∃ v, mant / 2 ^ i = v := ⟨_, rfl⟩
      rw [hv] at k1 hv0 hv1 hp hd hvl
      obtain ⟨v', hv'⟩ : ∃ v', mant / 2 ^ (i + 1) = v' := ⟨_, rfl⟩
      rw [hv'] at hd
      have gw : IntKind.u64.wrap (v' : Int) = v' := by rw [IntKind.wrap_u64]; omega
      have HVL := Lib.hid hv'
      clear V hi hic hn hv hv' hvl
      go_wp2
      go_roundw
      case rel => exact ⟨i + 1, by have := HI.out; have := HN.out.2; omega, by simp, by rw [World.cell?_setCell_other _ _ _ _ (by simp), World.cell?_setCell_other _ _ _ _ (by simp)]; exact k0, by rw [World.cell?_setCell_other _ _ _ _ (by simp), World.cell?_setCell_same _ _ _ k1, HVL.out], by rw [World.cell?_setCell_same _ _ _ ((World.cell?_setCell_other _ _ _ _ (by simp)).trans k2)]; exact congrArg some (v_int (by omega)), by rw [World.frozen?_setCell, World.frozen?_setCell]; exact f1, by rw [World.frozen?_setCell, World.frozen?_setCell]; exact f2, by rw [World.cell?_setCell_other _ _ _ _ (fun h => NB.out (congrArg Addr.block h).symm), World.cell?_setCell_other _ _ _ _ (fun h => NB.out (congrArg Addr.block h).symm)]; exact q0, by rw [World.cell?_setCell_other _ _ _ _ (fun h => NB.out (congrArg Addr.block h).symm), World.cell?_setCell_other _ _ _ _ (fun h => NB.out (congrArg Addr.block h).symm)]; exact q1, by rw [World.cell?_setCell_other _ _ _ _ (fun h => NB.out (congrArg Addr.block h).symm), World.cell?_setCell_other _ _ _ _ (fun h => NB.out (congrArg Addr.block h).symm)]; exact q2, (by repeat (first | with_reducible exact Within.refl _ | with_reducible assumption | with_reducible refine Within.alloc ?_ _ | with_reducible refine Within.drew ?_ | with_reducible refine Within.setCell ?_ (by first | (simp; done) | (simp; omega)) _ | with_reducible refine Within.trans ?_ (by assumption)))⟩
      case measure => have := HI.out; have := HN.out.2; simp [intOf]; omega

set_option maxRecDepth 100000 in
set_option maxHeartbeats 600000 in
theorem back_n_err (a c mant : Nat) (neg ng : Bool) (e pE : Int) (pM q fr x : Nat) (k er : Int) (w : World) (hT : Tab w) (SP : Hid (∀ w, Calls Tryd.prog 35 #[.float .f64 a] w fun e' w' => e' = .returned (.tuple #[.bool ng, .int .i64 q, .int .u64 fr]) ∧ Within w w')) (JN : Hid (∀ w, Calls Tryd.prog 37 #[.bool ng, .int .i64 q, .int .u64 fr] w fun e' w' => e' = .returned (.tuple #[.float .f64 c, .int .i64 0]) ∧ Within w w')) (KY : Hid (∀ w, Calls Tryd.prog 47 #[.float .f64 a] w fun e' w' => e' = .returned (.int .i64 k) ∧ Within w w')) (UK : Hid (∀ w, Calls Tryd.prog 48 #[.int .i64 k] w fun e' w' => e' = .returned (.tuple #[.float .f64 c, .int .i64 0]) ∧ Within w w')) (SM : Hid (∀ w, Calls Tryd.prog 21 #[.float .f64 c, .float .f64 a] w fun e' w' => e' = .returned (.bool true) ∧ w = w')) (PA : Hid (∀ w, Tab w → Calls Tryd.prog 12 #[.float .f64 a] w fun e' w' => e' = .returned (.tuple #[.agg #[.bool ng, .int .u64 0, .int .i64 0], .int .i64 0]) ∧ Within w w')) (OA : Hid (∀ w, Tab w → Calls Tryd.prog 19 #[.agg #[.bool ng, .int .u64 0, .int .i64 0]] w fun e' w' => e' = .returned (.tuple #[.float .f64 a, .int .i64 0]) ∧ Within w w')) (SA : Hid (∀ w, Calls Tryd.prog 21 #[.float .f64 a, .float .f64 a] w fun e' w' => e' = .returned (.bool true) ∧ w = w')) (OF : Hid (∀ w, Tab w → Calls Tryd.prog 19 #[.agg #[.bool neg, .int .u64 mant, .int .i64 e]] w fun e' w' => e' = .returned (.tuple #[.float .f64 0, .int .i64 er]) ∧ Within w w')) (her : (er != 0) = true) : Calls Tryd.prog 7 #[.int .u64 a, .agg #[.bool neg, .int .u64 mant, .int .i64 e]] w fun e' w' => e' = .returned (.bool true) ∧ Within w w' := by
  have z : (FloatKind.f64.format.order 0 0 == some .eq) = true := by decide
  go_enter Tryd.func7, Tryd.ntmps7
  go_wp2_with fail
  refine (f_any a _).mono ?_; rintro e1 w1 ⟨rfl, rfl⟩
  go_wp2_with fail
  refine (SP.out _).mono ?_; rintro e2 w2 ⟨rfl, hb2⟩
  have r2_0 : w2.cell? ⟨w.heap.size, 0, none⟩ = some (.bool neg) := (hb2.cells _ _ (by simp)).trans (by simp)
  have r2_1 : w2.cell? ⟨w.heap.size, 1, none⟩ = some (.int .u64 mant) := (hb2.cells _ _ (by simp)).trans (by simp)
  have r2_2 : w2.cell? ⟨w.heap.size, 2, none⟩ = some (.int .i64 e) := (hb2.cells _ _ (by simp)).trans (by simp)
  have y2_1 : w2.frozen? ⟨w.heap.size, 1, none⟩ = false := (hb2.frozens _ _ (by simp)).trans (by simp)
  have y2_2 : w2.frozen? ⟨w.heap.size, 2, none⟩ = false := (hb2.frozens _ _ (by simp)).trans (by simp)
  have z2 : w.heap.size < w2.heap.size := World.block_lt_of_cell? _ _ r2_0
  go_wp2_with fail
  refine (JN.out _).mono ?_; rintro e3 w3 ⟨rfl, hb3⟩
  have r3_0 : w3.cell? ⟨w.heap.size, 0, none⟩ = some (.bool neg) := (hb3.cells _ _ z2).trans r2_0
  have r3_1 : w3.cell? ⟨w.heap.size, 1, none⟩ = some (.int .u64 mant) := (hb3.cells _ _ z2).trans r2_1
  have r3_2 : w3.cell? ⟨w.heap.size, 2, none⟩ = some (.int .i64 e) := (hb3.cells _ _ z2).trans r2_2
  have y3_1 : w3.frozen? ⟨w.heap.size, 1, none⟩ = false := (hb3.frozens _ _ z2).trans y2_1
  have y3_2 : w3.frozen? ⟨w.heap.size, 2, none⟩ = false := (hb3.frozens _ _ z2).trans y2_2
  have z3 : w.heap.size < w3.heap.size := World.block_lt_of_cell? _ _ r3_0
  clear r2_0 r2_1 r2_2 y2_1 y2_2
  go_wp2_with fail
  refine (KY.out _).mono ?_; rintro e4 w4 ⟨rfl, hb4⟩
  have r4_0 : w4.cell? ⟨w.heap.size, 0, none⟩ = some (.bool neg) := (hb4.cells _ _ z3).trans r3_0
  have r4_1 : w4.cell? ⟨w.heap.size, 1, none⟩ = some (.int .u64 mant) := (hb4.cells _ _ z3).trans r3_1
  have r4_2 : w4.cell? ⟨w.heap.size, 2, none⟩ = some (.int .i64 e) := (hb4.cells _ _ z3).trans r3_2
  have y4_1 : w4.frozen? ⟨w.heap.size, 1, none⟩ = false := (hb4.frozens _ _ z3).trans y3_1
  have y4_2 : w4.frozen? ⟨w.heap.size, 2, none⟩ = false := (hb4.frozens _ _ z3).trans y3_2
  have z4 : w.heap.size < w4.heap.size := World.block_lt_of_cell? _ _ r4_0
  clear r3_0 r3_1 r3_2 y3_1 y3_2
  go_wp2_with fail
  refine (UK.out _).mono ?_; rintro e5 w5 ⟨rfl, hb5⟩
  have r5_0 : w5.cell? ⟨w.heap.size, 0, none⟩ = some (.bool neg) := (hb5.cells _ _ z4).trans r4_0
  have r5_1 : w5.cell? ⟨w.heap.size, 1, none⟩ = some (.int .u64 mant) := (hb5.cells _ _ z4).trans r4_1
  have r5_2 : w5.cell? ⟨w.heap.size, 2, none⟩ = some (.int .i64 e) := (hb5.cells _ _ z4).trans r4_2
  have y5_1 : w5.frozen? ⟨w.heap.size, 1, none⟩ = false := (hb5.frozens _ _ z4).trans y4_1
  have y5_2 : w5.frozen? ⟨w.heap.size, 2, none⟩ = false := (hb5.frozens _ _ z4).trans y4_2
  have z5 : w.heap.size < w5.heap.size := World.block_lt_of_cell? _ _ r5_0
  clear r4_0 r4_1 r4_2 y4_1 y4_2
  go_wp2_with fail
  refine (SM.out _).mono ?_; rintro e6 w6 ⟨rfl, rfl⟩
  go_wp2_with fail
  refine (SM.out _).mono ?_; rintro e7 w7 ⟨rfl, rfl⟩
  go_wp2_with fail
  refine (awake_true _ (hT.of (by repeat (first | with_reducible exact Within.refl _ | with_reducible assumption | with_reducible refine Within.alloc ?_ _ | with_reducible refine Within.drew ?_ | with_reducible refine Within.setCell ?_ (by first | (simp; done) | (simp; omega)) _ | with_reducible refine Within.trans ?_ (by assumption))))).mono ?_; rintro e8 w8 ⟨rfl, hb8⟩
  have r8_0 : w8.cell? ⟨w.heap.size, 0, none⟩ = some (.bool neg) := (hb8.cells _ _ z5).trans r5_0
  have r8_1 : w8.cell? ⟨w.heap.size, 1, none⟩ = some (.int .u64 mant) := (hb8.cells _ _ z5).trans r5_1
  have r8_2 : w8.cell? ⟨w.heap.size, 2, none⟩ = some (.int .i64 e) := (hb8.cells _ _ z5).trans r5_2
  have y8_1 : w8.frozen? ⟨w.heap.size, 1, none⟩ = false := (hb8.frozens _ _ z5).trans y5_1
  have y8_2 : w8.frozen? ⟨w.heap.size, 2, none⟩ = false := (hb8.frozens _ _ z5).trans y5_2
  have z8 : w.heap.size < w8.heap.size := World.block_lt_of_cell? _ _ r8_0
  clear r5_0 r5_1 r5_2 y5_1 y5_2
  go_wp2_with fail
  refine (PA.out _ (hT.of (by repeat (first | with_reducible exact Within.refl _ | with_reducible assumption | with_reducible refine Within.alloc ?_ _ | with_reducible refine Within.drew ?_ | with_reducible refine Within.setCell ?_ (by first | (simp; done) | (simp; omega)) _ | with_reducible refine Within.trans ?_ (by assumption))))).mono ?_; rintro e9 w9 ⟨rfl, hb9⟩
  have r9_0 : w9.cell? ⟨w.heap.size, 0, none⟩ = some (.bool neg) := (hb9.cells _ _ z8).trans r8_0
  have r9_1 : w9.cell? ⟨w.heap.size, 1, none⟩ = some (.int .u64 mant) := (hb9.cells _ _ z8).trans r8_1
  have r9_2 : w9.cell? ⟨w.heap.size, 2, none⟩ = some (.int .i64 e) := (hb9.cells _ _ z8).trans r8_2
  have y9_1 : w9.frozen? ⟨w.heap.size, 1, none⟩ = false := (hb9.frozens _ _ z8).trans y8_1
  have y9_2 : w9.frozen? ⟨w.heap.size, 2, none⟩ = false := (hb9.frozens _ _ z8).trans y8_2
  have z9 : w.heap.size < w9.heap.size := World.block_lt_of_cell? _ _ r9_0
  clear r8_0 r8_1 r8_2 y8_1 y8_2
  go_wp2_with fail
  refine (OA.out _ (hT.of (by repeat (first | with_reducible exact Within.refl _ | with_reducible assumption | with_reducible refine Within.alloc ?_ _ | with_reducible refine Within.drew ?_ | with_reducible refine Within.setCell ?_ (by first | (simp; done) | (simp; omega)) _ | with_reducible refine Within.trans ?_ (by assumption))))).mono ?_; rintro e10 w10 ⟨rfl, hb10⟩
  have r10_0 : w10.cell? ⟨w.heap.size, 0, none⟩ = some (.bool neg) := (hb10.cells _ _ (by simp; omega)).trans ((((Within.refl w9).alloc _).cells _ _ z9).trans r9_0)
  have r10_1 : w10.cell? ⟨w.heap.size, 1, none⟩ = some (.int .u64 mant) := (hb10.cells _ _ (by simp; omega)).trans ((((Within.refl w9).alloc _).cells _ _ z9).trans r9_1)
  have r10_2 : w10.cell? ⟨w.heap.size, 2, none⟩ = some (.int .i64 e) := (hb10.cells _ _ (by simp; omega)).trans ((((Within.refl w9).alloc _).cells _ _ z9).trans r9_2)
  have y10_1 : w10.frozen? ⟨w.heap.size, 1, none⟩ = false := (hb10.frozens _ _ (by simp; omega)).trans ((((Within.refl w9).alloc _).frozens _ _ z9).trans y9_1)
  have y10_2 : w10.frozen? ⟨w.heap.size, 2, none⟩ = false := (hb10.frozens _ _ (by simp; omega)).trans ((((Within.refl w9).alloc _).frozens _ _ z9).trans y9_2)
  have z10 : w.heap.size < w10.heap.size := World.block_lt_of_cell? _ _ r10_0
  clear r9_0 r9_1 r9_2 y9_1 y9_2
  have s10_0 : w10.cell? ⟨w9.heap.size, 0, none⟩ = some (.bool ng) := (hb10.cells _ _ (by simp)).trans (by simp)
  have s10_1 : w10.cell? ⟨w9.heap.size, 1, none⟩ = some (.int .u64 0) := (hb10.cells _ _ (by simp)).trans (by simp)
  have s10_2 : w10.cell? ⟨w9.heap.size, 2, none⟩ = some (.int .i64 0) := (hb10.cells _ _ (by simp)).trans (by simp)
  go_wp2_with fail
  refine (SA.out _).mono ?_; rintro e11 w11 ⟨rfl, rfl⟩
  go_wp2_with fail
  refine (OF.out _ (hT.of (by repeat (first | with_reducible exact Within.refl _ | with_reducible assumption | with_reducible refine Within.alloc ?_ _ | with_reducible refine Within.drew ?_ | with_reducible refine Within.setCell ?_ (by first | (simp; done) | (simp; omega)) _ | with_reducible refine Within.trans ?_ (by assumption))))).mono ?_; rintro e12 w12 ⟨rfl, hb12⟩
  go_wp2
  go_ret
  exact ⟨rfl, (by repeat (first | with_reducible exact Within.refl _ | with_reducible assumption | with_reducible refine Within.alloc ?_ _ | with_reducible refine Within.drew ?_ | with_reducible refine Within.setCell ?_ (by first | (simp; done) | (simp; omega)) _ | with_reducible refine Within.trans ?_ (by assumption)))⟩

set_option maxRecDepth 100000 in
set_option maxHeartbeats 600000 in
theorem back_n_zero (a c mant : Nat) (neg ng : Bool) (e pE : Int) (pM q fr x : Nat) (k er : Int) (w : World) (hT : Tab w) (SP : Hid (∀ w, Calls Tryd.prog 35 #[.float .f64 a] w fun e' w' => e' = .returned (.tuple #[.bool ng, .int .i64 q, .int .u64 fr]) ∧ Within w w')) (JN : Hid (∀ w, Calls Tryd.prog 37 #[.bool ng, .int .i64 q, .int .u64 fr] w fun e' w' => e' = .returned (.tuple #[.float .f64 c, .int .i64 0]) ∧ Within w w')) (KY : Hid (∀ w, Calls Tryd.prog 47 #[.float .f64 a] w fun e' w' => e' = .returned (.int .i64 k) ∧ Within w w')) (UK : Hid (∀ w, Calls Tryd.prog 48 #[.int .i64 k] w fun e' w' => e' = .returned (.tuple #[.float .f64 c, .int .i64 0]) ∧ Within w w')) (SM : Hid (∀ w, Calls Tryd.prog 21 #[.float .f64 c, .float .f64 a] w fun e' w' => e' = .returned (.bool true) ∧ w = w')) (PA : Hid (∀ w, Tab w → Calls Tryd.prog 12 #[.float .f64 a] w fun e' w' => e' = .returned (.tuple #[.agg #[.bool ng, .int .u64 0, .int .i64 0], .int .i64 0]) ∧ Within w w')) (OA : Hid (∀ w, Tab w → Calls Tryd.prog 19 #[.agg #[.bool ng, .int .u64 0, .int .i64 0]] w fun e' w' => e' = .returned (.tuple #[.float .f64 a, .int .i64 0]) ∧ Within w w')) (SA : Hid (∀ w, Calls Tryd.prog 21 #[.float .f64 a, .float .f64 a] w fun e' w' => e' = .returned (.bool true) ∧ w = w')) (OF : Hid (∀ w, Tab w → Calls Tryd.prog 19 #[.agg #[.bool neg, .int .u64 0, .int .i64 e]] w fun e' w' => e' = .returned (.tuple #[.float .f64 x, .int .i64 0]) ∧ Within w w')) (PN : Hid (∀ w, Tab w → Calls Tryd.prog 12 #[.float .f64 x] w fun e' w' => e' = .returned (.tuple #[.agg #[.bool neg, .int .u64 0, .int .i64 0], .int .i64 0]) ∧ Within w w')) : Calls Tryd.prog 7 #[.int .u64 a, .agg #[.bool neg, .int .u64 0, .int .i64 e]] w fun e' w' => e' = .returned (.bool true) ∧ Within w w' := by
  go_enter Tryd.func7, Tryd.ntmps7
  go_wp2_with fail
  refine (f_any a _).mono ?_; rintro e1 w1 ⟨rfl, rfl⟩
  go_wp2_with fail
  refine (SP.out _).mono ?_; rintro e2 w2 ⟨rfl, hb2⟩
  have r2_0 : w2.cell? ⟨w.heap.size, 0, none⟩ = some (.bool neg) := (hb2.cells _ _ (by simp)).trans (by simp)
  have r2_1 : w2.cell? ⟨w.heap.size, 1, none⟩ = some (.int .u64 0) := (hb2.cells _ _ (by simp)).trans (by simp)
  have r2_2 : w2.cell? ⟨w.heap.size, 2, none⟩ = some (.int .i64 e) := (hb2.cells _ _ (by simp)).trans (by simp)
  have y2_1 : w2.frozen? ⟨w.heap.size, 1, none⟩ = false := (hb2.frozens _ _ (by simp)).trans (by simp)
  have y2_2 : w2.frozen? ⟨w.heap.size, 2, none⟩ = false := (hb2.frozens _ _ (by simp)).trans (by simp)
  have z2 : w.heap.size < w2.heap.size := World.block_lt_of_cell? _ _ r2_0
  go_wp2_with fail
  refine (JN.out _).mono ?_; rintro e3 w3 ⟨rfl, hb3⟩
  have r3_0 : w3.cell? ⟨w.heap.size, 0, none⟩ = some (.bool neg) := (hb3.cells _ _ z2).trans r2_0
  have r3_1 : w3.cell? ⟨w.heap.size, 1, none⟩ = some (.int .u64 0) := (hb3.cells _ _ z2).trans r2_1
  have r3_2 : w3.cell? ⟨w.heap.size, 2, none⟩ = some (.int .i64 e) := (hb3.cells _ _ z2).trans r2_2
  have y3_1 : w3.frozen? ⟨w.heap.size, 1, none⟩ = false := (hb3.frozens _ _ z2).trans y2_1
  have y3_2 : w3.frozen? ⟨w.heap.size, 2, none⟩ = false := (hb3.frozens _ _ z2).trans y2_2
  have z3 : w.heap.size < w3.heap.size := World.block_lt_of_cell? _ _ r3_0
  clear r2_0 r2_1 r2_2 y2_1 y2_2
  go_wp2_with fail
  refine (KY.out _).mono ?_; rintro e4 w4 ⟨rfl, hb4⟩
  have r4_0 : w4.cell? ⟨w.heap.size, 0, none⟩ = some (.bool neg) := (hb4.cells _ _ z3).trans r3_0
  have r4_1 : w4.cell? ⟨w.heap.size, 1, none⟩ = some (.int .u64 0) := (hb4.cells _ _ z3).trans r3_1
  have r4_2 : w4.cell? ⟨w.heap.size, 2, none⟩ = some (.int .i64 e) := (hb4.cells _ _ z3).trans r3_2
  have y4_1 : w4.frozen? ⟨w.heap.size, 1, none⟩ = false := (hb4.frozens _ _ z3).trans y3_1
  have y4_2 : w4.frozen? ⟨w.heap.size, 2, none⟩ = false := (hb4.frozens _ _ z3).trans y3_2
  have z4 : w.heap.size < w4.heap.size := World.block_lt_of_cell? _ _ r4_0
  clear r3_0 r3_1 r3_2 y3_1 y3_2
  go_wp2_with fail
  refine (UK.out _).mono ?_; rintro e5 w5 ⟨rfl, hb5⟩
  have r5_0 : w5.cell? ⟨w.heap.size, 0, none⟩ = some (.bool neg) := (hb5.cells _ _ z4).trans r4_0
  have r5_1 : w5.cell? ⟨w.heap.size, 1, none⟩ = some (.int .u64 0) := (hb5.cells _ _ z4).trans r4_1
  have r5_2 : w5.cell? ⟨w.heap.size, 2, none⟩ = some (.int .i64 e) := (hb5.cells _ _ z4).trans r4_2
  have y5_1 : w5.frozen? ⟨w.heap.size, 1, none⟩ = false := (hb5.frozens _ _ z4).trans y4_1
  have y5_2 : w5.frozen? ⟨w.heap.size, 2, none⟩ = false := (hb5.frozens _ _ z4).trans y4_2
  have z5 : w.heap.size < w5.heap.size := World.block_lt_of_cell? _ _ r5_0
  clear r4_0 r4_1 r4_2 y4_1 y4_2
  go_wp2_with fail
  refine (SM.out _).mono ?_; rintro e6 w6 ⟨rfl, rfl⟩
  go_wp2_with fail
  refine (SM.out _).mono ?_; rintro e7 w7 ⟨rfl, rfl⟩
  go_wp2_with fail
  refine (awake_true _ (hT.of (by repeat (first | with_reducible exact Within.refl _ | with_reducible assumption | with_reducible refine Within.alloc ?_ _ | with_reducible refine Within.drew ?_ | with_reducible refine Within.setCell ?_ (by first | (simp; done) | (simp; omega)) _ | with_reducible refine Within.trans ?_ (by assumption))))).mono ?_; rintro e8 w8 ⟨rfl, hb8⟩
  have r8_0 : w8.cell? ⟨w.heap.size, 0, none⟩ = some (.bool neg) := (hb8.cells _ _ z5).trans r5_0
  have r8_1 : w8.cell? ⟨w.heap.size, 1, none⟩ = some (.int .u64 0) := (hb8.cells _ _ z5).trans r5_1
  have r8_2 : w8.cell? ⟨w.heap.size, 2, none⟩ = some (.int .i64 e) := (hb8.cells _ _ z5).trans r5_2
  have y8_1 : w8.frozen? ⟨w.heap.size, 1, none⟩ = false := (hb8.frozens _ _ z5).trans y5_1
  have y8_2 : w8.frozen? ⟨w.heap.size, 2, none⟩ = false := (hb8.frozens _ _ z5).trans y5_2
  have z8 : w.heap.size < w8.heap.size := World.block_lt_of_cell? _ _ r8_0
  clear r5_0 r5_1 r5_2 y5_1 y5_2
  go_wp2_with fail
  refine (PA.out _ (hT.of (by repeat (first | with_reducible exact Within.refl _ | with_reducible assumption | with_reducible refine Within.alloc ?_ _ | with_reducible refine Within.drew ?_ | with_reducible refine Within.setCell ?_ (by first | (simp; done) | (simp; omega)) _ | with_reducible refine Within.trans ?_ (by assumption))))).mono ?_; rintro e9 w9 ⟨rfl, hb9⟩
  have r9_0 : w9.cell? ⟨w.heap.size, 0, none⟩ = some (.bool neg) := (hb9.cells _ _ z8).trans r8_0
  have r9_1 : w9.cell? ⟨w.heap.size, 1, none⟩ = some (.int .u64 0) := (hb9.cells _ _ z8).trans r8_1
  have r9_2 : w9.cell? ⟨w.heap.size, 2, none⟩ = some (.int .i64 e) := (hb9.cells _ _ z8).trans r8_2
  have y9_1 : w9.frozen? ⟨w.heap.size, 1, none⟩ = false := (hb9.frozens _ _ z8).trans y8_1
  have y9_2 : w9.frozen? ⟨w.heap.size, 2, none⟩ = false := (hb9.frozens _ _ z8).trans y8_2
  have z9 : w.heap.size < w9.heap.size := World.block_lt_of_cell? _ _ r9_0
  clear r8_0 r8_1 r8_2 y8_1 y8_2
  go_wp2_with fail
  refine (OA.out _ (hT.of (by repeat (first | with_reducible exact Within.refl _ | with_reducible assumption | with_reducible refine Within.alloc ?_ _ | with_reducible refine Within.drew ?_ | with_reducible refine Within.setCell ?_ (by first | (simp; done) | (simp; omega)) _ | with_reducible refine Within.trans ?_ (by assumption))))).mono ?_; rintro e10 w10 ⟨rfl, hb10⟩
  have r10_0 : w10.cell? ⟨w.heap.size, 0, none⟩ = some (.bool neg) := (hb10.cells _ _ (by simp; omega)).trans ((((Within.refl w9).alloc _).cells _ _ z9).trans r9_0)
  have r10_1 : w10.cell? ⟨w.heap.size, 1, none⟩ = some (.int .u64 0) := (hb10.cells _ _ (by simp; omega)).trans ((((Within.refl w9).alloc _).cells _ _ z9).trans r9_1)
  have r10_2 : w10.cell? ⟨w.heap.size, 2, none⟩ = some (.int .i64 e) := (hb10.cells _ _ (by simp; omega)).trans ((((Within.refl w9).alloc _).cells _ _ z9).trans r9_2)
  have y10_1 : w10.frozen? ⟨w.heap.size, 1, none⟩ = false := (hb10.frozens _ _ (by simp; omega)).trans ((((Within.refl w9).alloc _).frozens _ _ z9).trans y9_1)
  have y10_2 : w10.frozen? ⟨w.heap.size, 2, none⟩ = false := (hb10.frozens _ _ (by simp; omega)).trans ((((Within.refl w9).alloc _).frozens _ _ z9).trans y9_2)
  have z10 : w.heap.size < w10.heap.size := World.block_lt_of_cell? _ _ r10_0
  clear r9_0 r9_1 r9_2 y9_1 y9_2
  have s10_0 : w10.cell? ⟨w9.heap.size, 0, none⟩ = some (.bool ng) := (hb10.cells _ _ (by simp)).trans (by simp)
  have s10_1 : w10.cell? ⟨w9.heap.size, 1, none⟩ = some (.int .u64 0) := (hb10.cells _ _ (by simp)).trans (by simp)
  have s10_2 : w10.cell? ⟨w9.heap.size, 2, none⟩ = some (.int .i64 0) := (hb10.cells _ _ (by simp)).trans (by simp)
  go_wp2_with fail
  refine (SA.out _).mono ?_; rintro e11 w11 ⟨rfl, rfl⟩
  go_wp2_with fail
  refine (OF.out _ (hT.of (by repeat (first | with_reducible exact Within.refl _ | with_reducible assumption | with_reducible refine Within.alloc ?_ _ | with_reducible refine Within.drew ?_ | with_reducible refine Within.setCell ?_ (by first | (simp; done) | (simp; omega)) _ | with_reducible refine Within.trans ?_ (by assumption))))).mono ?_; rintro e12 w12 ⟨rfl, hb12⟩
  have r12_0 : w12.cell? ⟨w.heap.size, 0, none⟩ = some (.bool neg) := (hb12.cells _ _ z10).trans r10_0
  have r12_1 : w12.cell? ⟨w.heap.size, 1, none⟩ = some (.int .u64 0) := (hb12.cells _ _ z10).trans r10_1
  have r12_2 : w12.cell? ⟨w.heap.size, 2, none⟩ = some (.int .i64 e) := (hb12.cells _ _ z10).trans r10_2
  have y12_1 : w12.frozen? ⟨w.heap.size, 1, none⟩ = false := (hb12.frozens _ _ z10).trans y10_1
  have y12_2 : w12.frozen? ⟨w.heap.size, 2, none⟩ = false := (hb12.frozens _ _ z10).trans y10_2
  have z12 : w.heap.size < w12.heap.size := World.block_lt_of_cell? _ _ r12_0
  clear r10_0 r10_1 r10_2 y10_1 y10_2
  go_wp2_with fail
  refine (PN.out _ (hT.of (by repeat (first | with_reducible exact Within.refl _ | with_reducible assumption | with_reducible refine Within.alloc ?_ _ | with_reducible refine Within.drew ?_ | with_reducible refine Within.setCell ?_ (by first | (simp; done) | (simp; omega)) _ | with_reducible refine Within.trans ?_ (by assumption))))).mono ?_; rintro e13 w13 ⟨rfl, hb13⟩
  have r13_0 : w13.cell? ⟨w.heap.size, 0, none⟩ = some (.bool neg) := (hb13.cells _ _ z12).trans r12_0
  have r13_1 : w13.cell? ⟨w.heap.size, 1, none⟩ = some (.int .u64 0) := (hb13.cells _ _ z12).trans r12_1
  have r13_2 : w13.cell? ⟨w.heap.size, 2, none⟩ = some (.int .i64 e) := (hb13.cells _ _ z12).trans r12_2
  have y13_1 : w13.frozen? ⟨w.heap.size, 1, none⟩ = false := (hb13.frozens _ _ z12).trans y12_1
  have y13_2 : w13.frozen? ⟨w.heap.size, 2, none⟩ = false := (hb13.frozens _ _ z12).trans y12_2
  have z13 : w.heap.size < w13.heap.size := World.block_lt_of_cell? _ _ r13_0
  clear r12_0 r12_1 r12_2 y12_1 y12_2
  go_wp2
  refine wp_loop_rounds 1 ?_
  rw [rounds_succ]
  go_wp2
  go_ret
  exact ⟨rfl, (by repeat (first | with_reducible exact Within.refl _ | with_reducible assumption | with_reducible refine Within.alloc ?_ _ | with_reducible refine Within.drew ?_ | with_reducible refine Within.setCell ?_ (by first | (simp; done) | (simp; omega)) _ | with_reducible refine Within.trans ?_ (by assumption)))⟩

set_option maxRecDepth 100000 in
set_option maxHeartbeats 600000 in
theorem back_n_main (a c mant : Nat) (neg ng : Bool) (e pE : Int) (pM q fr x : Nat) (k er : Int) (w : World) (hT : Tab w) (SP : Hid (∀ w, Calls Tryd.prog 35 #[.float .f64 a] w fun e' w' => e' = .returned (.tuple #[.bool ng, .int .i64 q, .int .u64 fr]) ∧ Within w w')) (JN : Hid (∀ w, Calls Tryd.prog 37 #[.bool ng, .int .i64 q, .int .u64 fr] w fun e' w' => e' = .returned (.tuple #[.float .f64 c, .int .i64 0]) ∧ Within w w')) (KY : Hid (∀ w, Calls Tryd.prog 47 #[.float .f64 a] w fun e' w' => e' = .returned (.int .i64 k) ∧ Within w w')) (UK : Hid (∀ w, Calls Tryd.prog 48 #[.int .i64 k] w fun e' w' => e' = .returned (.tuple #[.float .f64 c, .int .i64 0]) ∧ Within w w')) (SM : Hid (∀ w, Calls Tryd.prog 21 #[.float .f64 c, .float .f64 a] w fun e' w' => e' = .returned (.bool true) ∧ w = w')) (m cz M : Nat) (E : Int) (PA : Hid (∀ w, Tab w → Calls Tryd.prog 12 #[.float .f64 a] w fun e' w' => e' = .returned (.tuple #[.agg #[.bool ng, .int .u64 0, .int .i64 0], .int .i64 0]) ∧ Within w w')) (OA : Hid (∀ w, Tab w → Calls Tryd.prog 19 #[.agg #[.bool ng, .int .u64 0, .int .i64 0]] w fun e' w' => e' = .returned (.tuple #[.float .f64 a, .int .i64 0]) ∧ Within w w')) (SA : Hid (∀ w, Calls Tryd.prog 21 #[.float .f64 a, .float .f64 a] w fun e' w' => e' = .returned (.bool true) ∧ w = w')) (OF : Hid (∀ w, Tab w → Calls Tryd.prog 19 #[.agg #[.bool neg, .int .u64 mant, .int .i64 e]] w fun e' w' => e' = .returned (.tuple #[.float .f64 x, .int .i64 0]) ∧ Within w w')) (PN : Hid (∀ w, Tab w → Calls Tryd.prog 12 #[.float .f64 x] w fun e' w' => e' = .returned (.tuple #[.agg #[.bool neg, .int .u64 M, .int .i64 E], .int .i64 0]) ∧ Within w w')) (hcz : cz < 64) (hs : mant = 2 ^ cz * (2 * m + 1)) (hM : M = 2 * m + 1) (hE : E = e + cz) (hlo : -2150 ≤ e) (hhi : e ≤ 2150) (hl : mant < 18446744073709551616) : Calls Tryd.prog 7 #[.int .u64 a, .agg #[.bool neg, .int .u64 mant, .int .i64 e]] w fun e' w' => e' = .returned (.bool true) ∧ Within w w' := by
  have m0 : ((mant : Int) == 0) = false := by have h0 : 0 < mant := (by rw [hs]; exact Nat.mul_pos (Nat.two_pow_pos _) (by omega)); rw [beq_eq_false_iff_ne]; omega
  have M0 : ((M : Int) == 0) = false := by rw [beq_eq_false_iff_ne]; omega
  have HV := Lib.hid (mant_down hcz hs hM)
  have HB := Lib.hid (And.intro (And.intro hlo hhi) (And.intro hcz hE))
  have HML := Lib.hid hl
  clear hcz hs hM hE hlo hhi hl
  go_enter Tryd.func7, Tryd.ntmps7
  go_wp2_with fail
  refine (f_any a _).mono ?_; rintro e1 w1 ⟨rfl, rfl⟩
  go_wp2_with fail
  refine (SP.out _).mono ?_; rintro e2 w2 ⟨rfl, hb2⟩
  have r2_0 : w2.cell? ⟨w.heap.size, 0, none⟩ = some (.bool neg) := (hb2.cells _ _ (by simp)).trans (by simp)
  have r2_1 : w2.cell? ⟨w.heap.size, 1, none⟩ = some (.int .u64 mant) := (hb2.cells _ _ (by simp)).trans (by simp)
  have r2_2 : w2.cell? ⟨w.heap.size, 2, none⟩ = some (.int .i64 e) := (hb2.cells _ _ (by simp)).trans (by simp)
  have y2_1 : w2.frozen? ⟨w.heap.size, 1, none⟩ = false := (hb2.frozens _ _ (by simp)).trans (by simp)
  have y2_2 : w2.frozen? ⟨w.heap.size, 2, none⟩ = false := (hb2.frozens _ _ (by simp)).trans (by simp)
  have z2 : w.heap.size < w2.heap.size := World.block_lt_of_cell? _ _ r2_0
  go_wp2_with fail
  refine (JN.out _).mono ?_; rintro e3 w3 ⟨rfl, hb3⟩
  have r3_0 : w3.cell? ⟨w.heap.size, 0, none⟩ = some (.bool neg) := (hb3.cells _ _ z2).trans r2_0
  have r3_1 : w3.cell? ⟨w.heap.size, 1, none⟩ = some (.int .u64 mant) := (hb3.cells _ _ z2).trans r2_1
  have r3_2 : w3.cell? ⟨w.heap.size, 2, none⟩ = some (.int .i64 e) := (hb3.cells _ _ z2).trans r2_2
  have y3_1 : w3.frozen? ⟨w.heap.size, 1, none⟩ = false := (hb3.frozens _ _ z2).trans y2_1
  have y3_2 : w3.frozen? ⟨w.heap.size, 2, none⟩ = false := (hb3.frozens _ _ z2).trans y2_2
  have z3 : w.heap.size < w3.heap.size := World.block_lt_of_cell? _ _ r3_0
  clear r2_0 r2_1 r2_2 y2_1 y2_2
  go_wp2_with fail
  refine (KY.out _).mono ?_; rintro e4 w4 ⟨rfl, hb4⟩
  have r4_0 : w4.cell? ⟨w.heap.size, 0, none⟩ = some (.bool neg) := (hb4.cells _ _ z3).trans r3_0
  have r4_1 : w4.cell? ⟨w.heap.size, 1, none⟩ = some (.int .u64 mant) := (hb4.cells _ _ z3).trans r3_1
  have r4_2 : w4.cell? ⟨w.heap.size, 2, none⟩ = some (.int .i64 e) := (hb4.cells _ _ z3).trans r3_2
  have y4_1 : w4.frozen? ⟨w.heap.size, 1, none⟩ = false := (hb4.frozens _ _ z3).trans y3_1
  have y4_2 : w4.frozen? ⟨w.heap.size, 2, none⟩ = false := (hb4.frozens _ _ z3).trans y3_2
  have z4 : w.heap.size < w4.heap.size := World.block_lt_of_cell? _ _ r4_0
  clear r3_0 r3_1 r3_2 y3_1 y3_2
  go_wp2_with fail
  refine (UK.out _).mono ?_; rintro e5 w5 ⟨rfl, hb5⟩
  have r5_0 : w5.cell? ⟨w.heap.size, 0, none⟩ = some (.bool neg) := (hb5.cells _ _ z4).trans r4_0
  have r5_1 : w5.cell? ⟨w.heap.size, 1, none⟩ = some (.int .u64 mant) := (hb5.cells _ _ z4).trans r4_1
  have r5_2 : w5.cell? ⟨w.heap.size, 2, none⟩ = some (.int .i64 e) := (hb5.cells _ _ z4).trans r4_2
  have y5_1 : w5.frozen? ⟨w.heap.size, 1, none⟩ = false := (hb5.frozens _ _ z4).trans y4_1
  have y5_2 : w5.frozen? ⟨w.heap.size, 2, none⟩ = false := (hb5.frozens _ _ z4).trans y4_2
  have z5 : w.heap.size < w5.heap.size := World.block_lt_of_cell? _ _ r5_0
  clear r4_0 r4_1 r4_2 y4_1 y4_2
  go_wp2_with fail
  refine (SM.out _).mono ?_; rintro e6 w6 ⟨rfl, rfl⟩
  go_wp2_with fail
  refine (SM.out _).mono ?_; rintro e7 w7 ⟨rfl, rfl⟩
  go_wp2_with fail
  refine (awake_true _ (hT.of (by repeat (first | with_reducible exact Within.refl _ | with_reducible assumption | with_reducible refine Within.alloc ?_ _ | with_reducible refine Within.drew ?_ | with_reducible refine Within.setCell ?_ (by first | (simp; done) | (simp; omega)) _ | with_reducible refine Within.trans ?_ (by assumption))))).mono ?_; rintro e8 w8 ⟨rfl, hb8⟩
  have r8_0 : w8.cell? ⟨w.heap.size, 0, none⟩ = some (.bool neg) := (hb8.cells _ _ z5).trans r5_0
  have r8_1 : w8.cell? ⟨w.heap.size, 1, none⟩ = some (.int .u64 mant) := (hb8.cells _ _ z5).trans r5_1
  have r8_2 : w8.cell? ⟨w.heap.size, 2, none⟩ = some (.int .i64 e) := (hb8.cells _ _ z5).trans r5_2
  have y8_1 : w8.frozen? ⟨w.heap.size, 1, none⟩ = false := (hb8.frozens _ _ z5).trans y5_1
  have y8_2 : w8.frozen? ⟨w.heap.size, 2, none⟩ = false := (hb8.frozens _ _ z5).trans y5_2
  have z8 : w.heap.size < w8.heap.size := World.block_lt_of_cell? _ _ r8_0
  clear r5_0 r5_1 r5_2 y5_1 y5_2
  go_wp2_with fail
  refine (PA.out _ (hT.of (by repeat (first | with_reducible exact Within.refl _ | with_reducible assumption | with_reducible refine Within.alloc ?_ _ | with_reducible refine Within.drew ?_ | with_reducible refine Within.setCell ?_ (by first | (simp; done) | (simp; omega)) _ | with_reducible refine Within.trans ?_ (by assumption))))).mono ?_; rintro e9 w9 ⟨rfl, hb9⟩
  have r9_0 : w9.cell? ⟨w.heap.size, 0, none⟩ = some (.bool neg) := (hb9.cells _ _ z8).trans r8_0
  have r9_1 : w9.cell? ⟨w.heap.size, 1, none⟩ = some (.int .u64 mant) := (hb9.cells _ _ z8).trans r8_1
  have r9_2 : w9.cell? ⟨w.heap.size, 2, none⟩ = some (.int .i64 e) := (hb9.cells _ _ z8).trans r8_2
  have y9_1 : w9.frozen? ⟨w.heap.size, 1, none⟩ = false := (hb9.frozens _ _ z8).trans y8_1
  have y9_2 : w9.frozen? ⟨w.heap.size, 2, none⟩ = false := (hb9.frozens _ _ z8).trans y8_2
  have z9 : w.heap.size < w9.heap.size := World.block_lt_of_cell? _ _ r9_0
  clear r8_0 r8_1 r8_2 y8_1 y8_2
  go_wp2_with fail
  refine (OA.out _ (hT.of (by repeat (first | with_reducible exact Within.refl _ | with_reducible assumption | with_reducible refine Within.alloc ?_ _ | with_reducible refine Within.drew ?_ | with_reducible refine Within.setCell ?_ (by first | (simp; done) | (simp; omega)) _ | with_reducible refine Within.trans ?_ (by assumption))))).mono ?_; rintro e10 w10 ⟨rfl, hb10⟩
  have r10_0 : w10.cell? ⟨w.heap.size, 0, none⟩ = some (.bool neg) := (hb10.cells _ _ (by simp; omega)).trans ((((Within.refl w9).alloc _).cells _ _ z9).trans r9_0)
  have r10_1 : w10.cell? ⟨w.heap.size, 1, none⟩ = some (.int .u64 mant) := (hb10.cells _ _ (by simp; omega)).trans ((((Within.refl w9).alloc _).cells _ _ z9).trans r9_1)
  have r10_2 : w10.cell? ⟨w.heap.size, 2, none⟩ = some (.int .i64 e) := (hb10.cells _ _ (by simp; omega)).trans ((((Within.refl w9).alloc _).cells _ _ z9).trans r9_2)
  have y10_1 : w10.frozen? ⟨w.heap.size, 1, none⟩ = false := (hb10.frozens _ _ (by simp; omega)).trans ((((Within.refl w9).alloc _).frozens _ _ z9).trans y9_1)
  have y10_2 : w10.frozen? ⟨w.heap.size, 2, none⟩ = false := (hb10.frozens _ _ (by simp; omega)).trans ((((Within.refl w9).alloc _).frozens _ _ z9).trans y9_2)
  have z10 : w.heap.size < w10.heap.size := World.block_lt_of_cell? _ _ r10_0
  clear r9_0 r9_1 r9_2 y9_1 y9_2
  have s10_0 : w10.cell? ⟨w9.heap.size, 0, none⟩ = some (.bool ng) := (hb10.cells _ _ (by simp)).trans (by simp)
  have s10_1 : w10.cell? ⟨w9.heap.size, 1, none⟩ = some (.int .u64 0) := (hb10.cells _ _ (by simp)).trans (by simp)
  have s10_2 : w10.cell? ⟨w9.heap.size, 2, none⟩ = some (.int .i64 0) := (hb10.cells _ _ (by simp)).trans (by simp)
  go_wp2_with fail
  refine (SA.out _).mono ?_; rintro e11 w11 ⟨rfl, rfl⟩
  go_wp2_with fail
  refine (OF.out _ (hT.of (by repeat (first | with_reducible exact Within.refl _ | with_reducible assumption | with_reducible refine Within.alloc ?_ _ | with_reducible refine Within.drew ?_ | with_reducible refine Within.setCell ?_ (by first | (simp; done) | (simp; omega)) _ | with_reducible refine Within.trans ?_ (by assumption))))).mono ?_; rintro e12 w12 ⟨rfl, hb12⟩
  have r12_0 : w12.cell? ⟨w.heap.size, 0, none⟩ = some (.bool neg) := (hb12.cells _ _ z10).trans r10_0
  have r12_1 : w12.cell? ⟨w.heap.size, 1, none⟩ = some (.int .u64 mant) := (hb12.cells _ _ z10).trans r10_1
  have r12_2 : w12.cell? ⟨w.heap.size, 2, none⟩ = some (.int .i64 e) := (hb12.cells _ _ z10).trans r10_2
  have y12_1 : w12.frozen? ⟨w.heap.size, 1, none⟩ = false := (hb12.frozens _ _ z10).trans y10_1
  have y12_2 : w12.frozen? ⟨w.heap.size, 2, none⟩ = false := (hb12.frozens _ _ z10).trans y10_2
  have z12 : w.heap.size < w12.heap.size := World.block_lt_of_cell? _ _ r12_0
  clear r10_0 r10_1 r10_2 y10_1 y10_2
  go_wp2_with fail
  refine (PN.out _ (hT.of (by repeat (first | with_reducible exact Within.refl _ | with_reducible assumption | with_reducible refine Within.alloc ?_ _ | with_reducible refine Within.drew ?_ | with_reducible refine Within.setCell ?_ (by first | (simp; done) | (simp; omega)) _ | with_reducible refine Within.trans ?_ (by assumption))))).mono ?_; rintro e13 w13 ⟨rfl, hb13⟩
  have r13_0 : w13.cell? ⟨w.heap.size, 0, none⟩ = some (.bool neg) := (hb13.cells _ _ z12).trans r12_0
  have r13_1 : w13.cell? ⟨w.heap.size, 1, none⟩ = some (.int .u64 mant) := (hb13.cells _ _ z12).trans r12_1
  have r13_2 : w13.cell? ⟨w.heap.size, 2, none⟩ = some (.int .i64 e) := (hb13.cells _ _ z12).trans r12_2
  have y13_1 : w13.frozen? ⟨w.heap.size, 1, none⟩ = false := (hb13.frozens _ _ z12).trans y12_1
  have y13_2 : w13.frozen? ⟨w.heap.size, 2, none⟩ = false := (hb13.frozens _ _ z12).trans y12_2
  have z13 : w.heap.size < w13.heap.size := World.block_lt_of_cell? _ _ r13_0
  clear r12_0 r12_1 r12_2 y12_1 y12_2
  go_wp2
  go_loopw [15] (fun t wr => ∃ i : Nat, i ≤ cz ∧ t = .int .i64 i ∧ wr.cell? ⟨w.heap.size, 0, none⟩ = some (.bool neg) ∧ wr.cell? ⟨w.heap.size, 1, none⟩ = some (.int .u64 (mant / 2 ^ i : Nat)) ∧ wr.cell? ⟨w.heap.size, 2, none⟩ = some (.int .i64 (e + i)) ∧ wr.frozen? ⟨w.heap.size, 1, none⟩ = false ∧ wr.frozen? ⟨w.heap.size, 2, none⟩ = false ∧ wr.cell? ⟨w13.heap.size, 0, none⟩ = some (.bool neg) ∧ wr.cell? ⟨w13.heap.size, 1, none⟩ = some (.int .u64 M) ∧ wr.cell? ⟨w13.heap.size, 2, none⟩ = some (.int .i64 E) ∧ Within w wr) (fun t _ => cz - (intOf t).toNat)
  case atStart => exact ⟨0, Nat.zero_le _, rfl, (((Within.refl w13).alloc _).cells _ _ z13).trans r13_0, by rw [Nat.pow_zero, Nat.div_one]; exact (((Within.refl w13).alloc _).cells _ _ z13).trans r13_1, by rw [show e + ((0 : Nat) : Int) = e by omega]; exact (((Within.refl w13).alloc _).cells _ _ z13).trans r13_2, (((Within.refl w13).alloc _).frozens _ _ z13).trans y13_1, (((Within.refl w13).alloc _).frozens _ _ z13).trans y13_2, by simp, by simp, by simp, (by repeat (first | with_reducible exact Within.refl _ | with_reducible assumption | with_reducible refine Within.alloc ?_ _ | with_reducible refine Within.drew ?_ | with_reducible refine Within.setCell ?_ (by first | (simp; done) | (simp; omega)) _ | with_reducible refine Within.trans ?_ (by assumption)))⟩
  case round =>
    obtain ⟨i, hi, rfl, k0, k1, k2, f1, f2, q0, q1, q2, hwr⟩ := hrel
    have V := HV.out i hi
    have t : i < 64 := by have := HB.out.2.1; omega
    have HI := Lib.hid hi
    have NB := Lib.hid (show w13.heap.size ≠ w.heap.size by omega)
    have hv0 : (((mant / 2 ^ i : Nat) : Int) != 0) = true := by rw [bne_iff_ne]; have := V.1; omega
    have hv1 : (((mant / 2 ^ i : Nat) : Int) == 0) = false := by rw [beq_eq_false_iff_ne]; have := V.1; omega
    by_cases hic : i = cz
    · have hp : (((mant / 2 ^ i : Nat) : Int) % 2 == 0) = false := by rw [beq_eq_false_iff_ne]; have := V.2.1 hic; omega
      have hM : mant / 2 ^ i = M := (V.2.1 hic).1
      have hE : e + (i : Int) = E := by have := HB.out.2.2; omega
      rw [hM] at k1 hv0 hv1 hp; rw [hE] at k2
      clear V hi hic hM hE
      go_wp2
      go_ret
      exact ⟨rfl, (by repeat (first | with_reducible exact Within.refl _ | with_reducible assumption | with_reducible refine Within.alloc ?_ _ | with_reducible refine Within.drew ?_ | with_reducible refine Within.setCell ?_ (by first | (simp; done) | (simp; omega)) _ | with_reducible refine Within.trans ?_ (by assumption)))⟩
    · have hp : (((mant / 2 ^ i : Nat) : Int) % 2 == 0) = true := by rw [beq_iff_eq]; have := V.2.2 (by omega); omega
      have hn := (V.2.2 (by omega)).2
      have hvl : mant / 2 ^ i < 18446744073709551616 := Nat.lt_of_le_of_lt (Nat.div_le_self _ _) HML.out
      have g : IntKind.i64.wrap (e + (i : Int) + 1) = e + ((i + 1 : Nat) : Int) := by have := HB.out.1; rw [IntKind.wrap_i64]; omega
      have gi : IntKind.i64.wrap ((i : Int) + 1) = ((i + 1 : Nat) : Int) := by rw [IntKind.wrap_i64]; omega
      have HN := Lib.hid (And.intro hn hic)
      have hd : ((mant / 2 ^ i : Nat) : Int) / 2 = ((mant / 2 ^ (i + 1) : Nat) : Int) := by rw [← hn]; omega
      obtain ⟨v, hv⟩ : ∃ v, mant / 2 ^ i = v := ⟨_, rfl⟩
      rw [hv] at k1 hv0 hv1 hp hd hvl
      obtain ⟨v', hv'⟩ : ∃ v', mant / 2 ^ (i + 1) = v' := ⟨_, rfl⟩
      rw [hv'] at hd
      have gw : IntKind.u64.wrap (v' : Int) = v' := by rw [IntKind.wrap_u64]; omega
      have HVL := Lib.hid hv'
      clear V hi hic hn hv hv' hvl
      go_wp2
      go_roundw
      case rel => exact ⟨i + 1, by have := HI.out; have := HN.out.2; omega, by simp, by rw [World.cell?_setCell_other _ _ _ _ (by simp), World.cell?_setCell_other _ _ _ _ (by simp)]; exact k0, by rw [World.cell?_setCell_other _ _ _ _ (by simp), World.cell?_setCell_same _ _ _ k1, HVL.out], by rw [World.cell?_setCell_same _ _ _ ((World.cell?_setCell_other _ _ _ _ (by simp)).trans k2)]; exact congrArg some (v_int (by omega)), by rw [World.frozen?_setCell, World.frozen?_setCell]; exact f1, by rw [World.frozen?_setCell, World.frozen?_setCell]; exact f2, by rw [World.cell?_setCell_other _ _ _ _ (fun h => NB.out (congrArg Addr.block h).symm), World.cell?_setCell_other _ _ _ _ (fun h => NB.out (congrArg Addr.block h).symm)]; exact q0, by rw [World.cell?_setCell_other _ _ _ _ (fun h => NB.out (congrArg Addr.block h).symm), World.cell?_setCell_other _ _ _ _ (fun h => NB.out (congrArg Addr.block h).symm)]; exact q1, by rw [World.cell?_setCell_other _ _ _ _ (fun h => NB.out (congrArg Addr.block h).symm), World.cell?_setCell_other _ _ _ _ (fun h => NB.out (congrArg Addr.block h).symm)]; exact q2, (by repeat (first | with_reducible exact Within.refl _ | with_reducible assumption | with_reducible refine Within.alloc ?_ _ | with_reducible refine Within.drew ?_ | with_reducible refine Within.setCell ?_ (by first | (simp; done) | (simp; omega)) _ | with_reducible refine Within.trans ?_ (by assumption)))⟩
      case measure => have := HI.out; have := HN.out.2; simp [intOf]; omega

theorem join_split (a : Nat) (ha : a < 18446744073709551616) : joinD (negD a) (expD a) (fracD a) = canonD a ∧ joinED (expD a) (fracD a) = 0 := by
  have hl := canonD_lt ha
  have hb : bitsOfD (negD a) (expD a) (fracD a) = canonD a := by
    unfold bitsOfD negD expD fracD
    generalize canonD a = c at *
    by_cases hs : 9223372036854775808 ≤ c
    · rw [decide_eq_true hs, if_pos rfl]; omega
    · rw [decide_eq_false hs, if_neg (by simp)]; omega
  have hcc : canonD (canonD a) = canonD a := by
    cases hn : nanD a
    · rw [canonD_id hn, canonD_id hn]
    · rw [canonD_nan hn]; decide
  have h1 : expD a < 2048 := Nat.mod_lt _ (by decide)
  have h2 : fracD a < 4503599627370496 := Nat.mod_lt _ (by decide)
  unfold joinD joinED
  rw [if_neg (by omega), if_neg (by omega), Int.toNat_natCast, hb, hcc]
  exact ⟨rfl, rfl⟩
theorem unkey_back (a : Nat) (ha : a < 18446744073709551616) : unkeyB (place a) = canonD a ∧ unkeyE (place a) = 0 := by
  have hr := place_range a ha
  refine ⟨?_, if_neg (by omega)⟩
  cases hn : nanD a
  · rw [canonD_id hn]; exact unkey_place ha hn
  · rw [canonD_nan hn, place_nan hn]; decide
theorem zero_parts (neg : Bool) : pNegD (if neg then 9223372036854775808 else 0) = neg ∧ pMantD (if neg then 9223372036854775808 else 0) = 0 ∧ pExpD (if neg then 9223372036854775808 else 0) = 0 ∧ pErrD (if neg then 9223372036854775808 else 0) = 0 := by
  cases neg <;> decide +kernel
theorem nan_parts {a : Nat} (h : pErrD a ≠ 0) : pNegD a = false ∧ pMantD a = 0 ∧ pExpD a = 0 ∧ pErrD a = 4 := by
  unfold pErrD at h
  by_cases h7 : expD a = 2047
  · unfold pNegD pMantD pExpD pErrD; rw [if_pos h7, if_pos h7, if_pos (.inl h7), if_pos h7]; exact ⟨rfl, rfl, rfl, rfl⟩
  · rw [if_neg h7] at h; exact absurd rfl h
theorem fin_neg {a : Nat} (h : pErrD a = 0) : pNegD a = negD a := by
  unfold pErrD at h
  by_cases h7 : expD a = 2047
  · rw [if_pos h7] at h; omega
  · unfold pNegD; rw [if_neg h7]

set_option maxRecDepth 100000 in
set_option maxHeartbeats 600000 in
theorem back_walk (a : Nat) (neg : Bool) (mant : Nat) (e : Int) (ha : a < 18446744073709551616) (hm : mant < 18446744073709551616) (w : World) (hT : Tab w) : Calls Tryd.prog 7 #[.int .u64 a, .agg #[.bool neg, .int .u64 mant, .int .i64 e]] w fun e' w' => e' = .returned (.bool true) ∧ Within w w' := by
  have SP := Lib.hid (fun w => Split_D a ha w)
  have hq : expD a < 2048 := Nat.mod_lt _ (by decide)
  have hfr : fracD a < 4503599627370496 := Nat.mod_lt _ (by decide)
  have js := join_split a ha
  have JN := Lib.hid (fun w => Join_D (negD a) (expD a) (fracD a) (by omega) (by omega) (by omega) w); rw [js.1, js.2] at JN
  have KY := Lib.hid (fun w => Key_any a ha w)
  have hpr := place_range a ha
  have ub := unkey_back a ha
  have UK := Lib.hid (fun w => Unkey_any (place a) (by omega) (by omega) w); rw [ub.1, ub.2] at UK
  have SM := Lib.hid (fun w => same_D (canonD a) a w); rw [decide_eq_true rfl] at SM
  have PA := Lib.hid (fun w hT => Parts_D a ha w hT)
  have OF := Lib.hid (fun w hT => Of_D neg mant e hm w hT)
  by_cases hp : pErrD a = 0
  · have pm := parts_made a ha hp
    have OA := Lib.hid (fun w hT => Of_D (pNegD a) (pMantD a) (pExpD a) pm.2.2.2.2 w hT)
    rw [pm.1, pm.2.1] at OA
    have SA := Lib.hid (fun w => same_D a a w); rw [canonD_id pm.2.2.1, decide_eq_true rfl] at SA
    rw [fin_neg hp] at PA OA; rw [hp] at PA
    rcases pm.2.2.2.1 with ⟨h1, h2⟩ | h1
    · rw [h1, h2] at PA OA
      by_cases her : madeED mant e = 0
      · rw [her] at OF
        by_cases h0 : mant = 0
        · subst h0
          have mz := made_zero neg e
          have zp := zero_parts neg
          rw [mz.1] at OF
          have PN := Lib.hid (fun w hT => Parts_D (if neg then 9223372036854775808 else 0) (by split <;> decide) w hT)
          rw [zp.1, zp.2.1, zp.2.2.1, zp.2.2.2] at PN
          exact back_n_zero a (canonD a) 0 neg (negD a) e 0 0 (expD a) (fracD a) _ (place a) 0 w hT SP JN KY UK SM PA OA SA OF PN
        · have mp := made_parts neg mant e h0 hm her
          have PN := Lib.hid (fun w hT => Parts_D (madeD neg mant e) mp.1 w hT)
          rw [mp.2.2.2.1, mp.2.2.2.2.1, mp.2.2.2.2.2.1, mp.2.2.1] at PN
          obtain ⟨m, ho, hs, hk⟩ := odd_split h0 hm
          exact back_n_main a (canonD a) mant neg (negD a) e 0 0 (expD a) (fracD a) _ (place a) 0 w hT SP JN KY UK SM m (Lib.ctz 64 mant) (oddM mant) (oddE mant e) PA OA SA OF PN hk hs ho rfl mp.2.2.2.2.2.2.1 mp.2.2.2.2.2.2.2 hm
      · have me := made_err neg mant e her
        rw [me.1] at OF
        exact back_n_err a (canonD a) mant neg (negD a) e 0 0 (expD a) (fracD a) 0 (place a) (madeED mant e) w hT SP JN KY UK SM PA OA SA OF (bne_iff_ne.2 her)
    · have od : ((pMantD a : Int) % 2 == 0) = false := by rw [beq_eq_false_iff_ne]; omega
      by_cases her : madeED mant e = 0
      · rw [her] at OF
        by_cases h0 : mant = 0
        · subst h0
          have mz := made_zero neg e
          have zp := zero_parts neg
          rw [mz.1] at OF
          have PN := Lib.hid (fun w hT => Parts_D (if neg then 9223372036854775808 else 0) (by split <;> decide) w hT)
          rw [zp.1, zp.2.1, zp.2.2.1, zp.2.2.2] at PN
          exact back_o_zero a (canonD a) 0 neg (negD a) e (pExpD a) (pMantD a) (expD a) (fracD a) _ (place a) 0 w hT SP JN KY UK SM PA OA SA od OF PN
        · have mp := made_parts neg mant e h0 hm her
          have PN := Lib.hid (fun w hT => Parts_D (madeD neg mant e) mp.1 w hT)
          rw [mp.2.2.2.1, mp.2.2.2.2.1, mp.2.2.2.2.2.1, mp.2.2.1] at PN
          obtain ⟨m, ho, hs, hk⟩ := odd_split h0 hm
          exact back_o_main a (canonD a) mant neg (negD a) e (pExpD a) (pMantD a) (expD a) (fracD a) _ (place a) 0 w hT SP JN KY UK SM m (Lib.ctz 64 mant) (oddM mant) (oddE mant e) PA OA SA od OF PN hk hs ho rfl mp.2.2.2.2.2.2.1 mp.2.2.2.2.2.2.2 hm
      · have me := made_err neg mant e her
        rw [me.1] at OF
        exact back_o_err a (canonD a) mant neg (negD a) e (pExpD a) (pMantD a) (expD a) (fracD a) 0 (place a) (madeED mant e) w hT SP JN KY UK SM PA OA SA od OF (bne_iff_ne.2 her)
  · have np := nan_parts hp
    rw [np.1, np.2.1, np.2.2.1, np.2.2.2] at PA
    by_cases her : madeED mant e = 0
    · rw [her] at OF
      by_cases h0 : mant = 0
      · subst h0
        have mz := made_zero neg e
        have zp := zero_parts neg
        rw [mz.1] at OF
        have PN := Lib.hid (fun w hT => Parts_D (if neg then 9223372036854775808 else 0) (by split <;> decide) w hT)
        rw [zp.1, zp.2.1, zp.2.2.1, zp.2.2.2] at PN
        exact back_x_zero a (canonD a) 0 neg (negD a) e 0 0 (expD a) (fracD a) _ (place a) 0 w hT SP JN KY UK SM PA OF PN
      · have mp := made_parts neg mant e h0 hm her
        have PN := Lib.hid (fun w hT => Parts_D (madeD neg mant e) mp.1 w hT)
        rw [mp.2.2.2.1, mp.2.2.2.2.1, mp.2.2.2.2.2.1, mp.2.2.1] at PN
        obtain ⟨m, ho, hs, hk⟩ := odd_split h0 hm
        exact back_x_main a (canonD a) mant neg (negD a) e 0 0 (expD a) (fracD a) _ (place a) 0 w hT SP JN KY UK SM m (Lib.ctz 64 mant) (oddM mant) (oddE mant e) PA OF PN hk hs ho rfl mp.2.2.2.2.2.2.1 mp.2.2.2.2.2.2.2 hm
    · have me := made_err neg mant e her
      rw [me.1] at OF
      exact back_x_err a (canonD a) mant neg (negD a) e 0 0 (expD a) (fracD a) 0 (place a) (madeED mant e) w hT SP JN KY UK SM PA OF (bne_iff_ne.2 her)

end Go.Proofs.YthjaponkbodooaaDoor
