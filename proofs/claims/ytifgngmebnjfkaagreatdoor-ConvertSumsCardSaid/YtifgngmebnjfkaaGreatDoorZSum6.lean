/- What the law's walk rests on, part 6: contracts of functions and plain facts. -/
import Derived.Test.YtifgngmebnjfkaaGreatDoorRows
import Ieee.Arith
import Derived.WalkKit
import Derived.WalkSpells
import Derived.WalkLawsBesides
import Derived.BigQuiet
import Derived.Lib.Hide
import Derived.Lib.TrailingZeros
import Derived.Lib.BitFns
import Derived.Lib.Strings
import Derived.Lib.Slices
import Derived.Lib.Small
import Derived.Lib.Walk
import Derived.Deep.OwnRows
import Derived.OwnWalk
import Derived.LoopTactic
import Derived.Outline
import Derived.IntWalk
import Derived.OrdersHeld
import Derived.StillTail
import Derived.Deep.RegionHeld3
import Derived.Maps.AppendAt
import Derived.Deep.DeepCutAuto
import Derived.Deep.QuietTactic
import Derived.ProofKit
import Derived.OpenShut
import Derived.ShutString
import Derived.ChangeOld
import Derived.Below
import Derived.Deep.DeepHandedRow
import Derived.Deep.Strs
import Derived.Lib.LaidTab
import Derived.Test.YtifgngmebnjfkaaGreatDoorZSum5
set_option linter.unusedVariables false
set_option linter.unusedSimpArgs false
section
namespace Go.Proofs.YtifgngmebnjfkaaGreatDoor
open Go.RowKit
def Bx2 (w W : World) (k1 : Int) (b1 : Bool) (g1 : Nat) (E1 : Int) (k2 : Int) (b2 : Bool) (g2 : Nat) (E2 : Int) : Prop := W.cell? ⟨w.heap.size, 0, none⟩ = some (.int .i64 24) ∧ W.cell? ⟨w.heap.size, 1, none⟩ = some (.int .i64 (-126)) ∧ W.cell? ⟨w.heap.size, 2, none⟩ = some (.int .i64 127) ∧ W.cell? ⟨w.heap.size, 3, none⟩ = some (.int .i64 8) ∧ W.cell? ⟨w.heap.size + 1, 0, none⟩ = some (.int .i64 k1) ∧ W.cell? ⟨w.heap.size + 1, 1, none⟩ = some (.bool b1) ∧ W.cell? ⟨w.heap.size + 1, 2, none⟩ = some (.pointer (some ⟨g1, 0, none⟩)) ∧ W.cell? ⟨w.heap.size + 1, 3, none⟩ = some (.int .i64 E1) ∧ W.cell? ⟨w.heap.size + 1 + 1, 0, none⟩ = some (.int .i64 k2) ∧ W.cell? ⟨w.heap.size + 1 + 1, 1, none⟩ = some (.bool b2) ∧ W.cell? ⟨w.heap.size + 1 + 1, 2, none⟩ = some (.pointer (some ⟨g2, 0, none⟩)) ∧ W.cell? ⟨w.heap.size + 1 + 1, 3, none⟩ = some (.int .i64 E2) ∧ w.heap.size < W.heap.size ∧ w.heap.size + 1 < W.heap.size ∧ w.heap.size + 1 + 1 < W.heap.size
theorem Bx2.mk {w W : World} {k1 : Int} {b1 : Bool} {g1 : Nat} {E1 : Int} {k2 : Int} {b2 : Bool} {g2 : Nat} {E2 : Int} (h : Within (((w.alloc (.cells #[.int .i64 24, .int .i64 (-126), .int .i64 127, .int .i64 8] 60)).alloc (.cells #[.int .i64 k1, .bool b1, .pointer (some ⟨g1, 0, none⟩), .int .i64 E1] 65)).alloc (.cells #[.int .i64 k2, .bool b2, .pointer (some ⟨g2, 0, none⟩), .int .i64 E2] 65)) W) : Bx2 w W k1 b1 g1 E1 k2 b2 g2 E2 :=
  ⟨(h.cells _ _ (by first | (simp; done) | (simp; omega))).trans (by go_simp), (h.cells _ _ (by first | (simp; done) | (simp; omega))).trans (by go_simp), (h.cells _ _ (by first | (simp; done) | (simp; omega))).trans (by go_simp), (h.cells _ _ (by first | (simp; done) | (simp; omega))).trans (by go_simp), (h.cells _ _ (by first | (simp; done) | (simp; omega))).trans (by go_simp), (h.cells _ _ (by first | (simp; done) | (simp; omega))).trans (by go_simp), (h.cells _ _ (by first | (simp; done) | (simp; omega))).trans (by go_simp), (h.cells _ _ (by first | (simp; done) | (simp; omega))).trans (by go_simp), (h.cells _ _ (by first | (simp; done) | (simp; omega))).trans (by go_simp), (h.cells _ _ (by first | (simp; done) | (simp; omega))).trans (by go_simp), (h.cells _ _ (by first | (simp; done) | (simp; omega))).trans (by go_simp), (h.cells _ _ (by first | (simp; done) | (simp; omega))).trans (by go_simp), Nat.lt_of_lt_of_le (by first | (simp; done) | (simp; omega)) h.sizes, Nat.lt_of_lt_of_le (by first | (simp; done) | (simp; omega)) h.sizes, Nat.lt_of_lt_of_le (by first | (simp; done) | (simp; omega)) h.sizes⟩
theorem Bx2.of {w W : World} {k1 : Int} {b1 : Bool} {g1 : Nat} {E1 : Int} {k2 : Int} {b2 : Bool} {g2 : Nat} {E2 : Int} {W' : World} (h : Bx2 w W k1 b1 g1 E1 k2 b2 g2 E2) (k : Within W W') : Bx2 w W' k1 b1 g1 E1 k2 b2 g2 E2 := by
  obtain ⟨q0, q1, q2, q3, q4, q5, q6, q7, q8, q9, q10, q11, z0, z1, z2⟩ := h
  exact ⟨(k.cells _ _ z0).trans q0, (k.cells _ _ z0).trans q1, (k.cells _ _ z0).trans q2, (k.cells _ _ z0).trans q3, (k.cells _ _ z1).trans q4, (k.cells _ _ z1).trans q5, (k.cells _ _ z1).trans q6, (k.cells _ _ z1).trans q7, (k.cells _ _ z2).trans q8, (k.cells _ _ z2).trans q9, (k.cells _ _ z2).trans q10, (k.cells _ _ z2).trans q11, Nat.lt_of_lt_of_le z0 k.sizes, Nat.lt_of_lt_of_le z1 k.sizes, Nat.lt_of_lt_of_le z2 k.sizes⟩
set_option maxRecDepth 100000 in
set_option maxHeartbeats 600000 in
theorem Rmul_nan1 (E1 E2 mode : Int) (b1 b2 : Bool) (g1 g2 : Nat) (k2 : Int) (w : World) : Calls Tryz.prog 69 #[fmS, .agg #[.int .i64 2, .bool b1, .pointer (some ⟨g1, 0, none⟩), .int .i64 E1], .agg #[.int .i64 k2, .bool b2, .pointer (some ⟨g2, 0, none⟩), .int .i64 E2], .int .i64 mode] w (fun e' w' => e' = .returned (.tuple #[.int .u64 (2143289344), .int .i64 0]) ∧ Within w w') := by
  go_enter Tryz.func69, Tryz.ntmps69
  go_wp2_with fail
  refine (RnoneS _).mono ?_; rintro e1 w1 ⟨rfl, hb1⟩
  go_wp2
  go_ret2
  exact ⟨rfl, (by repeat (with_reducible first | exact Within.refl _ | assumption | refine Within.alloc ?_ _ | refine Within.drew ?_ | refine Within.drewN ?_ _ | refine Within.setCell ?_ (by first | (simp; done) | (simp; omega)) _ | refine Within.trans ?_ (by assumption)))⟩
set_option maxRecDepth 100000 in
set_option maxHeartbeats 600000 in
theorem Rmul_nan2 (E1 E2 mode : Int) (b1 b2 : Bool) (g1 g2 : Nat) (k1 : Int) (h1 : (k1 == 2) = false) (w : World) : Calls Tryz.prog 69 #[fmS, .agg #[.int .i64 k1, .bool b1, .pointer (some ⟨g1, 0, none⟩), .int .i64 E1], .agg #[.int .i64 2, .bool b2, .pointer (some ⟨g2, 0, none⟩), .int .i64 E2], .int .i64 mode] w (fun e' w' => e' = .returned (.tuple #[.int .u64 (2143289344), .int .i64 0]) ∧ Within w w') := by
  go_enter Tryz.func69, Tryz.ntmps69
  go_wp2_with fail
  refine (RnoneS _).mono ?_; rintro e1 w1 ⟨rfl, hb1⟩
  go_wp2
  go_ret2
  exact ⟨rfl, (by repeat (with_reducible first | exact Within.refl _ | assumption | refine Within.alloc ?_ _ | refine Within.drew ?_ | refine Within.drewN ?_ _ | refine Within.setCell ?_ (by first | (simp; done) | (simp; omega)) _ | refine Within.trans ?_ (by assumption)))⟩
set_option maxRecDepth 100000 in
set_option maxHeartbeats 600000 in
theorem Rmul_inv1 (E1 E2 mode : Int) (b1 b2 : Bool) (g1 g2 : Nat) (w : World) (hI2 : IntB w g2 0) : Calls Tryz.prog 69 #[fmS, .agg #[.int .i64 1, .bool b1, .pointer (some ⟨g1, 0, none⟩), .int .i64 E1], .agg #[.int .i64 0, .bool b2, .pointer (some ⟨g2, 0, none⟩), .int .i64 E2], .int .i64 mode] w (fun e' w' => e' = .returned (.tuple #[.int .u64 (2143289344), .int .i64 8]) ∧ Within w w') := by
  go_enter Tryz.func69, Tryz.ntmps69
  go_wp2_with fail
  refine (Riszero_zero 0 E2 0 b2 g2 rfl rfl _ (by repeat (with_reducible first | assumption | exact ib_new _ _ (by simp; done) | refine IntB.alloc ?_ _ | refine IntB.drew ?_ | refine IntB.drewN ?_ _))).mono ?_; rintro e1 w1 ⟨rfl, hb1⟩
  have B1 := Lib.hid (Bx2.mk hb1)
  obtain ⟨q1_0, q1_1, q1_2, q1_3, q1_4, q1_5, q1_6, q1_7, q1_8, q1_9, q1_10, q1_11, z1_0, z1_1, z1_2⟩ := B1.out
  go_wp2_with fail
  refine (RnoneS _).mono ?_; rintro e2 w2 ⟨rfl, hb2⟩
  go_wp2
  go_ret2
  exact ⟨rfl, (by repeat (with_reducible first | exact Within.refl _ | assumption | refine Within.alloc ?_ _ | refine Within.drew ?_ | refine Within.drewN ?_ _ | refine Within.setCell ?_ (by first | (simp; done) | (simp; omega)) _ | refine Within.trans ?_ (by assumption)))⟩
set_option maxRecDepth 100000 in
set_option maxHeartbeats 600000 in
theorem Rmul_inv2 (E1 E2 mode : Int) (b1 b2 : Bool) (g1 g2 : Nat) (w : World) (hI1 : IntB w g1 0) : Calls Tryz.prog 69 #[fmS, .agg #[.int .i64 0, .bool b1, .pointer (some ⟨g1, 0, none⟩), .int .i64 E1], .agg #[.int .i64 1, .bool b2, .pointer (some ⟨g2, 0, none⟩), .int .i64 E2], .int .i64 mode] w (fun e' w' => e' = .returned (.tuple #[.int .u64 (2143289344), .int .i64 8]) ∧ Within w w') := by
  go_enter Tryz.func69, Tryz.ntmps69
  go_wp2_with fail
  refine (Riszero_zero 0 E1 0 b1 g1 rfl rfl _ (by repeat (with_reducible first | assumption | exact ib_new _ _ (by simp; done) | refine IntB.alloc ?_ _ | refine IntB.drew ?_ | refine IntB.drewN ?_ _))).mono ?_; rintro e1 w1 ⟨rfl, hb1⟩
  have B1 := Lib.hid (Bx2.mk hb1)
  obtain ⟨q1_0, q1_1, q1_2, q1_3, q1_4, q1_5, q1_6, q1_7, q1_8, q1_9, q1_10, q1_11, z1_0, z1_1, z1_2⟩ := B1.out
  go_wp2_with fail
  refine (RnoneS _).mono ?_; rintro e2 w2 ⟨rfl, hb2⟩
  go_wp2
  go_ret2
  exact ⟨rfl, (by repeat (with_reducible first | exact Within.refl _ | assumption | refine Within.alloc ?_ _ | refine Within.drew ?_ | refine Within.drewN ?_ _ | refine Within.setCell ?_ (by first | (simp; done) | (simp; omega)) _ | refine Within.trans ?_ (by assumption)))⟩
set_option maxRecDepth 100000 in
set_option maxHeartbeats 600000 in
theorem Rmul_inf11 (E1 E2 mode : Int) (b1 b2 : Bool) (g1 g2 : Nat) (M1 M2 : Nat) (w : World) (hI1 : IntB w g1 (M1 : Int)) (hI2 : IntB w g2 (M2 : Int)) : Calls Tryz.prog 69 #[fmS, .agg #[.int .i64 1, .bool b1, .pointer (some ⟨g1, 0, none⟩), .int .i64 E1], .agg #[.int .i64 1, .bool b2, .pointer (some ⟨g2, 0, none⟩), .int .i64 E2], .int .i64 mode] w (fun e' w' => e' = .returned (.tuple #[.int .u64 ((2139095040 + nghtS (!(b1 == b2)) : Nat)), .int .i64 0]) ∧ Within w w') := by
  go_enter Tryz.func69, Tryz.ntmps69
  go_wp2_with fail
  refine (Riszero_no 1 E2 (M2 : Int) b2 g2 rfl _ (by repeat (with_reducible first | assumption | exact ib_new _ _ (by simp; done) | refine IntB.alloc ?_ _ | refine IntB.drew ?_ | refine IntB.drewN ?_ _))).mono ?_; rintro e1 w1 ⟨rfl, hb1⟩
  have hI1 : IntB w1 g1 (M1 : Int) := IntB.of (by repeat (with_reducible first | assumption | exact ib_new _ _ (by simp; done) | refine IntB.alloc ?_ _ | refine IntB.drew ?_ | refine IntB.drewN ?_ _)) hb1
  have B1 := Lib.hid (Bx2.mk hb1)
  obtain ⟨q1_0, q1_1, q1_2, q1_3, q1_4, q1_5, q1_6, q1_7, q1_8, q1_9, q1_10, q1_11, z1_0, z1_1, z1_2⟩ := B1.out
  go_wp2_with fail
  refine (Riszero_no 1 E1 (M1 : Int) b1 g1 rfl _ (by repeat (with_reducible first | assumption | exact ib_new _ _ (by simp; done) | refine IntB.alloc ?_ _ | refine IntB.drew ?_ | refine IntB.drewN ?_ _))).mono ?_; rintro e2 w2 ⟨rfl, hb2⟩
  have B2 := Lib.hid (B1.out.of hb2)
  obtain ⟨q2_0, q2_1, q2_2, q2_3, q2_4, q2_5, q2_6, q2_7, q2_8, q2_9, q2_10, q2_11, z2_0, z2_1, z2_2⟩ := B2.out
  go_wp2_with fail
  refine (RinfinityS (!(b1 == b2)) _).mono ?_; rintro e3 w3 ⟨rfl, hb3⟩
  go_wp2
  go_ret2
  exact ⟨rfl, (by repeat (with_reducible first | exact Within.refl _ | assumption | refine Within.alloc ?_ _ | refine Within.drew ?_ | refine Within.drewN ?_ _ | refine Within.setCell ?_ (by first | (simp; done) | (simp; omega)) _ | refine Within.trans ?_ (by assumption)))⟩
set_option maxRecDepth 100000 in
set_option maxHeartbeats 600000 in
theorem Rmul_inf10 (E1 E2 mode : Int) (b1 b2 : Bool) (g1 g2 : Nat) (M1 M2 : Nat) (hm : (M2 : Int) ≠ 0) (w : World) (hI1 : IntB w g1 (M1 : Int)) (hI2 : IntB w g2 (M2 : Int)) : Calls Tryz.prog 69 #[fmS, .agg #[.int .i64 1, .bool b1, .pointer (some ⟨g1, 0, none⟩), .int .i64 E1], .agg #[.int .i64 0, .bool b2, .pointer (some ⟨g2, 0, none⟩), .int .i64 E2], .int .i64 mode] w (fun e' w' => e' = .returned (.tuple #[.int .u64 ((2139095040 + nghtS (!(b1 == b2)) : Nat)), .int .i64 0]) ∧ Within w w') := by
  go_enter Tryz.func69, Tryz.ntmps69
  go_wp2_with fail
  refine (Riszero_some 0 E2 (M2 : Int) b2 g2 rfl hm _ (by repeat (with_reducible first | assumption | exact ib_new _ _ (by simp; done) | refine IntB.alloc ?_ _ | refine IntB.drew ?_ | refine IntB.drewN ?_ _))).mono ?_; rintro e1 w1 ⟨rfl, hb1⟩
  have B1 := Lib.hid (Bx2.mk hb1)
  obtain ⟨q1_0, q1_1, q1_2, q1_3, q1_4, q1_5, q1_6, q1_7, q1_8, q1_9, q1_10, q1_11, z1_0, z1_1, z1_2⟩ := B1.out
  go_wp2_with fail
  refine (RinfinityS (!(b1 == b2)) _).mono ?_; rintro e2 w2 ⟨rfl, hb2⟩
  go_wp2
  go_ret2
  exact ⟨rfl, (by repeat (with_reducible first | exact Within.refl _ | assumption | refine Within.alloc ?_ _ | refine Within.drew ?_ | refine Within.drewN ?_ _ | refine Within.setCell ?_ (by first | (simp; done) | (simp; omega)) _ | refine Within.trans ?_ (by assumption)))⟩
set_option maxRecDepth 100000 in
set_option maxHeartbeats 600000 in
theorem Rmul_inf01 (E1 E2 mode : Int) (b1 b2 : Bool) (g1 g2 : Nat) (M1 M2 : Nat) (hm : (M1 : Int) ≠ 0) (w : World) (hI1 : IntB w g1 (M1 : Int)) (hI2 : IntB w g2 (M2 : Int)) : Calls Tryz.prog 69 #[fmS, .agg #[.int .i64 0, .bool b1, .pointer (some ⟨g1, 0, none⟩), .int .i64 E1], .agg #[.int .i64 1, .bool b2, .pointer (some ⟨g2, 0, none⟩), .int .i64 E2], .int .i64 mode] w (fun e' w' => e' = .returned (.tuple #[.int .u64 ((2139095040 + nghtS (!(b1 == b2)) : Nat)), .int .i64 0]) ∧ Within w w') := by
  go_enter Tryz.func69, Tryz.ntmps69
  go_wp2_with fail
  refine (Riszero_some 0 E1 (M1 : Int) b1 g1 rfl hm _ (by repeat (with_reducible first | assumption | exact ib_new _ _ (by simp; done) | refine IntB.alloc ?_ _ | refine IntB.drew ?_ | refine IntB.drewN ?_ _))).mono ?_; rintro e1 w1 ⟨rfl, hb1⟩
  have B1 := Lib.hid (Bx2.mk hb1)
  obtain ⟨q1_0, q1_1, q1_2, q1_3, q1_4, q1_5, q1_6, q1_7, q1_8, q1_9, q1_10, q1_11, z1_0, z1_1, z1_2⟩ := B1.out
  go_wp2_with fail
  refine (RinfinityS (!(b1 == b2)) _).mono ?_; rintro e2 w2 ⟨rfl, hb2⟩
  go_wp2
  go_ret2
  exact ⟨rfl, (by repeat (with_reducible first | exact Within.refl _ | assumption | refine Within.alloc ?_ _ | refine Within.drew ?_ | refine Within.drewN ?_ _ | refine Within.setCell ?_ (by first | (simp; done) | (simp; omega)) _ | refine Within.trans ?_ (by assumption)))⟩
set_option maxRecDepth 100000 in
set_option maxHeartbeats 600000 in
theorem Rmul_main (E1 E2 mode : Int) (b1 b2 : Bool) (g1 g2 : Nat) (M1 M2 : Nat)  (h1 : -5000 ≤ E1 ∧ E1 ≤ 5000) (h2 : -5000 ≤ E2 ∧ E2 ≤ 5000) (l1 : (dg M1).length ≤ 400) (l2 : (dg M2).length ≤ 400) (w : World) (hI1 : IntB w g1 (M1 : Int)) (hI2 : IntB w g2 (M2 : Int)) : Calls Tryz.prog 69 #[fmS, .agg #[.int .i64 0, .bool b1, .pointer (some ⟨g1, 0, none⟩), .int .i64 E1], .agg #[.int .i64 0, .bool b2, .pointer (some ⟨g2, 0, none⟩), .int .i64 E2], .int .i64 mode] w (fun e' w' => e' = .returned (.tuple #[.int .u64 ((sWS 0 (b1 != b2) (M1 * M2) (E1 + E2) mode : Nat)), .int .i64 (sFS 0 (b1 != b2) (M1 * M2) (E1 + E2) mode)]) ∧ Within w w') := by
  have TI := Lib.hid (fun (w' : World) (hx : IntB w' g1 (M1 : Int)) (hy : IntB w' g2 (M2 : Int)) => Rtimes 0 0 E1 E2 b1 b2 g1 g2 M1 M2 h1 h2 l1 l2 w' hx hy)
  have SA := Lib.hid (fun (g : Nat) (w' : World) (hx : IntB w' g ((M1 * M2 : Nat) : Int)) => RsameS 0 (b1 != b2) g (M1 * M2) (E1 + E2) mode (.inl rfl) (by omega) (Nat.le_trans (dg_mul_len l1 l2) (by decide)) w' hx)
  generalize sWS 0 (b1 != b2) (M1 * M2) (E1 + E2) mode = WW at *
  generalize sFS 0 (b1 != b2) (M1 * M2) (E1 + E2) mode = FF at *
  clear h1 h2 l1 l2
  go_enter Tryz.func69, Tryz.ntmps69
  go_upto_region 8 with fail
  refine wp_region_schG (fun W => W.cell? ⟨w.heap.size, 0, none⟩ = some (.int .i64 24) ∧ W.cell? ⟨w.heap.size, 1, none⟩ = some (.int .i64 (-126)) ∧ W.cell? ⟨w.heap.size, 2, none⟩ = some (.int .i64 127) ∧ W.cell? ⟨w.heap.size, 3, none⟩ = some (.int .i64 8) ∧ W.cell? ⟨w.heap.size + 1, 0, none⟩ = some (.int .i64 0) ∧ W.cell? ⟨w.heap.size + 1, 1, none⟩ = some (.bool b1) ∧ W.cell? ⟨w.heap.size + 1, 2, none⟩ = some (.pointer (some ⟨g1, 0, none⟩)) ∧ W.cell? ⟨w.heap.size + 1, 3, none⟩ = some (.int .i64 E1) ∧ W.cell? ⟨w.heap.size + 1 + 1, 0, none⟩ = some (.int .i64 0) ∧ W.cell? ⟨w.heap.size + 1 + 1, 1, none⟩ = some (.bool b2) ∧ W.cell? ⟨w.heap.size + 1 + 1, 2, none⟩ = some (.pointer (some ⟨g2, 0, none⟩)) ∧ W.cell? ⟨w.heap.size + 1 + 1, 3, none⟩ = some (.int .i64 E2) ∧ IntB W g1 (M1 : Int) ∧ IntB W g2 (M2 : Int) ∧ w.heap.size < W.heap.size ∧ w.heap.size + 1 < W.heap.size ∧ w.heap.size + 1 + 1 < W.heap.size ∧ Within (((w.alloc (.cells #[.int .i64 24, .int .i64 (-126), .int .i64 127, .int .i64 8] 60)).alloc (.cells #[.int .i64 0, .bool b1, .pointer (some ⟨g1, 0, none⟩), .int .i64 E1] 65)).alloc (.cells #[.int .i64 0, .bool b2, .pointer (some ⟨g2, 0, none⟩), .int .i64 E2] 65)) W) 9 (.firm 0 (.firm 1 (.firm 2 (.firm 4 (.one 3 (.one 5 (.firm 6 (.firm 7 (.firm 8 (.one 9 .nil)))))))))) (by kernel_rfl) (by kernel_rfl) ⟨by go_simp, by go_simp, by go_simp, by go_simp, by go_simp, by go_simp, by go_simp, by go_simp, by go_simp, by go_simp, by go_simp, by go_simp, (by repeat (with_reducible first | assumption | exact ib_new _ _ (by simp; done) | refine IntB.alloc ?_ _ | refine IntB.drew ?_ | refine IntB.drewN ?_ _)), (by repeat (with_reducible first | assumption | exact ib_new _ _ (by simp; done) | refine IntB.alloc ?_ _ | refine IntB.drew ?_ | refine IntB.drewN ?_ _)), by first | (simp; done) | (simp; omega), by first | (simp; done) | (simp; omega), by first | (simp; done) | (simp; omega), Within.refl _⟩ ?_
  rintro w0 ⟨c0, c1, c2, c3, c4, c5, c6, c7, c8, c9, c10, c11, hJ1, hJ2, s0, s1, s2, hw0⟩
  try simp only [Act.put, List.setIfInBounds_toArray, List.set_cons_zero, List.set_cons_succ]
  apply sch_firm rfl rfl (by repeat (with_reducible first | exact Within.refl _ | assumption | refine Within.alloc ?_ _ | refine Within.drew ?_ | refine Within.drewN ?_ _ | refine Within.setCell ?_ (by first | (simp; done) | (simp; omega)) _ | refine Within.trans ?_ (by assumption)))
  · intro wq hq
    have hcq := hq.cells
    clear hq
    go_simp
    first | rfl | (trace_state; fail)
  try simp only [Act.put, List.setIfInBounds_toArray, List.set_cons_zero, List.set_cons_succ]
  apply sch_firm rfl rfl (by repeat (with_reducible first | exact Within.refl _ | assumption | refine Within.alloc ?_ _ | refine Within.drew ?_ | refine Within.drewN ?_ _ | refine Within.setCell ?_ (by first | (simp; done) | (simp; omega)) _ | refine Within.trans ?_ (by assumption)))
  · intro wq hq
    have hcq := hq.cells
    clear hq
    go_simp
    first | rfl | (trace_state; fail)
  try simp only [Act.put, List.setIfInBounds_toArray, List.set_cons_zero, List.set_cons_succ]
  apply sch_firm rfl rfl (by repeat (with_reducible first | exact Within.refl _ | assumption | refine Within.alloc ?_ _ | refine Within.drew ?_ | refine Within.drewN ?_ _ | refine Within.setCell ?_ (by first | (simp; done) | (simp; omega)) _ | refine Within.trans ?_ (by assumption)))
  · intro wq hq
    have hcq := hq.cells
    clear hq
    go_simp
    first | rfl | (trace_state; fail)
  try simp only [Act.put, List.setIfInBounds_toArray, List.set_cons_zero, List.set_cons_succ]
  apply sch_firm rfl rfl (by repeat (with_reducible first | exact Within.refl _ | assumption | refine Within.alloc ?_ _ | refine Within.drew ?_ | refine Within.drewN ?_ _ | refine Within.setCell ?_ (by first | (simp; done) | (simp; omega)) _ | refine Within.trans ?_ (by assumption)))
  · intro wq hq
    have hcq := hq.cells
    clear hq
    go_simp
    first | rfl | (trace_state; fail)
  try simp only [Act.put, List.setIfInBounds_toArray, List.set_cons_zero, List.set_cons_succ]
  refine sch_one rfl rfl (fun K hK => ?_)
  go_simp
  refine (TI.out _ (by repeat (with_reducible first | assumption | exact ib_new _ _ (by simp; done) | refine IntB.alloc ?_ _ | refine IntB.drew ?_ | refine IntB.drewN ?_ _)) (by repeat (with_reducible first | assumption | exact ib_new _ _ (by simp; done) | refine IntB.alloc ?_ _ | refine IntB.drew ?_ | refine IntB.drewN ?_ _))).mono ?_; rintro e4 w4 ⟨g, rfl, hI4, hg4, hv4'⟩
  have hv4 : Within w0 w4 := Within.trans (Within.refl w0).drew hv4'
  refine hK _ _ (fun _ => (by repeat (with_reducible first | exact Within.refl _ | assumption | refine Within.alloc ?_ _ | refine Within.drew ?_ | refine Within.drewN ?_ _ | refine Within.setCell ?_ (by first | (simp; done) | (simp; omega)) _ | refine Within.trans ?_ (by assumption)))) ?_
  clear hK K
  try simp only [Act.put, List.setIfInBounds_toArray, List.set_cons_zero, List.set_cons_succ]
  refine sch_one rfl rfl (fun K hK => ?_)
  go_simp
  refine (SA.out _ _ (by repeat (with_reducible first | assumption | exact ib_new _ _ (by simp; done) | refine IntB.alloc ?_ _ | refine IntB.drew ?_ | refine IntB.drewN ?_ _))).mono ?_; rintro e5 w5 ⟨rfl, hv5'⟩
  have hv5 := hv4.trans hv5'
  refine hK _ _ (fun _ => (by repeat (with_reducible first | exact Within.refl _ | assumption | refine Within.alloc ?_ _ | refine Within.drew ?_ | refine Within.drewN ?_ _ | refine Within.setCell ?_ (by first | (simp; done) | (simp; omega)) _ | refine Within.trans ?_ (by assumption)))) ?_
  clear hK K
  try simp only [Act.put, List.setIfInBounds_toArray, List.set_cons_zero, List.set_cons_succ]
  apply sch_firm rfl rfl (by repeat (with_reducible first | exact Within.refl _ | assumption | refine Within.alloc ?_ _ | refine Within.drew ?_ | refine Within.drewN ?_ _ | refine Within.setCell ?_ (by first | (simp; done) | (simp; omega)) _ | refine Within.trans ?_ (by assumption)))
  · intro wq hq
    have hcq := hq.cells
    clear hq
    go_simp
    first | rfl | (trace_state; fail)
  try simp only [Act.put, List.setIfInBounds_toArray, List.set_cons_zero, List.set_cons_succ]
  apply sch_firm rfl rfl (by repeat (with_reducible first | exact Within.refl _ | assumption | refine Within.alloc ?_ _ | refine Within.drew ?_ | refine Within.drewN ?_ _ | refine Within.setCell ?_ (by first | (simp; done) | (simp; omega)) _ | refine Within.trans ?_ (by assumption)))
  · intro wq hq
    have hcq := hq.cells
    clear hq
    go_simp
    first | rfl | (trace_state; fail)
  try simp only [Act.put, List.setIfInBounds_toArray, List.set_cons_zero, List.set_cons_succ]
  apply sch_firm rfl rfl (by repeat (with_reducible first | exact Within.refl _ | assumption | refine Within.alloc ?_ _ | refine Within.drew ?_ | refine Within.drewN ?_ _ | refine Within.setCell ?_ (by first | (simp; done) | (simp; omega)) _ | refine Within.trans ?_ (by assumption)))
  · intro wq hq
    have hcq := hq.cells
    clear hq
    go_simp
    first | rfl | (trace_state; fail)
  try simp only [Act.put, List.setIfInBounds_toArray, List.set_cons_zero, List.set_cons_succ]
  refine sch_one rfl rfl (fun K hK => ?_)
  go_simp
  refine hK _ _ (fun h => absurd h (by decide)) ?_
  clear hK K
  try simp only [Act.put, List.setIfInBounds_toArray, List.set_cons_zero, List.set_cons_succ]
  refine sch_nil ?_
  have hz := hw0.trans hv5
  have hz5 : Within w w5 := ((((Within.refl w).alloc _).alloc _).alloc _).trans hz
  go_wp2
  go_ret2
  exact ⟨rfl, hz5⟩
theorem RmulS (x y g1 g2 : Nat) (mode : Int) (w : World) (hI1 : IntB w g1 (mS x : Int)) (hI2 : IntB w g2 (mS y : Int)) : Calls Tryz.prog 69 #[fmS, .agg #[.int .i64 (kS x), .bool (nS x), .pointer (some ⟨g1, 0, none⟩), .int .i64 (eS x)], .agg #[.int .i64 (kS y), .bool (nS y), .pointer (some ⟨g2, 0, none⟩), .int .i64 (eS y)], .int .i64 mode] w (fun e' w' => e' = .returned (.tuple #[.int .u64 ((refMW x y mode : Nat)), .int .i64 (refMF x y mode)]) ∧ Within w w') := by
  unfold refMW refMF
  have mx := mS_lt x
  have my := mS_lt y
  have hf : ∀ {n : Nat}, n < 4294967296 → (dg n).length ≤ 400 := fun h => Nat.le_trans (dg_small (k := 1) h) (by decide)
  have ex : -5000 ≤ eS x ∧ eS x ≤ 5000 := by have := eS_range x; omega
  have ey : -5000 ≤ eS y ∧ eS y ≤ 5000 := by have := eS_range y; omega
  have nb : ∀ a b : Bool, (a != b) = !(a == b) := fun a b => by cases a <;> cases b <;> rfl
  by_cases n1 : kS x = 2
  · rw [if_pos (.inl n1), if_pos (.inl n1), n1]; exact Rmul_nan1 (eS x) (eS y) mode (nS x) (nS y) g1 g2 (kS y) w
  by_cases n2 : kS y = 2
  · rw [if_pos (.inr n2), if_pos (.inr n2), n2]; exact Rmul_nan2 (eS x) (eS y) mode (nS x) (nS y) g1 g2 (kS x) (beq_eq_false_iff_ne.2 n1) w
  have n : ¬ (kS x = 2 ∨ kS y = 2) := by omega
  rw [if_neg n, if_neg n]
  by_cases i : (kS x = 1 ∧ kS y = 0 ∧ mS y = 0) ∨ (kS y = 1 ∧ kS x = 0 ∧ mS x = 0)
  · rw [if_pos i, if_pos i]
    rcases i with ⟨i1, i2, i3⟩ | ⟨i1, i2, i3⟩
    · rw [i1, i2]; rw [i3] at hI2
      exact Rmul_inv1 (eS x) (eS y) mode (nS x) (nS y) g1 g2 w hI2
    · rw [i1, i2]; rw [i3] at hI1
      exact Rmul_inv2 (eS x) (eS y) mode (nS x) (nS y) g1 g2 w hI1
  rw [if_neg i, if_neg i]
  have hX := kS_range x
  have hY := kS_range y
  by_cases j : kS x = 1 ∨ kS y = 1
  · rw [if_pos j, if_pos j, nb]
    show Calls _ _ _ _ fun e' w' => e' = .returned (.tuple #[.int .u64 ((2139095040 + nghtS (!(nS x == nS y)) : Nat) : Int), .int .i64 0]) ∧ Within w w'
    by_cases j1 : kS x = 1
    · by_cases j2 : kS y = 1
      · rw [j1, j2]; exact Rmul_inf11 (eS x) (eS y) mode (nS x) (nS y) g1 g2 (mS x) (mS y) w hI1 hI2
      · have j3 : kS y = 0 := by omega
        rw [j1, j3]; exact Rmul_inf10 (eS x) (eS y) mode (nS x) (nS y) g1 g2 (mS x) (mS y) (fun h => i (.inl ⟨j1, j3, by omega⟩)) w hI1 hI2
    · have j2 : kS y = 1 := j.resolve_left j1
      have j3 : kS x = 0 := by omega
      rw [j2, j3]; exact Rmul_inf01 (eS x) (eS y) mode (nS x) (nS y) g1 g2 (mS x) (mS y) (fun h => i (.inr ⟨j2, j3, by omega⟩)) w hI1 hI2
  rw [if_neg j, if_neg j]
  have j1 : kS x = 0 := by omega
  have j2 : kS y = 0 := by omega
  rw [j1, j2]
  exact Rmul_main (eS x) (eS y) mode (nS x) (nS y) g1 g2 (mS x) (mS y) ex ey (hf (by omega)) (hf (by omega)) w hI1 hI2
end Go.Proofs.YtifgngmebnjfkaaGreatDoor
end

section
namespace Go.Proofs.YtifgngmebnjfkaaGreatDoor
open Go.RowKit
def ShortRel (W : World) (g : Nat) (lm : List Nat) (d : Nat) (rv iv : Value) (wr : World) : Prop :=
  ∃ (k r : Nat) (o : List Nat), k ≤ lm.length ∧ r < d ∧ rv = .int .u64 (r : Int) ∧ iv = .int .i64 ((k : Int) - 1) ∧ o.length = lm.length ∧ Words o ∧ OwnW wr g o ∧ wval lm = wval o * d + r * 4294967296 ^ k + lo lm k ∧ (∀ j, j < k → o.getD j 0 = 0) ∧ Within W wr
theorem ShortRel.step {W wr : World} {g : Nat} {lm o : List Nat} {d k r x t : Nat} (u v q : Int) (hk : k < lm.length) (hr : r < d) (hd : d < 4294967296) (ho : o.length = lm.length) (hwo : Words o) (hown : OwnW wr g o)
    (hval : wval lm = wval o * d + r * 4294967296 ^ (k + 1) + lo lm (k + 1)) (hzero : ∀ j, j < k + 1 → o.getD j 0 = 0) (hin : Within W wr) (hx : x = lm.getD k 0) (hx2 : x < 4294967296) (ht : t = r * 4294967296 + x) (hg : W.heap.size ≤ g)
    (hu : u = ((t / d : Nat) : Int)) (hv : v = ((t % d : Nat) : Int)) (hq : q = (k : Int) - 1) :
    ShortRel W g lm d (.int .u64 v) (.int .i64 q) (wr.setCell ⟨g, k, none⟩ (.int .u32 u)) := by
  subst hu hv hq
  have hd0 : 0 < d := by omega
  have hq1 : t / d < 4294967296 := by
    rw [Nat.div_lt_iff_lt_mul hd0, ht]
    have : (r + 1) * 4294967296 ≤ d * 4294967296 := Nat.mul_le_mul_right _ hr
    rw [Nat.add_mul, Nat.mul_comm d] at this
    omega
  refine ⟨k, t % d, o.set k (t / d), by omega, Nat.mod_lt _ hd0, rfl, rfl, by rw [List.length_set]; exact ho, hwo.set _ _ hq1, hown.set _ _ (by omega), ?_, ?_, hin.setCell hg _⟩
  · have hs := wval_set o k (t / d) (by omega)
    rw [hzero k (by omega), Nat.mul_zero, Nat.add_zero] at hs
    rw [lo_succ, ← hx, Nat.pow_succ] at hval
    have e := short_step (d := d) (q := wval o) (v := wval o * d + r * (4294967296 ^ k * 4294967296)) (P := 4294967296 ^ k) (r := r) rfl x ht
    rw [hs, ← e]
    omega
  · intro j hj
    rw [lset_ne _ _ _ _ (by omega)]
    exact hzero j (by omega)
def RetS (W : World) (n r : Nat) (e : Ending) (w' : World) : Prop := ∃ A c, e = .returned (.tuple #[.slice A (dg n).length c, .int .u32 (r : Int)]) ∧ (dg n).length ≤ c ∧ RowAt w' A (dg n) ∧ Within W w'
theorem shl_or {r x t : Nat} (hr : r < 4294967296) (hx : x < 4294967296) (ht : t = r * 4294967296 + x) : bits .or .u64 ((r : Int) * 4294967296) (x : Int) = (t : Int) := by
  rw [show ((r : Int) * 4294967296) = ((r * 4294967296 : Nat) : Int) by omega, u64_or_nat _ _ (by omega) (by omega), nat_join 32 _ _ (by rw [show (2 : Nat) ^ 32 = 4294967296 from rfl]; omega) hx, ht]
set_option maxRecDepth 100000 in
set_option maxHeartbeats 600000 in
theorem Bshort0 (lm : List Nat) (A : Option Addr) (ca d : Nat) (hwm : Words lm) (hlm : lm.length ≤ 1500000) (hd0 : 0 < d) (hd : d < 4294967296) (w : World) (hra : RowAt w A lm) :
    Calls Tryz.prog 138 #[.slice A lm.length ca, .int .u32 (d : Int)] w (RetS w (wval lm / d) (wval lm % d)) := by
  have hmk := run_make_row' (P := Tryz.prog) 89 22 (.int .u32 0) 4 (by kernel_rfl) Tryz.infoU32 rfl .i64 .i64 lm.length (by omega) (by omega)
  have HWM := Lib.hid hwm; have HRA := Lib.hid hra; clear hwm hra
  have HM := OwnW.made w lm.length
  go_enter Tryz.func138, Tryz.ntmps138
  go_wp2
  go_loopw [7, 8] (fun rv iv wr => ShortRel w w.heap.size lm d rv iv wr) (fun _ iv _ => (intOf iv + 1).toNat)
  case atStart => exact ⟨lm.length, 0, _, Nat.le_refl _, hd0, rfl, by go_num, by simp, Words.zeros _, HM, by rw [wval_zeros, lo_all _ (Nat.le_refl _)]; simp, fun j _ => by rw [List.getD_eq_getElem?_getD, List.getElem?_replicate]; split <;> rfl, (Within.refl w).alloc _⟩
  case round =>
    obtain ⟨k, r, o, hk, hr, rfl, rfl, ho, hwo, hown, hval, hzero, hin⟩ := hrel
    have HV := Lib.hid hval; have HO := Lib.hid ho; have HWO := Lib.hid hwo; have HZ := Lib.hid hzero; clear hval ho hwo hzero
    rcases k with _ | k
    · rw [show ((0 : Nat) : Int) - 1 = -1 from rfl]
      have CT := Lib.hid (Bcut o (some ⟨w.heap.size, 0, none⟩) lm.length HWO.out (by rw [HO.out]; exact Nat.le_refl _) (by rw [HO.out]; omega) _ hown.at)
      rw [HO.out] at CT
      have wr32 : IntKind.u32.wrap (r : Int) = (r : Int) := IntWalk.u32_in _ ⟨by omega, by omega⟩
      go_wp2_with fail
      refine (CT.out).mono ?_; rintro e1 w1 ⟨rfl, rfl⟩
      go_wp2
      go_ret2
      have hvv := HV.out
      rw [Nat.pow_zero, Nat.mul_one, lo_zero, Nat.add_zero, Nat.mul_comm (wval o)] at hvv
      have e1 : wval lm / d = wval o := by rw [hvv, Nat.mul_add_div hd0, Nat.div_eq_of_lt hr, Nat.add_zero]
      have e2 : wval lm % d = r := by rw [hvv, Nat.mul_add_mod, Nat.mod_eq_of_lt hr]
      rw [e1, e2]
      exact ⟨_, _, rfl, Nat.le_trans (dg_len_le (wval_lt o HWO.out)) (by rw [HO.out]; exact Nat.le_refl _), hown.at.cut HWO.out, hin⟩
    · obtain ⟨ga, rfl, hga, hca⟩ := (HRA.out.of hin).cell (i := k) (by omega)
      obtain ⟨x, hxe⟩ : ∃ x, x = lm.getD k 0 := ⟨_, rfl⟩
      have hx : x < 4294967296 := by rw [hxe]; exact HWM.out.getD k
      rw [← hxe] at hca
      have HXE := Lib.hid hxe; clear hxe
      have hco := hown.cell (i := k) (by rw [HO.out]; omega)
      have hfo := hown.frozen k
      obtain ⟨t, ht⟩ : ∃ t, t = r * 4294967296 + x := ⟨_, rfl⟩
      have hr32 : r < 4294967296 := by omega
      have gsh : IntKind.u64.wrap ((r : Int) * 4294967296) = (r : Int) * 4294967296 := by rw [IntKind.wrap_u64]; omega
      have gor := shl_or hr32 hx ht
      have ht2 : t < d * 4294967296 := by
        have : (r + 1) * 4294967296 ≤ d * 4294967296 := Nat.mul_le_mul_right _ hr
        rw [Nat.add_mul] at this
        omega
      have q1 : t / d < 4294967296 := by rw [Nat.div_lt_iff_lt_mul hd0, Nat.mul_comm]; exact ht2
      have r1 := Nat.mod_lt t hd0
      have HST := Lib.hid (fun (u v q : Int) => ShortRel.step (d := d) (x := x) (t := t) u v q (by omega) hr hd HO.out HWO.out hown HV.out HZ.out hin HXE.out hx ht (Nat.le_refl _))
      clear ht
      have ed : (t : Int) / (d : Int) = ((t / d : Nat) : Int) := by simp
      have em : (t : Int) % (d : Int) = ((t % d : Nat) : Int) := by simp
      obtain ⟨tq, htq⟩ : ∃ q, q = t / d := ⟨_, rfl⟩
      obtain ⟨tr, htr⟩ : ∃ q, q = t % d := ⟨_, rfl⟩
      rw [← htq] at ed q1 HST; rw [← htr] at em r1 HST
      have HQR := Lib.hid (And.intro htq htr); clear htq htr
      have dz : ((d : Int) == 0) = false := beq_eq_false_iff_ne.2 (by omega)
      have e1 : ((k + 1 : Nat) : Int) - 1 = (k : Int) := by omega
      rw [e1]
      go_wp2
      go_roundw
      case rel => exact HST.out _ _ _ (by omega) (by omega) (by omega)
      case measure => simp [intOf]
theorem Bshort (n d : Nat) (A : Option Addr) (ca : Nat) (hn : (dg n).length ≤ 1500000) (hd0 : 0 < d) (hd : d < 4294967296) (w : World) (hra : RowAt w A (dg n)) :
    Calls Tryz.prog 138 #[.slice A (dg n).length ca, .int .u32 (d : Int)] w (RetS w (n / d) (n % d)) := by
  have := Bshort0 (dg n) A ca d (words_dg n) hn hd0 hd w hra
  rw [wval_dg] at this
  exact this
end Go.Proofs.YtifgngmebnjfkaaGreatDoor
end

section
namespace Go.Proofs.YtifgngmebnjfkaaGreatDoor
open Go.RowKit
def LessRel (W : World) (g : Nat) (o0 ld : List Nat) (j q : Nat) (cv bv iv : Value) (wr : World) : Prop :=
  ∃ (k c br : Nat) (o : List Nat), k ≤ ld.length ∧ c < 4294967296 ∧ br ≤ 1 ∧ cv = .int .u64 (c : Int) ∧ bv = .int .u64 (br : Int) ∧ iv = .int .i64 (k : Int) ∧ o.length = o0.length ∧ Words o ∧ OwnW wr g o ∧
    lo o (j + k) + 4294967296 ^ j * (q * lo ld k) = lo o0 (j + k) + 4294967296 ^ (j + k) * (c + br) ∧ lo o j = lo o0 j ∧ (∀ i, j + k ≤ i → o.getD i 0 = o0.getD i 0) ∧ W.grownBy wr (some g)
theorem LessRel.step {W wr : World} {g : Nat} {o0 ld o : List Nat} {j q k c br x y z b : Nat} (u v p qq : Int) (hn : j + k < o.length) (hk : k < ld.length) (hc : c < 4294967296) (hq : q < 4294967296) (ho : o.length = o0.length) (hwo : Words o) (hown : OwnW wr g o)
    (hval : lo o (j + k) + 4294967296 ^ j * (q * lo ld k) = lo o0 (j + k) + 4294967296 ^ (j + k) * (c + br)) (hlow : lo o j = lo o0 j) (hrest : ∀ i, j + k ≤ i → o.getD i 0 = o0.getD i 0) (hin : W.grownBy wr (some g))
    (hx : x = o.getD (j + k) 0) (hy : y = ld.getD k 0) (hy2 : y < 4294967296) (hz : z + ((q * y + c) % 4294967296 + br) = x + 4294967296 * b) (hz2 : z < 4294967296) (hb : b ≤ 1)
    (hu : u = ((z : Nat) : Int)) (hv : v = (((q * y + c) / 4294967296 : Nat) : Int)) (hp : p = (b : Int)) (hqq : qq = ((k + 1 : Nat) : Int)) :
    LessRel W g o0 ld j q (.int .u64 v) (.int .u64 p) (.int .i64 qq) (wr.setCell ⟨g, j + k, none⟩ (.int .u32 u)) := by
  subst hu hv hp hqq
  have hm := word_mul hq hy2
  refine ⟨k + 1, (q * y + c) / 4294967296, b, o.set (j + k) z, by omega, by omega, hb, rfl, rfl, rfl, by rw [List.length_set]; exact ho, hwo.set _ _ hz2, hown.set _ _ hn, ?_, ?_, ?_, grown_set hin _⟩
  · rw [show j + (k + 1) = j + k + 1 by omega, lo_set_succ _ _ _ hn, lo_succ o0, lo_succ ld, ← hy, ← hrest (j + k) (Nat.le_refl _), ← hx, Nat.pow_succ]
    have := less_step (Q := 4294967296 ^ (j + k)) (x := x) (y := y) (g := q) (c := c) (br := br) (z := z) (b := b) hval hz
    rw [Nat.mul_add q, Nat.mul_add (4294967296 ^ j)]
    rw [show 4294967296 ^ j * (q * (4294967296 ^ k * y)) = 4294967296 ^ (j + k) * (q * y) by rw [Nat.pow_add, Nat.mul_assoc, Nat.mul_left_comm q]]
    exact this
  · rw [lo_set_ge _ _ _ _ (by omega)]; exact hlow
  · intro i hi
    rw [lset_ne _ _ _ _ (by omega)]
    exact hrest i (by omega)
def LessOut (W : World) (g : Nat) (o0 : List Nat) (D n j q : Nat) (e : Ending) (w' : World) : Prop :=
  ∃ (b : Nat) (o : List Nat), b ≤ 1 ∧ e = .returned (.bool (decide (b = 1))) ∧ o.length = o0.length ∧ Words o ∧ OwnW w' g o ∧ lo o (j + n + 1) + 4294967296 ^ j * (q * D) = lo o0 (j + n + 1) + 4294967296 ^ (j + n + 1) * b ∧ lo o j = lo o0 j ∧ (∀ i, j + n < i → o.getD i 0 = o0.getD i 0) ∧ W.grownBy w' (some g)
theorem LessOut.mk' {W wr : World} {g : Nat} {o0 ld o : List Nat} {j q c br x y z b : Nat} {u : Int} (hn : j + ld.length < o.length) (ho : o.length = o0.length) (hwo : Words o) (hown : OwnW wr g o)
    (hval : lo o (j + ld.length) + 4294967296 ^ j * (q * lo ld ld.length) = lo o0 (j + ld.length) + 4294967296 ^ (j + ld.length) * (c + br)) (hlow : lo o j = lo o0 j) (hrest : ∀ i, j + ld.length ≤ i → o.getD i 0 = o0.getD i 0) (hin : W.grownBy wr (some g))
    (hx : x = o.getD (j + ld.length) 0) (hy : y = c + br) (hz : z + y = x + 4294967296 * b) (hz2 : z < 4294967296) (hb : b ≤ 1) (hu : u = (z : Int)) :
    LessOut W g o0 (wval ld) ld.length j q (.returned (.bool (decide (b = 1)))) (wr.setCell ⟨g, j + ld.length, none⟩ (.int .u32 u)) := by
  subst hu hy
  refine ⟨b, o.set (j + ld.length) z, hb, rfl, by rw [List.length_set]; exact ho, hwo.set _ _ hz2, hown.set _ _ hn, ?_, ?_, ?_, grown_set hin _⟩
  · rw [lo_set_succ _ _ _ hn, lo_succ o0, ← hrest _ (Nat.le_refl _), ← hx, Nat.pow_succ]
    rw [lo_all ld (Nat.le_refl _)] at hval
    exact less_end hval hz
  · rw [lo_set_ge _ _ _ _ (by omega)]; exact hlow
  · intro i hi
    rw [lset_ne _ _ _ _ (by omega)]
    exact hrest i (by omega)
set_option maxRecDepth 100000 in
set_option maxHeartbeats 1000000 in
theorem Bless (o0 ld : List Nat) (g cu cd j q : Nat) (Dv : Option Addr) (hwo0 : Words o0) (hwd : Words ld) (hlo : o0.length ≤ 1500000) (hj : j + ld.length < o0.length) (hcu : o0.length ≤ cu) (hq : q < 4294967296) (W w : World) (hW : Within W w) (hg : W.heap.size ≤ g) (hown0 : OwnW w g o0) (hrd : RowAt W Dv ld) :
    Calls Tryz.prog 140 #[.slice (some ⟨g, 0, none⟩) o0.length cu, .slice Dv ld.length cd, .int .i64 (j : Int), .int .u64 (q : Int)] w (LessOut w g o0 (wval ld) ld.length j q) := by
  have HWO0 := Lib.hid hwo0; have HWD := Lib.hid hwd; have HRD := Lib.hid hrd; have HW := Lib.hid hW; have HOW := Lib.hid hown0; have HCU := Lib.hid hcu; clear hwo0 hwd hrd hW hown0 hcu
  have HG := Lib.hid hg; clear hg
  obtain ⟨n, hn⟩ : ∃ n, n = o0.length := ⟨_, rfl⟩
  have HN := Lib.hid hn
  rw [← hn] at hj hlo ⊢
  clear hn
  go_enter Tryz.func140, Tryz.ntmps140
  go_wp2
  go_loopw [9, 10, 11] (fun cv bv iv wr => LessRel w g o0 ld j q cv bv iv wr) (fun _ _ iv _ => ld.length - (intOf iv).toNat)
  case atStart => exact ⟨0, 0, 0, o0, Nat.zero_le _, by decide, by decide, rfl, rfl, rfl, rfl, HWO0.out, HOW.out, by simp [lo_zero], rfl, fun _ _ => rfl, grown_within g (Within.refl _)⟩
  case round =>
    obtain ⟨k, c, br, o, hk, hc, hbr, rfl, rfl, rfl, ho, hwo, hown, hval, hlow, hrest, hin⟩ := hrel
    have HV := Lib.hid hval; have HO := Lib.hid (ho.trans HN.out.symm); have HO2 := Lib.hid ho; have HWO := Lib.hid hwo; have HLO := Lib.hid hlow; have HR := Lib.hid hrest; clear hval ho hwo hlow hrest
    rcases Nat.lt_or_ge k ld.length with hlt | hlt
    · obtain ⟨gd, rfl, hgd, hcd⟩ := (HRD.out.of (Within.grown HW.out hin HG.out)).cell hlt
      obtain ⟨y, hye⟩ : ∃ y, y = ld.getD k 0 := ⟨_, rfl⟩
      have hy : y < 4294967296 := by rw [hye]; exact HWD.out.getD k
      rw [← hye] at hcd
      have HYE := Lib.hid hye; clear hye
      have hco := hown.cell (i := j + k) (by rw [HO.out]; omega)
      have hfo := hown.frozen (j + k)
      obtain ⟨x, hxe⟩ : ∃ x, x = o.getD (j + k) 0 := ⟨_, rfl⟩
      have hx : x < 4294967296 := by rw [hxe]; exact HWO.out.getD _
      rw [← hxe] at hco
      have HXE := Lib.hid hxe; clear hxe
      have hm := word_mul hq hy
      have HST := Lib.hid (fun (z b : Nat) (u v p qq : Int) => LessRel.step (x := x) (y := y) (z := z) (b := b) u v p qq (by rw [HO.out]; omega) hlt hc hq HO2.out HWO.out hown HV.out HLO.out HR.out hin HXE.out HYE.out hy)
      obtain ⟨p, hp⟩ : ∃ p, p = q * y := ⟨_, rfl⟩
      have e0 : (q : Int) * y = (p : Int) := by rw [hp]; simp
      rw [← hp] at hm HST
      clear hp
      have e1 : IntKind.u64.wrap (p : Int) = p := by rw [IntKind.wrap_u64]; omega
      have e2 : IntKind.u64.wrap ((p : Int) + c) = (p : Int) + c := by rw [IntKind.wrap_u64]; omega
      have e4 : IntKind.i64.wrap ((j : Int) + k) = (j : Int) + k := IntWalk.i64_in _ (by omega)
      have e5 : ((j : Int) + k).toNat = j + k := by omega
      have ea : bits .and .u64 ((p : Int) + c) 4294967295 = ((p + c) % 4294967296 : Nat) := by
        rw [show (p : Int) + c = ((p + c : Nat) : Int) by omega]
        have := u64_mask 32 (by decide) (p + c) (by omega)
        simpa using this
      obtain ⟨pl, hpl⟩ : ∃ pl, pl = (p + c) % 4294967296 := ⟨_, rfl⟩
      have hpl2 : pl < 4294967296 := by omega
      rw [← hpl] at ea HST
      obtain ⟨ph, hph⟩ : ∃ ph, ph = (p + c) / 4294967296 := ⟨_, rfl⟩
      have ed : ((p : Int) + c) / 4294967296 = (ph : Int) := by rw [hph]; omega
      rw [← hph] at HST
      have HPP := Lib.hid (And.intro hpl hph); clear hpl hph
      have e6 : IntKind.u64.wrap ((pl : Int) + br) = (pl : Int) + br := by rw [IntKind.wrap_u64]; omega
      rcases Nat.lt_or_ge x (pl + br) with hxy | hxy
      · have dx : decide ((x : Int) < (pl : Int) + br) = true := decide_eq_true (by omega)
        have HB := Lib.hid (And.intro hm hc); clear hm
        go_wp2
        go_roundw
        case rel => exact HST.out (x + 4294967296 - (pl + br)) 1 _ _ _ _ (by omega) (by omega) (by decide) (by omega) (by omega) (by omega) (by omega)
        case measure => simp [intOf]; omega
      · have dx : decide ((x : Int) < (pl : Int) + br) = false := decide_eq_false (by omega)
        have HB := Lib.hid (And.intro hm hc); clear hm
        go_wp2
        go_roundw
        case rel => exact HST.out (x - (pl + br)) 0 _ _ _ _ (by omega) (by omega) (by decide) (by omega) (by omega) (by omega) (by omega)
        case measure => simp [intOf]; omega
    · obtain rfl : k = ld.length := by omega
      have hco := hown.cell (i := j + ld.length) (by rw [HO.out]; omega)
      have hfo := hown.frozen (j + ld.length)
      obtain ⟨x, hxe⟩ : ∃ x, x = o.getD (j + ld.length) 0 := ⟨_, rfl⟩
      have hx : x < 4294967296 := by rw [hxe]; exact HWO.out.getD _
      rw [← hxe] at hco
      have HXE := Lib.hid hxe; clear hxe
      have HEND := Lib.hid (fun (z b : Nat) (u : Int) => LessOut.mk' (x := x) (y := c + br) (z := z) (b := b) (u := u) (by rw [HO.out]; omega) HO2.out HWO.out hown HV.out HLO.out HR.out hin HXE.out rfl)
      have e4 : IntKind.i64.wrap ((j : Int) + ld.length) = (j : Int) + ld.length := IntWalk.i64_in _ (by omega)
      have e5 : ((j : Int) + ld.length).toNat = j + ld.length := by omega
      have e6 : IntKind.u64.wrap ((c : Int) + br) = (c : Int) + br := by rw [IntKind.wrap_u64]; omega
      rcases Nat.lt_or_ge x (c + br) with hxy | hxy
      · have dx : decide ((x : Int) < (c : Int) + br) = true := decide_eq_true (by omega)
        go_wp2
        go_ret
        exact HEND.out (x + 4294967296 - (c + br)) 1 _ (by omega) (by omega) (by decide) (by rw [IntKind.wrap_u64]; omega)
      · have dx : decide ((x : Int) < (c : Int) + br) = false := decide_eq_false (by omega)
        go_wp2
        go_ret
        exact HEND.out (x - (c + br)) 0 _ (by omega) (by omega) (by decide) (by omega)
def MoreRel (W : World) (g : Nat) (o0 ld : List Nat) (j : Nat) (cv iv : Value) (wr : World) : Prop :=
  ∃ (k c : Nat) (o : List Nat), k ≤ ld.length ∧ c ≤ 1 ∧ cv = .int .u64 (c : Int) ∧ iv = .int .i64 (k : Int) ∧ o.length = o0.length ∧ Words o ∧ OwnW wr g o ∧
    lo o (j + k) + 4294967296 ^ (j + k) * c = lo o0 (j + k) + 4294967296 ^ j * lo ld k ∧ lo o j = lo o0 j ∧ (∀ i, j + k ≤ i → o.getD i 0 = o0.getD i 0) ∧ W.grownBy wr (some g)
theorem MoreRel.step {W wr : World} {g : Nat} {o0 ld o : List Nat} {j k c x y n : Nat} (u v qq : Int) (hn : j + k < o.length) (hk : k < ld.length) (hc : c ≤ 1) (ho : o.length = o0.length) (hwo : Words o) (hown : OwnW wr g o)
    (hval : lo o (j + k) + 4294967296 ^ (j + k) * c = lo o0 (j + k) + 4294967296 ^ j * lo ld k) (hlow : lo o j = lo o0 j) (hrest : ∀ i, j + k ≤ i → o.getD i 0 = o0.getD i 0) (hin : W.grownBy wr (some g))
    (hx : x = o.getD (j + k) 0) (hx2 : x < 4294967296) (hy : y = ld.getD k 0) (hy2 : y < 4294967296)
    (hu : u = (((x + c + y) % 4294967296 : Nat) : Int)) (hv : v = (((x + c + y) / 4294967296 : Nat) : Int)) (hqq : qq = ((k + 1 : Nat) : Int)) :
    MoreRel W g o0 ld j (.int .u64 v) (.int .i64 qq) ((wr.drewN n).setCell ⟨g, j + k, none⟩ (.int .u32 u)) := by
  subst hu hv hqq
  refine ⟨k + 1, (x + c + y) / 4294967296, o.set (j + k) ((x + c + y) % 4294967296), by omega, by omega, rfl, rfl, by rw [List.length_set]; exact ho, hwo.set _ _ (by omega), OwnW.set (w := wr.drewN n) hown _ _ hn, ?_, ?_, ?_, grown_set (grown_trans hin (grown_within g ((Within.refl _).drewN n))) _⟩
  · rw [show j + (k + 1) = j + k + 1 by omega, lo_set_succ _ _ _ hn, lo_succ o0, lo_succ ld, ← hy, ← hrest (j + k) (Nat.le_refl _), ← hx, Nat.pow_succ]
    have := plus_step (P := 4294967296 ^ (j + k)) (a := x) (b := y) (c := c) hval
    rw [Nat.mul_add (4294967296 ^ j), ← Nat.mul_assoc (4294967296 ^ j), ← Nat.pow_add]
    omega
  · rw [lo_set_ge _ _ _ _ (by omega)]; exact hlow
  · intro i hi
    rw [lset_ne _ _ _ _ (by omega)]
    exact hrest i (by omega)
def MoreOut (W : World) (g : Nat) (o0 : List Nat) (D n j : Nat) (e : Ending) (w' : World) : Prop :=
  ∃ (b : Nat) (o : List Nat), b ≤ 1 ∧ e = .returned (.tuple #[]) ∧ o.length = o0.length ∧ Words o ∧ OwnW w' g o ∧ lo o (j + n + 1) + 4294967296 ^ (j + n + 1) * b = lo o0 (j + n + 1) + 4294967296 ^ j * D ∧ lo o j = lo o0 j ∧ (∀ i, j + n < i → o.getD i 0 = o0.getD i 0) ∧ W.grownBy w' (some g)
theorem MoreOut.mk' {W wr : World} {g : Nat} {o0 ld o : List Nat} {j c x : Nat} {u : Int} (hn : j + ld.length < o.length) (ho : o.length = o0.length) (hwo : Words o) (hown : OwnW wr g o) (hc : c ≤ 1)
    (hval : lo o (j + ld.length) + 4294967296 ^ (j + ld.length) * c = lo o0 (j + ld.length) + 4294967296 ^ j * lo ld ld.length) (hlow : lo o j = lo o0 j) (hrest : ∀ i, j + ld.length ≤ i → o.getD i 0 = o0.getD i 0) (hin : W.grownBy wr (some g))
    (hx : x = o.getD (j + ld.length) 0) (hx2 : x < 4294967296) (hu : u = (((x + c) % 4294967296 : Nat) : Int)) :
    MoreOut W g o0 (wval ld) ld.length j (.returned (.tuple #[])) (wr.setCell ⟨g, j + ld.length, none⟩ (.int .u32 u)) := by
  subst hu
  refine ⟨(x + c) / 4294967296, o.set (j + ld.length) ((x + c) % 4294967296), by omega, rfl, by rw [List.length_set]; exact ho, hwo.set _ _ (by omega), hown.set _ _ hn, ?_, ?_, ?_, grown_set hin _⟩
  · rw [lo_set_succ _ _ _ hn, lo_succ o0, ← hrest _ (Nat.le_refl _), ← hx, Nat.pow_succ]
    rw [lo_all ld (Nat.le_refl _)] at hval
    have := plus_step (P := 4294967296 ^ (j + ld.length)) (a := x) (b := 0) (c := c) hval
    rw [Nat.add_zero, Nat.mul_zero] at this
    omega
  · rw [lo_set_ge _ _ _ _ (by omega)]; exact hlow
  · intro i hi
    rw [lset_ne _ _ _ _ (by omega)]
    exact hrest i (by omega)
set_option maxRecDepth 100000 in
set_option maxHeartbeats 1000000 in
theorem Bmore (o0 ld : List Nat) (g cu cd j : Nat) (Dv : Option Addr) (hwo0 : Words o0) (hwd : Words ld) (hlo : o0.length ≤ 1500000) (hj : j + ld.length < o0.length) (W w : World) (hW : Within W w) (hg : W.heap.size ≤ g) (hown0 : OwnW w g o0) (hrd : RowAt W Dv ld) :
    Calls Tryz.prog 141 #[.slice (some ⟨g, 0, none⟩) o0.length cu, .slice Dv ld.length cd, .int .i64 (j : Int)] w (MoreOut w g o0 (wval ld) ld.length j) := by
  have HWO0 := Lib.hid hwo0; have HWD := Lib.hid hwd; have HRD := Lib.hid hrd; have HW := Lib.hid hW; have HOW := Lib.hid hown0; clear hwo0 hwd hrd hW hown0
  have HG := Lib.hid hg; clear hg
  obtain ⟨n, hn⟩ : ∃ n, n = o0.length := ⟨_, rfl⟩
  have HN := Lib.hid hn
  rw [← hn] at hj hlo ⊢
  clear hn
  go_enter Tryz.func141, Tryz.ntmps141
  go_wp2
  go_loopw [6, 7] (fun cv iv wr => MoreRel w g o0 ld j cv iv wr) (fun _ iv _ => ld.length - (intOf iv).toNat)
  case atStart => exact ⟨0, 0, o0, Nat.zero_le _, by decide, rfl, rfl, rfl, HWO0.out, HOW.out, by simp [lo_zero], rfl, fun _ _ => rfl, grown_within g (Within.refl _)⟩
  case round =>
    obtain ⟨k, c, o, hk, hc, rfl, rfl, ho, hwo, hown, hval, hlow, hrest, hin⟩ := hrel
    have HV := Lib.hid hval; have HO := Lib.hid (ho.trans HN.out.symm); have HO2 := Lib.hid ho; have HWO := Lib.hid hwo; have HLO := Lib.hid hlow; have HR := Lib.hid hrest; clear hval ho hwo hlow hrest
    rcases Nat.lt_or_ge k ld.length with hlt | hlt
    · obtain ⟨gd, rfl, hgd, hcd⟩ := (HRD.out.of (Within.grown HW.out hin HG.out)).cell hlt
      obtain ⟨y, hye⟩ : ∃ y, y = ld.getD k 0 := ⟨_, rfl⟩
      have hy : y < 4294967296 := by rw [hye]; exact HWD.out.getD k
      rw [← hye] at hcd
      have HYE := Lib.hid hye; clear hye
      have hco := hown.cell (i := j + k) (by rw [HO.out]; omega)
      have hfo := hown.frozen (j + k)
      obtain ⟨x, hxe⟩ : ∃ x, x = o.getD (j + k) 0 := ⟨_, rfl⟩
      have hx : x < 4294967296 := by rw [hxe]; exact HWO.out.getD _
      rw [← hxe] at hco
      have HXE := Lib.hid hxe; clear hxe
      have HST := Lib.hid (fun (n : Nat) (u v qq : Int) => MoreRel.step (x := x) (y := y) (n := n) u v qq (by rw [HO.out]; omega) hlt hc HO2.out HWO.out hown HV.out HLO.out HR.out hin HXE.out hx HYE.out hy)
      have e1 : IntKind.u64.wrap ((x : Int) + y) = (x : Int) + y := by rw [IntKind.wrap_u64]; omega
      have e2 : IntKind.u64.wrap ((x : Int) + y + c) = (x : Int) + y + c := by rw [IntKind.wrap_u64]; omega
      have e4 : IntKind.i64.wrap ((j : Int) + k) = (j : Int) + k := IntWalk.i64_in _ (by omega)
      have e5 : ((j : Int) + k).toNat = j + k := by omega
      go_wp2
      go_quiet (fail)
      go_wp2
      go_roundw
      case rel => exact HST.out _ _ _ _ (by omega) (by omega) (by omega)
      case measure => simp [intOf]; omega
    · obtain rfl : k = ld.length := by omega
      have hco := hown.cell (i := j + ld.length) (by rw [HO.out]; omega)
      have hfo := hown.frozen (j + ld.length)
      obtain ⟨x, hxe⟩ : ∃ x, x = o.getD (j + ld.length) 0 := ⟨_, rfl⟩
      have hx : x < 4294967296 := by rw [hxe]; exact HWO.out.getD _
      rw [← hxe] at hco
      have HXE := Lib.hid hxe; clear hxe
      have HEND := Lib.hid (fun (u : Int) => MoreOut.mk' (x := x) (u := u) (by rw [HO.out]; omega) HO2.out HWO.out hown hc HV.out HLO.out HR.out hin HXE.out hx)
      have e4 : IntKind.i64.wrap ((j : Int) + ld.length) = (j : Int) + ld.length := IntWalk.i64_in _ (by omega)
      have e5 : ((j : Int) + ld.length).toNat = j + ld.length := by omega
      have e6 : IntKind.u32.wrap (c : Int) = (c : Int) := IntWalk.u32_in _ ⟨by omega, by omega⟩
      go_wp2
      go_end0
      exact HEND.out _ (by omega)
end Go.Proofs.YtifgngmebnjfkaaGreatDoor
end

section
namespace Go.Proofs.YtifgngmebnjfkaaGreatDoor
open Go.RowKit
def RetO (W : World) (n L : Nat) (e : Ending) (w' : World) : Prop := ∃ g o, e = .returned (.slice (some ⟨g, 0, none⟩) (dg n).length L) ∧ OwnW w' g o ∧ o.length = L ∧ Words o ∧ wval o = n ∧ W.heap.size ≤ g ∧ Within W w'
set_option maxRecDepth 100000 in
set_option maxHeartbeats 600000 in
theorem Bleft_own (la : List Nat) (A : Option Addr) (ca n W0 S0 : Nat) (hwa : Words la) (hla : la.length ≤ 500000) (h0 : 0 < la.length) (hn : n = 32 * W0 + S0) (hS : S0 < 32) (hW : W0 ≤ 500000) (w : World) (hra : RowAt w A la) :
    Calls Tryz.prog 102 #[.slice A la.length ca, .int .u64 (n : Int)] w (RetO w (wval la * 2 ^ n) (W0 + la.length + 1)) := by
  have hmk := run_make_row' (P := Tryz.prog) 89 22 (.int .u32 0) 4 (by kernel_rfl) Tryz.infoU32 rfl .i64 .i64 (W0 + la.length + 1) (by omega) (by omega)
  rw [show ((W0 + la.length + 1 : Nat) : Int) = (W0 : Int) + (la.length : Int) + 1 by omega] at hmk
  have HWA := Lib.hid hwa; have HRA := Lib.hid hra; clear hwa hra
  have hq : (n : Int) / 32 = (W0 : Int) := by omega
  have hr : (n : Int) % 32 = (S0 : Int) := by omega
  have d0 : ((la.length : Int) == 0) = false := beq_eq_false_iff_ne.2 (by omega)
  have HN := Lib.hid hn; clear hn
  have HM := OwnW.made w (W0 + la.length + 1)
  go_enter Tryz.func102, Tryz.ntmps102
  go_wp2
  go_loopw [8] (fun iv wr => LeftRel w w.heap.size la W0 S0 iv wr) (fun iv _ => la.length - (intOf iv).toNat)
  case atStart => exact ⟨0, _, Nat.zero_le _, rfl, by simp, Words.zeros _, HM, by
    rw [lo_zero, lo]
    rw [show (List.replicate (W0 + la.length + 1) 0).take (W0 + 0 + 1) = List.replicate (W0 + 0 + 1) 0 by rw [List.take_replicate]; congr 1; omega, wval_zeros]; simp, by
    rw [repl_getD]; exact Nat.two_pow_pos _, fun j _ => repl_getD _ _, (Within.refl w).alloc _⟩
  case round =>
    obtain ⟨k, o, hk, rfl, ho, hwo, hown, hval, hlow, hzero, hin⟩ := hrel
    have HV := Lib.hid hval; have HO := Lib.hid ho; have HWO := Lib.hid hwo; have HZ := Lib.hid hzero; clear hval ho hwo hzero
    rcases Nat.lt_or_ge k la.length with hlt | hlt
    · obtain ⟨ga, rfl, hga, hca⟩ := (HRA.out.of hin).cell hlt
      obtain ⟨x, hxe⟩ : ∃ x, x = la.getD k 0 := ⟨_, rfl⟩
      have hx : x < 4294967296 := by rw [hxe]; exact HWA.out.getD k
      rw [← hxe] at hca
      have HXE := Lib.hid hxe; clear hxe
      obtain ⟨z, hze⟩ : ∃ z, z = o.getD (W0 + k) 0 := ⟨_, rfl⟩
      have hco := hown.cell (i := W0 + k) (by rw [HO.out]; omega)
      have hfo := hown.frozen (W0 + k)
      have hco1 := hown.cell (i := W0 + k + 1) (by rw [HO.out]; omega)
      have hfo1 := hown.frozen (W0 + k + 1)
      rw [← hze] at hco hlow
      have HZE := Lib.hid hze; clear hze
      have gsh : IntKind.u64.wrap ((x : Int) * 2 ^ S0) = ((x * 2 ^ S0 : Nat) : Int) := by
        have e : (x : Int) * 2 ^ S0 = ((x * 2 ^ S0 : Nat) : Int) := by simp
        have := left_high (m := x) (s := S0) hx
        have h32 : 2 ^ S0 ≤ 4294967296 := by rw [show (4294967296 : Nat) = 2 ^ 32 from rfl]; exact Nat.pow_le_pow_right (by decide) (by omega)
        rw [e, IntKind.wrap_u64]; omega
      have gor := low_or (x := x) hS hlow
      have hH : x * 2 ^ S0 / 4294967296 < 4294967296 := by
        have := left_high (m := x) (s := S0) hx
        have h32 : 2 ^ S0 ≤ 4294967296 := by rw [show (4294967296 : Nat) = 2 ^ 32 from rfl]; exact Nat.pow_le_pow_right (by decide) (by omega)
        omega
      have hstep := fun (u v q : Int) => LeftRel.step (S0 := S0) (x := x) (z := z) u v q hlt hS HO.out HWO.out hown HV.out hlow HZ.out hin HXE.out HZE.out hx (Nat.le_refl _)
      have HST := Lib.hid hstep; clear hstep
      obtain ⟨t, ht⟩ : ∃ t, t = x * 2 ^ S0 := ⟨_, rfl⟩
      rw [← ht] at gsh gor hH
      rw [Int.natCast_emod] at gor
      have HT := Lib.hid ht; clear ht
      have g3 : (t : Int) / 4294967296 % 4294967296 = ((t / 4294967296 : Nat) : Int) := by omega
      go_wp2
      go_roundw
      case rel => exact HST.out _ _ _ (by rw [← HT.out]; first | rfl | exact gor) (by rw [← HT.out]; first | rfl | exact g3) (by omega)
      case measure => simp [intOf]; omega
    · obtain rfl : k = la.length := by omega
      have CT := Lib.hid (Bcut o (some ⟨w.heap.size, 0, none⟩) (W0 + la.length + 1) HWO.out (by rw [HO.out]; exact Nat.le_refl _) (by rw [HO.out]; omega) _ hown.at)
      rw [HO.out] at CT
      go_wp2_with fail
      refine (CT.out).mono ?_; rintro e1 w1 ⟨rfl, rfl⟩
      go_wp2
      go_ret
      have hvv : wval o = wval la * 2 ^ n := by
        rw [← lo_all o (Nat.le_of_eq HO.out), HV.out, lo_all _ (Nat.le_refl _), HN.out, Nat.mul_assoc, show (4294967296 : Nat) = 2 ^ 32 from rfl, ← Nat.pow_mul, ← Nat.pow_add, Nat.add_comm S0]
      rw [← hvv]
      exact ⟨_, o, rfl, hown, HO.out, HWO.out, rfl, Nat.le_refl _, hin⟩
end Go.Proofs.YtifgngmebnjfkaaGreatDoor
end

section
namespace Go.Proofs.YtifgngmebnjfkaaGreatDoor
open Go.RowKit
theorem wpList_apw {P : Program} {w : World} {ops : Array Oper} {rest : List Oper} {o : Oper} {a : Act} {Q : Exit → Act → World → Prop} (hgd : o.guard = none) (s x : Operand) (t : TypeId)
    (ho : o.op = .call { callee := .builtin .append, args := #[s, x], argTypes := #[t, t] }) (vs vx : Value) (hs : a.eval s = vs) (hx : a.eval x = vx) {v' : Value} {w' : World}
    (hrun : (Builtin.append_ #[t, t] o.type #[vs, vx]).run P w = .ok v' w') (h : wpList P ops Q rest (a.put o.dst v') w') : wpList P ops Q (o :: rest) a w :=
  wpList_plain hgd fun K hK => by
    unfold Oper.wp execOp
    simp only [ho, resolve, invoke, builtin, Sem.run_bind, Sem.run_pure, Result.andThen_ok, List.map_toArray, List.map_cons, List.map_nil, hs, hx, hrun]
    exact hK _ _ h
def RetQ (W : World) (n r : Nat) (e : Ending) (w' : World) : Prop := ∃ A c Bv c', e = .returned (.tuple #[.slice A (dg n).length c, .slice Bv (dg r).length c']) ∧ (dg n).length ≤ c ∧ (dg r).length ≤ c' ∧ RowAt w' A (dg n) ∧ RowAt w' Bv (dg r) ∧ Within W w'
theorem cmpN_ge {a b : Nat} (h : b ≤ a) : 0 ≤ cmpN a b := by unfold cmpN; rw [if_neg (by omega)]; split <;> omega
theorem one_at (w : World) (x : Nat) (C : Array Value) (hC : C = #[.int .u32 (x : Int)]) : RowAt (w.alloc (.cells C 22)) (some ⟨w.heap.size, 0, none⟩) [x] := by
  subst hC
  intro _
  have h := World.rowIs_alloc w #[.int .u32 (x : Int)] 22 (fun i => .int .u32 (([x].getD i 0 : Nat) : Int)) (by
    intro i hi
    have : i = 0 := by simp at hi; omega
    subst this; rfl)
  exact ⟨_, _, _, rfl, Nat.le_refl _, h, fun i _ => rfl⟩
set_option maxRecDepth 100000 in
set_option maxHeartbeats 2000000 in
theorem Bover_lt (a b : Nat) (A Bv : Option Addr) (ca cb : Nat) (ha : (dg a).length ≤ 400000) (hb : (dg b).length ≤ 400000) (h : a < b) (w : World) (hra : RowAt w A (dg a)) (hrb : RowAt w Bv (dg b)) :
    Calls Tryz.prog 132 #[.slice A (dg a).length ca, .slice Bv (dg b).length cb] w (RetQ w 0 a) := by
  have CMP := Lib.hid (Bcompare a b A Bv ca cb (by omega) (by omega) w hra hrb)
  rw [cmpN_lt h] at CMP
  have HRA := Lib.hid hra; clear hra hrb h hb
  go_enter Tryz.func132, Tryz.ntmps132
  go_wp2_with fail
  refine (CMP.out).mono ?_; rintro e1 w1 ⟨rfl, hb1⟩
  obtain ⟨A', c', w2, hrun, hc2, hr2, hb2⟩ := run_copy A (dg a) ca (HRA.out.of hb1) (by omega)
  have RUN := Lib.hid hrun; have HC := Lib.hid (And.intro hc2 hr2); clear hrun hc2 hr2
  go_wp2_with (at_builtin; refine wpList_apw rfl (.const (.slice none 0 0)) (.tmp 22) 89 rfl _ _ rfl rfl RUN.out ?_)
  go_ret2
  exact ⟨none, 0, A', c', by rw [dg_zero]; rfl, by rw [dg_zero]; exact Nat.le_refl _, HC.out.1, by rw [dg_zero]; exact RowAt.nil, HC.out.2, hb1.trans hb2⟩
set_option maxRecDepth 100000 in
set_option maxHeartbeats 2000000 in
theorem Bover_one (a b : Nat) (A Bv : Option Addr) (ca cb : Nat) (ha : (dg a).length ≤ 400000) (hb0 : 0 < b) (hb : b < 4294967296) (h : b ≤ a) (w : World) (hra : RowAt w A (dg a)) (hrb : RowAt w Bv (dg b)) :
    Calls Tryz.prog 132 #[.slice A (dg a).length ca, .slice Bv (dg b).length cb] w (RetQ w (a / b) (a % b)) := by
  have hd : dg b = [b] := by rw [dg_pos (by omega), Nat.mod_eq_of_lt hb, Nat.div_eq_of_lt hb, dg_zero]
  have CMP := Lib.hid (Bcompare a b A Bv ca cb (by omega) (by rw [hd]; simp) w hra hrb)
  have hcm := cmpN_ge h
  have SH := Lib.hid (fun w' hr => Bshort a b A ca (by omega) hb0 hb w' hr)
  obtain ⟨r, hr⟩ : ∃ r, r = a % b := ⟨_, rfl⟩
  have hrl : r < b := by rw [hr]; exact Nat.mod_lt _ hb0
  rw [← hr] at SH ⊢
  have hww : Words [r] := by intro x hx; simp at hx; omega
  have CT := Lib.hid (fun w' v hr => Bcut [r] v 1 hww (Nat.le_refl _) (by simp) w' hr)
  have HWW := Lib.hid hww; clear hr hww
  obtain ⟨gb, rfl, hgb, hcb⟩ := hrb.cell (i := 0) (by rw [hd]; simp)
  rw [hd, show ([b] : List Nat).getD 0 0 = b from rfl] at hcb
  rw [hd] at CMP ⊢
  have d1 : (((List.length [b] : Nat) : Int) == 1) = true := rfl
  have wl : wval [r] = r := by simp [wval]
  rw [wl] at CT
  have HWL := Lib.hid wl; clear wl
  obtain ⟨cm, hce⟩ : ∃ cm, cm = cmpN a b := ⟨_, rfl⟩
  rw [← hce] at CMP hcm
  clear hce
  have d0 : decide (cm < 0) = false := decide_eq_false (by omega)
  have HRA := Lib.hid hra; clear hra hrb hd h
  go_enter Tryz.func132, Tryz.ntmps132
  go_wp2_with fail
  refine (CMP.out).mono ?_; rintro e1 w1 ⟨rfl, hb1⟩
  have hcb1 := (hb1.cells _ _ hgb).trans hcb
  go_wp2_with fail
  refine (SH.out _ (HRA.out.of hb1)).mono ?_; rintro e2 w2 ⟨A2, c2, rfl, hc2, hr2, hb2⟩
  go_wp2_with fail
  refine (CT.out _ _ (one_at w2 r _ (by simp))).mono ?_; rintro e3 w3 ⟨rfl, rfl⟩
  go_wp2
  go_ret2
  have hin := (Within.refl w2).alloc (.cells #[.int .u32 (r : Int)] 22)
  have hcut := (one_at w2 r _ rfl).cut HWW.out
  rw [HWL.out] at hcut
  exact ⟨_, _, _, _, rfl, hc2, Nat.le_trans (dg_len_le (k := 1) (by omega)) (by decide), hr2.of hin, hcut, (hb1.trans hb2).trans hin⟩
end Go.Proofs.YtifgngmebnjfkaaGreatDoor
end

section
namespace Go.Proofs.YtifgngmebnjfkaaGreatDoor
open Go.RowKit
theorem bits_lz32 (x : Nat) (hx : x < 4294967296) (w : World) : Calls Tryz.prog 139 #[.int .u32 (x : Int)] w (fun e w' => e = .returned (.int .i64 (32 - (Lib.bitLen x : Int))) ∧ w = w') := by
  have LN := Lib.hid (fun w => bits_len32 x hx w)
  have hL : Lib.bitLen x ≤ 32 := by
    by_cases h : x = 0
    · subst h; decide
    · rw [bitLen_log2 _ h (by omega)]
      have := (Nat.log2_lt h (k := 32)).2 hx
      omega
  generalize Lib.bitLen x = L at *
  have e : IntKind.i64.wrap (32 - (L : Int)) = 32 - (L : Int) := IntWalk.i64_in _ (by omega)
  clear hx
  go_enter Tryz.func139, Tryz.ntmps139
  go_wp2_with fail
  refine (LN.out _).mono ?_; rintro e1 w1 ⟨rfl, rfl⟩
  go_wp2
  go_ret
  exact ⟨rfl, rfl⟩
theorem norm_len {b k s : Nat} (hk : (dg b).length = k + 1) (hs : s = 32 - Lib.bitLen ((dg b).getD k 0)) : s < 32 ∧ (dg (b * 2 ^ s)).length = k + 1 ∧ 2147483648 ≤ (dg (b * 2 ^ s)).getD k 0 := by
  obtain ⟨h1, h2, h3⟩ := blen_top hk
  have hb0 : b ≠ 0 := fun h => by rw [h, dg_zero] at hk; simp at hk
  have hL := bitLen_log2 _ h2 (by omega)
  have hl := (Nat.log2_lt h2 (k := 32)).2 h3
  rw [blen_pos hb0] at h1
  have hlog : (b * 2 ^ s).log2 = 32 * k + 31 := by rw [Fp.log2_mul_pow _ _ hb0]; omega
  have hD0 : b * 2 ^ s ≠ 0 := Nat.mul_ne_zero hb0 (Nat.ne_of_gt (Nat.two_pow_pos s))
  have l1 := Nat.log2_self_le hD0
  have l2 := Nat.lt_log2_self (n := b * 2 ^ s)
  rw [hlog] at l1 l2
  have e1 : (4294967296 : Nat) ^ k * 2147483648 = 2 ^ (32 * k + 31) := by rw [show (4294967296 : Nat) = 2 ^ 32 from rfl, ← Nat.pow_mul, Nat.pow_add]
  have e2 : (4294967296 : Nat) ^ (k + 1) = 2 ^ (32 * k + 31 + 1) := by rw [show (4294967296 : Nat) = 2 ^ 32 from rfl, ← Nat.pow_mul]; congr 1
  rw [← e1] at l1
  rw [← e2] at l2
  generalize b * 2 ^ s = D at *
  have a1 := dg_len_le l2
  have a2 : k < (dg D).length := by
    rcases Nat.lt_or_ge k (dg D).length with h | h
    · exact h
    · have := lt_of_dg D
      have := Nat.pow_le_pow_right (n := 4294967296) (by decide) h
      omega
  have a3 : (dg D).length = k + 1 := by omega
  refine ⟨by omega, a3, ?_⟩
  have q1 := lo_succ (dg D) k
  rw [lo_all _ (by omega), wval_dg] at q1
  have q2 := lo_lt (dg D) (words_dg D) k
  rcases Nat.lt_or_ge ((dg D).getD k 0) 2147483648 with h | h
  · exfalso
    have := Nat.mul_le_mul_left (4294967296 ^ k) (show (dg D).getD k 0 + 1 ≤ 2147483648 from h)
    rw [Nat.mul_add, Nat.mul_one] at this
    omega
  · exact h
theorem top_zero {o : List Nat} {n k : Nat} (_hw : Words o) (hv : wval o = n) (hk : (dg n).length ≤ k) : o.getD k 0 = 0 := by
  have h1 := lt_of_dg n
  have h2 : 4294967296 ^ (dg n).length ≤ 4294967296 ^ k := Nat.pow_le_pow_right (by decide) hk
  have h3 := wval_split o (k + 1)
  rw [lo_succ, hv] at h3
  rcases Nat.eq_zero_or_pos (o.getD k 0) with h | h
  · exact h
  · exfalso
    have := Nat.le_mul_of_pos_right (4294967296 ^ k) h
    omega
theorem three_words (o : List Nat) (hw : Words o) (m : Nat) : ((o.getD (m + 2) 0 * 4294967296 + o.getD (m + 1) 0) * 4294967296 + o.getD m 0) * 4294967296 ^ m ≤ lo o (m + 3) ∧ lo o (m + 3) < ((o.getD (m + 2) 0 * 4294967296 + o.getD (m + 1) 0) * 4294967296 + o.getD m 0 + 1) * 4294967296 ^ m := by
  have h := lo_lt o hw m
  have p1 : 4294967296 ^ (m + 1) = 4294967296 ^ m * 4294967296 := Nat.pow_succ _ _
  have p2 : 4294967296 ^ (m + 2) = 4294967296 ^ m * 4294967296 * 4294967296 := by rw [Nat.pow_succ, Nat.pow_succ]
  rw [lo_succ o (m + 2), lo_succ o (m + 1), lo_succ o m, p2, p1]
  generalize o.getD (m + 2) 0 = x
  generalize o.getD (m + 1) 0 = y
  generalize o.getD m 0 = z
  generalize 4294967296 ^ m = P at *
  have e : ((x * 4294967296 + y) * 4294967296 + z) * P = P * z + P * 4294967296 * y + P * 4294967296 * 4294967296 * x := by
    rw [Nat.add_mul, Nat.add_mul, Nat.add_mul]
    rw [Nat.mul_comm z, show x * 4294967296 * 4294967296 * P = P * 4294967296 * 4294967296 * x by ac_rfl, show y * 4294967296 * P = P * 4294967296 * y by ac_rfl]
    omega
  rw [Nat.add_mul _ 1, Nat.one_mul, e]
  omega
theorem two_words (o : List Nat) (hw : Words o) (m : Nat) : (o.getD (m + 1) 0 * 4294967296 + o.getD m 0) * 4294967296 ^ m ≤ lo o (m + 2) ∧ lo o (m + 2) < (o.getD (m + 1) 0 * 4294967296 + o.getD m 0 + 1) * 4294967296 ^ m := by
  have h := lo_lt o hw m
  have p1 : 4294967296 ^ (m + 1) = 4294967296 ^ m * 4294967296 := Nat.pow_succ _ _
  rw [lo_succ o (m + 1), lo_succ o m, p1]
  generalize o.getD (m + 1) 0 = y
  generalize o.getD m 0 = z
  generalize 4294967296 ^ m = P at *
  have e : (y * 4294967296 + z) * P = P * z + P * 4294967296 * y := by
    rw [Nat.add_mul, Nat.mul_comm z, show y * 4294967296 * P = P * 4294967296 * y by ac_rfl]
    omega
  rw [Nat.add_mul _ 1, Nat.one_mul, e]
  omega
def KnS (o ld : List Nat) (j n Q S D' P : Nat) : Prop :=
  Q = S / D' ∧ Q * (ld.getD (n + 1) 0 * 4294967296 + ld.getD n 0) ≤ (o.getD (j + n + 2) 0 * 4294967296 + o.getD (j + n + 1) 0) * 4294967296 + o.getD (j + n) 0 ∧
  o.getD (j + n + 2) 0 * 4294967296 + o.getD (j + n + 1) 0 < ld.getD (n + 1) 0 * 4294967296 + 4294967296 ∧ Q < 4294967296 ∧
  (ld.getD (n + 1) 0 * 4294967296 + ld.getD n 0) * P ≤ D' ∧ D' ≤ (ld.getD (n + 1) 0 * 4294967296 + ld.getD n 0 + 1) * P ∧
  ((o.getD (j + n + 2) 0 * 4294967296 + o.getD (j + n + 1) 0) * 4294967296 + o.getD (j + n) 0) * P ≤ S ∧ 0 < P ∧ 0 < D' ∧ S < 4294967296 ^ (j + n + 2 + 1) ∧ D' ≤ 4294967296 ^ (j + n + 2)
theorem kn_hT {T u2 top d2 P S D' : Nat} (a1 : (T * 4294967296 + u2) * P ≤ S) (h : S < 4294967296 * D') (c2 : D' ≤ (top * 4294967296 + d2 + 1) * P) (hd : d2 < 4294967296) : T < top * 4294967296 + 4294967296 := by
  have k1 : (T * 4294967296 + u2) * P < (4294967296 * (top * 4294967296 + d2 + 1)) * P := by
    rw [Nat.mul_assoc]
    exact Nat.lt_of_le_of_lt a1 (Nat.lt_of_lt_of_le h (Nat.mul_le_mul_left _ c2))
  have k2 := Nat.lt_of_mul_lt_mul_right k1
  omega
theorem kn_state {o ld : List Nat} {j n : Nat} (hwo : Words o) (hwd : Words ld) (hl : ld.length = n + 2) (htop : 2147483648 ≤ ld.getD (n + 1) 0) (hlt : lo o (j + n + 3) < wval ld * 4294967296 ^ (j + 1)) :
    KnS o ld j n (lo o (j + n + 3) / (4294967296 ^ j * wval ld)) (lo o (j + n + 3)) (4294967296 ^ j * wval ld) (4294967296 ^ (j + n)) := by
  obtain ⟨a1, a2⟩ := three_words o hwo (j + n)
  obtain ⟨b1, b2⟩ := two_words ld hwd n
  rw [lo_all ld (by omega)] at b1 b2
  have hd2 := hwd.getD n
  have hu2 := hwo.getD (j + n)
  have hlen := wval_lt ld hwd
  rw [hl] at hlen
  have hS := lo_lt o hwo (j + n + 3)
  have eP : 4294967296 ^ (j + n) = 4294967296 ^ j * 4294967296 ^ n := Nat.pow_add _ _ _
  have hj : 0 < 4294967296 ^ j := Nat.pow_pos (by decide)
  have hn : 0 < 4294967296 ^ n := Nat.pow_pos (by decide)
  have c1 : (ld.getD (n + 1) 0 * 4294967296 + ld.getD n 0) * 4294967296 ^ (j + n) ≤ 4294967296 ^ j * wval ld := by
    rw [eP, Nat.mul_left_comm]; exact Nat.mul_le_mul_left _ b1
  have c2 : 4294967296 ^ j * wval ld ≤ (ld.getD (n + 1) 0 * 4294967296 + ld.getD n 0 + 1) * 4294967296 ^ (j + n) := by
    rw [eP, Nat.mul_left_comm]; exact Nat.mul_le_mul_left _ (Nat.le_of_lt b2)
  have hlt2 : lo o (j + n + 3) < 4294967296 * (4294967296 ^ j * wval ld) := by
    rw [Nat.pow_succ] at hlt
    rw [show 4294967296 * (4294967296 ^ j * wval ld) = wval ld * (4294967296 ^ j * 4294967296) by ac_rfl]
    exact hlt
  have hP : 0 < 4294967296 ^ (j + n) := Nat.pow_pos (by decide)
  have hD0 : 0 < 4294967296 ^ j * wval ld := Nat.lt_of_lt_of_le (Nat.mul_pos (by omega) hP) c1
  have hQ := Nat.div_mul_le_self (lo o (j + n + 3)) (4294967296 ^ j * wval ld)
  have hQl := (Nat.div_lt_iff_lt_mul hD0).2 hlt2
  have hDl : 4294967296 ^ j * wval ld ≤ 4294967296 ^ (j + n + 2) := by
    rw [Nat.add_assoc, Nat.pow_add]; exact Nat.mul_le_mul_left _ (Nat.le_of_lt hlen)
  have hT := kn_hT a1 hlt2 c2 hd2
  exact ⟨rfl, kn_le c1 a2 hQ, hT, hQl, c1, c2, a1, hP, hD0, hS, hDl⟩
def KnRel (W : World) (g gq : Nat) (o oq : List Nat) (top t Q : Nat) (gv rv : Value) (wr : World) : Prop :=
  ∃ (q r : Nat), gv = .int .u64 (q : Int) ∧ rv = .int .u64 (r : Int) ∧ KnG top t Q q r ∧ r < 4294967296 ∧ OwnW wr g o ∧ OwnW wr gq oq ∧ Within W wr
def OvRel (W : World) (g gq : Nat) (L M n D U : Nat) (jv : Value) (wr : World) : Prop :=
  ∃ (k : Nat) (o oq : List Nat), k ≤ M ∧ jv = .int .i64 ((k : Int) - 1) ∧ o.length = L ∧ Words o ∧ OwnW wr g o ∧ oq.length = M ∧ Words oq ∧ OwnW wr gq oq ∧ (∀ j, j < k → oq.getD j 0 = 0) ∧
    (∀ i, k + n ≤ i → o.getD i 0 = 0) ∧ lo o (k + n) < D * 4294967296 ^ k ∧ U = wval oq * D + lo o (k + n) ∧ Within W wr
theorem ov_step {o oq o2 : List Nat} {k n D U Q : Nat} (hwo2 : Words o2) (hD : 0 < D) (hDn : D ≤ 4294967296 ^ n) (hk : k < oq.length) (hz : ∀ j, j < k + 1 → oq.getD j 0 = 0) (hzo : ∀ i, k + 1 + n ≤ i → o.getD i 0 = 0)
    (hU : U = wval oq * D + lo o (k + 1 + n)) (hQ : Q = lo o (k + n + 1) / (4294967296 ^ k * D)) (hL : lo o2 (k + n + 1) = lo o (k + n + 1) % (4294967296 ^ k * D)) (hr : ∀ i, k + n < i → o2.getD i 0 = o.getD i 0) :
    (∀ i, k + n ≤ i → o2.getD i 0 = 0) ∧ lo o2 (k + n) < D * 4294967296 ^ k ∧ U = wval (oq.set k Q) * D + lo o2 (k + n) ∧ (∀ j, j < k → (oq.set k Q).getD j 0 = 0) := by
  have hDk : 0 < 4294967296 ^ k * D := Nat.mul_pos (Nat.pow_pos (by decide)) hD
  have hm := Nat.mod_lt (lo o (k + n + 1)) hDk
  rw [← hL] at hm
  have hs := lo_succ o2 (k + n)
  have h0 : o2.getD (k + n) 0 = 0 := by
    rcases Nat.eq_zero_or_pos (o2.getD (k + n) 0) with h | h
    · exact h
    · exfalso
      have a1 : 4294967296 ^ k * D ≤ 4294967296 ^ (k + n) := by rw [Nat.pow_add]; exact Nat.mul_le_mul_left _ hDn
      have := Nat.le_mul_of_pos_right (4294967296 ^ (k + n)) h
      omega
  replace hs : lo o2 (k + n + 1) = lo o2 (k + n) := by rw [hs, h0, Nat.mul_zero]; rfl
  refine ⟨?_, by rw [← hs, Nat.mul_comm]; exact hm, ?_, ?_⟩
  · intro i hi
    rcases Nat.eq_or_lt_of_le hi with h | h
    · subst h; exact h0
    · rw [hr i h]; exact hzo i (by omega)
  · have hw := wval_set oq k Q hk
    rw [hz k (by omega), Nat.mul_zero, Nat.add_zero] at hw
    have hd := Nat.div_add_mod (lo o (k + n + 1)) (4294967296 ^ k * D)
    rw [← hQ, ← hL, hs] at hd
    rw [hU, hw, Nat.add_mul, show k + 1 + n = k + n + 1 by omega, ← hd, show 4294967296 ^ k * Q * D = 4294967296 ^ k * D * Q by ac_rfl]
    omega
  · intro j hj
    rw [lset_ne _ _ _ _ (by omega)]
    exact hz j (by omega)
def LuRel (W : World) (g L U : Nat) (uv : Value) (wr : World) : Prop := ∃ k o, k ≤ L ∧ (dg U).length ≤ k ∧ uv = .slice (some ⟨g, 0, none⟩) k L ∧ OwnW wr g o ∧ o.length = L ∧ Words o ∧ wval o = U ∧ Within W wr
theorem app_zero {wr : World} {g k L : Nat} {o : List Nat} (hown : OwnW wr g o) (ho : o.length = L) (hk : k < L) : (Builtin.append_ #[89, 89] 89 #[.slice (some ⟨g, 0, none⟩) k L, .slice (some ⟨wr.heap.size, 0, none⟩) 1 1]).run Tryz.prog (wr.alloc (.cells #[.int .u32 0] 22)) = .ok (.slice (some ⟨g, 0, none⟩) (k + 1) L) ((wr.alloc (.cells #[.int .u32 0] 22)).setCell ⟨g, k, none⟩ (.int .u32 0)) := by
  obtain ⟨i0, hi0, hz0, hz1, hz2⟩ := info_parts Tryz.infoW
  have hU : Tryz.prog.underlying 89 = some (.slice 22) := by kernel_rfl
  have hoa := hown.alloc (.cells #[.int .u32 0] 22)
  have h := run_append_room_cells (P := Tryz.prog) (wr.alloc (.cells #[.int .u32 0] 22)) 89 89 22 i0 hU hi0 g 0 k L ⟨wr.heap.size, 0, none⟩ 1 1 [.int .u32 0] (by rw [hz1]; rfl)
    (by intro j u hj
        rcases j with _ | j
        · simp at hj; subst hj; rw [add_zero_off]; simp
        · simp at hj) (by intro u hu; simp at hu; subst hu; rfl) (by omega)
    (by intro j hj
        have : j = 0 := by simp at hj; omega
        subst this
        rw [hz1, show 0 + k * 1 + 0 = k by omega, hoa.cell (i := k) (by omega)]; rfl)
    (by intro j hj
        have : j = 0 := by simp at hj; omega
        subst this
        rw [hz1, show 0 + k * 1 + 0 = k by omega]; exact hoa.frozen k)
  rw [hz1, show 0 + k * 1 = k by omega] at h
  exact h
set_option maxRecDepth 100000 in
set_option maxHeartbeats 4000000 in
theorem Bover_main (a b n : Nat) (A Bv : Option Addr) (ca cb : Nat) (ha : (dg a).length ≤ 400000) (hb : (dg b).length = n + 2) (h : b ≤ a) (w : World) (hra : RowAt w A (dg a)) (hrb : RowAt w Bv (dg b)) :
    Calls Tryz.prog 132 #[.slice A (dg a).length ca, .slice Bv (dg b).length cb] w (RetQ w (a / b) (a % b)) := by
  have hlb : (dg b).length ≤ (dg a).length := dg_len_mono h
  have CMP := Lib.hid (Bcompare a b A Bv ca cb (by omega) (by omega) w hra hrb)
  have hcm := cmpN_ge h
  obtain ⟨cm, hce⟩ : ∃ cm, cm = cmpN a b := ⟨_, rfl⟩
  rw [← hce] at CMP hcm
  clear hce
  have d0 : decide (cm < 0) = false := decide_eq_false (by omega)
  obtain ⟨s, hs⟩ : ∃ s, s = 32 - Lib.bitLen ((dg b).getD (n + 1) 0) := ⟨_, rfl⟩
  obtain ⟨hs1, hDl0, htop⟩ := norm_len hb hs
  have hDl : (dg (b * 2 ^ s)).length = n + 2 := hDl0
  clear hDl0
  obtain ⟨gb, rfl, hgb, hcb⟩ := hrb.cell (i := n + 1) (by omega)
  have tl := (words_dg b).getD (n + 1)
  obtain ⟨bt, hbt⟩ : ∃ bt, bt = (dg b).getD (n + 1) 0 := ⟨_, rfl⟩
  rw [← hbt] at hcb hs tl
  clear hbt
  have hbl : Lib.bitLen bt ≤ 32 ∧ (32 : Int) - (Lib.bitLen bt : Int) = (s : Int) := by
    have : Lib.bitLen bt ≤ 32 := by
      by_cases h : bt = 0
      · subst h; decide
      · rw [bitLen_log2 _ h (by omega)]
        have := (Nat.log2_lt h (k := 32)).2 tl
        omega
    omega
  have LZ := Lib.hid (fun w' => bits_lz32 bt tl w')
  rw [hbl.2] at LZ
  have ws : IntKind.u64.wrap (s : Int) = (s : Int) := IntWalk.u64_in _ ⟨by omega, by omega⟩
  have LB := Lib.hid (fun w' hr => Bleft b (some ⟨gb, 0, none⟩) cb s (by omega) (by omega) w' hr)
  have LA := Lib.hid (fun w' hr => Bleft_own (dg a) A ca s 0 s (words_dg a) (by omega) (by omega) (by omega) hs1 (by omega) w' hr)
  rw [wval_dg] at LA
  have h0 : 0 < b := by
    rcases Nat.eq_zero_or_pos b with h0 | h0
    · rw [h0, dg_zero] at hb; simp at hb
    · exact h0
  obtain ⟨D, hD⟩ : ∃ D, D = b * 2 ^ s := ⟨_, rfl⟩
  obtain ⟨U, hU⟩ : ∃ U, U = a * 2 ^ s := ⟨_, rfl⟩
  have hp := Nat.two_pow_pos s
  have HDIV := Lib.hid (show a / b = U / D ∧ a % b = U % D / 2 ^ s by rw [hU, hD, Nat.mul_div_mul_right _ _ hp, Nat.mul_mod_mul_right, Nat.mul_div_cancel _ hp]; exact ⟨rfl, rfl⟩)
  have HD0 := Lib.hid (show 0 < D by rw [hD]; exact Nat.mul_pos h0 hp)
  have hUD : U < D * 4294967296 ^ ((dg a).length + 1 - (n + 2)) := by
    have e1 := lt_of_dg a
    have e2 : 4294967296 ^ (n + 1) ≤ b := by have := le_of_dg (n := b) (by omega); rwa [hb] at this
    rw [hU, hD, Nat.mul_right_comm]
    refine Nat.mul_lt_mul_of_pos_right (Nat.lt_of_lt_of_le e1 ?_) hp
    refine Nat.le_trans ?_ (Nat.mul_le_mul_right _ e2)
    rw [← Nat.pow_add]
    exact Nat.pow_le_pow_right (by decide) (by omega)
  have HUD := Lib.hid hUD
  rw [← hD] at LB hDl htop; rw [← hU] at LA
  clear hU hD hUD
  have HDN := Lib.hid (show D ≤ 4294967296 ^ (n + 2) by have := lt_of_dg D; rw [hDl] at this; exact Nat.le_of_lt this)
  have HTOP := Lib.hid htop; have HDL := Lib.hid hDl
  have HRA := Lib.hid hra; have HRB := Lib.hid hrb
  obtain ⟨la, hla⟩ : ∃ la, la = (dg a).length := ⟨_, rfl⟩
  rw [← hla] at CMP LA HUD ha hlb
  obtain ⟨nn, hnn⟩ : ∃ nn, nn = n + 2 := ⟨_, rfl⟩
  obtain ⟨n1, hn1⟩ : ∃ n1, n1 = n + 1 := ⟨_, rfl⟩
  rw [hb, ← hnn] at CMP LB
  rw [hb] at hlb
  rw [Nat.zero_add] at LA
  obtain ⟨L, hL⟩ : ∃ L, L = la + 1 := ⟨_, rfl⟩
  rw [← hL] at LA
  rw [← hn1] at hcb
  have hend : (RetQ w (a / b) (a % b)) = (RetQ w (U / D) (U % D / 2 ^ s)) := by rw [HDIV.out.1, HDIV.out.2]
  rw [hend, ← hla, hb, ← hnn]
  have RG := Lib.hid (fun (m : Nat) (hm : (dg m).length ≤ 1500000) (Am : Option Addr) (cm' : Nat) (w' : World) hr => Bright m Am cm' s hm (by omega) w' hr)
  clear hend hla hb h htop hDl hra hrb hs HDIV h0 hbl tl
  have HDL2 := Lib.hid (HDL.out.trans hnn.symm)
  have d1 : ((nn : Int) == 1) = false := beq_eq_false_iff_ne.2 (by omega)
  have f1 : (nn : Int) - 1 = (n1 : Int) := by omega
  have f2 : (nn : Int) - 2 = (n : Int) := by omega
  obtain ⟨M, hM⟩ : ∃ M, L = M + nn := ⟨L - nn, by omega⟩
  have hgt : (L : Int) - (nn : Int) = (M : Int) := by omega
  have hLi : (la : Int) + 1 = (L : Int) := by omega
  have hl4 : L ≤ 400001 := by omega
  have h2n : 2 ≤ nn := by omega
  have hUM : U < D * 4294967296 ^ M := by rw [show M = la + 1 - (n + 2) by omega]; exact HUD.out
  have HUM := Lib.hid hUM
  have HH := Lib.hid (And.intro (And.intro hnn hn1) (And.intro hL hM))
  clear hnn hn1 hL hM hUM HUD hlb ha
  go_enter Tryz.func132, Tryz.ntmps132
  go_wp2_with fail
  refine (CMP.out).mono ?_; rintro e1 w1 ⟨rfl, hb1⟩
  have hcb1 := (hb1.cells _ _ hgb).trans hcb
  go_wp2_with fail
  refine (LZ.out _).mono ?_; rintro e2 wz ⟨rfl, rfl⟩
  go_wp2_with fail
  refine (LB.out _ (HRB.out.of hb1)).mono ?_; rintro e3 W2 ⟨Dv, cd, rfl, hcd, hrd, hb3⟩
  rw [HDL2.out] at hcd ⊢
  have HRD := Lib.hid hrd; clear hrd
  go_wp2_with fail
  refine (LA.out _ (HRA.out.of (hb1.trans hb3))).mono ?_; rintro e4 w4 ⟨g, o4, rfl, hown4, ho4, hwo4, hv4, hg4, hb4⟩
  have hu4 : (dg U).length ≤ L := by rw [← hv4, ← ho4]; exact dg_len_le (wval_lt o4 hwo4)
  go_wp2
  go_loopw [10] (fun uv wr => LuRel W2 g L U uv wr) (fun uv _ => L - slen uv)
  case atStart => exact ⟨_, o4, hu4, Nat.le_refl _, rfl, hown4, ho4, hwo4, hv4, hb4⟩
  case round =>
    obtain ⟨k, o, hk, hku, rfl, hown, ho, hwo, hvo, hin⟩ := hrel
    have HO := Lib.hid ho; have HWO := Lib.hid hwo; have HVO := Lib.hid hvo; clear ho hwo hvo
    rcases Nat.lt_or_ge k L with hlt | hlt
    · have d2 : decide ((k : Int) < (L : Int)) = true := decide_eq_true (by omega)
      have RUN := Lib.hid (app_zero hown HO.out hlt)
      go_wp2_with (at_builtin; refine wpList_apw rfl (.tmp 59) (.tmp 60) 89 rfl _ _ rfl rfl RUN.out ?_)
      go_roundw
      case rel =>
        refine ⟨k + 1, o.set k 0, by omega, by omega, rfl, (hown.alloc _).set k 0 (by rw [HO.out]; exact hlt), by rw [List.length_set]; exact HO.out, HWO.out.set _ _ (by decide), ?_, (hin.alloc _).setCell hg4 _⟩
        have e := wval_set o k 0 (by rw [HO.out]; exact hlt)
        rw [top_zero HWO.out HVO.out hku, Nat.mul_zero, Nat.add_zero] at e
        exact e.trans HVO.out
      case measure => simp [slen]; omega
    · obtain rfl : k = L := by omega
      have d2 : decide ((k : Int) < (k : Int)) = false := decide_eq_false (by omega)
      have hmk := run_make_row' (P := Tryz.prog) 89 22 (.int .u32 0) 4 (by kernel_rfl) Tryz.infoU32 rfl .i64 .i64 M (by omega) (by omega)
      have hn1l : n1 < nn := by omega
      obtain ⟨gd, rfl, hgd, hct⟩ := (HRD.out.of hin).cell (i := n1) (by rw [HDL2.out]; exact hn1l)
      obtain ⟨top, htp⟩ : ∃ t, t = (dg D).getD (n + 1) 0 := ⟨_, rfl⟩
      have ht1 : top < 4294967296 := by rw [htp]; exact (words_dg D).getD _
      have ht2 : 2147483648 ≤ top := by rw [htp]; exact HTOP.out
      rw [HH.out.1.2, ← htp] at hct
      rw [← HH.out.1.2] at hct
      have HTP := Lib.hid htp; clear htp
      obtain ⟨w5, rfl⟩ : ∃ w5 : World, w5 = wr := ⟨_, rfl⟩
      have hnd := hown.lt
      have hMi : (M : Int) - 1 = (((M : Int) - 1)) := rfl
      go_wp2
      go_loopw [14] (fun jv wr => OvRel W2 g w5.heap.size k M nn D U jv wr) (fun jv _ => (intOf jv + 1).toNat)
      case atStart =>
        have hL := HH.out.2.2
        have hn := HH.out.1.1
        refine ⟨M, o, List.replicate M 0, Nat.le_refl _, by go_num, HO.out, HWO.out, hown.alloc _, by simp, Words.zeros _, OwnW.made w5 M, fun j _ => repl_getD _ _, ?_, ?_, ?_, hin.alloc _⟩
        · intro i hi
          rw [List.getD_eq_getElem?_getD, List.getElem?_eq_none (by rw [HO.out]; omega)]; rfl
        · rw [lo_all o (by rw [HO.out]; omega), HVO.out]; exact HUM.out
        · rw [wval_zeros, Nat.zero_mul, Nat.zero_add, lo_all o (by rw [HO.out]; omega), HVO.out]
      case round =>
        obtain ⟨j, o6, oq, hj, rfl, ho6, hwo6, hown6, hoq0, hwoq, hoq, hz, hzo, hlt6, hU6, hin6⟩ := hrel
        have HO6 := Lib.hid ho6; have HWO6 := Lib.hid hwo6; have HOQ := Lib.hid hoq0; have HWOQ := Lib.hid hwoq; have HZ := Lib.hid hz; have HZO := Lib.hid hzo; have HLT := Lib.hid hlt6; have HU6 := Lib.hid hU6; clear ho6 hwo6 hoq0 hwoq hz hzo hlt6 hU6
        clear hown HO HWO HVO hin
        rcases j with _ | j
        · rw [show ((0 : Nat) : Int) - 1 = -1 from rfl]
          have hnk : nn ≤ k := by have := HH.out.2.2; omega
          have htk : (o6.take nn).length = nn := by rw [List.length_take, HO6.out]; omega
          have CT1 := Lib.hid (fun w' (hr : OwnW w' w5.heap.size oq) => Bcut oq (some ⟨w5.heap.size, 0, none⟩) M HWOQ.out (by rw [HOQ.out]; exact Nat.le_refl _) (by rw [HOQ.out]; omega) w' hr.at)
          rw [HOQ.out] at CT1
          have CT2 := Lib.hid (fun w' (hr : OwnW w' g o6) => Bcut (o6.take nn) (some ⟨g, 0, none⟩) k (HWO6.out.take nn) (by rw [htk]; exact hnk) (by rw [htk]; omega) w' (hr.at.take nn))
          rw [htk] at CT2
          have hR0 : wval (o6.take nn) = lo o6 nn := rfl
          have HRT := Lib.hid (fun w' (hr : OwnW w' g o6) => (hr.at.take nn).cut (HWO6.out.take nn))
          have hRl : (dg (wval (o6.take nn))).length ≤ 1500000 := Nat.le_trans (dg_len_le (wval_lt _ (HWO6.out.take nn))) (by rw [htk]; omega)
          have hlt0 := HLT.out
          have hU0 := HU6.out
          rw [Nat.zero_add, Nat.pow_zero, Nat.mul_one, ← hR0] at hlt0
          rw [Nat.zero_add, ← hR0] at hU0
          obtain ⟨R, hR⟩ : ∃ R, R = wval (o6.take nn) := ⟨_, rfl⟩
          rw [← hR] at CT2 HRT hRl hlt0 hU0
          clear hR0 hR
          have HQR := Lib.hid (show U / D = wval oq ∧ U % D = R by
            rw [hU0, Nat.mul_comm]
            exact ⟨by rw [Nat.mul_add_div HD0.out, Nat.div_eq_of_lt hlt0, Nat.add_zero], by rw [Nat.mul_add_mod, Nat.mod_eq_of_lt hlt0]⟩)
          have RG2 := Lib.hid (RG.out R hRl)
          clear hlt0 hU0 htk hRl
          go_upto_region 28 with fail
          refine wp_region_schG (fun W => OwnW W w5.heap.size oq ∧ OwnW W g o6 ∧ Within wr W) 9 (.firm 0 (.firm 2 (.firm 3 (.firm 4 (.firm 6 (.one 1 (.one 5 (.one 7 (.firm 8 (.one 9 .nil)))))))))) (by kernel_rfl) (by kernel_rfl) ⟨hoq, hown6, Within.refl _⟩ ?_
          rintro w0 ⟨hq_, ho_, hw0⟩
          try simp only [Act.put, List.setIfInBounds_toArray, List.set_cons_zero, List.set_cons_succ]
          apply sch_firm rfl rfl (by repeat (with_reducible first | exact Within.refl _ | assumption | refine Within.alloc ?_ _ | refine Within.drew ?_ | refine Within.drewN ?_ _ | refine Within.setCell ?_ (by first | (simp; done) | (simp; omega)) _ | refine Within.trans ?_ (by assumption)))
          · intro wq hq
            have hcq := hq.cells
            clear hq
            go_simp
            first | rfl | (trace_state; fail)
          try simp only [Act.put, List.setIfInBounds_toArray, List.set_cons_zero, List.set_cons_succ]
          apply sch_firm rfl rfl (by repeat (with_reducible first | exact Within.refl _ | assumption | refine Within.alloc ?_ _ | refine Within.drew ?_ | refine Within.drewN ?_ _ | refine Within.setCell ?_ (by first | (simp; done) | (simp; omega)) _ | refine Within.trans ?_ (by assumption)))
          · intro wq hq
            have hcq := hq.cells
            clear hq
            go_simp
            first | rfl | (trace_state; fail)
          try simp only [Act.put, List.setIfInBounds_toArray, List.set_cons_zero, List.set_cons_succ]
          apply sch_firm rfl rfl (by repeat (with_reducible first | exact Within.refl _ | assumption | refine Within.alloc ?_ _ | refine Within.drew ?_ | refine Within.drewN ?_ _ | refine Within.setCell ?_ (by first | (simp; done) | (simp; omega)) _ | refine Within.trans ?_ (by assumption)))
          · intro wq hq
            have hcq := hq.cells
            clear hq
            go_simp
            first | rfl | (trace_state; fail)
          try simp only [Act.put, List.setIfInBounds_toArray, List.set_cons_zero, List.set_cons_succ]
          apply sch_firm rfl rfl (by repeat (with_reducible first | exact Within.refl _ | assumption | refine Within.alloc ?_ _ | refine Within.drew ?_ | refine Within.drewN ?_ _ | refine Within.setCell ?_ (by first | (simp; done) | (simp; omega)) _ | refine Within.trans ?_ (by assumption)))
          · intro wq hq
            have hcq := hq.cells
            clear hq
            go_simp
            first | rfl | (trace_state; fail)
          try simp only [Act.put, List.setIfInBounds_toArray, List.set_cons_zero, List.set_cons_succ]
          apply sch_firm rfl rfl (by repeat (with_reducible first | exact Within.refl _ | assumption | refine Within.alloc ?_ _ | refine Within.drew ?_ | refine Within.drewN ?_ _ | refine Within.setCell ?_ (by first | (simp; done) | (simp; omega)) _ | refine Within.trans ?_ (by assumption)))
          · intro wq hq
            have hcq := hq.cells
            clear hq
            go_simp
            first | rfl | (trace_state; fail)
          try simp only [Act.put, List.setIfInBounds_toArray, List.set_cons_zero, List.set_cons_succ]
          refine sch_one rfl rfl (fun K hK => ?_)
          go_simp
          refine (CT1.out _ (OwnW.drew hq_)).mono ?_; rintro ea wa ⟨rfl, rfl⟩
          refine hK _ _ (fun _ => (by repeat (with_reducible first | exact Within.refl _ | assumption | refine Within.alloc ?_ _ | refine Within.drew ?_ | refine Within.drewN ?_ _ | refine Within.setCell ?_ (by first | (simp; done) | (simp; omega)) _ | refine Within.trans ?_ (by assumption)))) ?_
          clear hK K
          try simp only [Act.put, List.setIfInBounds_toArray, List.set_cons_zero, List.set_cons_succ]
          refine sch_one rfl rfl (fun K hK => ?_)
          go_simp
          refine (CT2.out _ (OwnW.drew ho_)).mono ?_; rintro eb wb ⟨rfl, rfl⟩
          refine hK _ _ (fun _ => (by repeat (with_reducible first | exact Within.refl _ | assumption | refine Within.alloc ?_ _ | refine Within.drew ?_ | refine Within.drewN ?_ _ | refine Within.setCell ?_ (by first | (simp; done) | (simp; omega)) _ | refine Within.trans ?_ (by assumption)))) ?_
          clear hK K
          try simp only [Act.put, List.setIfInBounds_toArray, List.set_cons_zero, List.set_cons_succ]
          refine sch_one rfl rfl (fun K hK => ?_)
          go_simp
          refine (RG2.out _ _ _ (HRT.out _ (OwnW.drew ho_))).mono ?_; rintro ec wc ⟨A7, c7, rfl, hc7, hr7, hb7⟩
          have h7 : Within w0 wc := Within.trans (Within.refl w0).drew hb7
          refine hK _ _ (fun _ => (by repeat (with_reducible first | exact Within.refl _ | assumption | refine Within.alloc ?_ _ | refine Within.drew ?_ | refine Within.drewN ?_ _ | refine Within.setCell ?_ (by first | (simp; done) | (simp; omega)) _ | refine Within.trans ?_ (by assumption)))) ?_
          clear hK K
          try simp only [Act.put, List.setIfInBounds_toArray, List.set_cons_zero, List.set_cons_succ]
          apply sch_firm rfl rfl (by repeat (with_reducible first | exact Within.refl _ | assumption | refine Within.alloc ?_ _ | refine Within.drew ?_ | refine Within.drewN ?_ _ | refine Within.setCell ?_ (by first | (simp; done) | (simp; omega)) _ | refine Within.trans ?_ (by assumption)))
          · intro wq hq
            have hcq := hq.cells
            clear hq
            go_simp
            first | rfl | (trace_state; fail)
          try simp only [Act.put, List.setIfInBounds_toArray, List.set_cons_zero, List.set_cons_succ]
          refine sch_one rfl rfl (fun K hK => ?_)
          go_simp
          refine hK _ _ (fun h => absurd h (by decide)) ?_
          clear hK K
          try simp only [Act.put, List.setIfInBounds_toArray, List.set_cons_zero, List.set_cons_succ]
          refine sch_nil ?_
          go_wp2
          go_ret2
          rw [HQR.out.1, HQR.out.2]
          exact ⟨_, _, _, _, rfl, Nat.le_trans (dg_len_le (wval_lt oq HWOQ.out)) (by rw [HOQ.out]; exact Nat.le_refl _), hc7, (hq_.at.cut HWOQ.out).of h7, hr7, (hb1.trans hb3).trans (hin6.trans (hw0.trans h7))⟩
        · rw [show ((j + 1 : Nat) : Int) - 1 = (j : Int) by omega]
          have hjM : j < M := by omega
          have hgq : g ≠ w5.heap.size := by omega
          have hgw : W2.heap.size ≤ w5.heap.size := by omega
          obtain ⟨w6, rfl⟩ : ∃ w6 : World, w6 = wr := ⟨_, rfl⟩
          have KS0 := kn_state (o := o6) (ld := dg D) (j := j) (n := n) HWO6.out (words_dg D) HDL.out HTOP.out (by rw [wval_dg]; have := HLT.out; rw [show j + 1 + nn = j + n + 3 by have := HH.out.1.1; omega] at this; exact this)
          unfold KnS at KS0
          rw [wval_dg, ← HTP.out] at KS0
          have hjn : j + nn < k := by have := HH.out.2.2; omega
          have hx0 : j + nn = j + n + 2 := by have := HH.out.1.1; omega
          have hx1 : j + n1 = j + n + 1 := by have := HH.out.1.2; omega
          have c0 := hown6.cell (i := j + nn) (by rw [HO6.out]; exact hjn)
          have c1 := hown6.cell (i := j + n1) (by rw [HO6.out]; omega)
          rw [hx0] at c0; rw [hx1] at c1
          obtain ⟨u0, hu0⟩ : ∃ u, u = o6.getD (j + n + 2) 0 := ⟨_, rfl⟩
          obtain ⟨u1, hu1⟩ : ∃ u, u = o6.getD (j + n + 1) 0 := ⟨_, rfl⟩
          obtain ⟨u2, hu2⟩ : ∃ u, u = o6.getD (j + n) 0 := ⟨_, rfl⟩
          obtain ⟨dv, hdv⟩ : ∃ u, u = (dg D).getD n 0 := ⟨_, rfl⟩
          rw [← hu0] at c0 KS0; rw [← hu1] at c1 KS0; rw [← hu2] at KS0; rw [← hdv] at KS0
          rw [← hx0] at c0; rw [← hx1] at c1
          have l0 : u0 < 4294967296 := by rw [hu0]; exact HWO6.out.getD _
          have l1 : u1 < 4294967296 := by rw [hu1]; exact HWO6.out.getD _
          have l2 : u2 < 4294967296 := by rw [hu2]; exact HWO6.out.getD _
          have hd2 : dv < 4294967296 := by rw [hdv]; exact (words_dg D).getD _
          have HU2 := Lib.hid (And.intro hu2 hdv)
          clear hu0 hu1 hu2 hdv hx0 hx1
          obtain ⟨t, ht⟩ : ∃ t, t = u0 * 4294967296 + u1 := ⟨_, rfl⟩
          have gsh : IntKind.u64.wrap ((u0 : Int) * 4294967296) = (u0 : Int) * 4294967296 := by rw [IntKind.wrap_u64]; omega
          have gor := shl_or l0 l1 ht
          rw [← ht] at KS0
          obtain ⟨Q, hQ⟩ : ∃ Q, Q = lo o6 (j + n + 3) / (4294967296 ^ j * D) := ⟨_, rfl⟩
          rw [← hQ] at KS0
          have KS := Lib.hid (And.intro hQ KS0.2)
          have KG := kn_start ht2 l2 KS0.2.1 KS0.2.2.1
          clear hQ KS0 ht
          have ed : (t : Int) / (top : Int) = ((t / top : Nat) : Int) := by simp
          have em : (t : Int) % (top : Int) = ((t % top : Nat) : Int) := by simp
          have r1 := Nat.mod_lt t (show 0 < top by omega)
          obtain ⟨q0, hq0⟩ : ∃ q, q = t / top := ⟨_, rfl⟩
          obtain ⟨r0, hr0⟩ : ∃ r, r = t % top := ⟨_, rfl⟩
          rw [← hq0] at ed KG; rw [← hr0] at em KG r1
          have HKG := Lib.hid KG
          have wq0 : IntKind.u64.wrap (q0 : Int) = (q0 : Int) := IntWalk.u64_in _ ⟨by omega, by have := KG.2.2; omega⟩
          clear hq0 hr0 KG
          have dz : ((top : Int) == 0) = false := beq_eq_false_iff_ne.2 (by omega)
          have f3 : ((j : Int) + (nn : Int)).toNat = j + nn := by omega
          have f4 : IntKind.i64.wrap ((j : Int) + (nn : Int)) = (j : Int) + (nn : Int) := IntWalk.i64_in _ (by omega)
          have f5 : IntKind.i64.wrap ((j : Int) + (nn : Int) - 1) = (j : Int) + (n1 : Int) := by rw [IntWalk.i64_in _ (by omega)]; omega
          have f6 : ((j : Int) + (n1 : Int)).toNat = j + n1 := by omega
          have f7 : IntKind.i64.wrap ((j : Int) + (nn : Int) - 2) = (j : Int) + (n : Int) := by rw [IntWalk.i64_in _ (by omega)]; omega
          have f8 : ((j : Int) + (n : Int)).toNat = j + n := by omega
          have f9 : IntKind.i64.wrap ((nn : Int) - 2) = (n : Int) := by rw [IntWalk.i64_in _ (by omega)]; omega
          have LS := Lib.hid (fun (wq : World) (q : Nat) (hq : q < 4294967296) (hin : Within W2 wq) (hown : OwnW wq g o6) => Bless o6 (dg D) g k cd j q (some ⟨gd, 0, none⟩) HWO6.out (words_dg D) (by rw [HO6.out]; omega) (by rw [HO6.out, HDL2.out]; exact hjn) (by rw [HO6.out]; exact Nat.le_refl _) hq W2 wq hin hg4 hown HRD.out)
          rw [HO6.out, HDL2.out, wval_dg] at LS
          have MR := Lib.hid (fun (wq : World) (o8 : List Nat) (hwo8 : Words o8) (ho8 : o8.length = k) (hin : Within W2 wq) (hown : OwnW wq g o8) => by
            have h := Bmore o8 (dg D) g k cd j (some ⟨gd, 0, none⟩) hwo8 (words_dg D) (by rw [ho8]; omega) (by rw [ho8, HDL2.out]; exact hjn) W2 wq hin hg4 hown HRD.out
            rw [ho8, HDL2.out, wval_dg] at h
            exact h)
          go_wp2
          go_quiet (fail)
          go_wp2
          rw [em]
          go_loopw [16, 17] (fun gv rv wr => KnRel W2 g w5.heap.size o6 oq top t Q gv rv wr) (fun gv _ _ => (intOf gv).toNat)
          case atStart => exact ⟨q0, r0, by first | rfl | rw [wq0], by first | rfl | rw [wq0], HKG.out, by omega, hown6, hoq, hin6.drewN _⟩
          case round =>
            obtain ⟨q, r, rfl, rfl, ⟨K1, K2, K3⟩, hr, hown7, hoq7, hin7⟩ := hrel
            have HOW7 := Lib.hid hown7; have HOQ7 := Lib.hid hoq7; have HIN7 := Lib.hid hin7
            have c2 := hown7.cell (i := j + n) (by rw [HO6.out]; omega)
            rw [← HU2.out.1] at c2
            obtain ⟨gd', eg, hgd', cd0⟩ := (HRD.out.of hin7).cell (i := n) (by rw [HDL2.out]; omega)
            injection eg with eg; injection eg with eg; subst eg
            rw [← HU2.out.2] at cd0
            clear hown7 hoq7 hin7 hown6 hoq hin6
            rcases Nat.lt_or_ge q 4294967296 with hq | hq
            · have dq : decide ((q : Int) ≥ 4294967296) = false := decide_eq_false (by omega)
              have hm := word_mul hq hd2
              obtain ⟨m, hme⟩ : ∃ m, m = q * dv := ⟨_, rfl⟩
              have e0 : (q : Int) * dv = (m : Int) := by rw [hme]; simp
              rw [← hme] at hm
              have e1 : IntKind.u64.wrap (m : Int) = m := by rw [IntKind.wrap_u64]; omega
              obtain ⟨v, hve⟩ : ∃ v, v = r * 4294967296 + u2 := ⟨_, rfl⟩
              have gs2 : IntKind.u64.wrap ((r : Int) * 4294967296) = (r : Int) * 4294967296 := by rw [IntKind.wrap_u64]; omega
              have go2 := shl_or hr l2 hve
              have HMV := Lib.hid (And.intro hme hve); clear hme hve hm
              rcases Nat.lt_or_ge v m with hv | hv
              · have dv2 : decide ((m : Int) > (v : Int)) = true := decide_eq_true (by omega)
                have TST : 4294967296 ≤ q ∨ r * 4294967296 + u2 < q * dv := .inr (by rw [← HMV.out.1, ← HMV.out.2]; exact hv)
                have hQq : Q < q := kn_true ⟨K1, K2, K3⟩ KS.out.2.1 KS.out.2.2.2.1 TST
                have KD := kn_down ⟨K1, K2, K3⟩ hQq
                obtain ⟨p, hpq⟩ : ∃ p, q = p + 1 := ⟨q - 1, by omega⟩
                rw [show q - 1 = p by omega] at KD
                have e5 : IntKind.u64.wrap ((q : Int) - 1) = (p : Int) := by rw [IntKind.wrap_u64]; omega
                have HPQ := Lib.hid hpq; clear hpq
                have e6 : IntKind.u64.wrap ((r : Int) + (top : Int)) = (r : Int) + (top : Int) := by rw [IntKind.wrap_u64]; omega
                have HKD := Lib.hid KD; clear KD hQq K1 K2 K3
                rcases Nat.lt_or_ge (r + top) 4294967296 with hrt | hrt
                · have dr : decide ((r : Int) + (top : Int) ≥ 4294967296) = false := decide_eq_false (by omega)
                  go_wp2
                  go_quiet (fail)
                  go_wp2
                  go_roundw
                  case rel =>
                    exact ⟨p, r + top, rfl, by go_num, HKD.out, hrt, HOW7.out, HOQ7.out, HIN7.out.drewN _⟩
                  case measure => have := HPQ.out; simp [intOf]; omega
                · have dr : decide ((r : Int) + (top : Int) ≥ 4294967296) = true := decide_eq_true (by omega)
                  have KE := Lib.hid (kn_break (d2 := dv) (u2 := u2) HKD.out hd2 hrt KS.out.2.2.1 (by omega))
                  go_wp2
                  go_quiet (fail)
                  obtain ⟨k1, k2⟩ := kn_digit KS.out.2.2.2.2.2.2.2.1 KS.out.2.2.2.2.1 KS.out.2.2.2.2.2.1 KS.out.2.2.2.2.2.2.1 (by rw [← KS.out.1]; exact KE.out) ht2
                  rw [← KS.out.1] at k1 k2
                  have hq32 : p < 4294967296 := KE.out.2.1
                  go_wp2_with fail
                  refine (LS.out _ p hq32 (HIN7.out.drewN nq) (show OwnW (wr.drewN nq) g o6 from HOW7.out)).mono ?_; rintro e6 w8 ⟨b, o8, hb8, rfl, ho8, hwo8, hown8, hval8, hlow8, hrest8, hgr8⟩
                  have hoq7 : OwnW (wr.drewN nq) w5.heap.size oq := HOQ7.out
                  have hin8 := Within.grown (HIN7.out.drewN nq) hgr8 hg4
                  have hoq8 : OwnW w8 w5.heap.size oq := hoq7.of_block (hgr8.block _ hoq7.lt (fun e => by injection e with e; omega))
                  clear hoq7
                  rw [HH.out.1.1, show j + (n + 2) + 1 = j + n + 2 + 1 by omega] at hval8
                  have LL8 := lo_lt o8 hwo8 (j + n + 2 + 1)
                  have HV8 := Lib.hid (And.intro hval8 (And.intro hlow8 hrest8)); clear hval8 hlow8 hrest8
                  obtain rfl | rfl : b = 0 ∨ b = 1 := by omega
                  · obtain ⟨r1, r2⟩ := kn_right (L := lo o8 (j + n + 2 + 1)) (S := lo o6 (j + n + 3)) (D := 4294967296 ^ j * D) (g := p) KS.out.2.2.2.2.2.2.2.2.2.1 (by rw [← KS.out.1]; exact k1) (by rw [← KS.out.1]; exact k2) KS.out.2.2.2.2.2.2.2.2.1 LL8 (by have := HV8.out.1; rw [Nat.mul_zero, Nat.add_zero, Nat.mul_left_comm] at this; exact this)
                    have d8 : decide ((0 : Nat) = 1) = false := rfl
                    have wq32 : IntKind.u32.wrap (p : Int) = (p : Int) := IntWalk.u32_in _ ⟨by omega, by omega⟩
                    have hcq := hoq8.cell (i := j) (by rw [HOQ.out]; omega)
                    have hfq := hoq8.frozen j
                    have FIN := Lib.hid (ov_step (o := o6) (oq := oq) (o2 := o8) (k := j) (n := nn) (D := D) (U := U) (Q := p) hwo8 HD0.out (by rw [HH.out.1.1]; exact HDN.out) (by rw [HOQ.out]; exact hjM) HZ.out HZO.out HU6.out (by rw [HH.out.1.1]; exact r1) (by rw [HH.out.1.1]; exact r2) (fun i hi => HV8.out.2.2 i (by have := HH.out.1.1; omega)))
                    clear k1 k2 r1 r2 LL8
                    go_wp2
                    go_roundw
                    case rel =>
                      have S1 : OwnW (w8.setCell ⟨w5.heap.size, j, none⟩ (.int .u32 (p : Int))) g o8 := hown8.of_block (Below.heap_setCell _ _ _ _ hgq)
                      have S2 : Within W2 (w8.setCell ⟨w5.heap.size, j, none⟩ (.int .u32 (p : Int))) := hin8.setCell hgw _
                      exact ⟨j, o8, oq.set j p, by omega, by first | rfl | go_num, ho8.trans HO6.out, hwo8, S1, by rw [List.length_set]; exact HOQ.out, HWOQ.out.set _ _ hq32, hoq8.set j p (by rw [HOQ.out]; omega), FIN.out.2.2.2, FIN.out.1, FIN.out.2.1, FIN.out.2.2.1, S2⟩
                    case measure => simp [intOf]
                  · have d8 : decide ((1 : Nat) = 1) = true := rfl
                    have hq1 : 1 ≤ p := by
                      rcases Nat.eq_zero_or_pos p with h | h
                      · exfalso
                        have := HV8.out.1
                        rw [h, Nat.zero_mul, Nat.mul_zero, Nat.add_zero] at this
                        omega
                      · exact h
                    obtain ⟨p', hqq⟩ : ∃ p', p = p' + 1 := ⟨p - 1, by omega⟩
                    have e6' : IntKind.u64.wrap ((p : Int) - 1) = (p' : Int) := by rw [IntKind.wrap_u64]; omega
                    have hq'l : p' < 4294967296 := by omega
                    have wq32 : IntKind.u32.wrap (p' : Int) = (p' : Int) := IntWalk.u32_in _ ⟨by omega, by omega⟩
                    have HQQ := Lib.hid hqq; clear hqq
                    go_wp2_with fail
                    refine (MR.out w8 o8 hwo8 (ho8.trans HO6.out) hin8 hown8).mono ?_; rintro e7 w9 ⟨c9, o9, hc9, rfl, ho9, hwo9, hown9, hval9, hlow9, hrest9, hgr9⟩
                    have hin9 := Within.grown hin8 hgr9 hg4
                    have hoq9 : OwnW w9 w5.heap.size oq := hoq8.of_block (hgr9.block _ hoq8.lt (fun e => by injection e with e; omega))
                    rw [HH.out.1.1, show j + (n + 2) + 1 = j + n + 2 + 1 by omega] at hval9
                    have LL9 := lo_lt o9 hwo9 (j + n + 2 + 1)
                    obtain ⟨r1, r2⟩ := kn_wrong (L := lo o8 (j + n + 2 + 1)) (S := lo o6 (j + n + 3)) (D := 4294967296 ^ j * D) (g := p) (L2 := lo o9 (j + n + 2 + 1)) (c := c9) KS.out.2.2.2.2.2.2.2.2.2.1 (by rw [← KS.out.1]; exact k1) (by rw [← KS.out.1]; exact k2) KS.out.2.2.2.2.2.2.2.2.1 LL8 (by have := HV8.out.1; rw [Nat.mul_one, Nat.mul_left_comm] at this; exact this) LL9 hc9 hval9
                    rw [HQQ.out, Nat.add_sub_cancel] at r1
                    have hcq := hoq9.cell (i := j) (by rw [HOQ.out]; omega)
                    have hfq := hoq9.frozen j
                    have FIN := Lib.hid (ov_step (o := o6) (oq := oq) (o2 := o9) (k := j) (n := nn) (D := D) (U := U) (Q := p') hwo9 HD0.out (by rw [HH.out.1.1]; exact HDN.out) (by rw [HOQ.out]; exact hjM) HZ.out HZO.out HU6.out (by rw [HH.out.1.1]; exact r1) (by rw [HH.out.1.1]; exact r2) (fun i hi => (hrest9 i (by have := HH.out.1.1; omega)).trans (HV8.out.2.2 i (by have := HH.out.1.1; omega))))
                    have HL9 := Lib.hid (ho9.trans (ho8.trans HO6.out))
                    clear k1 k2 r1 r2 LL8 LL9 hval9 hlow9 hrest9
                    go_wp2
                    go_roundw
                    case rel =>
                      have S1 : OwnW (w9.setCell ⟨w5.heap.size, j, none⟩ (.int .u32 (p' : Int))) g o9 := hown9.of_block (Below.heap_setCell _ _ _ _ hgq)
                      have S2 : Within W2 (w9.setCell ⟨w5.heap.size, j, none⟩ (.int .u32 (p' : Int))) := hin9.setCell hgw _
                      exact ⟨j, o9, oq.set j p', by omega, by first | rfl | go_num, HL9.out, hwo9, S1, by rw [List.length_set]; exact HOQ.out, HWOQ.out.set _ _ hq'l, hoq9.set j p' (by rw [HOQ.out]; omega), FIN.out.2.2.2, FIN.out.1, FIN.out.2.1, FIN.out.2.2.1, S2⟩
                    case measure => simp [intOf]
              · have dv2 : decide ((m : Int) > (v : Int)) = false := decide_eq_false (by omega)
                have KE := Lib.hid (kn_false (d2 := dv) (u2 := u2) ⟨K1, K2, K3⟩ hq (by rw [← HMV.out.1, ← HMV.out.2]; exact hv))
                clear K1 K2 K3
                go_wp2
                go_quiet (fail)
                obtain ⟨k1, k2⟩ := kn_digit KS.out.2.2.2.2.2.2.2.1 KS.out.2.2.2.2.1 KS.out.2.2.2.2.2.1 KS.out.2.2.2.2.2.2.1 (by rw [← KS.out.1]; exact KE.out) ht2
                rw [← KS.out.1] at k1 k2
                have hq32 : q < 4294967296 := KE.out.2.1
                go_wp2_with fail
                refine (LS.out _ q hq32 (HIN7.out.drewN nq) (show OwnW (wr.drewN nq) g o6 from HOW7.out)).mono ?_; rintro e6 w8 ⟨b, o8, hb8, rfl, ho8, hwo8, hown8, hval8, hlow8, hrest8, hgr8⟩
                have hoq7 : OwnW (wr.drewN nq) w5.heap.size oq := HOQ7.out
                have hin8 := Within.grown (HIN7.out.drewN nq) hgr8 hg4
                have hoq8 : OwnW w8 w5.heap.size oq := hoq7.of_block (hgr8.block _ hoq7.lt (fun e => by injection e with e; omega))
                clear hoq7
                rw [HH.out.1.1, show j + (n + 2) + 1 = j + n + 2 + 1 by omega] at hval8
                have LL8 := lo_lt o8 hwo8 (j + n + 2 + 1)
                have HV8 := Lib.hid (And.intro hval8 (And.intro hlow8 hrest8)); clear hval8 hlow8 hrest8
                obtain rfl | rfl : b = 0 ∨ b = 1 := by omega
                · obtain ⟨r1, r2⟩ := kn_right (L := lo o8 (j + n + 2 + 1)) (S := lo o6 (j + n + 3)) (D := 4294967296 ^ j * D) (g := q) KS.out.2.2.2.2.2.2.2.2.2.1 (by rw [← KS.out.1]; exact k1) (by rw [← KS.out.1]; exact k2) KS.out.2.2.2.2.2.2.2.2.1 LL8 (by have := HV8.out.1; rw [Nat.mul_zero, Nat.add_zero, Nat.mul_left_comm] at this; exact this)
                  have d8 : decide ((0 : Nat) = 1) = false := rfl
                  have wq32 : IntKind.u32.wrap (q : Int) = (q : Int) := IntWalk.u32_in _ ⟨by omega, by omega⟩
                  have hcq := hoq8.cell (i := j) (by rw [HOQ.out]; omega)
                  have hfq := hoq8.frozen j
                  have FIN := Lib.hid (ov_step (o := o6) (oq := oq) (o2 := o8) (k := j) (n := nn) (D := D) (U := U) (Q := q) hwo8 HD0.out (by rw [HH.out.1.1]; exact HDN.out) (by rw [HOQ.out]; exact hjM) HZ.out HZO.out HU6.out (by rw [HH.out.1.1]; exact r1) (by rw [HH.out.1.1]; exact r2) (fun i hi => HV8.out.2.2 i (by have := HH.out.1.1; omega)))
                  clear k1 k2 r1 r2 LL8
                  go_wp2
                  go_roundw
                  case rel =>
                    have S1 : OwnW (w8.setCell ⟨w5.heap.size, j, none⟩ (.int .u32 (q : Int))) g o8 := hown8.of_block (Below.heap_setCell _ _ _ _ hgq)
                    have S2 : Within W2 (w8.setCell ⟨w5.heap.size, j, none⟩ (.int .u32 (q : Int))) := hin8.setCell hgw _
                    exact ⟨j, o8, oq.set j q, by omega, by first | rfl | go_num, ho8.trans HO6.out, hwo8, S1, by rw [List.length_set]; exact HOQ.out, HWOQ.out.set _ _ hq32, hoq8.set j q (by rw [HOQ.out]; omega), FIN.out.2.2.2, FIN.out.1, FIN.out.2.1, FIN.out.2.2.1, S2⟩
                  case measure => simp [intOf]
                · have d8 : decide ((1 : Nat) = 1) = true := rfl
                  have hq1 : 1 ≤ q := by
                    rcases Nat.eq_zero_or_pos q with h | h
                    · exfalso
                      have := HV8.out.1
                      rw [h, Nat.zero_mul, Nat.mul_zero, Nat.add_zero] at this
                      omega
                    · exact h
                  obtain ⟨q', hqq⟩ : ∃ q', q = q' + 1 := ⟨q - 1, by omega⟩
                  have e6' : IntKind.u64.wrap ((q : Int) - 1) = (q' : Int) := by rw [IntKind.wrap_u64]; omega
                  have hq'l : q' < 4294967296 := by omega
                  have wq32 : IntKind.u32.wrap (q' : Int) = (q' : Int) := IntWalk.u32_in _ ⟨by omega, by omega⟩
                  have HQQ := Lib.hid hqq; clear hqq
                  go_wp2_with fail
                  refine (MR.out w8 o8 hwo8 (ho8.trans HO6.out) hin8 hown8).mono ?_; rintro e7 w9 ⟨c9, o9, hc9, rfl, ho9, hwo9, hown9, hval9, hlow9, hrest9, hgr9⟩
                  have hin9 := Within.grown hin8 hgr9 hg4
                  have hoq9 : OwnW w9 w5.heap.size oq := hoq8.of_block (hgr9.block _ hoq8.lt (fun e => by injection e with e; omega))
                  rw [HH.out.1.1, show j + (n + 2) + 1 = j + n + 2 + 1 by omega] at hval9
                  have LL9 := lo_lt o9 hwo9 (j + n + 2 + 1)
                  obtain ⟨r1, r2⟩ := kn_wrong (L := lo o8 (j + n + 2 + 1)) (S := lo o6 (j + n + 3)) (D := 4294967296 ^ j * D) (g := q) (L2 := lo o9 (j + n + 2 + 1)) (c := c9) KS.out.2.2.2.2.2.2.2.2.2.1 (by rw [← KS.out.1]; exact k1) (by rw [← KS.out.1]; exact k2) KS.out.2.2.2.2.2.2.2.2.1 LL8 (by have := HV8.out.1; rw [Nat.mul_one, Nat.mul_left_comm] at this; exact this) LL9 hc9 hval9
                  rw [HQQ.out, Nat.add_sub_cancel] at r1
                  have hcq := hoq9.cell (i := j) (by rw [HOQ.out]; omega)
                  have hfq := hoq9.frozen j
                  have FIN := Lib.hid (ov_step (o := o6) (oq := oq) (o2 := o9) (k := j) (n := nn) (D := D) (U := U) (Q := q') hwo9 HD0.out (by rw [HH.out.1.1]; exact HDN.out) (by rw [HOQ.out]; exact hjM) HZ.out HZO.out HU6.out (by rw [HH.out.1.1]; exact r1) (by rw [HH.out.1.1]; exact r2) (fun i hi => (hrest9 i (by have := HH.out.1.1; omega)).trans (HV8.out.2.2 i (by have := HH.out.1.1; omega))))
                  have HL9 := Lib.hid (ho9.trans (ho8.trans HO6.out))
                  clear k1 k2 r1 r2 LL8 LL9 hval9 hlow9 hrest9
                  go_wp2
                  go_roundw
                  case rel =>
                    have S1 : OwnW (w9.setCell ⟨w5.heap.size, j, none⟩ (.int .u32 (q' : Int))) g o9 := hown9.of_block (Below.heap_setCell _ _ _ _ hgq)
                    have S2 : Within W2 (w9.setCell ⟨w5.heap.size, j, none⟩ (.int .u32 (q' : Int))) := hin9.setCell hgw _
                    exact ⟨j, o9, oq.set j q', by omega, by first | rfl | go_num, HL9.out, hwo9, S1, by rw [List.length_set]; exact HOQ.out, HWOQ.out.set _ _ hq'l, hoq9.set j q' (by rw [HOQ.out]; omega), FIN.out.2.2.2, FIN.out.1, FIN.out.2.1, FIN.out.2.2.1, S2⟩
                  case measure => simp [intOf]
            · have dq : decide ((q : Int) ≥ 4294967296) = true := decide_eq_true (by omega)
              have TST : 4294967296 ≤ q ∨ r * 4294967296 + u2 < q * dv := .inl hq
              have hQq : Q < q := kn_true ⟨K1, K2, K3⟩ KS.out.2.1 KS.out.2.2.2.1 TST
              have KD := kn_down ⟨K1, K2, K3⟩ hQq
              obtain ⟨p, hpq⟩ : ∃ p, q = p + 1 := ⟨q - 1, by omega⟩
              rw [show q - 1 = p by omega] at KD
              have e5 : IntKind.u64.wrap ((q : Int) - 1) = (p : Int) := by rw [IntKind.wrap_u64]; omega
              have HPQ := Lib.hid hpq; clear hpq
              have e6 : IntKind.u64.wrap ((r : Int) + (top : Int)) = (r : Int) + (top : Int) := by rw [IntKind.wrap_u64]; omega
              have HKD := Lib.hid KD; clear KD hQq K1 K2 K3
              rcases Nat.lt_or_ge (r + top) 4294967296 with hrt | hrt
              · have dr : decide ((r : Int) + (top : Int) ≥ 4294967296) = false := decide_eq_false (by omega)
                go_wp2
                go_quiet (fail)
                go_wp2
                go_roundw
                case rel =>
                  exact ⟨p, r + top, rfl, by go_num, HKD.out, hrt, HOW7.out, HOQ7.out, HIN7.out.drewN _⟩
                case measure => have := HPQ.out; simp [intOf]; omega
              · have dr : decide ((r : Int) + (top : Int) ≥ 4294967296) = true := decide_eq_true (by omega)
                have KE := Lib.hid (kn_break (d2 := dv) (u2 := u2) HKD.out hd2 hrt KS.out.2.2.1 (by omega))
                go_wp2
                go_quiet (fail)
                obtain ⟨k1, k2⟩ := kn_digit KS.out.2.2.2.2.2.2.2.1 KS.out.2.2.2.2.1 KS.out.2.2.2.2.2.1 KS.out.2.2.2.2.2.2.1 (by rw [← KS.out.1]; exact KE.out) ht2
                rw [← KS.out.1] at k1 k2
                have hq32 : p < 4294967296 := KE.out.2.1
                go_wp2_with fail
                refine (LS.out _ p hq32 (HIN7.out.drewN nq) (show OwnW (wr.drewN nq) g o6 from HOW7.out)).mono ?_; rintro e6 w8 ⟨b, o8, hb8, rfl, ho8, hwo8, hown8, hval8, hlow8, hrest8, hgr8⟩
                have hoq7 : OwnW (wr.drewN nq) w5.heap.size oq := HOQ7.out
                have hin8 := Within.grown (HIN7.out.drewN nq) hgr8 hg4
                have hoq8 : OwnW w8 w5.heap.size oq := hoq7.of_block (hgr8.block _ hoq7.lt (fun e => by injection e with e; omega))
                clear hoq7
                rw [HH.out.1.1, show j + (n + 2) + 1 = j + n + 2 + 1 by omega] at hval8
                have LL8 := lo_lt o8 hwo8 (j + n + 2 + 1)
                have HV8 := Lib.hid (And.intro hval8 (And.intro hlow8 hrest8)); clear hval8 hlow8 hrest8
                obtain rfl | rfl : b = 0 ∨ b = 1 := by omega
                · obtain ⟨r1, r2⟩ := kn_right (L := lo o8 (j + n + 2 + 1)) (S := lo o6 (j + n + 3)) (D := 4294967296 ^ j * D) (g := p) KS.out.2.2.2.2.2.2.2.2.2.1 (by rw [← KS.out.1]; exact k1) (by rw [← KS.out.1]; exact k2) KS.out.2.2.2.2.2.2.2.2.1 LL8 (by have := HV8.out.1; rw [Nat.mul_zero, Nat.add_zero, Nat.mul_left_comm] at this; exact this)
                  have d8 : decide ((0 : Nat) = 1) = false := rfl
                  have wq32 : IntKind.u32.wrap (p : Int) = (p : Int) := IntWalk.u32_in _ ⟨by omega, by omega⟩
                  have hcq := hoq8.cell (i := j) (by rw [HOQ.out]; omega)
                  have hfq := hoq8.frozen j
                  have FIN := Lib.hid (ov_step (o := o6) (oq := oq) (o2 := o8) (k := j) (n := nn) (D := D) (U := U) (Q := p) hwo8 HD0.out (by rw [HH.out.1.1]; exact HDN.out) (by rw [HOQ.out]; exact hjM) HZ.out HZO.out HU6.out (by rw [HH.out.1.1]; exact r1) (by rw [HH.out.1.1]; exact r2) (fun i hi => HV8.out.2.2 i (by have := HH.out.1.1; omega)))
                  clear k1 k2 r1 r2 LL8
                  go_wp2
                  go_roundw
                  case rel =>
                    have S1 : OwnW (w8.setCell ⟨w5.heap.size, j, none⟩ (.int .u32 (p : Int))) g o8 := hown8.of_block (Below.heap_setCell _ _ _ _ hgq)
                    have S2 : Within W2 (w8.setCell ⟨w5.heap.size, j, none⟩ (.int .u32 (p : Int))) := hin8.setCell hgw _
                    exact ⟨j, o8, oq.set j p, by omega, by first | rfl | go_num, ho8.trans HO6.out, hwo8, S1, by rw [List.length_set]; exact HOQ.out, HWOQ.out.set _ _ hq32, hoq8.set j p (by rw [HOQ.out]; omega), FIN.out.2.2.2, FIN.out.1, FIN.out.2.1, FIN.out.2.2.1, S2⟩
                  case measure => simp [intOf]
                · have d8 : decide ((1 : Nat) = 1) = true := rfl
                  have hq1 : 1 ≤ p := by
                    rcases Nat.eq_zero_or_pos p with h | h
                    · exfalso
                      have := HV8.out.1
                      rw [h, Nat.zero_mul, Nat.mul_zero, Nat.add_zero] at this
                      omega
                    · exact h
                  obtain ⟨p', hqq⟩ : ∃ p', p = p' + 1 := ⟨p - 1, by omega⟩
                  have e6' : IntKind.u64.wrap ((p : Int) - 1) = (p' : Int) := by rw [IntKind.wrap_u64]; omega
                  have hq'l : p' < 4294967296 := by omega
                  have wq32 : IntKind.u32.wrap (p' : Int) = (p' : Int) := IntWalk.u32_in _ ⟨by omega, by omega⟩
                  have HQQ := Lib.hid hqq; clear hqq
                  go_wp2_with fail
                  refine (MR.out w8 o8 hwo8 (ho8.trans HO6.out) hin8 hown8).mono ?_; rintro e7 w9 ⟨c9, o9, hc9, rfl, ho9, hwo9, hown9, hval9, hlow9, hrest9, hgr9⟩
                  have hin9 := Within.grown hin8 hgr9 hg4
                  have hoq9 : OwnW w9 w5.heap.size oq := hoq8.of_block (hgr9.block _ hoq8.lt (fun e => by injection e with e; omega))
                  rw [HH.out.1.1, show j + (n + 2) + 1 = j + n + 2 + 1 by omega] at hval9
                  have LL9 := lo_lt o9 hwo9 (j + n + 2 + 1)
                  obtain ⟨r1, r2⟩ := kn_wrong (L := lo o8 (j + n + 2 + 1)) (S := lo o6 (j + n + 3)) (D := 4294967296 ^ j * D) (g := p) (L2 := lo o9 (j + n + 2 + 1)) (c := c9) KS.out.2.2.2.2.2.2.2.2.2.1 (by rw [← KS.out.1]; exact k1) (by rw [← KS.out.1]; exact k2) KS.out.2.2.2.2.2.2.2.2.1 LL8 (by have := HV8.out.1; rw [Nat.mul_one, Nat.mul_left_comm] at this; exact this) LL9 hc9 hval9
                  rw [HQQ.out, Nat.add_sub_cancel] at r1
                  have hcq := hoq9.cell (i := j) (by rw [HOQ.out]; omega)
                  have hfq := hoq9.frozen j
                  have FIN := Lib.hid (ov_step (o := o6) (oq := oq) (o2 := o9) (k := j) (n := nn) (D := D) (U := U) (Q := p') hwo9 HD0.out (by rw [HH.out.1.1]; exact HDN.out) (by rw [HOQ.out]; exact hjM) HZ.out HZO.out HU6.out (by rw [HH.out.1.1]; exact r1) (by rw [HH.out.1.1]; exact r2) (fun i hi => (hrest9 i (by have := HH.out.1.1; omega)).trans (HV8.out.2.2 i (by have := HH.out.1.1; omega))))
                  have HL9 := Lib.hid (ho9.trans (ho8.trans HO6.out))
                  clear k1 k2 r1 r2 LL8 LL9 hval9 hlow9 hrest9
                  go_wp2
                  go_roundw
                  case rel =>
                    have S1 : OwnW (w9.setCell ⟨w5.heap.size, j, none⟩ (.int .u32 (p' : Int))) g o9 := hown9.of_block (Below.heap_setCell _ _ _ _ hgq)
                    have S2 : Within W2 (w9.setCell ⟨w5.heap.size, j, none⟩ (.int .u32 (p' : Int))) := hin9.setCell hgw _
                    exact ⟨j, o9, oq.set j p', by omega, by first | rfl | go_num, HL9.out, hwo9, S1, by rw [List.length_set]; exact HOQ.out, HWOQ.out.set _ _ hq'l, hoq9.set j p' (by rw [HOQ.out]; omega), FIN.out.2.2.2, FIN.out.1, FIN.out.2.1, FIN.out.2.2.1, S2⟩
                  case measure => simp [intOf]
end Go.Proofs.YtifgngmebnjfkaaGreatDoor
end

section
namespace Go.Proofs.YtifgngmebnjfkaaGreatDoor
open Go.RowKit
theorem Bover (a b : Nat) (A Bv : Option Addr) (ca cb : Nat) (ha : (dg a).length ≤ 400000) (hb : (dg b).length ≤ 400000) (hb0 : 0 < b) (w : World) (hra : RowAt w A (dg a)) (hrb : RowAt w Bv (dg b)) :
    Calls Tryz.prog 132 #[.slice A (dg a).length ca, .slice Bv (dg b).length cb] w (RetQ w (a / b) (a % b)) := by
  rcases Nat.lt_or_ge a b with h | h
  · have := Bover_lt a b A Bv ca cb ha hb h w hra hrb
    rw [Nat.div_eq_of_lt h, Nat.mod_eq_of_lt h]
    exact this
  · rcases Nat.lt_or_ge b 4294967296 with h1 | h1
    · exact Bover_one a b A Bv ca cb ha hb0 h1 h w hra hrb
    · have h2 : 2 ≤ (dg b).length := by
        rcases Nat.lt_or_ge (dg b).length 2 with h3 | h3
        · have := lt_of_dg b
          have := Nat.pow_le_pow_right (n := 4294967296) (by decide) (show (dg b).length ≤ 1 by omega)
          omega
        · exact h3
      exact Bover_main a b ((dg b).length - 2) A Bv ca cb ha (by omega) h w hra hrb
set_option maxRecDepth 100000 in
set_option maxHeartbeats 2000000 in
theorem BquoRem (z x y r : Nat) (vx vy : Int) (ha : (dg vx.natAbs).length ≤ 400000) (hb : (dg vy.natAbs).length ≤ 400000) (hy0 : vy ≠ 0) (hzr : z ≠ r) (w : World) (hz : IntTy w z) (hr : IntTy w r) (hx : IntB w x vx) (hy : IntB w y vy) :
    Calls Tryz.prog 111 #[.pointer (some ⟨z, 0, none⟩), .pointer (some ⟨x, 0, none⟩), .pointer (some ⟨y, 0, none⟩), .pointer (some ⟨r, 0, none⟩)] w
      (fun e w' => e = .returned (.tuple #[.pointer (some ⟨z, 0, none⟩), .pointer (some ⟨r, 0, none⟩)]) ∧ IntB w' z (sgv (decide (vx < 0) != decide (vy < 0)) (vx.natAbs / vy.natAbs)) ∧ IntB w' r (sgv (decide (vx < 0)) (vx.natAbs % vy.natAbs)) ∧ ∀ W, Within W w → W.heap.size ≤ z → W.heap.size ≤ r → Within W w') := by
  obtain ⟨A, ca, x0, x1, hra⟩ := hx.rd
  obtain ⟨Bv, cb, y0, y1, hrb⟩ := hy.rd
  have lx := hx.lt; have ly := hy.lt
  have OV := Lib.hid (fun w' h1 h2 => Bover vx.natAbs vy.natAbs A Bv ca cb ha hb (by omega) w' h1 h2)
  have HRA := Lib.hid hra; have HRB := Lib.hid hrb; have HZ := Lib.hid hz; have HR := Lib.hid hr
  have hql : (dg (vx.natAbs / vy.natAbs)).length ≤ 2000000 := Nat.le_trans (dg_len_mono (Nat.div_le_self _ _)) (by omega)
  have hrl : (dg (vx.natAbs % vy.natAbs)).length ≤ 2000000 := Nat.le_trans (dg_len_mono (Nat.mod_le _ _)) (by omega)
  clear hra hrb hz hr hx hy
  obtain ⟨sx, hsx⟩ : ∃ s, s = decide (vx < 0) := ⟨_, rfl⟩
  obtain ⟨sy, hsy⟩ : ∃ s, s = decide (vy < 0) := ⟨_, rfl⟩
  rw [← hsx] at x0 ⊢; rw [← hsy] at y0 ⊢
  clear hsx hsy hy0
  generalize vx.natAbs / vy.natAbs = q at *
  generalize vx.natAbs % vy.natAbs = m at *
  generalize (dg vx.natAbs).length = na at *
  generalize (dg vy.natAbs).length = nb at *
  go_enter Tryz.func111, Tryz.ntmps111
  go_upto_region 1 with fail
  refine wp_region_schG (fun W => W.cell? ⟨x, 1, none⟩ = some (.slice A na ca) ∧ W.cell? ⟨y, 1, none⟩ = some (.slice Bv nb cb) ∧ RowAt W A (dg vx.natAbs) ∧ RowAt W Bv (dg vy.natAbs) ∧ x < W.heap.size ∧ y < W.heap.size ∧ Within w W) 13 (.firm 0 (.firm 1 (.firm 2 (.firm 3 (.firm 4 (.firm 5 (.firm 6 (.firm 7 (.one 8 (.firm 9 (.firm 10 (.firm 11 (.firm 12 (.one 13 .nil)))))))))))))) (by kernel_rfl) (by kernel_rfl) ⟨x1, y1, HRA.out, HRB.out, lx, ly, Within.refl _⟩ ?_
  rintro w0 ⟨x1_, y1_, ra_, rb_, lx_, ly_, hw0⟩
  try simp only [Act.put, List.setIfInBounds_toArray, List.set_cons_zero, List.set_cons_succ]
  apply sch_firm rfl rfl (by repeat (with_reducible first | exact Within.refl _ | assumption | refine Within.alloc ?_ _ | refine Within.drew ?_ | refine Within.drewN ?_ _ | refine Within.setCell ?_ (by first | (simp; done) | (simp; omega)) _ | refine Within.trans ?_ (by assumption)))
  · intro wq hq
    have hcq := hq.cells
    clear hq
    go_simp
    first | rfl | (trace_state; fail)
  try simp only [Act.put, List.setIfInBounds_toArray, List.set_cons_zero, List.set_cons_succ]
  apply sch_firm rfl rfl (by repeat (with_reducible first | exact Within.refl _ | assumption | refine Within.alloc ?_ _ | refine Within.drew ?_ | refine Within.drewN ?_ _ | refine Within.setCell ?_ (by first | (simp; done) | (simp; omega)) _ | refine Within.trans ?_ (by assumption)))
  · intro wq hq
    have hcq := hq.cells
    clear hq
    go_simp
    first | rfl | (trace_state; fail)
  try simp only [Act.put, List.setIfInBounds_toArray, List.set_cons_zero, List.set_cons_succ]
  apply sch_firm rfl rfl (by repeat (with_reducible first | exact Within.refl _ | assumption | refine Within.alloc ?_ _ | refine Within.drew ?_ | refine Within.drewN ?_ _ | refine Within.setCell ?_ (by first | (simp; done) | (simp; omega)) _ | refine Within.trans ?_ (by assumption)))
  · intro wq hq
    have hcq := hq.cells
    clear hq
    go_simp
    first | rfl | (trace_state; fail)
  try simp only [Act.put, List.setIfInBounds_toArray, List.set_cons_zero, List.set_cons_succ]
  apply sch_firm rfl rfl (by repeat (with_reducible first | exact Within.refl _ | assumption | refine Within.alloc ?_ _ | refine Within.drew ?_ | refine Within.drewN ?_ _ | refine Within.setCell ?_ (by first | (simp; done) | (simp; omega)) _ | refine Within.trans ?_ (by assumption)))
  · intro wq hq
    have hcq := hq.cells
    clear hq
    go_simp
    first | rfl | (trace_state; fail)
  try simp only [Act.put, List.setIfInBounds_toArray, List.set_cons_zero, List.set_cons_succ]
  apply sch_firm rfl rfl (by repeat (with_reducible first | exact Within.refl _ | assumption | refine Within.alloc ?_ _ | refine Within.drew ?_ | refine Within.drewN ?_ _ | refine Within.setCell ?_ (by first | (simp; done) | (simp; omega)) _ | refine Within.trans ?_ (by assumption)))
  · intro wq hq
    have hcq := hq.cells
    clear hq
    go_simp
    first | rfl | (trace_state; fail)
  try simp only [Act.put, List.setIfInBounds_toArray, List.set_cons_zero, List.set_cons_succ]
  apply sch_firm rfl rfl (by repeat (with_reducible first | exact Within.refl _ | assumption | refine Within.alloc ?_ _ | refine Within.drew ?_ | refine Within.drewN ?_ _ | refine Within.setCell ?_ (by first | (simp; done) | (simp; omega)) _ | refine Within.trans ?_ (by assumption)))
  · intro wq hq
    have hcq := hq.cells
    clear hq
    go_simp
    first | rfl | (trace_state; fail)
  try simp only [Act.put, List.setIfInBounds_toArray, List.set_cons_zero, List.set_cons_succ]
  apply sch_firm rfl rfl (by repeat (with_reducible first | exact Within.refl _ | assumption | refine Within.alloc ?_ _ | refine Within.drew ?_ | refine Within.drewN ?_ _ | refine Within.setCell ?_ (by first | (simp; done) | (simp; omega)) _ | refine Within.trans ?_ (by assumption)))
  · intro wq hq
    have hcq := hq.cells
    clear hq
    go_simp
    first | rfl | (trace_state; fail)
  try simp only [Act.put, List.setIfInBounds_toArray, List.set_cons_zero, List.set_cons_succ]
  apply sch_firm rfl rfl (by repeat (with_reducible first | exact Within.refl _ | assumption | refine Within.alloc ?_ _ | refine Within.drew ?_ | refine Within.drewN ?_ _ | refine Within.setCell ?_ (by first | (simp; done) | (simp; omega)) _ | refine Within.trans ?_ (by assumption)))
  · intro wq hq
    have hcq := hq.cells
    clear hq
    go_simp
    first | rfl | (trace_state; fail)
  try simp only [Act.put, List.setIfInBounds_toArray, List.set_cons_zero, List.set_cons_succ]
  refine sch_one rfl rfl (fun K hK => ?_)
  go_simp
  refine (OV.out _ (RowAt.drew ra_) (RowAt.drew rb_)).mono ?_; rintro ea wa ⟨A1, c1, A2, c2, rfl, hc1, hc2, hr1, hr2, hb1⟩
  have h1 : Within w0 wa := Within.trans (Within.refl w0).drew hb1
  refine hK _ _ (fun _ => (by repeat (with_reducible first | exact Within.refl _ | assumption | refine Within.alloc ?_ _ | refine Within.drew ?_ | refine Within.drewN ?_ _ | refine Within.setCell ?_ (by first | (simp; done) | (simp; omega)) _ | refine Within.trans ?_ (by assumption)))) ?_
  clear hK K
  try simp only [Act.put, List.setIfInBounds_toArray, List.set_cons_zero, List.set_cons_succ]
  apply sch_firm rfl rfl (by repeat (with_reducible first | exact Within.refl _ | assumption | refine Within.alloc ?_ _ | refine Within.drew ?_ | refine Within.drewN ?_ _ | refine Within.setCell ?_ (by first | (simp; done) | (simp; omega)) _ | refine Within.trans ?_ (by assumption)))
  · intro wq hq
    have hcq := hq.cells
    clear hq
    go_simp
    first | rfl | (trace_state; fail)
  try simp only [Act.put, List.setIfInBounds_toArray, List.set_cons_zero, List.set_cons_succ]
  apply sch_firm rfl rfl (by repeat (with_reducible first | exact Within.refl _ | assumption | refine Within.alloc ?_ _ | refine Within.drew ?_ | refine Within.drewN ?_ _ | refine Within.setCell ?_ (by first | (simp; done) | (simp; omega)) _ | refine Within.trans ?_ (by assumption)))
  · intro wq hq
    have hcq := hq.cells
    clear hq
    go_simp
    first | rfl | (trace_state; fail)
  try simp only [Act.put, List.setIfInBounds_toArray, List.set_cons_zero, List.set_cons_succ]
  apply sch_firm rfl rfl (by repeat (with_reducible first | exact Within.refl _ | assumption | refine Within.alloc ?_ _ | refine Within.drew ?_ | refine Within.drewN ?_ _ | refine Within.setCell ?_ (by first | (simp; done) | (simp; omega)) _ | refine Within.trans ?_ (by assumption)))
  · intro wq hq
    have hcq := hq.cells
    clear hq
    go_simp
    first | rfl | (trace_state; fail)
  try simp only [Act.put, List.setIfInBounds_toArray, List.set_cons_zero, List.set_cons_succ]
  apply sch_firm rfl rfl (by repeat (with_reducible first | exact Within.refl _ | assumption | refine Within.alloc ?_ _ | refine Within.drew ?_ | refine Within.drewN ?_ _ | refine Within.setCell ?_ (by first | (simp; done) | (simp; omega)) _ | refine Within.trans ?_ (by assumption)))
  · intro wq hq
    have hcq := hq.cells
    clear hq
    go_simp
    first | rfl | (trace_state; fail)
  try simp only [Act.put, List.setIfInBounds_toArray, List.set_cons_zero, List.set_cons_succ]
  refine sch_one rfl rfl (fun K hK => ?_)
  go_simp
  refine hK _ _ (fun h => absurd h (by decide)) ?_
  clear hK K
  try simp only [Act.put, List.setIfInBounds_toArray, List.set_cons_zero, List.set_cons_succ]
  refine sch_nil ?_
  have h2 := hw0.trans h1
  have x0' := (h2.cells _ _ lx).trans x0; have y0' := (h2.cells _ _ ly).trans y0
  clear x1_ y1_ ra_ rb_ lx_ ly_
  go_wp2
  go_quiet (fail)
  go_wp2_with fail
  refine (Bput r sx (dg m) A2 c2 (words_dg m) hc2 hrl _ (show RowAt (wa.drewN nq) A2 (dg m) from hr2) (IntTy.of HR.out (h2.drewN nq))).mono ?_; rintro e3 w3 ⟨rfl, hI3, hG3⟩
  rw [wval_dg] at hI3
  have hrt : IntTy (wa.drewN nq) r := IntTy.of HR.out (h2.drewN nq)
  have hzt : IntTy (wa.drewN nq) z := IntTy.of HZ.out (h2.drewN nq)
  have hzt3 : IntTy w3 z := by
    obtain ⟨b, s, hb⟩ := hzt
    exact ⟨b, s, (hG3.block _ (IntTy.lt (w := wa.drewN nq) ⟨b, s, hb⟩) (fun e => hzr (by injection e))).trans hb⟩
  go_wp2_with fail
  refine (Bput z (sx != sy) (dg q) A1 c1 (words_dg q) hc1 hql _ (RowAt.grown (show RowAt (wa.drewN nq) A1 (dg q) from hr1) hrt hG3) hzt3).mono ?_; rintro e4 w4 ⟨rfl, hI4, hG4⟩
  rw [wval_dg] at hI4
  go_wp2
  go_ret2
  refine ⟨rfl, hI4, hI3.grown hzt3 (fun e => hzr e.symm) hG4, fun W hW hz' hr' => ?_⟩
  exact Within.grown (Within.grown (hW.trans (h2.drewN nq)) hG3 hr') hG4 hz'
def MagAt (v : Value) (w : World) (n : Nat) : Prop := ∃ A c, v = .slice A (dg n).length c ∧ (dg n).length ≤ c ∧ RowAt w A (dg n)
theorem MagAt.uniq {v : Value} {w : World} {n m : Nat} (h : MagAt v w n) (g : MagAt v w m) : n = m := by
  obtain ⟨A, c, rfl, _, hr⟩ := h
  obtain ⟨A', c', e, _, hr'⟩ := g
  simp only [Value.slice.injEq] at e
  obtain ⟨rfl, hl, _⟩ := e
  refine eq_of_all hl (fun j => ?_)
  by_cases hj : j < (dg n).length
  · obtain ⟨g1, rfl, _, c1⟩ := hr.cell hj
    obtain ⟨g2, e2, _, c2⟩ := hr'.cell (i := j) (by omega)
    injection e2 with e2; injection e2 with e2; subst e2
    rw [c1] at c2
    injection c2 with c2; injection c2 with _ c2
    omega
  · rw [List.getD_eq_getElem?_getD, List.getD_eq_getElem?_getD, List.getElem?_eq_none (by omega), List.getElem?_eq_none (by omega)]
open Classical in
noncomputable def magOf (v : Value) (w : World) : Nat := if h : ∃ n, MagAt v w n then Classical.choose h else 0
theorem magOf_eq {v : Value} {w : World} {n : Nat} (h : MagAt v w n) : magOf v w = n := by
  have hex : ∃ n, MagAt v w n := ⟨n, h⟩
  unfold magOf
  rw [dif_pos hex]
  exact (Classical.choose_spec hex).uniq h
theorem isRt_zero : IsRt 0 0 := ⟨by decide, by decide⟩
def SqRel (W : World) (s R0 : Nat) (rv : Value) (wr : World) : Prop := ∃ r, MagAt rv wr r ∧ s ≤ r ∧ 0 < r ∧ r ≤ R0 ∧ Within W wr
set_option maxRecDepth 100000 in
set_option maxHeartbeats 2000000 in
theorem Bsqrt_zero (z x : Nat) (w : World) (hz : IntTy w z) (hx : IntB w x 0) : Calls Tryz.prog 113 #[.pointer (some ⟨z, 0, none⟩), .pointer (some ⟨x, 0, none⟩)] w (PutI w z 0) := by
  obtain ⟨A, c, x0, x1, _⟩ := hx.rd
  rw [show (dg (0 : Int).natAbs) = [] from dg_zero] at x1
  have d : (((List.length ([] : List Nat) : Nat) : Int) == 0) = true := rfl
  have PT := Lib.hid (Bput z false [] none 0 (fun x hx => by simp at hx) (Nat.le_refl _) (by decide) w RowAt.nil hz)
  clear hx hz
  go_enter Tryz.func113, Tryz.ntmps113
  go_wp2_with fail
  refine (PT.out).mono ?_; rintro e1 w1 ⟨rfl, hI, hG⟩
  go_wp2
  go_ret
  exact ⟨rfl, hI, hG⟩
set_option maxRecDepth 100000 in
set_option maxHeartbeats 2000000 in
theorem Bsqrt_pos (z x n : Nat) (h0 : 0 < n) (hn : (dg n).length ≤ 100000) (w : World) (hz : IntTy w z) (hx : IntB w x (n : Int)) : Calls Tryz.prog 113 #[.pointer (some ⟨z, 0, none⟩), .pointer (some ⟨x, 0, none⟩)] w (fun e w' => ∃ r : Nat, IsRt n r ∧ PutI w z (r : Int) e w') := by
  obtain ⟨A, c, x0, x1, hra⟩ := hx.rd
  rw [Int.natAbs_natCast] at x1 hra
  have lx := hx.lt
  obtain ⟨s, hs⟩ := isRt_ex n
  have hbl := blen_of_dg hn
  have BL := Lib.hid (fun w' hI => Bbitlen x (n : Int) (by rw [Int.natAbs_natCast]; omega) w' hI)
  rw [Int.natAbs_natCast] at BL
  have hlt := blen_lt n
  obtain ⟨bl, hble⟩ : ∃ bl, bl = blen n := ⟨_, rfl⟩
  rw [← hble] at BL hbl hlt
  clear hble
  have hk : (bl : Int) / 2 + 1 = ((bl / 2 + 1 : Nat) : Int) := by omega
  obtain ⟨k, hke⟩ : ∃ k, k = bl / 2 + 1 := ⟨_, rfl⟩
  rw [← hke] at hk
  have hk2 : k ≤ 1600001 := by omega
  have wk : IntKind.u64.wrap (k : Int) = (k : Int) := IntWalk.u64_in _ ⟨by omega, by omega⟩
  have hd1 : dg 1 = [1] := by rw [dg_pos (by decide)]; rw [show (1 : Nat) % 4294967296 = 1 from rfl, show (1 : Nat) / 4294967296 = 0 from rfl, dg_zero]
  have LF := Lib.hid (fun w' v hr => Bleft 1 v 1 k (by rw [hd1]; decide) (by omega) w' hr)
  rw [hd1, Nat.one_mul] at LF
  obtain ⟨R0, hR0⟩ : ∃ R0, R0 = 2 ^ k := ⟨_, rfl⟩
  rw [← hR0] at LF
  have hsR : s ≤ R0 := by
    rw [hR0]
    refine root_from hs.1 (Nat.lt_of_lt_of_le hlt (Nat.pow_le_pow_right (by decide) (by omega)))
  have hR1 : 0 < R0 := by rw [hR0]; exact Nat.two_pow_pos k
  have hRl : (dg R0).length ≤ 100002 := by
    obtain ⟨E, hE⟩ : ∃ E : Nat, E = 100002 := ⟨_, rfl⟩
    rw [← hE]
    refine dg_len_le ?_
    rw [hR0, show (4294967296 : Nat) = 2 ^ 32 from rfl, ← Nat.pow_mul]
    exact Nat.pow_lt_pow_right (by decide) (by omega)
  have HS := Lib.hid hs
  clear hR0 hke hbl hlt hs hd1
  have hp := dg_len_pos (n := n) (by omega)
  have HN := Lib.hid hn; have HRA := Lib.hid hra; have HZ := Lib.hid hz; have HX := Lib.hid hx
  have OV := Lib.hid (fun (r : Nat) (hr0 : 0 < r) (hr : r ≤ R0) (Av : Option Addr) (cv : Nat) w' h1 h2 => Bover n r A Av c cv (Nat.le_trans HN.out (by decide)) (Nat.le_trans (dg_len_mono hr) (Nat.le_trans hRl (by decide))) hr0 w' h1 h2)
  obtain ⟨nl, hnl⟩ : ∃ nl, nl = (dg n).length := ⟨_, rfl⟩
  rw [← hnl] at x1 hp OV
  have d0 : ((nl : Int) == 0) = false := beq_eq_false_iff_ne.2 (by omega)
  have HNL := Lib.hid hnl
  clear hra hz hx hn hnl h0
  go_enter Tryz.func113, Tryz.ntmps113
  go_wp2_with fail
  refine (BL.out _ (HX.out.of ((Within.refl w).alloc _))).mono ?_; rintro e1 w1 ⟨rfl, hb1⟩
  have hb0 := (Within.refl w).alloc (.cells #[.int .u32 1] 22)
  go_wp2_with fail
  refine (LF.out _ _ ((one_at w 1 _ (by simp)).of hb1)).mono ?_; rintro e2 w2 ⟨A2, c2, rfl, hc2, hr2, hb2⟩
  have hw2 := (hb0.trans hb1).trans hb2
  clear hb0 hb1 hb2
  have HR2 := Lib.hid hr2; clear hr2
  go_wp2
  go_loopw [5] (fun rv wr => SqRel w s R0 rv wr) (fun rv wr => magOf rv wr)
  case atStart => exact ⟨R0, ⟨A2, c2, rfl, hc2, HR2.out⟩, hsR, hR1, Nat.le_refl _, hw2⟩
  case round =>
    obtain ⟨r, hM, hsr, hr0, hrR, hin⟩ := hrel
    have HM := Lib.hid hM
    obtain ⟨Ar, cr, rfl, hcr, hrr⟩ := hM
    have HRR := Lib.hid hrr; clear hrr
    have x1' := (hin.cells _ _ lx).trans x1
    clear hw2
    go_wp2_with fail
    refine (OV.out r hr0 hrR Ar cr wr (HRA.out.of hin) HRR.out).mono ?_; rintro e3 w3 ⟨A3, c3, A4, c4, rfl, hc3, hc4, hr3, hr4, hb3⟩
    have hl3 : (dg (n / r)).length ≤ 100000 := Nat.le_trans (dg_len_mono (Nat.div_le_self _ _)) HN.out
    have hlr : (dg r).length ≤ 100002 := Nat.le_trans (dg_len_mono hrR) hRl
    have PL := Lib.hid (Bplus r (n / r) Ar A3 cr c3 (by omega) (by omega) w3 (HRR.out.of hb3) hr3)
    clear hr4 hc4
    go_wp2_with fail
    refine (PL.out).mono ?_; rintro e5 w5 ⟨A5, c5, rfl, hc5, hr5, hb5⟩
    have hl5 : (dg (r + n / r)).length ≤ 100003 := by
      obtain ⟨E, hE⟩ : ∃ E : Nat, E = 100002 := ⟨_, rfl⟩
      rw [show (100003 : Nat) = E + 1 by omega]
      refine dg_len_le ?_
      have a1 := lt_of_dg r
      have a2 := lt_of_dg (n / r)
      have a3 : 4294967296 ^ (dg r).length ≤ 4294967296 ^ E := Nat.pow_le_pow_right (by decide) (by omega)
      have a4 : 4294967296 ^ (dg (n / r)).length ≤ 4294967296 ^ E := Nat.pow_le_pow_right (by decide) (by omega)
      rw [Nat.pow_succ]
      omega
    have RT := Lib.hid (Bright (r + n / r) A5 c5 1 (by omega) (by decide) w5 hr5)
    rw [Nat.pow_one] at RT
    go_wp2_with fail
    refine (RT.out).mono ?_; rintro e6 w6 ⟨A6, c6, rfl, hc6, hr6, hb6⟩
    have hin6 := ((hin.trans hb3).trans hb5).trans hb6
    have hrr6 := ((HRR.out.of hb3).of hb5).of hb6
    have hge := newton_ge (n := n) (s := s) (r := r) HS.out.1 hr0
    have hst := newton_stop (n := n) (r := r) hr0 HS.out hsr
    have hlt6 : (r + n / r) / 2 ≤ r + n / r := Nat.div_le_self _ _
    have hl6 := Nat.le_trans (dg_len_mono hlt6) hl5
    obtain ⟨m, hm⟩ : ∃ m, m = (r + n / r) / 2 := ⟨_, rfl⟩
    rw [← hm] at hge hst hl6 hc6 hr6 ⊢
    clear hm hlt6
    have CM := Lib.hid (Bcompare m r A6 Ar c6 cr (by omega) (by omega) w6 hr6 hrr6)
    have HG := Lib.hid hge; have HST := Lib.hid hst; have HR6 := Lib.hid hr6; have HRR6 := Lib.hid hrr6
    clear hge hst hr6 hrr6 hr3 hr5
    rcases Nat.lt_or_ge m r with hmr | hmr
    · rw [cmpN_lt hmr] at CM
      go_wp2_with fail
      refine (CM.out).mono ?_; rintro e7 w7 ⟨rfl, hb7⟩
      go_wp2
      go_roundw
      case rel => exact ⟨m, ⟨A6, c6, rfl, hc6, HR6.out.of hb7⟩, HG.out, by
        rcases Nat.eq_zero_or_pos s with h | h
        · have := HS.out.2
          rw [h] at this
          have hn0 : n = 0 := by omega
          have := HNL.out
          rw [hn0, dg_zero] at this
          simp at this
          omega
        · have := HG.out; omega, Nat.le_trans (Nat.le_of_lt hmr) hrR, hin6.trans hb7⟩
      case measure =>
        rw [magOf_eq HM.out, magOf_eq ⟨A6, c6, rfl, hc6, HR6.out.of hb7⟩]
        exact hmr
    · have hcm := cmpN_ge hmr
      obtain ⟨cm, hce⟩ : ∃ cm, cm = cmpN m r := ⟨_, rfl⟩
      rw [← hce] at CM hcm
      clear hce
      have dc : decide (cm ≥ 0) = true := decide_eq_true hcm
      have hI := HST.out hmr
      have PT := Lib.hid (fun w' hr hz' => Bput z false (dg r) Ar cr (words_dg r) hcr (by omega) w' hr hz')
      rw [wval_dg] at PT
      go_wp2_with fail
      refine (CM.out).mono ?_; rintro e7 w7 ⟨rfl, hb7⟩
      go_wp2_with fail
      refine (PT.out _ (HRR6.out.of hb7) (HZ.out.of (hin6.trans hb7))).mono ?_; rintro e8 w8 ⟨rfl, hI8, hG8⟩
      go_wp2
      go_ret
      exact ⟨r, hI, rfl, hI8, grown_trans (grown_within z (hin6.trans hb7)) hG8⟩
theorem Bsqrt (z x n : Nat) (hn : (dg n).length ≤ 100000) (w : World) (hz : IntTy w z) (hx : IntB w x (n : Int)) : Calls Tryz.prog 113 #[.pointer (some ⟨z, 0, none⟩), .pointer (some ⟨x, 0, none⟩)] w (fun e w' => ∃ r : Nat, IsRt n r ∧ PutI w z (r : Int) e w') := by
  rcases Nat.eq_zero_or_pos n with h | h
  · subst h
    exact (Bsqrt_zero z x w hz hx).mono fun e w' k => ⟨0, isRt_zero, k⟩
  · exact Bsqrt_pos z x n h hn w hz hx
end Go.Proofs.YtifgngmebnjfkaaGreatDoor
end

section
namespace Go.Proofs.YtifgngmebnjfkaaGreatDoor
section
variable {P : Program} {ops : Array Oper} {Q : Exit → Act → World → Prop} {md : Region.Mode} {S : World → Prop}
variable {p k : Nat} {r : List (Nat × Bool)} {a : Act} {w : World}
/-! schedules with branches: two operations that may come up in either order -/
inductive Sct where
  | nil : Sct
  | firm (k : Nat) (r : Sct) : Sct
  | one (k : Nat) (r : Sct) : Sct
  | two (i : Nat) (r : Sct) (j : Nat) (s : Sct) : Sct
  | three (i : Nat) (r : Sct) (j : Nat) (s : Sct) (l : Nat) (t : Sct) : Sct
def Sct.late : Sct → Bool
  | .nil => true
  | .one _ r => r.late
  | _ => false
def Sct.long : Sct → Nat → Bool
  | .nil, n => decide (n = 0)
  | .firm _ r, n => decide (0 < n) && r.long (n - 1)
  | .one _ r, n => decide (0 < n) && r.long (n - 1)
  | .two _ r _ s, n => decide (0 < n) && r.long (n - 1) && s.long (n - 1)
  | .three _ r _ s _ t, n => decide (0 < n) && r.long (n - 1) && s.long (n - 1) && t.long (n - 1)
def Sct.ok (md : Region.Mode) (ops : Array Oper) (p : Nat) : Sct → Array Bool → Bool
  | .nil, listed => (Region.ready md ops listed).isEmpty
  | .firm k r, listed => (Region.ready md ops listed).contains k && Region.free md ops listed k && decide (k < p) && r.ok md ops p (listed.setIfInBounds k true)
  | .one k r, listed => decide (Region.ready md ops listed = [k]) && (decide (k < p) || r.late) && r.ok md ops p (listed.setIfInBounds k true)
  | .two i r j s, listed => decide (Region.ready md ops listed = [i, j]) && decide (i < p) && decide (j < p) && r.ok md ops p (listed.setIfInBounds i true) && s.ok md ops p (listed.setIfInBounds j true)
  | .three i r j s l t, listed => decide (Region.ready md ops listed = [i, j, l]) && decide (i < p) && decide (j < p) && decide (l < p) && r.ok md ops p (listed.setIfInBounds i true) && s.ok md ops p (listed.setIfInBounds j true) && t.ok md ops p (listed.setIfInBounds l true)
def wpSct (P : Program) (ops : Array Oper) (Q : Exit → Act → World → Prop) (S : World → Prop) (p : Nat) : Sct → Act → World → Prop
  | .nil, a, w => Q .normal a w
  | .firm k r, a, w => S w ∧ ∃ o v, ops[k]? = some o ∧ YieldsIf P ops S o v a ∧ wpSct P ops Q S p r (a.put o.dst v) w
  | .one k r, a, w => wpOp P ops Q k (fun a' w' => (k < p → S w') ∧ wpSct P ops Q S p r a' w') a w
  | .two i r j s, a, w => wpOp P ops Q i (fun a' w' => S w' ∧ wpSct P ops Q S p r a' w') a w ∧ wpOp P ops Q j (fun a' w' => S w' ∧ wpSct P ops Q S p s a' w') a w
  | .three i r j s l t, a, w => wpOp P ops Q i (fun a' w' => S w' ∧ wpSct P ops Q S p r a' w') a w ∧ wpOp P ops Q j (fun a' w' => S w' ∧ wpSct P ops Q S p s a' w') a w ∧ wpOp P ops Q l (fun a' w' => S w' ∧ wpSct P ops Q S p t a' w') a w
theorem wpAnyG_sct {p : Nat} (hsel : Region.noSelect ops = true) (hQ : ∀ c a d v w, Q (.panic c) (a.put d v) w → Q (.panic c) a w) (hs : Region.sinkB md ops p = true) (hc : Region.chainB md ops p = true) (hn : p < ops.size) :
    ∀ (t : Sct) (n : Nat) (listed : Array Bool) (a : Act) (w : World), t.long n = true → (HeadInv md ops p listed ∨ t.late = true) → t.ok md ops p listed = true → wpSct P ops Q S p t a w → wpAnyG P md ops Q S p n listed a w := by
  intro t
  induction t with
  | nil =>
    intro n listed a w hl _ hB h
    simp only [Sct.long, decide_eq_true_eq] at hl
    subst hl
    exact ⟨by simpa [Sct.ok] using hB, h⟩
  | firm k r ih =>
    intro n listed a w hl inv hB h
    simp only [Sct.long, Bool.and_eq_true, decide_eq_true_eq] at hl
    obtain ⟨m, rfl⟩ : ∃ m, n = m + 1 := ⟨n - 1, by omega⟩
    simp only [Sct.ok, Bool.and_eq_true, decide_eq_true_eq] at hB
    obtain ⟨⟨⟨hr, hf⟩, hkp⟩, hB'⟩ := hB
    obtain ⟨hS, o, v, ho, hy, hK⟩ := h
    have inv' : HeadInv md ops p listed := by
      rcases inv with h | h
      · exact h
      · simp [Sct.late] at h
    have hr' : k ∈ Region.ready md ops listed := by simpa using hr
    exact wpAnyG_first ho (Region.noSelect_spec hsel) (fun c a w => hQ c a _ _ w) hs hc hn hkp m listed a w inv' (Region.free_spec ho hf) hr' hy hS
      (ih m _ _ _ hl.2 (.inl (inv'.set hr' hkp)) hB' hK)
  | one k r ih =>
    intro n listed a w hl inv hB h
    simp only [Sct.long, Bool.and_eq_true, decide_eq_true_eq] at hl
    obtain ⟨m, rfl⟩ : ∃ m, n = m + 1 := ⟨n - 1, by omega⟩
    simp only [Sct.ok, Bool.and_eq_true, decide_eq_true_eq, Bool.or_eq_true] at hB
    obtain ⟨⟨hr, hd⟩, hB'⟩ := hB
    refine ⟨fun h0 => (by rw [hr] at h0; cases h0), fun i hi => ?_⟩
    have hi' : k ∈ Region.ready md ops listed := by rw [hr]; exact List.mem_singleton.2 rfl
    rw [hr] at hi
    have hik : i = k := by simpa using hi
    subst hik
    refine wpOp_mono (fun a' w' h' => ⟨h'.1, ih m _ _ _ hl.2 ?_ hB' h'.2⟩) h
    rcases inv with inv | inv
    · rcases hd with hd | hd
      · exact .inl (inv.set hi' hd)
      · exact .inr hd
    · exact .inr inv
  | two i r j s ih1 ih2 =>
    intro n listed a w hl inv hB h
    simp only [Sct.long, Bool.and_eq_true, decide_eq_true_eq] at hl
    obtain ⟨m, rfl⟩ : ∃ m, n = m + 1 := ⟨n - 1, by omega⟩
    simp only [Sct.ok, Bool.and_eq_true, decide_eq_true_eq] at hB
    obtain ⟨⟨⟨⟨hr, hip⟩, hjp⟩, hB1⟩, hB2⟩ := hB
    have inv' : HeadInv md ops p listed := by
      rcases inv with h | h
      · exact h
      · simp [Sct.late] at h
    refine ⟨fun h0 => (by rw [hr] at h0; cases h0), fun q hq => ?_⟩
    have hi' : i ∈ Region.ready md ops listed := by rw [hr]; simp
    have hj' : j ∈ Region.ready md ops listed := by rw [hr]; simp
    rw [hr] at hq
    rcases List.mem_cons.1 hq with e | e
    · subst e
      exact wpOp_mono (fun a' w' h' => ⟨fun _ => h'.1, ih1 m _ _ _ hl.1.2 (.inl (inv'.set hi' hip)) hB1 h'.2⟩) h.1
    · have e' : q = j := by simpa using e
      subst e'
      exact wpOp_mono (fun a' w' h' => ⟨fun _ => h'.1, ih2 m _ _ _ hl.2 (.inl (inv'.set hj' hjp)) hB2 h'.2⟩) h.2
  | three i r j s l t ih1 ih2 ih3 =>
    intro n listed a w hl inv hB h
    simp only [Sct.long, Bool.and_eq_true, decide_eq_true_eq] at hl
    obtain ⟨m, rfl⟩ : ∃ m, n = m + 1 := ⟨n - 1, by omega⟩
    simp only [Sct.ok, Bool.and_eq_true, decide_eq_true_eq] at hB
    obtain ⟨⟨⟨⟨⟨⟨hr, hip⟩, hjp⟩, hlp⟩, hB1⟩, hB2⟩, hB3⟩ := hB
    have inv' : HeadInv md ops p listed := by
      rcases inv with h | h
      · exact h
      · simp [Sct.late] at h
    refine ⟨fun h0 => (by rw [hr] at h0; cases h0), fun q hq => ?_⟩
    have hi' : i ∈ Region.ready md ops listed := by rw [hr]; simp
    have hj' : j ∈ Region.ready md ops listed := by rw [hr]; simp
    have hl' : l ∈ Region.ready md ops listed := by rw [hr]; simp
    rw [hr] at hq
    rcases List.mem_cons.1 hq with e | e
    · subst e
      exact wpOp_mono (fun a' w' h' => ⟨fun _ => h'.1, ih1 m _ _ _ hl.1.1.2 (.inl (inv'.set hi' hip)) hB1 h'.2⟩) h.1
    rcases List.mem_cons.1 e with e | e
    · subst e
      exact wpOp_mono (fun a' w' h' => ⟨fun _ => h'.1, ih2 m _ _ _ hl.1.2 (.inl (inv'.set hj' hjp)) hB2 h'.2⟩) h.2.1
    · have e' : q = l := by simpa using e
      subst e'
      exact wpOp_mono (fun a' w' h' => ⟨fun _ => h'.1, ih3 m _ _ _ hl.2 (.inl (inv'.set hl' hlp)) hB3 h'.2⟩) h.2.2
def Sct.okAll (ops : Array Oper) (p : Nat) (t : Sct) : Bool :=
  Region.noSelect ops && decide (p < ops.size) && Region.sinkB .any ops p && Region.chainB .any ops p && t.long ops.size && t.ok .any ops p (Array.replicate ops.size false)
theorem wp_region_sct {id : Nat} {a : Act} {w : World} (S : World → Prop) (p : Nat) (t : Sct) (hm : P.follows .mixedOrders = true) (hB : t.okAll ops p = true) (hS : S w.drew)
    (h : S w.drew → wpSct P ops (OnlyN Q) S p t a w.drew) : (Code.region id ops true).wp P Q a w := by
  simp only [Sct.okAll, Bool.and_eq_true, decide_eq_true_eq] at hB
  obtain ⟨⟨⟨⟨⟨hsel, hn⟩, hs⟩, hc⟩, hlen⟩, hsc⟩ := hB
  have inv0 : HeadInv .any ops p (Array.replicate ops.size false) :=
    ⟨by simp, fun j oj _ hl => (by rw [getD_replicate_false] at hl; cases hl), fun t _ ht => getD_in (by simpa using ht) (getD_replicate_false _ _)⟩
  exact Code.wp_mono OnlyN.imp (wp_region_any hm (wpAny_of_G _ _ _ _ (wpAnyG_sct (md := .any) (S := S) hsel (Q := OnlyN Q) (fun c a d v w h => h) hs hc hn t _ _ a w.drew hlen (.inl inv0) hsc (h hS))))
variable {t u v : Sct} {i j l : Nat}
theorem sct_nil (h : Q .normal a w) : wpSct P ops (OnlyN Q) S p .nil a w := h
theorem sct_firm {o : Oper} {v : Value} (ho : ops.toList[k]? = some o) (hg : o.guard = none) (hS : S w) (h1 : ∀ w, S w → firmAt P o a w v) (h2 : wpSct P ops (OnlyN Q) S p t (a.put o.dst v) w) : wpSct P ops (OnlyN Q) S p (.firm k t) a w :=
  ⟨hS, o, v, (Array.getElem?_toList ▸ ho), .inl ⟨by simp [Region.wanted, hg], fun w hw => (h1 w hw).run⟩, h2⟩
theorem sct_op {o : Oper} {R : Act → World → Prop} (ho : ops.toList[k]? = some o) (hg : o.guard = none) (h : ∀ K : Act → World → Prop, (∀ a' w', R a' w' → K a' w') → o.wp P a w K (OnlyN Q)) : wpOp P ops (OnlyN Q) k R a w := by
  unfold wpOp
  rw [Array.getElem?_toList] at ho
  simp only [ho]
  rw [if_pos (by simp [Region.wanted, hg])]
  exact .inl (h _ fun a' w' hr => hr)
theorem sct_one {o : Oper} (ho : ops.toList[k]? = some o) (hg : o.guard = none) (h : ∀ K : Act → World → Prop, (∀ a' w', (k < p → S w') → wpSct P ops (OnlyN Q) S p t a' w' → K a' w') → o.wp P a w K (OnlyN Q)) : wpSct P ops (OnlyN Q) S p (.one k t) a w :=
  sct_op ho hg fun K hK => h K fun a' w' hS hr => hK a' w' ⟨hS, hr⟩
theorem sct_two {o o' : Oper} (ho : ops.toList[i]? = some o) (hg : o.guard = none) (ho' : ops.toList[j]? = some o') (hg' : o'.guard = none)
    (h : ∀ K : Act → World → Prop, (∀ a' w', S w' → wpSct P ops (OnlyN Q) S p t a' w' → K a' w') → o.wp P a w K (OnlyN Q))
    (h' : ∀ K : Act → World → Prop, (∀ a' w', S w' → wpSct P ops (OnlyN Q) S p u a' w' → K a' w') → o'.wp P a w K (OnlyN Q)) : wpSct P ops (OnlyN Q) S p (.two i t j u) a w :=
  ⟨sct_op ho hg fun K hK => h K fun a' w' hS hr => hK a' w' ⟨hS, hr⟩, sct_op ho' hg' fun K hK => h' K fun a' w' hS hr => hK a' w' ⟨hS, hr⟩⟩
theorem sct_three {o o' o'' : Oper} (ho : ops.toList[i]? = some o) (hg : o.guard = none) (ho' : ops.toList[j]? = some o') (hg' : o'.guard = none) (ho'' : ops.toList[l]? = some o'') (hg'' : o''.guard = none)
    (h : ∀ K : Act → World → Prop, (∀ a' w', S w' → wpSct P ops (OnlyN Q) S p t a' w' → K a' w') → o.wp P a w K (OnlyN Q))
    (h' : ∀ K : Act → World → Prop, (∀ a' w', S w' → wpSct P ops (OnlyN Q) S p u a' w' → K a' w') → o'.wp P a w K (OnlyN Q))
    (h'' : ∀ K : Act → World → Prop, (∀ a' w', S w' → wpSct P ops (OnlyN Q) S p v a' w' → K a' w') → o''.wp P a w K (OnlyN Q)) : wpSct P ops (OnlyN Q) S p (.three i t j u l v) a w :=
  ⟨sct_op ho hg fun K hK => h K fun a' w' hS hr => hK a' w' ⟨hS, hr⟩, sct_op ho' hg' fun K hK => h' K fun a' w' hS hr => hK a' w' ⟨hS, hr⟩, sct_op ho'' hg'' fun K hK => h'' K fun a' w' hS hr => hK a' w' ⟨hS, hr⟩⟩
theorem wp_region_sctW {id : Nat} {a : Act} {w : World} (p : Nat) (t : Sct) (hm : P.follows .mixedOrders = true) (hB : t.okAll ops p = true)
    (h : wpSct P ops (OnlyN Q) (Within w) p t a w.drew) : (Code.region id ops true).wp P Q a w :=
  wp_region_sct (Within w) p t hm hB (Within.refl w).drew fun _ => h
theorem wp_region_sctG {id : Nat} {a : Act} {w : World} (F : World → Prop) (p : Nat) (t : Sct) (hm : P.follows .mixedOrders = true) (hB : t.okAll ops p = true) (hF : F w)
    (h : ∀ w0, F w0 → wpSct P ops (OnlyN Q) (Within w0) p t a w0.drew) : (Code.region id ops true).wp P Q a w := wp_region_sctW p t hm hB (h w hF)
end
end Go.Proofs.YtifgngmebnjfkaaGreatDoor
end

section
namespace Go.Proofs.YtifgngmebnjfkaaGreatDoor
open Go.RowKit
theorem BquoNat (z x y r a b : Nat) (ha : (dg a).length ≤ 400000) (hb : (dg b).length ≤ 400000) (hb0 : b ≠ 0) (hzr : z ≠ r) (w : World) (hz : IntTy w z) (hr : IntTy w r) (hx : IntB w x (a : Int)) (hy : IntB w y (b : Int)) : Calls Tryz.prog 111 #[.pointer (some ⟨z, 0, none⟩), .pointer (some ⟨x, 0, none⟩), .pointer (some ⟨y, 0, none⟩), .pointer (some ⟨r, 0, none⟩)] w (fun e w' => e = .returned (.tuple #[.pointer (some ⟨z, 0, none⟩), .pointer (some ⟨r, 0, none⟩)]) ∧ IntB w' z ((a / b : Nat) : Int) ∧ IntB w' r ((a % b : Nat) : Int) ∧ ∀ W, Within W w → W.heap.size ≤ z → W.heap.size ≤ r → Within W w') := by
  have h := BquoRem z x y r (a : Int) (b : Int) (by rw [Int.natAbs_natCast]; exact ha) (by rw [Int.natAbs_natCast]; exact hb) (by omega) hzr w hz hr hx hy
  have d1 : decide ((a : Int) < 0) = false := decide_eq_false (by omega)
  have d2 : decide ((b : Int) < 0) = false := decide_eq_false (by omega)
  rw [d1, d2, Int.natAbs_natCast, Int.natAbs_natCast] at h
  exact h
set_option maxRecDepth 100000 in
set_option maxHeartbeats 600000 in
theorem Rdiv_nan1 (E1 E2 mode : Int) (b1 b2 : Bool) (g1 g2 : Nat) (k2 : Int) (w : World) : Calls Tryz.prog 73 #[fmS, .agg #[.int .i64 2, .bool b1, .pointer (some ⟨g1, 0, none⟩), .int .i64 E1], .agg #[.int .i64 k2, .bool b2, .pointer (some ⟨g2, 0, none⟩), .int .i64 E2], .int .i64 mode] w (fun e' w' => e' = .returned (.tuple #[.int .u64 (2143289344), .int .i64 0]) ∧ Within w w') := by
  go_enter Tryz.func73, Tryz.ntmps73
  go_wp2_with fail
  refine (RnoneS _).mono ?_; rintro e1 w1 ⟨rfl, hb1⟩
  go_wp2
  go_ret2
  exact ⟨rfl, (by repeat (with_reducible first | exact Within.refl _ | assumption | refine Within.alloc ?_ _ | refine Within.drew ?_ | refine Within.drewN ?_ _ | refine Within.setCell ?_ (by first | (simp; done) | (simp; omega)) _ | refine Within.trans ?_ (by assumption)))⟩
set_option maxRecDepth 100000 in
set_option maxHeartbeats 600000 in
theorem Rdiv_nan2 (E1 E2 mode : Int) (b1 b2 : Bool) (g1 g2 : Nat) (k1 : Int) (h1 : (k1 == 2) = false) (w : World) : Calls Tryz.prog 73 #[fmS, .agg #[.int .i64 k1, .bool b1, .pointer (some ⟨g1, 0, none⟩), .int .i64 E1], .agg #[.int .i64 2, .bool b2, .pointer (some ⟨g2, 0, none⟩), .int .i64 E2], .int .i64 mode] w (fun e' w' => e' = .returned (.tuple #[.int .u64 (2143289344), .int .i64 0]) ∧ Within w w') := by
  go_enter Tryz.func73, Tryz.ntmps73
  go_wp2_with fail
  refine (RnoneS _).mono ?_; rintro e1 w1 ⟨rfl, hb1⟩
  go_wp2
  go_ret2
  exact ⟨rfl, (by repeat (with_reducible first | exact Within.refl _ | assumption | refine Within.alloc ?_ _ | refine Within.drew ?_ | refine Within.drewN ?_ _ | refine Within.setCell ?_ (by first | (simp; done) | (simp; omega)) _ | refine Within.trans ?_ (by assumption)))⟩
set_option maxRecDepth 100000 in
set_option maxHeartbeats 600000 in
theorem Rdiv_inv11 (E1 E2 mode : Int) (b1 b2 : Bool) (g1 g2 : Nat) (w : World) : Calls Tryz.prog 73 #[fmS, .agg #[.int .i64 1, .bool b1, .pointer (some ⟨g1, 0, none⟩), .int .i64 E1], .agg #[.int .i64 1, .bool b2, .pointer (some ⟨g2, 0, none⟩), .int .i64 E2], .int .i64 mode] w (fun e' w' => e' = .returned (.tuple #[.int .u64 (2143289344), .int .i64 8]) ∧ Within w w') := by
  go_enter Tryz.func73, Tryz.ntmps73
  go_wp2_with fail
  refine (RnoneS _).mono ?_; rintro e1 w1 ⟨rfl, hb1⟩
  go_wp2
  go_ret2
  exact ⟨rfl, (by repeat (with_reducible first | exact Within.refl _ | assumption | refine Within.alloc ?_ _ | refine Within.drew ?_ | refine Within.drewN ?_ _ | refine Within.setCell ?_ (by first | (simp; done) | (simp; omega)) _ | refine Within.trans ?_ (by assumption)))⟩
set_option maxRecDepth 100000 in
set_option maxHeartbeats 600000 in
theorem Rdiv_inv00 (E1 E2 mode : Int) (b1 b2 : Bool) (g1 g2 : Nat) (M1 M2 : Nat) (hm1 : (M1 : Int) = 0) (hm2 : (M2 : Int) = 0) (w : World) (hI1 : IntB w g1 (M1 : Int)) (hI2 : IntB w g2 (M2 : Int)) : Calls Tryz.prog 73 #[fmS, .agg #[.int .i64 0, .bool b1, .pointer (some ⟨g1, 0, none⟩), .int .i64 E1], .agg #[.int .i64 0, .bool b2, .pointer (some ⟨g2, 0, none⟩), .int .i64 E2], .int .i64 mode] w (fun e' w' => e' = .returned (.tuple #[.int .u64 (2143289344), .int .i64 8]) ∧ Within w w') := by
  go_enter Tryz.func73, Tryz.ntmps73
  go_wp2_with fail
  refine (Riszero_zero 0 E1 (M1 : Int) b1 g1 rfl hm1 _ (by repeat (with_reducible first | assumption | exact ib_new _ _ (by simp; done) | refine IntB.alloc ?_ _ | refine IntB.drew ?_ | refine IntB.drewN ?_ _))).mono ?_; rintro e1 w1 ⟨rfl, hb1⟩
  have hI1 : IntB w1 g1 (M1 : Int) := IntB.of (by repeat (with_reducible first | assumption | exact ib_new _ _ (by simp; done) | refine IntB.alloc ?_ _ | refine IntB.drew ?_ | refine IntB.drewN ?_ _)) hb1
  have hI2 : IntB w1 g2 (M2 : Int) := IntB.of (by repeat (with_reducible first | assumption | exact ib_new _ _ (by simp; done) | refine IntB.alloc ?_ _ | refine IntB.drew ?_ | refine IntB.drewN ?_ _)) hb1
  have B1 := Lib.hid (Bx2.mk hb1)
  obtain ⟨q1_0, q1_1, q1_2, q1_3, q1_4, q1_5, q1_6, q1_7, q1_8, q1_9, q1_10, q1_11, z1_0, z1_1, z1_2⟩ := B1.out
  go_wp2_with fail
  refine (Riszero_zero 0 E2 (M2 : Int) b2 g2 rfl hm2 _ (by repeat (with_reducible first | assumption | exact ib_new _ _ (by simp; done) | refine IntB.alloc ?_ _ | refine IntB.drew ?_ | refine IntB.drewN ?_ _))).mono ?_; rintro e2 w2 ⟨rfl, hb2⟩
  have hI1 : IntB w2 g1 (M1 : Int) := IntB.of (by repeat (with_reducible first | assumption | exact ib_new _ _ (by simp; done) | refine IntB.alloc ?_ _ | refine IntB.drew ?_ | refine IntB.drewN ?_ _)) hb2
  have hI2 : IntB w2 g2 (M2 : Int) := IntB.of (by repeat (with_reducible first | assumption | exact ib_new _ _ (by simp; done) | refine IntB.alloc ?_ _ | refine IntB.drew ?_ | refine IntB.drewN ?_ _)) hb2
  have B2 := Lib.hid (B1.out.of hb2)
  obtain ⟨q2_0, q2_1, q2_2, q2_3, q2_4, q2_5, q2_6, q2_7, q2_8, q2_9, q2_10, q2_11, z2_0, z2_1, z2_2⟩ := B2.out
  go_wp2_with fail
  refine (RnoneS _).mono ?_; rintro e3 w3 ⟨rfl, hb3⟩
  go_wp2
  go_ret2
  exact ⟨rfl, (by repeat (with_reducible first | exact Within.refl _ | assumption | refine Within.alloc ?_ _ | refine Within.drew ?_ | refine Within.drewN ?_ _ | refine Within.setCell ?_ (by first | (simp; done) | (simp; omega)) _ | refine Within.trans ?_ (by assumption)))⟩
set_option maxRecDepth 100000 in
set_option maxHeartbeats 600000 in
theorem Rdiv_inf10 (E1 E2 mode : Int) (b1 b2 : Bool) (g1 g2 : Nat) (M1 M2 : Nat) (w : World) (hI1 : IntB w g1 (M1 : Int)) (hI2 : IntB w g2 (M2 : Int)) : Calls Tryz.prog 73 #[fmS, .agg #[.int .i64 1, .bool b1, .pointer (some ⟨g1, 0, none⟩), .int .i64 E1], .agg #[.int .i64 0, .bool b2, .pointer (some ⟨g2, 0, none⟩), .int .i64 E2], .int .i64 mode] w (fun e' w' => e' = .returned (.tuple #[.int .u64 ((2139095040 + nghtS (!(b1 == b2)) : Nat)), .int .i64 0]) ∧ Within w w') := by
  go_enter Tryz.func73, Tryz.ntmps73
  go_wp2_with fail
  refine (Riszero_no 1 E1 (M1 : Int) b1 g1 rfl _ (by repeat (with_reducible first | assumption | exact ib_new _ _ (by simp; done) | refine IntB.alloc ?_ _ | refine IntB.drew ?_ | refine IntB.drewN ?_ _))).mono ?_; rintro e1 w1 ⟨rfl, hb1⟩
  have hI1 : IntB w1 g1 (M1 : Int) := IntB.of (by repeat (with_reducible first | assumption | exact ib_new _ _ (by simp; done) | refine IntB.alloc ?_ _ | refine IntB.drew ?_ | refine IntB.drewN ?_ _)) hb1
  have hI2 : IntB w1 g2 (M2 : Int) := IntB.of (by repeat (with_reducible first | assumption | exact ib_new _ _ (by simp; done) | refine IntB.alloc ?_ _ | refine IntB.drew ?_ | refine IntB.drewN ?_ _)) hb1
  have B1 := Lib.hid (Bx2.mk hb1)
  obtain ⟨q1_0, q1_1, q1_2, q1_3, q1_4, q1_5, q1_6, q1_7, q1_8, q1_9, q1_10, q1_11, z1_0, z1_1, z1_2⟩ := B1.out
  go_wp2_with fail
  refine (RinfinityS (!(b1 == b2)) _).mono ?_; rintro e2 w2 ⟨rfl, hb2⟩
  go_wp2
  go_ret2
  exact ⟨rfl, (by repeat (with_reducible first | exact Within.refl _ | assumption | refine Within.alloc ?_ _ | refine Within.drew ?_ | refine Within.drewN ?_ _ | refine Within.setCell ?_ (by first | (simp; done) | (simp; omega)) _ | refine Within.trans ?_ (by assumption)))⟩
set_option maxRecDepth 100000 in
set_option maxHeartbeats 600000 in
theorem Rdiv_by0 (E1 E2 mode : Int) (b1 b2 : Bool) (g1 g2 : Nat) (M1 M2 : Nat) (hm1 : (M1 : Int) ≠ 0) (hm2 : (M2 : Int) = 0) (w : World) (hI1 : IntB w g1 (M1 : Int)) (hI2 : IntB w g2 (M2 : Int)) : Calls Tryz.prog 73 #[fmS, .agg #[.int .i64 0, .bool b1, .pointer (some ⟨g1, 0, none⟩), .int .i64 E1], .agg #[.int .i64 0, .bool b2, .pointer (some ⟨g2, 0, none⟩), .int .i64 E2], .int .i64 mode] w (fun e' w' => e' = .returned (.tuple #[.int .u64 ((2139095040 + nghtS (!(b1 == b2)) : Nat)), .int .i64 16]) ∧ Within w w') := by
  go_enter Tryz.func73, Tryz.ntmps73
  go_wp2_with fail
  refine (Riszero_some 0 E1 (M1 : Int) b1 g1 rfl hm1 _ (by repeat (with_reducible first | assumption | exact ib_new _ _ (by simp; done) | refine IntB.alloc ?_ _ | refine IntB.drew ?_ | refine IntB.drewN ?_ _))).mono ?_; rintro e1 w1 ⟨rfl, hb1⟩
  have hI1 : IntB w1 g1 (M1 : Int) := IntB.of (by repeat (with_reducible first | assumption | exact ib_new _ _ (by simp; done) | refine IntB.alloc ?_ _ | refine IntB.drew ?_ | refine IntB.drewN ?_ _)) hb1
  have hI2 : IntB w1 g2 (M2 : Int) := IntB.of (by repeat (with_reducible first | assumption | exact ib_new _ _ (by simp; done) | refine IntB.alloc ?_ _ | refine IntB.drew ?_ | refine IntB.drewN ?_ _)) hb1
  have B1 := Lib.hid (Bx2.mk hb1)
  obtain ⟨q1_0, q1_1, q1_2, q1_3, q1_4, q1_5, q1_6, q1_7, q1_8, q1_9, q1_10, q1_11, z1_0, z1_1, z1_2⟩ := B1.out
  go_wp2_with fail
  refine (Riszero_zero 0 E2 (M2 : Int) b2 g2 rfl hm2 _ (by repeat (with_reducible first | assumption | exact ib_new _ _ (by simp; done) | refine IntB.alloc ?_ _ | refine IntB.drew ?_ | refine IntB.drewN ?_ _))).mono ?_; rintro e2 w2 ⟨rfl, hb2⟩
  have hI1 : IntB w2 g1 (M1 : Int) := IntB.of (by repeat (with_reducible first | assumption | exact ib_new _ _ (by simp; done) | refine IntB.alloc ?_ _ | refine IntB.drew ?_ | refine IntB.drewN ?_ _)) hb2
  have hI2 : IntB w2 g2 (M2 : Int) := IntB.of (by repeat (with_reducible first | assumption | exact ib_new _ _ (by simp; done) | refine IntB.alloc ?_ _ | refine IntB.drew ?_ | refine IntB.drewN ?_ _)) hb2
  have B2 := Lib.hid (B1.out.of hb2)
  obtain ⟨q2_0, q2_1, q2_2, q2_3, q2_4, q2_5, q2_6, q2_7, q2_8, q2_9, q2_10, q2_11, z2_0, z2_1, z2_2⟩ := B2.out
  go_wp2_with fail
  refine (RinfinityS (!(b1 == b2)) _).mono ?_; rintro e3 w3 ⟨rfl, hb3⟩
  go_wp2
  go_ret2
  exact ⟨rfl, (by repeat (with_reducible first | exact Within.refl _ | assumption | refine Within.alloc ?_ _ | refine Within.drew ?_ | refine Within.drewN ?_ _ | refine Within.setCell ?_ (by first | (simp; done) | (simp; omega)) _ | refine Within.trans ?_ (by assumption)))⟩
set_option maxRecDepth 100000 in
set_option maxHeartbeats 600000 in
theorem Rdiv_zinf (E1 E2 mode : Int) (b1 b2 : Bool) (g1 g2 : Nat) (M1 M2 : Nat) (hm1 : (M1 : Int) = 0) (w : World) (hI1 : IntB w g1 (M1 : Int)) (hI2 : IntB w g2 (M2 : Int)) : Calls Tryz.prog 73 #[fmS, .agg #[.int .i64 0, .bool b1, .pointer (some ⟨g1, 0, none⟩), .int .i64 E1], .agg #[.int .i64 1, .bool b2, .pointer (some ⟨g2, 0, none⟩), .int .i64 E2], .int .i64 mode] w (fun e' w' => e' = .returned (.tuple #[.int .u64 ((nghtS (!(b1 == b2)) : Nat)), .int .i64 0]) ∧ Within w w') := by
  go_enter Tryz.func73, Tryz.ntmps73
  go_wp2_with fail
  refine (Riszero_zero 0 E1 (M1 : Int) b1 g1 rfl hm1 _ (by repeat (with_reducible first | assumption | exact ib_new _ _ (by simp; done) | refine IntB.alloc ?_ _ | refine IntB.drew ?_ | refine IntB.drewN ?_ _))).mono ?_; rintro e1 w1 ⟨rfl, hb1⟩
  have hI1 : IntB w1 g1 (M1 : Int) := IntB.of (by repeat (with_reducible first | assumption | exact ib_new _ _ (by simp; done) | refine IntB.alloc ?_ _ | refine IntB.drew ?_ | refine IntB.drewN ?_ _)) hb1
  have hI2 : IntB w1 g2 (M2 : Int) := IntB.of (by repeat (with_reducible first | assumption | exact ib_new _ _ (by simp; done) | refine IntB.alloc ?_ _ | refine IntB.drew ?_ | refine IntB.drewN ?_ _)) hb1
  have B1 := Lib.hid (Bx2.mk hb1)
  obtain ⟨q1_0, q1_1, q1_2, q1_3, q1_4, q1_5, q1_6, q1_7, q1_8, q1_9, q1_10, q1_11, z1_0, z1_1, z1_2⟩ := B1.out
  go_wp2_with fail
  refine (Riszero_no 1 E2 (M2 : Int) b2 g2 rfl _ (by repeat (with_reducible first | assumption | exact ib_new _ _ (by simp; done) | refine IntB.alloc ?_ _ | refine IntB.drew ?_ | refine IntB.drewN ?_ _))).mono ?_; rintro e2 w2 ⟨rfl, hb2⟩
  have hI1 : IntB w2 g1 (M1 : Int) := IntB.of (by repeat (with_reducible first | assumption | exact ib_new _ _ (by simp; done) | refine IntB.alloc ?_ _ | refine IntB.drew ?_ | refine IntB.drewN ?_ _)) hb2
  have hI2 : IntB w2 g2 (M2 : Int) := IntB.of (by repeat (with_reducible first | assumption | exact ib_new _ _ (by simp; done) | refine IntB.alloc ?_ _ | refine IntB.drew ?_ | refine IntB.drewN ?_ _)) hb2
  have B2 := Lib.hid (B1.out.of hb2)
  obtain ⟨q2_0, q2_1, q2_2, q2_3, q2_4, q2_5, q2_6, q2_7, q2_8, q2_9, q2_10, q2_11, z2_0, z2_1, z2_2⟩ := B2.out
  go_wp2_with fail
  refine (Riszero_no 1 E2 (M2 : Int) b2 g2 rfl _ (by repeat (with_reducible first | assumption | exact ib_new _ _ (by simp; done) | refine IntB.alloc ?_ _ | refine IntB.drew ?_ | refine IntB.drewN ?_ _))).mono ?_; rintro e3 w3 ⟨rfl, hb3⟩
  have hI1 : IntB w3 g1 (M1 : Int) := IntB.of (by repeat (with_reducible first | assumption | exact ib_new _ _ (by simp; done) | refine IntB.alloc ?_ _ | refine IntB.drew ?_ | refine IntB.drewN ?_ _)) hb3
  have hI2 : IntB w3 g2 (M2 : Int) := IntB.of (by repeat (with_reducible first | assumption | exact ib_new _ _ (by simp; done) | refine IntB.alloc ?_ _ | refine IntB.drew ?_ | refine IntB.drewN ?_ _)) hb3
  have B3 := Lib.hid (B2.out.of hb3)
  obtain ⟨q3_0, q3_1, q3_2, q3_3, q3_4, q3_5, q3_6, q3_7, q3_8, q3_9, q3_10, q3_11, z3_0, z3_1, z3_2⟩ := B3.out
  go_wp2_with fail
  refine (RnoughtS (!(b1 == b2)) _).mono ?_; rintro e4 w4 ⟨rfl, hb4⟩
  go_wp2
  go_ret2
  exact ⟨rfl, (by repeat (with_reducible first | exact Within.refl _ | assumption | refine Within.alloc ?_ _ | refine Within.drew ?_ | refine Within.drewN ?_ _ | refine Within.setCell ?_ (by first | (simp; done) | (simp; omega)) _ | refine Within.trans ?_ (by assumption)))⟩
set_option maxRecDepth 100000 in
set_option maxHeartbeats 600000 in
theorem Rdiv_ninf (E1 E2 mode : Int) (b1 b2 : Bool) (g1 g2 : Nat) (M1 M2 : Nat) (hm1 : (M1 : Int) ≠ 0) (w : World) (hI1 : IntB w g1 (M1 : Int)) (hI2 : IntB w g2 (M2 : Int)) : Calls Tryz.prog 73 #[fmS, .agg #[.int .i64 0, .bool b1, .pointer (some ⟨g1, 0, none⟩), .int .i64 E1], .agg #[.int .i64 1, .bool b2, .pointer (some ⟨g2, 0, none⟩), .int .i64 E2], .int .i64 mode] w (fun e' w' => e' = .returned (.tuple #[.int .u64 ((nghtS (!(b1 == b2)) : Nat)), .int .i64 0]) ∧ Within w w') := by
  go_enter Tryz.func73, Tryz.ntmps73
  go_wp2_with fail
  refine (Riszero_some 0 E1 (M1 : Int) b1 g1 rfl hm1 _ (by repeat (with_reducible first | assumption | exact ib_new _ _ (by simp; done) | refine IntB.alloc ?_ _ | refine IntB.drew ?_ | refine IntB.drewN ?_ _))).mono ?_; rintro e1 w1 ⟨rfl, hb1⟩
  have hI1 : IntB w1 g1 (M1 : Int) := IntB.of (by repeat (with_reducible first | assumption | exact ib_new _ _ (by simp; done) | refine IntB.alloc ?_ _ | refine IntB.drew ?_ | refine IntB.drewN ?_ _)) hb1
  have hI2 : IntB w1 g2 (M2 : Int) := IntB.of (by repeat (with_reducible first | assumption | exact ib_new _ _ (by simp; done) | refine IntB.alloc ?_ _ | refine IntB.drew ?_ | refine IntB.drewN ?_ _)) hb1
  have B1 := Lib.hid (Bx2.mk hb1)
  obtain ⟨q1_0, q1_1, q1_2, q1_3, q1_4, q1_5, q1_6, q1_7, q1_8, q1_9, q1_10, q1_11, z1_0, z1_1, z1_2⟩ := B1.out
  go_wp2_with fail
  refine (Riszero_no 1 E2 (M2 : Int) b2 g2 rfl _ (by repeat (with_reducible first | assumption | exact ib_new _ _ (by simp; done) | refine IntB.alloc ?_ _ | refine IntB.drew ?_ | refine IntB.drewN ?_ _))).mono ?_; rintro e2 w2 ⟨rfl, hb2⟩
  have hI1 : IntB w2 g1 (M1 : Int) := IntB.of (by repeat (with_reducible first | assumption | exact ib_new _ _ (by simp; done) | refine IntB.alloc ?_ _ | refine IntB.drew ?_ | refine IntB.drewN ?_ _)) hb2
  have hI2 : IntB w2 g2 (M2 : Int) := IntB.of (by repeat (with_reducible first | assumption | exact ib_new _ _ (by simp; done) | refine IntB.alloc ?_ _ | refine IntB.drew ?_ | refine IntB.drewN ?_ _)) hb2
  have B2 := Lib.hid (B1.out.of hb2)
  obtain ⟨q2_0, q2_1, q2_2, q2_3, q2_4, q2_5, q2_6, q2_7, q2_8, q2_9, q2_10, q2_11, z2_0, z2_1, z2_2⟩ := B2.out
  go_wp2_with fail
  refine (RnoughtS (!(b1 == b2)) _).mono ?_; rintro e3 w3 ⟨rfl, hb3⟩
  go_wp2
  go_ret2
  exact ⟨rfl, (by repeat (with_reducible first | exact Within.refl _ | assumption | refine Within.alloc ?_ _ | refine Within.drew ?_ | refine Within.drewN ?_ _ | refine Within.setCell ?_ (by first | (simp; done) | (simp; omega)) _ | refine Within.trans ?_ (by assumption)))⟩
set_option maxRecDepth 100000 in
set_option maxHeartbeats 600000 in
theorem Rdiv_zero (E1 E2 mode : Int) (b1 b2 : Bool) (g1 g2 : Nat) (M1 M2 : Nat) (hm1 : (M1 : Int) = 0) (hm2 : (M2 : Int) ≠ 0) (w : World) (hI1 : IntB w g1 (M1 : Int)) (hI2 : IntB w g2 (M2 : Int)) : Calls Tryz.prog 73 #[fmS, .agg #[.int .i64 0, .bool b1, .pointer (some ⟨g1, 0, none⟩), .int .i64 E1], .agg #[.int .i64 0, .bool b2, .pointer (some ⟨g2, 0, none⟩), .int .i64 E2], .int .i64 mode] w (fun e' w' => e' = .returned (.tuple #[.int .u64 ((nghtS (!(b1 == b2)) : Nat)), .int .i64 0]) ∧ Within w w') := by
  go_enter Tryz.func73, Tryz.ntmps73
  go_wp2_with fail
  refine (Riszero_zero 0 E1 (M1 : Int) b1 g1 rfl hm1 _ (by repeat (with_reducible first | assumption | exact ib_new _ _ (by simp; done) | refine IntB.alloc ?_ _ | refine IntB.drew ?_ | refine IntB.drewN ?_ _))).mono ?_; rintro e1 w1 ⟨rfl, hb1⟩
  have hI1 : IntB w1 g1 (M1 : Int) := IntB.of (by repeat (with_reducible first | assumption | exact ib_new _ _ (by simp; done) | refine IntB.alloc ?_ _ | refine IntB.drew ?_ | refine IntB.drewN ?_ _)) hb1
  have hI2 : IntB w1 g2 (M2 : Int) := IntB.of (by repeat (with_reducible first | assumption | exact ib_new _ _ (by simp; done) | refine IntB.alloc ?_ _ | refine IntB.drew ?_ | refine IntB.drewN ?_ _)) hb1
  have B1 := Lib.hid (Bx2.mk hb1)
  obtain ⟨q1_0, q1_1, q1_2, q1_3, q1_4, q1_5, q1_6, q1_7, q1_8, q1_9, q1_10, q1_11, z1_0, z1_1, z1_2⟩ := B1.out
  go_wp2_with fail
  refine (Riszero_some 0 E2 (M2 : Int) b2 g2 rfl hm2 _ (by repeat (with_reducible first | assumption | exact ib_new _ _ (by simp; done) | refine IntB.alloc ?_ _ | refine IntB.drew ?_ | refine IntB.drewN ?_ _))).mono ?_; rintro e2 w2 ⟨rfl, hb2⟩
  have hI1 : IntB w2 g1 (M1 : Int) := IntB.of (by repeat (with_reducible first | assumption | exact ib_new _ _ (by simp; done) | refine IntB.alloc ?_ _ | refine IntB.drew ?_ | refine IntB.drewN ?_ _)) hb2
  have hI2 : IntB w2 g2 (M2 : Int) := IntB.of (by repeat (with_reducible first | assumption | exact ib_new _ _ (by simp; done) | refine IntB.alloc ?_ _ | refine IntB.drew ?_ | refine IntB.drewN ?_ _)) hb2
  have B2 := Lib.hid (B1.out.of hb2)
  obtain ⟨q2_0, q2_1, q2_2, q2_3, q2_4, q2_5, q2_6, q2_7, q2_8, q2_9, q2_10, q2_11, z2_0, z2_1, z2_2⟩ := B2.out
  go_wp2_with fail
  refine (Riszero_some 0 E2 (M2 : Int) b2 g2 rfl hm2 _ (by repeat (with_reducible first | assumption | exact ib_new _ _ (by simp; done) | refine IntB.alloc ?_ _ | refine IntB.drew ?_ | refine IntB.drewN ?_ _))).mono ?_; rintro e3 w3 ⟨rfl, hb3⟩
  have hI1 : IntB w3 g1 (M1 : Int) := IntB.of (by repeat (with_reducible first | assumption | exact ib_new _ _ (by simp; done) | refine IntB.alloc ?_ _ | refine IntB.drew ?_ | refine IntB.drewN ?_ _)) hb3
  have hI2 : IntB w3 g2 (M2 : Int) := IntB.of (by repeat (with_reducible first | assumption | exact ib_new _ _ (by simp; done) | refine IntB.alloc ?_ _ | refine IntB.drew ?_ | refine IntB.drewN ?_ _)) hb3
  have B3 := Lib.hid (B2.out.of hb3)
  obtain ⟨q3_0, q3_1, q3_2, q3_3, q3_4, q3_5, q3_6, q3_7, q3_8, q3_9, q3_10, q3_11, z3_0, z3_1, z3_2⟩ := B3.out
  go_wp2_with fail
  refine (Riszero_zero 0 E1 (M1 : Int) b1 g1 rfl hm1 _ (by repeat (with_reducible first | assumption | exact ib_new _ _ (by simp; done) | refine IntB.alloc ?_ _ | refine IntB.drew ?_ | refine IntB.drewN ?_ _))).mono ?_; rintro e4 w4 ⟨rfl, hb4⟩
  have hI1 : IntB w4 g1 (M1 : Int) := IntB.of (by repeat (with_reducible first | assumption | exact ib_new _ _ (by simp; done) | refine IntB.alloc ?_ _ | refine IntB.drew ?_ | refine IntB.drewN ?_ _)) hb4
  have hI2 : IntB w4 g2 (M2 : Int) := IntB.of (by repeat (with_reducible first | assumption | exact ib_new _ _ (by simp; done) | refine IntB.alloc ?_ _ | refine IntB.drew ?_ | refine IntB.drewN ?_ _)) hb4
  have B4 := Lib.hid (B3.out.of hb4)
  obtain ⟨q4_0, q4_1, q4_2, q4_3, q4_4, q4_5, q4_6, q4_7, q4_8, q4_9, q4_10, q4_11, z4_0, z4_1, z4_2⟩ := B4.out
  go_wp2_with fail
  refine (RnoughtS (!(b1 == b2)) _).mono ?_; rintro e5 w5 ⟨rfl, hb5⟩
  go_wp2
  go_ret2
  exact ⟨rfl, (by repeat (with_reducible first | exact Within.refl _ | assumption | refine Within.alloc ?_ _ | refine Within.drew ?_ | refine Within.drewN ?_ _ | refine Within.setCell ?_ (by first | (simp; done) | (simp; omega)) _ | refine Within.trans ?_ (by assumption)))⟩
theorem wp_new_int {o : Oper} {a : Act} {w : World} {K : Act → World → Prop} {Q : Exit → Act → World → Prop} (ho : o.op = .alloc 91)
    (h : ∀ z w', IntTy w' z → Within w w' → w.heap.size ≤ z → K (a.put o.dst (.pointer (some ⟨z, 0, none⟩))) w') : o.wp Tryz.prog a w K Q := by
  have h1 := h w.heap.size (w.alloc (.cells #[.bool false, .slice none 0 0] 91)) (IntB.made w).ty ((Within.refl w).alloc _) (Nat.le_refl _)
  unfold Oper.wp execOp
  rw [ho]
  go_simp
  exact h1
theorem ty_grown {w w' : World} {z y : Nat} (h : IntTy w z) (k : w.grownBy w' (some y)) (hne : z ≠ y) : IntTy w' z := by
  have hl := h.lt
  obtain ⟨b, s, hb⟩ := h
  exact ⟨b, s, (k.block _ hl (fun e => hne (by injection e))).trans hb⟩
set_option maxRecDepth 100000 in
set_option maxHeartbeats 600000 in
theorem Rdiv_main (E1 E2 mode : Int) (b1 b2 : Bool) (g1 g2 : Nat) (M1 M2 : Nat)  (h1 : -5000 ≤ E1 ∧ E1 ≤ 5000) (h2 : -5000 ≤ E2 ∧ E2 ≤ 5000) (l1 : (dg M1).length ≤ 400) (l2 : (dg M2).length ≤ 400) (hm0 : M2 ≠ 0) (hq : M1 * 2 ^ (140 : Nat) / M2 ≠ 0) (hm1 : (M1 : Int) ≠ 0) (hm2 : (M2 : Int) ≠ 0) (w : World) (hI1 : IntB w g1 (M1 : Int)) (hI2 : IntB w g2 (M2 : Int)) : Calls Tryz.prog 73 #[fmS, .agg #[.int .i64 0, .bool b1, .pointer (some ⟨g1, 0, none⟩), .int .i64 E1], .agg #[.int .i64 0, .bool b2, .pointer (some ⟨g2, 0, none⟩), .int .i64 E2], .int .i64 mode] w (fun e' w' => e' = .returned (.tuple #[.int .u64 ((gWord 24 (-149) 127 2139095039 2139095040 8388608 2147483648 (b1 != b2) (M1 * 2 ^ (140 : Nat) / M2) (E1 - E2 - 140) (M1 * 2 ^ (140 : Nat) % M2 != 0) mode : Nat)), .int .i64 (gFlags 24 (-149) 127 (b1 != b2) (M1 * 2 ^ (140 : Nat) / M2) (E1 - E2 - 140) (M1 * 2 ^ (140 : Nat) % M2 != 0) mode)]) ∧ Within w w') := by
  obtain ⟨V, hV⟩ : ∃ V, V = M1 * 2 ^ (140 : Nat) := ⟨_, rfl⟩
  have hVi : (M1 : Int) * 2 ^ (140 : Nat) = (V : Int) := by rw [hV]; simp
  have hVl : (dg V).length ≤ 405 := by rw [hV]; exact dg_shl_le (k := 5) l1 (by decide)
  have BL := Lib.hid (fun (z : Nat) (w : World) (hz : IntTy w z) (hx : IntB w g1 (M1 : Int)) => (show Calls Tryz.prog 60 #[.pointer (some ⟨z, 0, none⟩), .pointer (some ⟨g1, 0, none⟩), .int .u64 140] w (PutI w z ((M1 : Int) * 2 ^ (140 : Nat))) from Blsh z g1 140 (M1 : Int) (by rw [Int.natAbs_natCast]; omega) (by decide) w hz hx))
  rw [hVi] at BL
  rw [← hV]
  have QN := Lib.hid (fun (z x r : Nat) (w : World) (hzr : z ≠ r) (hz : IntTy w z) (hr : IntTy w r) (hx : IntB w x (V : Int)) (hy : IntB w g2 (M2 : Int)) => BquoNat z x g2 r V M2 (by omega) (by omega) hm0 hzr w hz hr hx hy)
  have hql : (dg (V / M2)).length ≤ 900 := Nat.le_trans (dg_len_mono (Nat.div_le_self _ _)) (by omega)
  obtain ⟨Q, hQe⟩ : ∃ Q, Q = V / M2 := ⟨_, rfl⟩
  obtain ⟨RR, hRe⟩ : ∃ R, R = V % M2 := ⟨_, rfl⟩
  have hq0 : Q ≠ 0 := by rw [hQe, hV]; exact hq
  rw [← hQe] at QN hql ⊢
  rw [← hRe] at QN ⊢
  have RO := Lib.hid (fun (z : Nat) (w : World) (hI : IntB w z (Q : Int)) => RroundS (b1 != b2) (RR != 0) z Q (E1 - E2 - 140) mode (by omega) hql hq0 w hI)
  have SG := Lib.hid (fun (z : Nat) (w : World) (hI : IntB w z (RR : Int)) => Bsign z (RR : Int) w hI)
  have dmore : ((RR : Int).sign != 0) = (RR != 0) := by rw [Bool.eq_iff_iff, bne_iff_ne, bne_iff_ne, ne_eq, Int.sign_eq_zero_iff_zero]; omega
  have wE1 : IntKind.i64.wrap (E1 - E2) = E1 - E2 := IntWalk.i64_in _ ⟨by omega, by omega⟩
  have wE2 : IntKind.i64.wrap (E1 - E2 - 140) = E1 - E2 - 140 := IntWalk.i64_in _ ⟨by omega, by omega⟩
  obtain ⟨mr, hmr⟩ : ∃ b, b = (RR != 0) := ⟨_, rfl⟩
  rw [← hmr] at RO dmore ⊢
  obtain ⟨sg_, hsg⟩ : ∃ s, s = (RR : Int).sign := ⟨_, rfl⟩
  rw [← hsg] at SG dmore
  obtain ⟨ngg, hng⟩ : ∃ b, b = (b1 != b2) := ⟨_, rfl⟩
  have hng2 : (!(b1 == b2)) = ngg := by rw [hng]; cases b1 <;> cases b2 <;> rfl
  rw [← hng] at RO ⊢
  generalize gWord 24 (-149) 127 2139095039 2139095040 8388608 2147483648 ngg Q (E1 - E2 - 140) mr mode = WW at *
  generalize gFlags 24 (-149) 127 ngg Q (E1 - E2 - 140) mr mode = FF at *
  clear hV hVi hVl hql hq0 hQe hRe hmr hsg hng h1 h2 l1 l2 hm0 hq
  go_enter Tryz.func73, Tryz.ntmps73
  go_wp2_with fail
  refine (Riszero_some 0 E1 (M1 : Int) b1 g1 rfl hm1 _ (by repeat (with_reducible first | assumption | exact ib_new _ _ (by simp; done) | refine IntB.alloc ?_ _ | refine IntB.drew ?_ | refine IntB.drewN ?_ _))).mono ?_; rintro e1 w1 ⟨rfl, hb1⟩
  have hI1 : IntB w1 g1 (M1 : Int) := IntB.of (by repeat (with_reducible first | assumption | exact ib_new _ _ (by simp; done) | refine IntB.alloc ?_ _ | refine IntB.drew ?_ | refine IntB.drewN ?_ _)) hb1
  have hI2 : IntB w1 g2 (M2 : Int) := IntB.of (by repeat (with_reducible first | assumption | exact ib_new _ _ (by simp; done) | refine IntB.alloc ?_ _ | refine IntB.drew ?_ | refine IntB.drewN ?_ _)) hb1
  have B1 := Lib.hid (Bx2.mk hb1)
  obtain ⟨q1_0, q1_1, q1_2, q1_3, q1_4, q1_5, q1_6, q1_7, q1_8, q1_9, q1_10, q1_11, z1_0, z1_1, z1_2⟩ := B1.out
  go_wp2_with fail
  refine (Riszero_some 0 E2 (M2 : Int) b2 g2 rfl hm2 _ (by repeat (with_reducible first | assumption | exact ib_new _ _ (by simp; done) | refine IntB.alloc ?_ _ | refine IntB.drew ?_ | refine IntB.drewN ?_ _))).mono ?_; rintro e2 w2 ⟨rfl, hb2⟩
  have hI1 : IntB w2 g1 (M1 : Int) := IntB.of (by repeat (with_reducible first | assumption | exact ib_new _ _ (by simp; done) | refine IntB.alloc ?_ _ | refine IntB.drew ?_ | refine IntB.drewN ?_ _)) hb2
  have hI2 : IntB w2 g2 (M2 : Int) := IntB.of (by repeat (with_reducible first | assumption | exact ib_new _ _ (by simp; done) | refine IntB.alloc ?_ _ | refine IntB.drew ?_ | refine IntB.drewN ?_ _)) hb2
  have B2 := Lib.hid (B1.out.of hb2)
  obtain ⟨q2_0, q2_1, q2_2, q2_3, q2_4, q2_5, q2_6, q2_7, q2_8, q2_9, q2_10, q2_11, z2_0, z2_1, z2_2⟩ := B2.out
  go_wp2_with fail
  refine (Riszero_some 0 E1 (M1 : Int) b1 g1 rfl hm1 _ (by repeat (with_reducible first | assumption | exact ib_new _ _ (by simp; done) | refine IntB.alloc ?_ _ | refine IntB.drew ?_ | refine IntB.drewN ?_ _))).mono ?_; rintro e3 w3 ⟨rfl, hb3⟩
  have hI1 : IntB w3 g1 (M1 : Int) := IntB.of (by repeat (with_reducible first | assumption | exact ib_new _ _ (by simp; done) | refine IntB.alloc ?_ _ | refine IntB.drew ?_ | refine IntB.drewN ?_ _)) hb3
  have hI2 : IntB w3 g2 (M2 : Int) := IntB.of (by repeat (with_reducible first | assumption | exact ib_new _ _ (by simp; done) | refine IntB.alloc ?_ _ | refine IntB.drew ?_ | refine IntB.drewN ?_ _)) hb3
  have B3 := Lib.hid (B2.out.of hb3)
  obtain ⟨q3_0, q3_1, q3_2, q3_3, q3_4, q3_5, q3_6, q3_7, q3_8, q3_9, q3_10, q3_11, z3_0, z3_1, z3_2⟩ := B3.out
  have hw3 : Within w w3 := Within.trans (Within.trans (Within.trans ((((Within.refl w).alloc _).alloc _).alloc _) hb1) hb2) hb3
  clear hb1 hb2 hb3 q1_0 q1_1 q1_2 q1_3 q1_4 q1_5 q1_6 q1_7 q1_8 q1_9 q1_10 q1_11 q2_0 q2_1 q2_2 q2_3 q2_4 q2_5 q2_6 q2_7 q2_8 q2_9 q2_10 q2_11
  go_upto_region 12 with fail
  go_cut [11, 12] (fun s11 s12 wx => (∃ z0 z7, s11 = .pointer (some ⟨z0, 0, none⟩) ∧ s12 = .pointer (some ⟨z7, 0, none⟩) ∧ IntB wx z0 (Q : Int) ∧ IntB wx z7 (RR : Int)) ∧ Within w3 wx)
  case first =>
    refine wp_region_sctG (fun W => W.cell? ⟨w.heap.size + 1, 0, none⟩ = some (.int .i64 0) ∧ W.cell? ⟨w.heap.size + 1, 1, none⟩ = some (.bool b1) ∧ W.cell? ⟨w.heap.size + 1, 2, none⟩ = some (.pointer (some ⟨g1, 0, none⟩)) ∧ W.cell? ⟨w.heap.size + 1, 3, none⟩ = some (.int .i64 E1) ∧ W.cell? ⟨w.heap.size + 1 + 1, 0, none⟩ = some (.int .i64 0) ∧ W.cell? ⟨w.heap.size + 1 + 1, 1, none⟩ = some (.bool b2) ∧ W.cell? ⟨w.heap.size + 1 + 1, 2, none⟩ = some (.pointer (some ⟨g2, 0, none⟩)) ∧ W.cell? ⟨w.heap.size + 1 + 1, 3, none⟩ = some (.int .i64 E2) ∧ IntB W g1 (M1 : Int) ∧ IntB W g2 (M2 : Int) ∧ Within w3 W ∧ w.heap.size + 1 < W.heap.size ∧ w.heap.size + 1 + 1 < W.heap.size) 13 (.firm 2 (.firm 3 (.firm 5 (.firm 6 (.three 0 (.two 1 (.two 4 (.one 7 (.one 8 (.firm 9 (.firm 10 (.firm 12 (.firm 11 (.one 13 .nil))))))) 7 (.one 4 (.one 8 (.firm 9 (.firm 10 (.firm 12 (.firm 11 (.one 13 .nil)))))))) 7 (.one 1 (.one 4 (.one 8 (.firm 9 (.firm 10 (.firm 12 (.firm 11 (.one 13 .nil))))))))) 1 (.three 0 (.two 4 (.one 7 (.one 8 (.firm 9 (.firm 10 (.firm 12 (.firm 11 (.one 13 .nil))))))) 7 (.one 4 (.one 8 (.firm 9 (.firm 10 (.firm 12 (.firm 11 (.one 13 .nil)))))))) 4 (.two 0 (.one 7 (.one 8 (.firm 9 (.firm 10 (.firm 12 (.firm 11 (.one 13 .nil))))))) 7 (.one 0 (.one 8 (.firm 9 (.firm 10 (.firm 12 (.firm 11 (.one 13 .nil)))))))) 7 (.two 0 (.one 4 (.one 8 (.firm 9 (.firm 10 (.firm 12 (.firm 11 (.one 13 .nil))))))) 4 (.one 0 (.one 8 (.firm 9 (.firm 10 (.firm 12 (.firm 11 (.one 13 .nil))))))))) 7 (.two 0 (.one 1 (.one 4 (.one 8 (.firm 9 (.firm 10 (.firm 12 (.firm 11 (.one 13 .nil)))))))) 1 (.two 0 (.one 4 (.one 8 (.firm 9 (.firm 10 (.firm 12 (.firm 11 (.one 13 .nil))))))) 4 (.one 0 (.one 8 (.firm 9 (.firm 10 (.firm 12 (.firm 11 (.one 13 .nil)))))))))))))) (by kernel_rfl) (by kernel_rfl) ⟨q3_4, q3_5, q3_6, q3_7, q3_8, q3_9, q3_10, q3_11, hI1, hI2, Within.refl _, z3_1, z3_2⟩ ?_
    rintro w0 ⟨c0, c1, c2, c3, c4, c5, c6, c7, hJ1, hJ2, hw0, s1, s2⟩
    try simp only [Act.put, List.setIfInBounds_toArray, List.set_cons_zero, List.set_cons_succ]
    iterate 4
      apply sct_firm rfl rfl (Within.refl w0).drew
      · intro wq hq
        have hcq := hq.cells
        clear hq
        go_simp
        rfl
      try simp only [Act.put, List.setIfInBounds_toArray, List.set_cons_zero, List.set_cons_succ]
    refine sct_three rfl rfl rfl rfl rfl rfl (fun K hK => ?_) (fun K hK => ?_) (fun K hK => ?_)
    · refine wp_new_int rfl ?_
      intro z0 v1 t0_1 hb1 hge1
      have hv1 : Within w0 v1 := Within.trans (Within.refl w0).drew hb1
      have k0 : w0.heap.size ≤ z0 := Nat.le_trans (Within.sizes (Within.refl w0).drew) hge1
      refine hK _ _ hv1 ?_
      clear hK K
      try simp only [Act.put, List.setIfInBounds_toArray, List.set_cons_zero, List.set_cons_succ]
      refine sct_two rfl rfl rfl rfl (fun K hK => ?_) (fun K hK => ?_)
      · refine wp_new_int rfl ?_
        intro z1 v2 t1_2 hb2 hge2
        have hv2 : Within w0 v2 := Within.trans hv1 hb2
        have k1 : w0.heap.size ≤ z1 := Nat.le_trans (Within.sizes hv1) hge2
        have t0_2 : IntTy v2 z0 := t0_1.of hb2
        have nn01 : z0 ≠ z1 := by have := t0_1.lt; omega
        have n10 : z0 ≠ z1 := by omega
        refine hK _ _ hv2 ?_
        clear hK K
        try simp only [Act.put, List.setIfInBounds_toArray, List.set_cons_zero, List.set_cons_succ]
        refine sct_two rfl rfl rfl rfl (fun K hK => ?_) (fun K hK => ?_)
        · go_simp
          refine (BL.out z1 _ t1_2 (hJ1.of hv2)).mono ?_; rintro e3 v3 ⟨rfl, hL_3, hG3⟩
          have hv3 : Within w0 v3 := Within.grown hv2 hG3 k1
          have t0_3 : IntTy v3 z0 := ty_grown t0_2 hG3 n10
          refine hK _ _ hv3 ?_
          clear hK K
          try simp only [Act.put, List.setIfInBounds_toArray, List.set_cons_zero, List.set_cons_succ]
          refine sct_one rfl rfl (fun K hK => ?_)
          refine wp_new_int rfl ?_
          intro z7 v4 t7_4 hb4 hge4
          have hv4 : Within w0 v4 := Within.trans hv3 hb4
          have k7 : w0.heap.size ≤ z7 := Nat.le_trans (Within.sizes hv3) hge4
          have t0_4 : IntTy v4 z0 := t0_3.of hb4
          have nn07 : z0 ≠ z7 := by have := t0_3.lt; omega
          have n07 : z0 ≠ z7 := by omega
          have nn17 : z1 ≠ z7 := by have := hL_3.lt; omega
          have n17 : z7 ≠ z1 := by omega
          have hL_4 : IntB v4 z1 (V : Int) := hL_3.of hb4
          refine hK _ _ (fun _ => hv4) ?_
          clear hK K
          try simp only [Act.put, List.setIfInBounds_toArray, List.set_cons_zero, List.set_cons_succ]
          refine sct_one rfl rfl (fun K hK => ?_)
          go_simp
          refine (QN.out z0 z1 z7 _ n07 t0_4 t7_4 hL_4 (hJ2.of hv4)).mono ?_; rintro e5 v5 ⟨rfl, hQ, hR, hF⟩
          have hv5 : Within w0 v5 := hF w0 hv4 k0 k7
          refine hK _ _ (fun _ => hv5) ?_
          clear hK K
          try simp only [Act.put, List.setIfInBounds_toArray, List.set_cons_zero, List.set_cons_succ]
          iterate 4
            apply sct_firm rfl rfl hv5
            · intro wq hq
              have hcq := hq.cells
              clear hq
              go_simp
              rfl
            try simp only [Act.put, List.setIfInBounds_toArray, List.set_cons_zero, List.set_cons_succ]
          refine sct_one rfl rfl (fun K hK => ?_)
          go_simp
          refine hK _ _ (fun h => absurd h (by decide)) ?_
          clear hK K
          try simp only [Act.put, List.setIfInBounds_toArray, List.set_cons_zero, List.set_cons_succ]
          refine sct_nil ?_
          go_wp2_with fail
          go_meet
          exact ⟨⟨z0, z7, rfl, rfl, hQ, hR⟩, Within.trans hw0 hv5⟩
        · refine wp_new_int rfl ?_
          intro z7 v3 t7_3 hb3 hge3
          have hv3 : Within w0 v3 := Within.trans hv2 hb3
          have k7 : w0.heap.size ≤ z7 := Nat.le_trans (Within.sizes hv2) hge3
          have t0_3 : IntTy v3 z0 := t0_2.of hb3
          have nn07 : z0 ≠ z7 := by have := t0_2.lt; omega
          have n07 : z0 ≠ z7 := by omega
          have t1_3 : IntTy v3 z1 := t1_2.of hb3
          have nn17 : z1 ≠ z7 := by have := t1_2.lt; omega
          have n17 : z7 ≠ z1 := by omega
          refine hK _ _ hv3 ?_
          clear hK K
          try simp only [Act.put, List.setIfInBounds_toArray, List.set_cons_zero, List.set_cons_succ]
          refine sct_one rfl rfl (fun K hK => ?_)
          go_simp
          refine (BL.out z1 _ t1_3 (hJ1.of hv3)).mono ?_; rintro e4 v4 ⟨rfl, hL_4, hG4⟩
          have hv4 : Within w0 v4 := Within.grown hv3 hG4 k1
          have t0_4 : IntTy v4 z0 := ty_grown t0_3 hG4 n10
          have t7_4 : IntTy v4 z7 := ty_grown t7_3 hG4 n17
          refine hK _ _ (fun _ => hv4) ?_
          clear hK K
          try simp only [Act.put, List.setIfInBounds_toArray, List.set_cons_zero, List.set_cons_succ]
          refine sct_one rfl rfl (fun K hK => ?_)
          go_simp
          refine (QN.out z0 z1 z7 _ n07 t0_4 t7_4 hL_4 (hJ2.of hv4)).mono ?_; rintro e5 v5 ⟨rfl, hQ, hR, hF⟩
          have hv5 : Within w0 v5 := hF w0 hv4 k0 k7
          refine hK _ _ (fun _ => hv5) ?_
          clear hK K
          try simp only [Act.put, List.setIfInBounds_toArray, List.set_cons_zero, List.set_cons_succ]
          iterate 4
            apply sct_firm rfl rfl hv5
            · intro wq hq
              have hcq := hq.cells
              clear hq
              go_simp
              rfl
            try simp only [Act.put, List.setIfInBounds_toArray, List.set_cons_zero, List.set_cons_succ]
          refine sct_one rfl rfl (fun K hK => ?_)
          go_simp
          refine hK _ _ (fun h => absurd h (by decide)) ?_
          clear hK K
          try simp only [Act.put, List.setIfInBounds_toArray, List.set_cons_zero, List.set_cons_succ]
          refine sct_nil ?_
          go_wp2_with fail
          go_meet
          exact ⟨⟨z0, z7, rfl, rfl, hQ, hR⟩, Within.trans hw0 hv5⟩
      · refine wp_new_int rfl ?_
        intro z7 v2 t7_2 hb2 hge2
        have hv2 : Within w0 v2 := Within.trans hv1 hb2
        have k7 : w0.heap.size ≤ z7 := Nat.le_trans (Within.sizes hv1) hge2
        have t0_2 : IntTy v2 z0 := t0_1.of hb2
        have nn07 : z0 ≠ z7 := by have := t0_1.lt; omega
        have n07 : z0 ≠ z7 := by omega
        refine hK _ _ hv2 ?_
        clear hK K
        try simp only [Act.put, List.setIfInBounds_toArray, List.set_cons_zero, List.set_cons_succ]
        refine sct_one rfl rfl (fun K hK => ?_)
        refine wp_new_int rfl ?_
        intro z1 v3 t1_3 hb3 hge3
        have hv3 : Within w0 v3 := Within.trans hv2 hb3
        have k1 : w0.heap.size ≤ z1 := Nat.le_trans (Within.sizes hv2) hge3
        have t0_3 : IntTy v3 z0 := t0_2.of hb3
        have nn01 : z0 ≠ z1 := by have := t0_2.lt; omega
        have n10 : z0 ≠ z1 := by omega
        have t7_3 : IntTy v3 z7 := t7_2.of hb3
        have nn71 : z7 ≠ z1 := by have := t7_2.lt; omega
        have n17 : z7 ≠ z1 := by omega
        refine hK _ _ (fun _ => hv3) ?_
        clear hK K
        try simp only [Act.put, List.setIfInBounds_toArray, List.set_cons_zero, List.set_cons_succ]
        refine sct_one rfl rfl (fun K hK => ?_)
        go_simp
        refine (BL.out z1 _ t1_3 (hJ1.of hv3)).mono ?_; rintro e4 v4 ⟨rfl, hL_4, hG4⟩
        have hv4 : Within w0 v4 := Within.grown hv3 hG4 k1
        have t0_4 : IntTy v4 z0 := ty_grown t0_3 hG4 n10
        have t7_4 : IntTy v4 z7 := ty_grown t7_3 hG4 n17
        refine hK _ _ (fun _ => hv4) ?_
        clear hK K
        try simp only [Act.put, List.setIfInBounds_toArray, List.set_cons_zero, List.set_cons_succ]
        refine sct_one rfl rfl (fun K hK => ?_)
        go_simp
        refine (QN.out z0 z1 z7 _ n07 t0_4 t7_4 hL_4 (hJ2.of hv4)).mono ?_; rintro e5 v5 ⟨rfl, hQ, hR, hF⟩
        have hv5 : Within w0 v5 := hF w0 hv4 k0 k7
        refine hK _ _ (fun _ => hv5) ?_
        clear hK K
        try simp only [Act.put, List.setIfInBounds_toArray, List.set_cons_zero, List.set_cons_succ]
        iterate 4
          apply sct_firm rfl rfl hv5
          · intro wq hq
            have hcq := hq.cells
            clear hq
            go_simp
            rfl
          try simp only [Act.put, List.setIfInBounds_toArray, List.set_cons_zero, List.set_cons_succ]
        refine sct_one rfl rfl (fun K hK => ?_)
        go_simp
        refine hK _ _ (fun h => absurd h (by decide)) ?_
        clear hK K
        try simp only [Act.put, List.setIfInBounds_toArray, List.set_cons_zero, List.set_cons_succ]
        refine sct_nil ?_
        go_wp2_with fail
        go_meet
        exact ⟨⟨z0, z7, rfl, rfl, hQ, hR⟩, Within.trans hw0 hv5⟩
    · refine wp_new_int rfl ?_
      intro z1 v1 t1_1 hb1 hge1
      have hv1 : Within w0 v1 := Within.trans (Within.refl w0).drew hb1
      have k1 : w0.heap.size ≤ z1 := Nat.le_trans (Within.sizes (Within.refl w0).drew) hge1
      refine hK _ _ hv1 ?_
      clear hK K
      try simp only [Act.put, List.setIfInBounds_toArray, List.set_cons_zero, List.set_cons_succ]
      refine sct_three rfl rfl rfl rfl rfl rfl (fun K hK => ?_) (fun K hK => ?_) (fun K hK => ?_)
      · refine wp_new_int rfl ?_
        intro z0 v2 t0_2 hb2 hge2
        have hv2 : Within w0 v2 := Within.trans hv1 hb2
        have k0 : w0.heap.size ≤ z0 := Nat.le_trans (Within.sizes hv1) hge2
        have t1_2 : IntTy v2 z1 := t1_1.of hb2
        have nn10 : z1 ≠ z0 := by have := t1_1.lt; omega
        have n10 : z0 ≠ z1 := by omega
        refine hK _ _ hv2 ?_
        clear hK K
        try simp only [Act.put, List.setIfInBounds_toArray, List.set_cons_zero, List.set_cons_succ]
        refine sct_two rfl rfl rfl rfl (fun K hK => ?_) (fun K hK => ?_)
        · go_simp
          refine (BL.out z1 _ t1_2 (hJ1.of hv2)).mono ?_; rintro e3 v3 ⟨rfl, hL_3, hG3⟩
          have hv3 : Within w0 v3 := Within.grown hv2 hG3 k1
          have t0_3 : IntTy v3 z0 := ty_grown t0_2 hG3 n10
          refine hK _ _ hv3 ?_
          clear hK K
          try simp only [Act.put, List.setIfInBounds_toArray, List.set_cons_zero, List.set_cons_succ]
          refine sct_one rfl rfl (fun K hK => ?_)
          refine wp_new_int rfl ?_
          intro z7 v4 t7_4 hb4 hge4
          have hv4 : Within w0 v4 := Within.trans hv3 hb4
          have k7 : w0.heap.size ≤ z7 := Nat.le_trans (Within.sizes hv3) hge4
          have nn17 : z1 ≠ z7 := by have := hL_3.lt; omega
          have n17 : z7 ≠ z1 := by omega
          have t0_4 : IntTy v4 z0 := t0_3.of hb4
          have nn07 : z0 ≠ z7 := by have := t0_3.lt; omega
          have n07 : z0 ≠ z7 := by omega
          have hL_4 : IntB v4 z1 (V : Int) := hL_3.of hb4
          refine hK _ _ (fun _ => hv4) ?_
          clear hK K
          try simp only [Act.put, List.setIfInBounds_toArray, List.set_cons_zero, List.set_cons_succ]
          refine sct_one rfl rfl (fun K hK => ?_)
          go_simp
          refine (QN.out z0 z1 z7 _ n07 t0_4 t7_4 hL_4 (hJ2.of hv4)).mono ?_; rintro e5 v5 ⟨rfl, hQ, hR, hF⟩
          have hv5 : Within w0 v5 := hF w0 hv4 k0 k7
          refine hK _ _ (fun _ => hv5) ?_
          clear hK K
          try simp only [Act.put, List.setIfInBounds_toArray, List.set_cons_zero, List.set_cons_succ]
          iterate 4
            apply sct_firm rfl rfl hv5
            · intro wq hq
              have hcq := hq.cells
              clear hq
              go_simp
              rfl
            try simp only [Act.put, List.setIfInBounds_toArray, List.set_cons_zero, List.set_cons_succ]
          refine sct_one rfl rfl (fun K hK => ?_)
          go_simp
          refine hK _ _ (fun h => absurd h (by decide)) ?_
          clear hK K
          try simp only [Act.put, List.setIfInBounds_toArray, List.set_cons_zero, List.set_cons_succ]
          refine sct_nil ?_
          go_wp2_with fail
          go_meet
          exact ⟨⟨z0, z7, rfl, rfl, hQ, hR⟩, Within.trans hw0 hv5⟩
        · refine wp_new_int rfl ?_
          intro z7 v3 t7_3 hb3 hge3
          have hv3 : Within w0 v3 := Within.trans hv2 hb3
          have k7 : w0.heap.size ≤ z7 := Nat.le_trans (Within.sizes hv2) hge3
          have t1_3 : IntTy v3 z1 := t1_2.of hb3
          have nn17 : z1 ≠ z7 := by have := t1_2.lt; omega
          have n17 : z7 ≠ z1 := by omega
          have t0_3 : IntTy v3 z0 := t0_2.of hb3
          have nn07 : z0 ≠ z7 := by have := t0_2.lt; omega
          have n07 : z0 ≠ z7 := by omega
          refine hK _ _ hv3 ?_
          clear hK K
          try simp only [Act.put, List.setIfInBounds_toArray, List.set_cons_zero, List.set_cons_succ]
          refine sct_one rfl rfl (fun K hK => ?_)
          go_simp
          refine (BL.out z1 _ t1_3 (hJ1.of hv3)).mono ?_; rintro e4 v4 ⟨rfl, hL_4, hG4⟩
          have hv4 : Within w0 v4 := Within.grown hv3 hG4 k1
          have t0_4 : IntTy v4 z0 := ty_grown t0_3 hG4 n10
          have t7_4 : IntTy v4 z7 := ty_grown t7_3 hG4 n17
          refine hK _ _ (fun _ => hv4) ?_
          clear hK K
          try simp only [Act.put, List.setIfInBounds_toArray, List.set_cons_zero, List.set_cons_succ]
          refine sct_one rfl rfl (fun K hK => ?_)
          go_simp
          refine (QN.out z0 z1 z7 _ n07 t0_4 t7_4 hL_4 (hJ2.of hv4)).mono ?_; rintro e5 v5 ⟨rfl, hQ, hR, hF⟩
          have hv5 : Within w0 v5 := hF w0 hv4 k0 k7
          refine hK _ _ (fun _ => hv5) ?_
          clear hK K
          try simp only [Act.put, List.setIfInBounds_toArray, List.set_cons_zero, List.set_cons_succ]
          iterate 4
            apply sct_firm rfl rfl hv5
            · intro wq hq
              have hcq := hq.cells
              clear hq
              go_simp
              rfl
            try simp only [Act.put, List.setIfInBounds_toArray, List.set_cons_zero, List.set_cons_succ]
          refine sct_one rfl rfl (fun K hK => ?_)
          go_simp
          refine hK _ _ (fun h => absurd h (by decide)) ?_
          clear hK K
          try simp only [Act.put, List.setIfInBounds_toArray, List.set_cons_zero, List.set_cons_succ]
          refine sct_nil ?_
          go_wp2_with fail
          go_meet
          exact ⟨⟨z0, z7, rfl, rfl, hQ, hR⟩, Within.trans hw0 hv5⟩
      · go_simp
        refine (BL.out z1 _ t1_1 (hJ1.of hv1)).mono ?_; rintro e2 v2 ⟨rfl, hL_2, hG2⟩
        have hv2 : Within w0 v2 := Within.grown hv1 hG2 k1
        refine hK _ _ hv2 ?_
        clear hK K
        try simp only [Act.put, List.setIfInBounds_toArray, List.set_cons_zero, List.set_cons_succ]
        refine sct_two rfl rfl rfl rfl (fun K hK => ?_) (fun K hK => ?_)
        · refine wp_new_int rfl ?_
          intro z0 v3 t0_3 hb3 hge3
          have hv3 : Within w0 v3 := Within.trans hv2 hb3
          have k0 : w0.heap.size ≤ z0 := Nat.le_trans (Within.sizes hv2) hge3
          have nn10 : z1 ≠ z0 := by have := hL_2.lt; omega
          have n10 : z0 ≠ z1 := by omega
          have hL_3 : IntB v3 z1 (V : Int) := hL_2.of hb3
          refine hK _ _ hv3 ?_
          clear hK K
          try simp only [Act.put, List.setIfInBounds_toArray, List.set_cons_zero, List.set_cons_succ]
          refine sct_one rfl rfl (fun K hK => ?_)
          refine wp_new_int rfl ?_
          intro z7 v4 t7_4 hb4 hge4
          have hv4 : Within w0 v4 := Within.trans hv3 hb4
          have k7 : w0.heap.size ≤ z7 := Nat.le_trans (Within.sizes hv3) hge4
          have nn17 : z1 ≠ z7 := by have := hL_3.lt; omega
          have n17 : z7 ≠ z1 := by omega
          have t0_4 : IntTy v4 z0 := t0_3.of hb4
          have nn07 : z0 ≠ z7 := by have := t0_3.lt; omega
          have n07 : z0 ≠ z7 := by omega
          have hL_4 : IntB v4 z1 (V : Int) := hL_3.of hb4
          refine hK _ _ (fun _ => hv4) ?_
          clear hK K
          try simp only [Act.put, List.setIfInBounds_toArray, List.set_cons_zero, List.set_cons_succ]
          refine sct_one rfl rfl (fun K hK => ?_)
          go_simp
          refine (QN.out z0 z1 z7 _ n07 t0_4 t7_4 hL_4 (hJ2.of hv4)).mono ?_; rintro e5 v5 ⟨rfl, hQ, hR, hF⟩
          have hv5 : Within w0 v5 := hF w0 hv4 k0 k7
          refine hK _ _ (fun _ => hv5) ?_
          clear hK K
          try simp only [Act.put, List.setIfInBounds_toArray, List.set_cons_zero, List.set_cons_succ]
          iterate 4
            apply sct_firm rfl rfl hv5
            · intro wq hq
              have hcq := hq.cells
              clear hq
              go_simp
              rfl
            try simp only [Act.put, List.setIfInBounds_toArray, List.set_cons_zero, List.set_cons_succ]
          refine sct_one rfl rfl (fun K hK => ?_)
          go_simp
          refine hK _ _ (fun h => absurd h (by decide)) ?_
          clear hK K
          try simp only [Act.put, List.setIfInBounds_toArray, List.set_cons_zero, List.set_cons_succ]
          refine sct_nil ?_
          go_wp2_with fail
          go_meet
          exact ⟨⟨z0, z7, rfl, rfl, hQ, hR⟩, Within.trans hw0 hv5⟩
        · refine wp_new_int rfl ?_
          intro z7 v3 t7_3 hb3 hge3
          have hv3 : Within w0 v3 := Within.trans hv2 hb3
          have k7 : w0.heap.size ≤ z7 := Nat.le_trans (Within.sizes hv2) hge3
          have nn17 : z1 ≠ z7 := by have := hL_2.lt; omega
          have n17 : z7 ≠ z1 := by omega
          have hL_3 : IntB v3 z1 (V : Int) := hL_2.of hb3
          refine hK _ _ hv3 ?_
          clear hK K
          try simp only [Act.put, List.setIfInBounds_toArray, List.set_cons_zero, List.set_cons_succ]
          refine sct_one rfl rfl (fun K hK => ?_)
          refine wp_new_int rfl ?_
          intro z0 v4 t0_4 hb4 hge4
          have hv4 : Within w0 v4 := Within.trans hv3 hb4
          have k0 : w0.heap.size ≤ z0 := Nat.le_trans (Within.sizes hv3) hge4
          have nn10 : z1 ≠ z0 := by have := hL_3.lt; omega
          have n10 : z0 ≠ z1 := by omega
          have t7_4 : IntTy v4 z7 := t7_3.of hb4
          have nn70 : z7 ≠ z0 := by have := t7_3.lt; omega
          have n07 : z0 ≠ z7 := by omega
          have hL_4 : IntB v4 z1 (V : Int) := hL_3.of hb4
          refine hK _ _ (fun _ => hv4) ?_
          clear hK K
          try simp only [Act.put, List.setIfInBounds_toArray, List.set_cons_zero, List.set_cons_succ]
          refine sct_one rfl rfl (fun K hK => ?_)
          go_simp
          refine (QN.out z0 z1 z7 _ n07 t0_4 t7_4 hL_4 (hJ2.of hv4)).mono ?_; rintro e5 v5 ⟨rfl, hQ, hR, hF⟩
          have hv5 : Within w0 v5 := hF w0 hv4 k0 k7
          refine hK _ _ (fun _ => hv5) ?_
          clear hK K
          try simp only [Act.put, List.setIfInBounds_toArray, List.set_cons_zero, List.set_cons_succ]
          iterate 4
            apply sct_firm rfl rfl hv5
            · intro wq hq
              have hcq := hq.cells
              clear hq
              go_simp
              rfl
            try simp only [Act.put, List.setIfInBounds_toArray, List.set_cons_zero, List.set_cons_succ]
          refine sct_one rfl rfl (fun K hK => ?_)
          go_simp
          refine hK _ _ (fun h => absurd h (by decide)) ?_
          clear hK K
          try simp only [Act.put, List.setIfInBounds_toArray, List.set_cons_zero, List.set_cons_succ]
          refine sct_nil ?_
          go_wp2_with fail
          go_meet
          exact ⟨⟨z0, z7, rfl, rfl, hQ, hR⟩, Within.trans hw0 hv5⟩
      · refine wp_new_int rfl ?_
        intro z7 v2 t7_2 hb2 hge2
        have hv2 : Within w0 v2 := Within.trans hv1 hb2
        have k7 : w0.heap.size ≤ z7 := Nat.le_trans (Within.sizes hv1) hge2
        have t1_2 : IntTy v2 z1 := t1_1.of hb2
        have nn17 : z1 ≠ z7 := by have := t1_1.lt; omega
        have n17 : z7 ≠ z1 := by omega
        refine hK _ _ hv2 ?_
        clear hK K
        try simp only [Act.put, List.setIfInBounds_toArray, List.set_cons_zero, List.set_cons_succ]
        refine sct_two rfl rfl rfl rfl (fun K hK => ?_) (fun K hK => ?_)
        · refine wp_new_int rfl ?_
          intro z0 v3 t0_3 hb3 hge3
          have hv3 : Within w0 v3 := Within.trans hv2 hb3
          have k0 : w0.heap.size ≤ z0 := Nat.le_trans (Within.sizes hv2) hge3
          have t1_3 : IntTy v3 z1 := t1_2.of hb3
          have nn10 : z1 ≠ z0 := by have := t1_2.lt; omega
          have n10 : z0 ≠ z1 := by omega
          have t7_3 : IntTy v3 z7 := t7_2.of hb3
          have nn70 : z7 ≠ z0 := by have := t7_2.lt; omega
          have n07 : z0 ≠ z7 := by omega
          refine hK _ _ hv3 ?_
          clear hK K
          try simp only [Act.put, List.setIfInBounds_toArray, List.set_cons_zero, List.set_cons_succ]
          refine sct_one rfl rfl (fun K hK => ?_)
          go_simp
          refine (BL.out z1 _ t1_3 (hJ1.of hv3)).mono ?_; rintro e4 v4 ⟨rfl, hL_4, hG4⟩
          have hv4 : Within w0 v4 := Within.grown hv3 hG4 k1
          have t7_4 : IntTy v4 z7 := ty_grown t7_3 hG4 n17
          have t0_4 : IntTy v4 z0 := ty_grown t0_3 hG4 n10
          refine hK _ _ (fun _ => hv4) ?_
          clear hK K
          try simp only [Act.put, List.setIfInBounds_toArray, List.set_cons_zero, List.set_cons_succ]
          refine sct_one rfl rfl (fun K hK => ?_)
          go_simp
          refine (QN.out z0 z1 z7 _ n07 t0_4 t7_4 hL_4 (hJ2.of hv4)).mono ?_; rintro e5 v5 ⟨rfl, hQ, hR, hF⟩
          have hv5 : Within w0 v5 := hF w0 hv4 k0 k7
          refine hK _ _ (fun _ => hv5) ?_
          clear hK K
          try simp only [Act.put, List.setIfInBounds_toArray, List.set_cons_zero, List.set_cons_succ]
          iterate 4
            apply sct_firm rfl rfl hv5
            · intro wq hq
              have hcq := hq.cells
              clear hq
              go_simp
              rfl
            try simp only [Act.put, List.setIfInBounds_toArray, List.set_cons_zero, List.set_cons_succ]
          refine sct_one rfl rfl (fun K hK => ?_)
          go_simp
          refine hK _ _ (fun h => absurd h (by decide)) ?_
          clear hK K
          try simp only [Act.put, List.setIfInBounds_toArray, List.set_cons_zero, List.set_cons_succ]
          refine sct_nil ?_
          go_wp2_with fail
          go_meet
          exact ⟨⟨z0, z7, rfl, rfl, hQ, hR⟩, Within.trans hw0 hv5⟩
        · go_simp
          refine (BL.out z1 _ t1_2 (hJ1.of hv2)).mono ?_; rintro e3 v3 ⟨rfl, hL_3, hG3⟩
          have hv3 : Within w0 v3 := Within.grown hv2 hG3 k1
          have t7_3 : IntTy v3 z7 := ty_grown t7_2 hG3 n17
          refine hK _ _ hv3 ?_
          clear hK K
          try simp only [Act.put, List.setIfInBounds_toArray, List.set_cons_zero, List.set_cons_succ]
          refine sct_one rfl rfl (fun K hK => ?_)
          refine wp_new_int rfl ?_
          intro z0 v4 t0_4 hb4 hge4
          have hv4 : Within w0 v4 := Within.trans hv3 hb4
          have k0 : w0.heap.size ≤ z0 := Nat.le_trans (Within.sizes hv3) hge4
          have nn10 : z1 ≠ z0 := by have := hL_3.lt; omega
          have n10 : z0 ≠ z1 := by omega
          have t7_4 : IntTy v4 z7 := t7_3.of hb4
          have nn70 : z7 ≠ z0 := by have := t7_3.lt; omega
          have n07 : z0 ≠ z7 := by omega
          have hL_4 : IntB v4 z1 (V : Int) := hL_3.of hb4
          refine hK _ _ (fun _ => hv4) ?_
          clear hK K
          try simp only [Act.put, List.setIfInBounds_toArray, List.set_cons_zero, List.set_cons_succ]
          refine sct_one rfl rfl (fun K hK => ?_)
          go_simp
          refine (QN.out z0 z1 z7 _ n07 t0_4 t7_4 hL_4 (hJ2.of hv4)).mono ?_; rintro e5 v5 ⟨rfl, hQ, hR, hF⟩
          have hv5 : Within w0 v5 := hF w0 hv4 k0 k7
          refine hK _ _ (fun _ => hv5) ?_
          clear hK K
          try simp only [Act.put, List.setIfInBounds_toArray, List.set_cons_zero, List.set_cons_succ]
          iterate 4
            apply sct_firm rfl rfl hv5
            · intro wq hq
              have hcq := hq.cells
              clear hq
              go_simp
              rfl
            try simp only [Act.put, List.setIfInBounds_toArray, List.set_cons_zero, List.set_cons_succ]
          refine sct_one rfl rfl (fun K hK => ?_)
          go_simp
          refine hK _ _ (fun h => absurd h (by decide)) ?_
          clear hK K
          try simp only [Act.put, List.setIfInBounds_toArray, List.set_cons_zero, List.set_cons_succ]
          refine sct_nil ?_
          go_wp2_with fail
          go_meet
          exact ⟨⟨z0, z7, rfl, rfl, hQ, hR⟩, Within.trans hw0 hv5⟩
    · refine wp_new_int rfl ?_
      intro z7 v1 t7_1 hb1 hge1
      have hv1 : Within w0 v1 := Within.trans (Within.refl w0).drew hb1
      have k7 : w0.heap.size ≤ z7 := Nat.le_trans (Within.sizes (Within.refl w0).drew) hge1
      refine hK _ _ hv1 ?_
      clear hK K
      try simp only [Act.put, List.setIfInBounds_toArray, List.set_cons_zero, List.set_cons_succ]
      refine sct_two rfl rfl rfl rfl (fun K hK => ?_) (fun K hK => ?_)
      · refine wp_new_int rfl ?_
        intro z0 v2 t0_2 hb2 hge2
        have hv2 : Within w0 v2 := Within.trans hv1 hb2
        have k0 : w0.heap.size ≤ z0 := Nat.le_trans (Within.sizes hv1) hge2
        have t7_2 : IntTy v2 z7 := t7_1.of hb2
        have nn70 : z7 ≠ z0 := by have := t7_1.lt; omega
        have n07 : z0 ≠ z7 := by omega
        refine hK _ _ hv2 ?_
        clear hK K
        try simp only [Act.put, List.setIfInBounds_toArray, List.set_cons_zero, List.set_cons_succ]
        refine sct_one rfl rfl (fun K hK => ?_)
        refine wp_new_int rfl ?_
        intro z1 v3 t1_3 hb3 hge3
        have hv3 : Within w0 v3 := Within.trans hv2 hb3
        have k1 : w0.heap.size ≤ z1 := Nat.le_trans (Within.sizes hv2) hge3
        have t7_3 : IntTy v3 z7 := t7_2.of hb3
        have nn71 : z7 ≠ z1 := by have := t7_2.lt; omega
        have n17 : z7 ≠ z1 := by omega
        have t0_3 : IntTy v3 z0 := t0_2.of hb3
        have nn01 : z0 ≠ z1 := by have := t0_2.lt; omega
        have n10 : z0 ≠ z1 := by omega
        refine hK _ _ (fun _ => hv3) ?_
        clear hK K
        try simp only [Act.put, List.setIfInBounds_toArray, List.set_cons_zero, List.set_cons_succ]
        refine sct_one rfl rfl (fun K hK => ?_)
        go_simp
        refine (BL.out z1 _ t1_3 (hJ1.of hv3)).mono ?_; rintro e4 v4 ⟨rfl, hL_4, hG4⟩
        have hv4 : Within w0 v4 := Within.grown hv3 hG4 k1
        have t7_4 : IntTy v4 z7 := ty_grown t7_3 hG4 n17
        have t0_4 : IntTy v4 z0 := ty_grown t0_3 hG4 n10
        refine hK _ _ (fun _ => hv4) ?_
        clear hK K
        try simp only [Act.put, List.setIfInBounds_toArray, List.set_cons_zero, List.set_cons_succ]
        refine sct_one rfl rfl (fun K hK => ?_)
        go_simp
        refine (QN.out z0 z1 z7 _ n07 t0_4 t7_4 hL_4 (hJ2.of hv4)).mono ?_; rintro e5 v5 ⟨rfl, hQ, hR, hF⟩
        have hv5 : Within w0 v5 := hF w0 hv4 k0 k7
        refine hK _ _ (fun _ => hv5) ?_
        clear hK K
        try simp only [Act.put, List.setIfInBounds_toArray, List.set_cons_zero, List.set_cons_succ]
        iterate 4
          apply sct_firm rfl rfl hv5
          · intro wq hq
            have hcq := hq.cells
            clear hq
            go_simp
            rfl
          try simp only [Act.put, List.setIfInBounds_toArray, List.set_cons_zero, List.set_cons_succ]
        refine sct_one rfl rfl (fun K hK => ?_)
        go_simp
        refine hK _ _ (fun h => absurd h (by decide)) ?_
        clear hK K
        try simp only [Act.put, List.setIfInBounds_toArray, List.set_cons_zero, List.set_cons_succ]
        refine sct_nil ?_
        go_wp2_with fail
        go_meet
        exact ⟨⟨z0, z7, rfl, rfl, hQ, hR⟩, Within.trans hw0 hv5⟩
      · refine wp_new_int rfl ?_
        intro z1 v2 t1_2 hb2 hge2
        have hv2 : Within w0 v2 := Within.trans hv1 hb2
        have k1 : w0.heap.size ≤ z1 := Nat.le_trans (Within.sizes hv1) hge2
        have t7_2 : IntTy v2 z7 := t7_1.of hb2
        have nn71 : z7 ≠ z1 := by have := t7_1.lt; omega
        have n17 : z7 ≠ z1 := by omega
        refine hK _ _ hv2 ?_
        clear hK K
        try simp only [Act.put, List.setIfInBounds_toArray, List.set_cons_zero, List.set_cons_succ]
        refine sct_two rfl rfl rfl rfl (fun K hK => ?_) (fun K hK => ?_)
        · refine wp_new_int rfl ?_
          intro z0 v3 t0_3 hb3 hge3
          have hv3 : Within w0 v3 := Within.trans hv2 hb3
          have k0 : w0.heap.size ≤ z0 := Nat.le_trans (Within.sizes hv2) hge3
          have t7_3 : IntTy v3 z7 := t7_2.of hb3
          have nn70 : z7 ≠ z0 := by have := t7_2.lt; omega
          have n07 : z0 ≠ z7 := by omega
          have t1_3 : IntTy v3 z1 := t1_2.of hb3
          have nn10 : z1 ≠ z0 := by have := t1_2.lt; omega
          have n10 : z0 ≠ z1 := by omega
          refine hK _ _ hv3 ?_
          clear hK K
          try simp only [Act.put, List.setIfInBounds_toArray, List.set_cons_zero, List.set_cons_succ]
          refine sct_one rfl rfl (fun K hK => ?_)
          go_simp
          refine (BL.out z1 _ t1_3 (hJ1.of hv3)).mono ?_; rintro e4 v4 ⟨rfl, hL_4, hG4⟩
          have hv4 : Within w0 v4 := Within.grown hv3 hG4 k1
          have t7_4 : IntTy v4 z7 := ty_grown t7_3 hG4 n17
          have t0_4 : IntTy v4 z0 := ty_grown t0_3 hG4 n10
          refine hK _ _ (fun _ => hv4) ?_
          clear hK K
          try simp only [Act.put, List.setIfInBounds_toArray, List.set_cons_zero, List.set_cons_succ]
          refine sct_one rfl rfl (fun K hK => ?_)
          go_simp
          refine (QN.out z0 z1 z7 _ n07 t0_4 t7_4 hL_4 (hJ2.of hv4)).mono ?_; rintro e5 v5 ⟨rfl, hQ, hR, hF⟩
          have hv5 : Within w0 v5 := hF w0 hv4 k0 k7
          refine hK _ _ (fun _ => hv5) ?_
          clear hK K
          try simp only [Act.put, List.setIfInBounds_toArray, List.set_cons_zero, List.set_cons_succ]
          iterate 4
            apply sct_firm rfl rfl hv5
            · intro wq hq
              have hcq := hq.cells
              clear hq
              go_simp
              rfl
            try simp only [Act.put, List.setIfInBounds_toArray, List.set_cons_zero, List.set_cons_succ]
          refine sct_one rfl rfl (fun K hK => ?_)
          go_simp
          refine hK _ _ (fun h => absurd h (by decide)) ?_
          clear hK K
          try simp only [Act.put, List.setIfInBounds_toArray, List.set_cons_zero, List.set_cons_succ]
          refine sct_nil ?_
          go_wp2_with fail
          go_meet
          exact ⟨⟨z0, z7, rfl, rfl, hQ, hR⟩, Within.trans hw0 hv5⟩
        · go_simp
          refine (BL.out z1 _ t1_2 (hJ1.of hv2)).mono ?_; rintro e3 v3 ⟨rfl, hL_3, hG3⟩
          have hv3 : Within w0 v3 := Within.grown hv2 hG3 k1
          have t7_3 : IntTy v3 z7 := ty_grown t7_2 hG3 n17
          refine hK _ _ hv3 ?_
          clear hK K
          try simp only [Act.put, List.setIfInBounds_toArray, List.set_cons_zero, List.set_cons_succ]
          refine sct_one rfl rfl (fun K hK => ?_)
          refine wp_new_int rfl ?_
          intro z0 v4 t0_4 hb4 hge4
          have hv4 : Within w0 v4 := Within.trans hv3 hb4
          have k0 : w0.heap.size ≤ z0 := Nat.le_trans (Within.sizes hv3) hge4
          have t7_4 : IntTy v4 z7 := t7_3.of hb4
          have nn70 : z7 ≠ z0 := by have := t7_3.lt; omega
          have n07 : z0 ≠ z7 := by omega
          have nn10 : z1 ≠ z0 := by have := hL_3.lt; omega
          have n10 : z0 ≠ z1 := by omega
          have hL_4 : IntB v4 z1 (V : Int) := hL_3.of hb4
          refine hK _ _ (fun _ => hv4) ?_
          clear hK K
          try simp only [Act.put, List.setIfInBounds_toArray, List.set_cons_zero, List.set_cons_succ]
          refine sct_one rfl rfl (fun K hK => ?_)
          go_simp
          refine (QN.out z0 z1 z7 _ n07 t0_4 t7_4 hL_4 (hJ2.of hv4)).mono ?_; rintro e5 v5 ⟨rfl, hQ, hR, hF⟩
          have hv5 : Within w0 v5 := hF w0 hv4 k0 k7
          refine hK _ _ (fun _ => hv5) ?_
          clear hK K
          try simp only [Act.put, List.setIfInBounds_toArray, List.set_cons_zero, List.set_cons_succ]
          iterate 4
            apply sct_firm rfl rfl hv5
            · intro wq hq
              have hcq := hq.cells
              clear hq
              go_simp
              rfl
            try simp only [Act.put, List.setIfInBounds_toArray, List.set_cons_zero, List.set_cons_succ]
          refine sct_one rfl rfl (fun K hK => ?_)
          go_simp
          refine hK _ _ (fun h => absurd h (by decide)) ?_
          clear hK K
          try simp only [Act.put, List.setIfInBounds_toArray, List.set_cons_zero, List.set_cons_succ]
          refine sct_nil ?_
          go_wp2_with fail
          go_meet
          exact ⟨⟨z0, z7, rfl, rfl, hQ, hR⟩, Within.trans hw0 hv5⟩
  case rest =>
    obtain ⟨⟨z0, z7, rfl, rfl, hQ, hR⟩, hw⟩ := hcut
    have p0 : wc.cell? ⟨w.heap.size, 0, none⟩ = some (.int .i64 24) := (hw.cells _ _ (World.block_lt_of_cell? _ _ q3_0)).trans q3_0
    have p1 : wc.cell? ⟨w.heap.size, 1, none⟩ = some (.int .i64 (-126)) := (hw.cells _ _ (World.block_lt_of_cell? _ _ q3_1)).trans q3_1
    have p2 : wc.cell? ⟨w.heap.size, 2, none⟩ = some (.int .i64 127) := (hw.cells _ _ (World.block_lt_of_cell? _ _ q3_2)).trans q3_2
    have p3 : wc.cell? ⟨w.heap.size, 3, none⟩ = some (.int .i64 8) := (hw.cells _ _ (World.block_lt_of_cell? _ _ q3_3)).trans q3_3
    have p4 : wc.cell? ⟨w.heap.size + 1, 0, none⟩ = some (.int .i64 0) := (hw.cells _ _ (World.block_lt_of_cell? _ _ q3_4)).trans q3_4
    have p5 : wc.cell? ⟨w.heap.size + 1, 1, none⟩ = some (.bool b1) := (hw.cells _ _ (World.block_lt_of_cell? _ _ q3_5)).trans q3_5
    have p6 : wc.cell? ⟨w.heap.size + 1, 2, none⟩ = some (.pointer (some ⟨g1, 0, none⟩)) := (hw.cells _ _ (World.block_lt_of_cell? _ _ q3_6)).trans q3_6
    have p7 : wc.cell? ⟨w.heap.size + 1, 3, none⟩ = some (.int .i64 E1) := (hw.cells _ _ (World.block_lt_of_cell? _ _ q3_7)).trans q3_7
    have p8 : wc.cell? ⟨w.heap.size + 1 + 1, 0, none⟩ = some (.int .i64 0) := (hw.cells _ _ (World.block_lt_of_cell? _ _ q3_8)).trans q3_8
    have p9 : wc.cell? ⟨w.heap.size + 1 + 1, 1, none⟩ = some (.bool b2) := (hw.cells _ _ (World.block_lt_of_cell? _ _ q3_9)).trans q3_9
    have p10 : wc.cell? ⟨w.heap.size + 1 + 1, 2, none⟩ = some (.pointer (some ⟨g2, 0, none⟩)) := (hw.cells _ _ (World.block_lt_of_cell? _ _ q3_10)).trans q3_10
    have p11 : wc.cell? ⟨w.heap.size + 1 + 1, 3, none⟩ = some (.int .i64 E2) := (hw.cells _ _ (World.block_lt_of_cell? _ _ q3_11)).trans q3_11
    have y0 : w.heap.size < wc.heap.size := World.block_lt_of_cell? _ _ p0
    have y1 : w.heap.size + 1 < wc.heap.size := World.block_lt_of_cell? _ _ p4
    have y2 : w.heap.size + 1 + 1 < wc.heap.size := World.block_lt_of_cell? _ _ p8
    have hwc := hw3.trans hw
    clear hw hw3 q3_0 q3_1 q3_2 q3_3 q3_4 q3_5 q3_6 q3_7 q3_8 q3_9 q3_10 q3_11
    go_upto_region 13 with fail
    refine wp_region_schG (fun W => W.cell? ⟨w.heap.size, 0, none⟩ = some (.int .i64 24) ∧ W.cell? ⟨w.heap.size, 1, none⟩ = some (.int .i64 (-126)) ∧ W.cell? ⟨w.heap.size, 2, none⟩ = some (.int .i64 127) ∧ W.cell? ⟨w.heap.size, 3, none⟩ = some (.int .i64 8) ∧ W.cell? ⟨w.heap.size + 1, 0, none⟩ = some (.int .i64 0) ∧ W.cell? ⟨w.heap.size + 1, 1, none⟩ = some (.bool b1) ∧ W.cell? ⟨w.heap.size + 1, 2, none⟩ = some (.pointer (some ⟨g1, 0, none⟩)) ∧ W.cell? ⟨w.heap.size + 1, 3, none⟩ = some (.int .i64 E1) ∧ W.cell? ⟨w.heap.size + 1 + 1, 0, none⟩ = some (.int .i64 0) ∧ W.cell? ⟨w.heap.size + 1 + 1, 1, none⟩ = some (.bool b2) ∧ W.cell? ⟨w.heap.size + 1 + 1, 2, none⟩ = some (.pointer (some ⟨g2, 0, none⟩)) ∧ W.cell? ⟨w.heap.size + 1 + 1, 3, none⟩ = some (.int .i64 E2) ∧ IntB W z0 (Q : Int) ∧ IntB W z7 (RR : Int) ∧ w.heap.size < W.heap.size ∧ w.heap.size + 1 < W.heap.size ∧ w.heap.size + 1 + 1 < W.heap.size ∧ Within wc W) 17 (.firm 0 (.firm 1 (.firm 2 (.firm 3 (.firm 4 (.firm 5 (.firm 6 (.firm 7 (.firm 8 (.firm 9 (.firm 12 (.one 10 (.firm 11 (.one 13 (.firm 14 (.firm 15 (.firm 16 (.one 17 .nil)))))))))))))))))) (by kernel_rfl) (by kernel_rfl) ⟨p0, p1, p2, p3, p4, p5, p6, p7, p8, p9, p10, p11, hQ, hR, y0, y1, y2, Within.refl _⟩ ?_
    rintro w0 ⟨c0, c1, c2, c3, c4, c5, c6, c7, c8, c9, c10, c11, hJ1, hJ2, s0, s1, s2, hw0⟩
    try simp only [Act.put, List.setIfInBounds_toArray, List.set_cons_zero, List.set_cons_succ]
    apply sch_firm rfl rfl (by repeat (with_reducible first | exact Within.refl _ | assumption | refine Within.alloc ?_ _ | refine Within.drew ?_ | refine Within.drewN ?_ _ | refine Within.setCell ?_ (by first | (simp; done) | (simp; omega)) _ | refine Within.trans ?_ (by assumption)))
    · intro wq hq
      have hcq := hq.cells
      clear hq
      go_simp
      first | rfl | (trace_state; fail)
    try simp only [Act.put, List.setIfInBounds_toArray, List.set_cons_zero, List.set_cons_succ]
    apply sch_firm rfl rfl (by repeat (with_reducible first | exact Within.refl _ | assumption | refine Within.alloc ?_ _ | refine Within.drew ?_ | refine Within.drewN ?_ _ | refine Within.setCell ?_ (by first | (simp; done) | (simp; omega)) _ | refine Within.trans ?_ (by assumption)))
    · intro wq hq
      have hcq := hq.cells
      clear hq
      go_simp
      first | rfl | (trace_state; fail)
    try simp only [Act.put, List.setIfInBounds_toArray, List.set_cons_zero, List.set_cons_succ]
    apply sch_firm rfl rfl (by repeat (with_reducible first | exact Within.refl _ | assumption | refine Within.alloc ?_ _ | refine Within.drew ?_ | refine Within.drewN ?_ _ | refine Within.setCell ?_ (by first | (simp; done) | (simp; omega)) _ | refine Within.trans ?_ (by assumption)))
    · intro wq hq
      have hcq := hq.cells
      clear hq
      go_simp
      first | rfl | (trace_state; fail)
    try simp only [Act.put, List.setIfInBounds_toArray, List.set_cons_zero, List.set_cons_succ]
    apply sch_firm rfl rfl (by repeat (with_reducible first | exact Within.refl _ | assumption | refine Within.alloc ?_ _ | refine Within.drew ?_ | refine Within.drewN ?_ _ | refine Within.setCell ?_ (by first | (simp; done) | (simp; omega)) _ | refine Within.trans ?_ (by assumption)))
    · intro wq hq
      have hcq := hq.cells
      clear hq
      go_simp
      first | rfl | (trace_state; fail)
    try simp only [Act.put, List.setIfInBounds_toArray, List.set_cons_zero, List.set_cons_succ]
    apply sch_firm rfl rfl (by repeat (with_reducible first | exact Within.refl _ | assumption | refine Within.alloc ?_ _ | refine Within.drew ?_ | refine Within.drewN ?_ _ | refine Within.setCell ?_ (by first | (simp; done) | (simp; omega)) _ | refine Within.trans ?_ (by assumption)))
    · intro wq hq
      have hcq := hq.cells
      clear hq
      go_simp
      first | rfl | (trace_state; fail)
    try simp only [Act.put, List.setIfInBounds_toArray, List.set_cons_zero, List.set_cons_succ]
    apply sch_firm rfl rfl (by repeat (with_reducible first | exact Within.refl _ | assumption | refine Within.alloc ?_ _ | refine Within.drew ?_ | refine Within.drewN ?_ _ | refine Within.setCell ?_ (by first | (simp; done) | (simp; omega)) _ | refine Within.trans ?_ (by assumption)))
    · intro wq hq
      have hcq := hq.cells
      clear hq
      go_simp
      first | rfl | (trace_state; fail)
    try simp only [Act.put, List.setIfInBounds_toArray, List.set_cons_zero, List.set_cons_succ]
    apply sch_firm rfl rfl (by repeat (with_reducible first | exact Within.refl _ | assumption | refine Within.alloc ?_ _ | refine Within.drew ?_ | refine Within.drewN ?_ _ | refine Within.setCell ?_ (by first | (simp; done) | (simp; omega)) _ | refine Within.trans ?_ (by assumption)))
    · intro wq hq
      have hcq := hq.cells
      clear hq
      go_simp
      first | rfl | (trace_state; fail)
    try simp only [Act.put, List.setIfInBounds_toArray, List.set_cons_zero, List.set_cons_succ]
    apply sch_firm rfl rfl (by repeat (with_reducible first | exact Within.refl _ | assumption | refine Within.alloc ?_ _ | refine Within.drew ?_ | refine Within.drewN ?_ _ | refine Within.setCell ?_ (by first | (simp; done) | (simp; omega)) _ | refine Within.trans ?_ (by assumption)))
    · intro wq hq
      have hcq := hq.cells
      clear hq
      go_simp
      first | rfl | (trace_state; fail)
    try simp only [Act.put, List.setIfInBounds_toArray, List.set_cons_zero, List.set_cons_succ]
    apply sch_firm rfl rfl (by repeat (with_reducible first | exact Within.refl _ | assumption | refine Within.alloc ?_ _ | refine Within.drew ?_ | refine Within.drewN ?_ _ | refine Within.setCell ?_ (by first | (simp; done) | (simp; omega)) _ | refine Within.trans ?_ (by assumption)))
    · intro wq hq
      have hcq := hq.cells
      clear hq
      go_simp
      first | rfl | (trace_state; fail)
    try simp only [Act.put, List.setIfInBounds_toArray, List.set_cons_zero, List.set_cons_succ]
    apply sch_firm rfl rfl (by repeat (with_reducible first | exact Within.refl _ | assumption | refine Within.alloc ?_ _ | refine Within.drew ?_ | refine Within.drewN ?_ _ | refine Within.setCell ?_ (by first | (simp; done) | (simp; omega)) _ | refine Within.trans ?_ (by assumption)))
    · intro wq hq
      have hcq := hq.cells
      clear hq
      go_simp
      first | rfl | (trace_state; fail)
    try simp only [Act.put, List.setIfInBounds_toArray, List.set_cons_zero, List.set_cons_succ]
    apply sch_firm rfl rfl (by repeat (with_reducible first | exact Within.refl _ | assumption | refine Within.alloc ?_ _ | refine Within.drew ?_ | refine Within.drewN ?_ _ | refine Within.setCell ?_ (by first | (simp; done) | (simp; omega)) _ | refine Within.trans ?_ (by assumption)))
    · intro wq hq
      have hcq := hq.cells
      clear hq
      go_simp
      first | rfl | (trace_state; fail)
    try simp only [Act.put, List.setIfInBounds_toArray, List.set_cons_zero, List.set_cons_succ]
    refine sch_one rfl rfl (fun K hK => ?_)
    go_simp
    refine (SG.out _ _ (IntB.of hJ2 (Within.refl w0).drew)).mono ?_; rintro e5 w5 ⟨rfl, hx5⟩
    subst hx5
    refine hK _ _ (fun _ => (by repeat (with_reducible first | exact Within.refl _ | assumption | refine Within.alloc ?_ _ | refine Within.drew ?_ | refine Within.drewN ?_ _ | refine Within.setCell ?_ (by first | (simp; done) | (simp; omega)) _ | refine Within.trans ?_ (by assumption)))) ?_
    clear hK K
    try simp only [Act.put, List.setIfInBounds_toArray, List.set_cons_zero, List.set_cons_succ]
    apply sch_firm rfl rfl (by repeat (with_reducible first | exact Within.refl _ | assumption | refine Within.alloc ?_ _ | refine Within.drew ?_ | refine Within.drewN ?_ _ | refine Within.setCell ?_ (by first | (simp; done) | (simp; omega)) _ | refine Within.trans ?_ (by assumption)))
    · intro wq hq
      have hcq := hq.cells
      clear hq
      go_simp
      first | rfl | (trace_state; fail)
    try simp only [Act.put, List.setIfInBounds_toArray, List.set_cons_zero, List.set_cons_succ]
    refine sch_one rfl rfl (fun K hK => ?_)
    go_simp
    refine (RO.out _ _ (IntB.of hJ1 (Within.refl w0).drew)).mono ?_; rintro e6 w6 ⟨rfl, hv6'⟩
    have hv6 : Within w0 w6 := Within.trans (Within.refl w0).drew hv6'
    refine hK _ _ (fun _ => (by repeat (with_reducible first | exact Within.refl _ | assumption | refine Within.alloc ?_ _ | refine Within.drew ?_ | refine Within.drewN ?_ _ | refine Within.setCell ?_ (by first | (simp; done) | (simp; omega)) _ | refine Within.trans ?_ (by assumption)))) ?_
    clear hK K
    try simp only [Act.put, List.setIfInBounds_toArray, List.set_cons_zero, List.set_cons_succ]
    apply sch_firm rfl rfl (by repeat (with_reducible first | exact Within.refl _ | assumption | refine Within.alloc ?_ _ | refine Within.drew ?_ | refine Within.drewN ?_ _ | refine Within.setCell ?_ (by first | (simp; done) | (simp; omega)) _ | refine Within.trans ?_ (by assumption)))
    · intro wq hq
      have hcq := hq.cells
      clear hq
      go_simp
      first | rfl | (trace_state; fail)
    try simp only [Act.put, List.setIfInBounds_toArray, List.set_cons_zero, List.set_cons_succ]
    apply sch_firm rfl rfl (by repeat (with_reducible first | exact Within.refl _ | assumption | refine Within.alloc ?_ _ | refine Within.drew ?_ | refine Within.drewN ?_ _ | refine Within.setCell ?_ (by first | (simp; done) | (simp; omega)) _ | refine Within.trans ?_ (by assumption)))
    · intro wq hq
      have hcq := hq.cells
      clear hq
      go_simp
      first | rfl | (trace_state; fail)
    try simp only [Act.put, List.setIfInBounds_toArray, List.set_cons_zero, List.set_cons_succ]
    apply sch_firm rfl rfl (by repeat (with_reducible first | exact Within.refl _ | assumption | refine Within.alloc ?_ _ | refine Within.drew ?_ | refine Within.drewN ?_ _ | refine Within.setCell ?_ (by first | (simp; done) | (simp; omega)) _ | refine Within.trans ?_ (by assumption)))
    · intro wq hq
      have hcq := hq.cells
      clear hq
      go_simp
      first | rfl | (trace_state; fail)
    try simp only [Act.put, List.setIfInBounds_toArray, List.set_cons_zero, List.set_cons_succ]
    refine sch_one rfl rfl (fun K hK => ?_)
    go_simp
    refine hK _ _ (fun h => absurd h (by decide)) ?_
    clear hK K
    try simp only [Act.put, List.setIfInBounds_toArray, List.set_cons_zero, List.set_cons_succ]
    refine sch_nil ?_
    have hz := Within.trans hwc (Within.trans hw0 hv6)
    go_wp2
    go_ret2
    exact ⟨rfl, hz⟩
end Go.Proofs.YtifgngmebnjfkaaGreatDoor
end
