/- Package convert: nudge, sum, Add: walks, and what they come to. -/
import Derived.Test.YtifgngmebnjfkaaDoorFadd
namespace Go.Proofs.YtifgngmebnjfkaaDoor
open Go.RowKit

theorem m_float_nan (op : BinOp) (t : TypeId) (k : FloatKind) (x y : Nat) (P : Program) (w : World) (ho : op = .sub ∨ op = .add ∨ op = .mul ∨ op = .quo) (h : floatBits op k x y = none) :
    (binOp op t (.float k x) (.float k y)).run P w = .ok (.float k ((Question.nanBits k x y).cut (w.tape w.drawn (.nanBits k x y)))) w.drew := by
  unfold floatBits at h
  rcases ho with rfl | rfl | rfl | rfl <;> simp only at h <;> simp [binOp, Op.floatArith, h, Question.forced]

set_option maxRecDepth 100000 in
set_option maxHeartbeats 600000 in
theorem nudge_zero (x l m m3 m4 m5 : Nat) (b : Bool) (e : Int) (hm : m < 9007199254740992) (hm4 : m4 = 4 * m) (hm5 : m5 = m4 + 1) (hm3 : m4 = m3 + 1) (h1e : -3000 ≤ e) (h2e : e ≤ 3000) (TK : Hid (∀ w, Calls Tryd.prog 69 #[.float .f64 x] w fun e' w' => e' = .returned (.agg #[.bool b, .int .u64 m, .int .i64 e]) ∧ Within w w')) (hz : (FloatKind.f64.format.order l 0 == some .eq) = true) (w : World) : Calls Tryd.prog 91 #[.float .f64 x, .float .f64 l] w fun e' w' => e' = .returned (.agg #[.bool b, .int .u64 m4, .int .i64 (e - 2)]) ∧ Within w w' := by
  have g4 : IntKind.u64.wrap ((m : Int) * 4) = (m4 : Int) := by rw [IntKind.wrap_u64]; omega
  have g5 : IntKind.u64.wrap ((m4 : Int) + 1) = (m5 : Int) := by rw [IntKind.wrap_u64]; omega
  have g3 : IntKind.u64.wrap ((m4 : Int) - 1) = (m3 : Int) := by rw [IntKind.wrap_u64]; omega
  have g2 : IntKind.i64.wrap (e - 2) = e - 2 := by rw [IntKind.wrap_i64]; omega
  have HM := Lib.hid (And.intro hm (And.intro hm4 (And.intro hm5 hm3)))
  clear hm hm4 hm5 hm3
  go_enter Tryd.func91, Tryd.ntmps91
  go_wp2_with fail
  refine (TK.out _).mono ?_; rintro e2 w2 ⟨rfl, hb2⟩
  have r0 : w2.cell? ⟨w.heap.size, 0, none⟩ = some (.bool false) := (hb2.cells _ _ (by simp)).trans (by simp)
  have r1 : w2.cell? ⟨w.heap.size, 1, none⟩ = some (.int .u64 0) := (hb2.cells _ _ (by simp)).trans (by simp)
  have r2 : w2.cell? ⟨w.heap.size, 2, none⟩ = some (.int .i64 0) := (hb2.cells _ _ (by simp)).trans (by simp)
  have y0 : w2.frozen? ⟨w.heap.size, 0, none⟩ = false := (hb2.frozens _ _ (by simp)).trans (by simp)
  have y1 : w2.frozen? ⟨w.heap.size, 1, none⟩ = false := (hb2.frozens _ _ (by simp)).trans (by simp)
  have y2 : w2.frozen? ⟨w.heap.size, 2, none⟩ = false := (hb2.frozens _ _ (by simp)).trans (by simp)
  have z2 : w.heap.size < w2.heap.size := World.block_lt_of_cell? _ _ r0
  have s0 := World.cell?_setCell_same w2 ⟨w.heap.size, 0, none⟩ (.bool b) r0
  have s1 := World.cell?_setCell_same (w2.setCell ⟨w.heap.size, 0, none⟩ (.bool b)) ⟨w.heap.size, 1, none⟩ (.int .u64 m4) ((World.cell?_setCell_other _ _ _ _ (by simp)).trans r1)
  have s2 := World.cell?_setCell_same ((w2.setCell ⟨w.heap.size, 0, none⟩ (.bool b)).setCell ⟨w.heap.size, 1, none⟩ (.int .u64 m4)) ⟨w.heap.size, 2, none⟩ (.int .i64 (e - 2)) ((World.cell?_setCell_other _ _ _ _ (by simp)).trans ((World.cell?_setCell_other _ _ _ _ (by simp)).trans r2))
  go_wp2
  refine bodyPost_ret (v := .agg #[.bool b, .int .u64 m4, .int .i64 (e - 2)]) (by simp [results, Tryd.results91, go_sem, z2, s0, s1, s2]) rfl ⟨rfl, ?_⟩
  exact (by repeat (first | with_reducible exact Within.refl _ | with_reducible assumption | with_reducible refine Within.alloc ?_ _ | with_reducible refine Within.drew ?_ | with_reducible refine Within.setCell ?_ (by first | (simp; done) | (simp; omega)) _ | with_reducible refine Within.trans ?_ (by assumption)))

set_option maxRecDepth 100000 in
set_option maxHeartbeats 600000 in
theorem nudge_up (x l m m3 m4 m5 : Nat) (b : Bool) (e : Int) (hm : m < 9007199254740992) (hm4 : m4 = 4 * m) (hm5 : m5 = m4 + 1) (hm3 : m4 = m3 + 1) (h1e : -3000 ≤ e) (h2e : e ≤ 3000) (TK : Hid (∀ w, Calls Tryd.prog 69 #[.float .f64 x] w fun e' w' => e' = .returned (.agg #[.bool b, .int .u64 m, .int .i64 e]) ∧ Within w w')) (hz : (FloatKind.f64.format.order l 0 == some .eq) = false) (g : Bool) (h1 : (FloatKind.f64.format.order l 0 == some .gt) = g) (h2 : (FloatKind.f64.format.order x 0 == some .gt) = g) (w : World) : Calls Tryd.prog 91 #[.float .f64 x, .float .f64 l] w fun e' w' => e' = .returned (.agg #[.bool b, .int .u64 m5, .int .i64 (e - 2)]) ∧ Within w w' := by
  have g4 : IntKind.u64.wrap ((m : Int) * 4) = (m4 : Int) := by rw [IntKind.wrap_u64]; omega
  have g5 : IntKind.u64.wrap ((m4 : Int) + 1) = (m5 : Int) := by rw [IntKind.wrap_u64]; omega
  have g3 : IntKind.u64.wrap ((m4 : Int) - 1) = (m3 : Int) := by rw [IntKind.wrap_u64]; omega
  have g2 : IntKind.i64.wrap (e - 2) = e - 2 := by rw [IntKind.wrap_i64]; omega
  have hg : (g == g) = true := by cases g <;> rfl
  have HM := Lib.hid (And.intro hm (And.intro hm4 (And.intro hm5 hm3)))
  clear hm hm4 hm5 hm3
  go_enter Tryd.func91, Tryd.ntmps91
  go_wp2_with fail
  refine (TK.out _).mono ?_; rintro e2 w2 ⟨rfl, hb2⟩
  have r0 : w2.cell? ⟨w.heap.size, 0, none⟩ = some (.bool false) := (hb2.cells _ _ (by simp)).trans (by simp)
  have r1 : w2.cell? ⟨w.heap.size, 1, none⟩ = some (.int .u64 0) := (hb2.cells _ _ (by simp)).trans (by simp)
  have r2 : w2.cell? ⟨w.heap.size, 2, none⟩ = some (.int .i64 0) := (hb2.cells _ _ (by simp)).trans (by simp)
  have y0 : w2.frozen? ⟨w.heap.size, 0, none⟩ = false := (hb2.frozens _ _ (by simp)).trans (by simp)
  have y1 : w2.frozen? ⟨w.heap.size, 1, none⟩ = false := (hb2.frozens _ _ (by simp)).trans (by simp)
  have y2 : w2.frozen? ⟨w.heap.size, 2, none⟩ = false := (hb2.frozens _ _ (by simp)).trans (by simp)
  have z2 : w.heap.size < w2.heap.size := World.block_lt_of_cell? _ _ r0
  have s0 := World.cell?_setCell_same w2 ⟨w.heap.size, 0, none⟩ (.bool b) r0
  have s1 := World.cell?_setCell_same (w2.setCell ⟨w.heap.size, 0, none⟩ (.bool b)) ⟨w.heap.size, 1, none⟩ (.int .u64 m5) ((World.cell?_setCell_other _ _ _ _ (by simp)).trans r1)
  have s2 := World.cell?_setCell_same ((w2.setCell ⟨w.heap.size, 0, none⟩ (.bool b)).setCell ⟨w.heap.size, 1, none⟩ (.int .u64 m5)) ⟨w.heap.size, 2, none⟩ (.int .i64 (e - 2)) ((World.cell?_setCell_other _ _ _ _ (by simp)).trans ((World.cell?_setCell_other _ _ _ _ (by simp)).trans r2))
  go_wp2
  refine bodyPost_ret (v := .agg #[.bool b, .int .u64 m5, .int .i64 (e - 2)]) (by simp [results, Tryd.results91, go_sem, z2, s0, s1, s2]) rfl ⟨rfl, ?_⟩
  exact (by repeat (first | with_reducible exact Within.refl _ | with_reducible assumption | with_reducible refine Within.alloc ?_ _ | with_reducible refine Within.drew ?_ | with_reducible refine Within.setCell ?_ (by first | (simp; done) | (simp; omega)) _ | with_reducible refine Within.trans ?_ (by assumption)))

set_option maxRecDepth 100000 in
set_option maxHeartbeats 600000 in
theorem nudge_down (x l m m3 m4 m5 : Nat) (b : Bool) (e : Int) (hm : m < 9007199254740992) (hm4 : m4 = 4 * m) (hm5 : m5 = m4 + 1) (hm3 : m4 = m3 + 1) (h1e : -3000 ≤ e) (h2e : e ≤ 3000) (TK : Hid (∀ w, Calls Tryd.prog 69 #[.float .f64 x] w fun e' w' => e' = .returned (.agg #[.bool b, .int .u64 m, .int .i64 e]) ∧ Within w w')) (hz : (FloatKind.f64.format.order l 0 == some .eq) = false) (g : Bool) (h1 : (FloatKind.f64.format.order l 0 == some .gt) = g) (h2 : (FloatKind.f64.format.order x 0 == some .gt) = !g) (w : World) : Calls Tryd.prog 91 #[.float .f64 x, .float .f64 l] w fun e' w' => e' = .returned (.agg #[.bool b, .int .u64 m3, .int .i64 (e - 2)]) ∧ Within w w' := by
  have g4 : IntKind.u64.wrap ((m : Int) * 4) = (m4 : Int) := by rw [IntKind.wrap_u64]; omega
  have g5 : IntKind.u64.wrap ((m4 : Int) + 1) = (m5 : Int) := by rw [IntKind.wrap_u64]; omega
  have g3 : IntKind.u64.wrap ((m4 : Int) - 1) = (m3 : Int) := by rw [IntKind.wrap_u64]; omega
  have g2 : IntKind.i64.wrap (e - 2) = e - 2 := by rw [IntKind.wrap_i64]; omega
  have hg : (g == !g) = false := by cases g <;> rfl
  have HM := Lib.hid (And.intro hm (And.intro hm4 (And.intro hm5 hm3)))
  clear hm hm4 hm5 hm3
  go_enter Tryd.func91, Tryd.ntmps91
  go_wp2_with fail
  refine (TK.out _).mono ?_; rintro e2 w2 ⟨rfl, hb2⟩
  have r0 : w2.cell? ⟨w.heap.size, 0, none⟩ = some (.bool false) := (hb2.cells _ _ (by simp)).trans (by simp)
  have r1 : w2.cell? ⟨w.heap.size, 1, none⟩ = some (.int .u64 0) := (hb2.cells _ _ (by simp)).trans (by simp)
  have r2 : w2.cell? ⟨w.heap.size, 2, none⟩ = some (.int .i64 0) := (hb2.cells _ _ (by simp)).trans (by simp)
  have y0 : w2.frozen? ⟨w.heap.size, 0, none⟩ = false := (hb2.frozens _ _ (by simp)).trans (by simp)
  have y1 : w2.frozen? ⟨w.heap.size, 1, none⟩ = false := (hb2.frozens _ _ (by simp)).trans (by simp)
  have y2 : w2.frozen? ⟨w.heap.size, 2, none⟩ = false := (hb2.frozens _ _ (by simp)).trans (by simp)
  have z2 : w.heap.size < w2.heap.size := World.block_lt_of_cell? _ _ r0
  have s0 := World.cell?_setCell_same w2 ⟨w.heap.size, 0, none⟩ (.bool b) r0
  have s1 := World.cell?_setCell_same (w2.setCell ⟨w.heap.size, 0, none⟩ (.bool b)) ⟨w.heap.size, 1, none⟩ (.int .u64 m3) ((World.cell?_setCell_other _ _ _ _ (by simp)).trans r1)
  have s2 := World.cell?_setCell_same ((w2.setCell ⟨w.heap.size, 0, none⟩ (.bool b)).setCell ⟨w.heap.size, 1, none⟩ (.int .u64 m3)) ⟨w.heap.size, 2, none⟩ (.int .i64 (e - 2)) ((World.cell?_setCell_other _ _ _ _ (by simp)).trans ((World.cell?_setCell_other _ _ _ _ (by simp)).trans r2))
  go_wp2
  refine bodyPost_ret (v := .agg #[.bool b, .int .u64 m3, .int .i64 (e - 2)]) (by simp [results, Tryd.results91, go_sem, z2, s0, s1, s2]) rfl ⟨rfl, ?_⟩
  exact (by repeat (first | with_reducible exact Within.refl _ | with_reducible assumption | with_reducible refine Within.alloc ?_ _ | with_reducible refine Within.drew ?_ | with_reducible refine Within.setCell ?_ (by first | (simp; done) | (simp; omega)) _ | with_reducible refine Within.trans ?_ (by assumption)))

end Go.Proofs.YtifgngmebnjfkaaDoor
