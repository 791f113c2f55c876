/- ConvertSterbenz: the walk. -/
import Derived.Test.YtifgngmebnjfkaaDoorStz
import Derived.Test.YtifgngmebnjfkaaDoorCv11
import Derived.Test.YtifgngmebnjfkaaDoorSched3
namespace Go.Proofs.YtifgngmebnjfkaaDoor
open Go.RowKit

@[go_sem] theorem mxs_neg32 (P : Program) (w : World) (a : Nat) : (Op.unary UnOp.neg (Value.float .f32 a)).run P w = .ok (.float .f32 (Go.Op.negFloat .f32 a)) w := rfl
set_option maxRecDepth 100000 in
set_option maxHeartbeats 600000 in
theorem Sub_core (x y ny r : Nat) (mode fl n : Int) (ey : Go.Op.negFloat .f32 y = ny) (AD : Hid (∀ w, FmS w → Calls Tryd.prog 47 #[.float .f32 x, .float .f32 ny, .int .i64 mode] w (fun e' w' => e' = .returned (.tuple #[.float .f32 r, .int .i64 fl, .int .i64 n]) ∧ Within w w'))) (w : World) (hT : FmS w) : Calls Tryd.prog 17 #[.float .f32 x, .float .f32 y, .int .i64 mode] w (fun e' w' => e' = .returned (.tuple #[.float .f32 r, .int .i64 fl, .int .i64 n]) ∧ Within w w') := by
  go_enter Tryd.func17, Tryd.ntmps17
  go_wp2_with fail
  refine (AD.out _ (hT.of (by repeat (first | with_reducible exact Within.refl _ | with_reducible assumption | with_reducible refine Within.alloc ?_ _ | with_reducible refine Within.drew ?_ | with_reducible refine Within.drewN ?_ _ | with_reducible refine Within.setCell ?_ (by first | (simp; done) | (simp; omega)) _ | with_reducible refine Within.trans ?_ (by assumption))))).mono ?_; rintro e1 w1 ⟨rfl, hb1⟩
  go_wp2
  go_ret3
  exact ⟨rfl, hb1⟩

theorem Sub_known (x y : Nat) (mode : Int) (hx : x < 4294967296) (hy : y < 4294967296) (hmode : 0 ≤ mode ∧ mode ≤ 4) (w : World) (hT : FmS w) : Calls Tryd.prog 17 #[.float .f32 x, .float .f32 y, .int .i64 mode] w (fun e' w' => e' = .returned (.tuple #[.float .f32 (addWd x (tzS y) mode), .int .i64 (addFl x (tzS y) mode), .int .i64 0]) ∧ Within w w') :=
  Sub_core x y (tzS y) _ mode _ _ (neg_tzS hy) (Lib.hid fun w h => Add_known x (tzS y) mode hx (tzS_lt hy) hmode w h) w hT

set_option maxRecDepth 100000 in
set_option maxHeartbeats 600000 in
theorem stz_low (x y : Nat) (mode : Int) (hm : decide (mode < 0) = true) (w : World) (hT : FmS w) : Calls Tryd.prog 3 #[.int .u32 (x : Int), .int .u32 (y : Int), .int .i64 mode] w (fun e' w' => e' = .returned (.bool true) ∧ Within w w') := by
  go_enter Tryd.func3, Tryd.ntmps3
  go_wp2_with fail
  refine (awake_true _ (hT.of (by repeat (first | with_reducible exact Within.refl _ | with_reducible assumption | with_reducible refine Within.alloc ?_ _ | with_reducible refine Within.drew ?_ | with_reducible refine Within.drewN ?_ _ | with_reducible refine Within.setCell ?_ (by first | (simp; done) | (simp; omega)) _ | with_reducible refine Within.trans ?_ (by assumption))))).mono ?_; rintro e1 w1 ⟨rfl, hb1⟩
  go_wp2
  go_ret
  exact ⟨rfl, hb1⟩

set_option maxRecDepth 100000 in
set_option maxHeartbeats 600000 in
theorem stz_high (x y : Nat) (mode : Int) (hm : decide (mode < 0) = false) (hm2 : decide (mode > 4) = true) (w : World) (hT : FmS w) : Calls Tryd.prog 3 #[.int .u32 (x : Int), .int .u32 (y : Int), .int .i64 mode] w (fun e' w' => e' = .returned (.bool true) ∧ Within w w') := by
  go_enter Tryd.func3, Tryd.ntmps3
  go_wp2_with fail
  refine (awake_true _ (hT.of (by repeat (first | with_reducible exact Within.refl _ | with_reducible assumption | with_reducible refine Within.alloc ?_ _ | with_reducible refine Within.drew ?_ | with_reducible refine Within.drewN ?_ _ | with_reducible refine Within.setCell ?_ (by first | (simp; done) | (simp; omega)) _ | with_reducible refine Within.trans ?_ (by assumption))))).mono ?_; rintro e1 w1 ⟨rfl, hb1⟩
  go_wp2
  go_ret
  exact ⟨rfl, hb1⟩

set_option maxRecDepth 100000 in
set_option maxHeartbeats 600000 in
theorem stz_k1 (x y ma mb : Nat) (mode ka kb ea eb : Int) (na nb : Bool) (hm : decide (mode < 0) = false) (hm2 : decide (mode > 4) = false) (OX : Hid (∀ w, Calls Tryd.prog 13 #[.int .u32 (x : Int)] w (fun e w' => ∃ g, e = .returned (.agg #[.int .i64 ka, .bool na, .pointer (some ⟨g, 0, none⟩), .int .i64 ea]) ∧ IntB w' g (ma : Int) ∧ w.heap.size ≤ g ∧ Within w w'))) (OY : Hid (∀ w, Calls Tryd.prog 13 #[.int .u32 (y : Int)] w (fun e w' => ∃ g, e = .returned (.agg #[.int .i64 kb, .bool nb, .pointer (some ⟨g, 0, none⟩), .int .i64 eb]) ∧ IntB w' g (mb : Int) ∧ w.heap.size ≤ g ∧ Within w w'))) (h1 : (ka != 0) = true) (w : World) (hT : FmS w) : Calls Tryd.prog 3 #[.int .u32 (x : Int), .int .u32 (y : Int), .int .i64 mode] w (fun e' w' => e' = .returned (.bool true) ∧ Within w w') := by
  go_enter Tryd.func3, Tryd.ntmps3
  go_wp2_with fail
  refine (awake_true _ (hT.of (by repeat (first | with_reducible exact Within.refl _ | with_reducible assumption | with_reducible refine Within.alloc ?_ _ | with_reducible refine Within.drew ?_ | with_reducible refine Within.drewN ?_ _ | with_reducible refine Within.setCell ?_ (by first | (simp; done) | (simp; omega)) _ | with_reducible refine Within.trans ?_ (by assumption))))).mono ?_; rintro e1 w1 ⟨rfl, hb1⟩
  go_wp2_with fail
  refine (OX.out _).mono ?_; rintro e2 w2 ⟨g1, rfl, hI1, hg1, hb2⟩
  go_wp2_with fail
  refine (OY.out _).mono ?_; rintro e3 w3 ⟨g2, rfl, hI2, hg2, hb3⟩
  have hv3 := hb1.trans (hb2.trans hb3)
  have hJ1 := hI1.of hb3
  go_wp2
  go_ret
  exact ⟨rfl, (by repeat (first | with_reducible exact Within.refl _ | with_reducible assumption | with_reducible refine Within.alloc ?_ _ | with_reducible refine Within.drew ?_ | with_reducible refine Within.drewN ?_ _ | with_reducible refine Within.setCell ?_ (by first | (simp; done) | (simp; omega)) _ | with_reducible refine Within.trans ?_ (by assumption)))⟩

set_option maxRecDepth 100000 in
set_option maxHeartbeats 600000 in
theorem stz_k2 (x y ma mb : Nat) (mode ka kb ea eb : Int) (na nb : Bool) (hm : decide (mode < 0) = false) (hm2 : decide (mode > 4) = false) (OX : Hid (∀ w, Calls Tryd.prog 13 #[.int .u32 (x : Int)] w (fun e w' => ∃ g, e = .returned (.agg #[.int .i64 ka, .bool na, .pointer (some ⟨g, 0, none⟩), .int .i64 ea]) ∧ IntB w' g (ma : Int) ∧ w.heap.size ≤ g ∧ Within w w'))) (OY : Hid (∀ w, Calls Tryd.prog 13 #[.int .u32 (y : Int)] w (fun e w' => ∃ g, e = .returned (.agg #[.int .i64 kb, .bool nb, .pointer (some ⟨g, 0, none⟩), .int .i64 eb]) ∧ IntB w' g (mb : Int) ∧ w.heap.size ≤ g ∧ Within w w'))) (h1 : (ka != 0) = false) (h2 : (kb != 0) = true) (w : World) (hT : FmS w) : Calls Tryd.prog 3 #[.int .u32 (x : Int), .int .u32 (y : Int), .int .i64 mode] w (fun e' w' => e' = .returned (.bool true) ∧ Within w w') := by
  go_enter Tryd.func3, Tryd.ntmps3
  go_wp2_with fail
  refine (awake_true _ (hT.of (by repeat (first | with_reducible exact Within.refl _ | with_reducible assumption | with_reducible refine Within.alloc ?_ _ | with_reducible refine Within.drew ?_ | with_reducible refine Within.drewN ?_ _ | with_reducible refine Within.setCell ?_ (by first | (simp; done) | (simp; omega)) _ | with_reducible refine Within.trans ?_ (by assumption))))).mono ?_; rintro e1 w1 ⟨rfl, hb1⟩
  go_wp2_with fail
  refine (OX.out _).mono ?_; rintro e2 w2 ⟨g1, rfl, hI1, hg1, hb2⟩
  go_wp2_with fail
  refine (OY.out _).mono ?_; rintro e3 w3 ⟨g2, rfl, hI2, hg2, hb3⟩
  have hv3 := hb1.trans (hb2.trans hb3)
  have hJ1 := hI1.of hb3
  go_wp2
  go_ret
  exact ⟨rfl, (by repeat (first | with_reducible exact Within.refl _ | with_reducible assumption | with_reducible refine Within.alloc ?_ _ | with_reducible refine Within.drew ?_ | with_reducible refine Within.drewN ?_ _ | with_reducible refine Within.setCell ?_ (by first | (simp; done) | (simp; omega)) _ | with_reducible refine Within.trans ?_ (by assumption)))⟩

set_option maxRecDepth 100000 in
set_option maxHeartbeats 600000 in
theorem stz_n (x y ma mb : Nat) (mode ka kb ea eb : Int) (na nb : Bool) (hm : decide (mode < 0) = false) (hm2 : decide (mode > 4) = false) (OX : Hid (∀ w, Calls Tryd.prog 13 #[.int .u32 (x : Int)] w (fun e w' => ∃ g, e = .returned (.agg #[.int .i64 ka, .bool na, .pointer (some ⟨g, 0, none⟩), .int .i64 ea]) ∧ IntB w' g (ma : Int) ∧ w.heap.size ≤ g ∧ Within w w'))) (OY : Hid (∀ w, Calls Tryd.prog 13 #[.int .u32 (y : Int)] w (fun e w' => ∃ g, e = .returned (.agg #[.int .i64 kb, .bool nb, .pointer (some ⟨g, 0, none⟩), .int .i64 eb]) ∧ IntB w' g (mb : Int) ∧ w.heap.size ≤ g ∧ Within w w'))) (h1 : (ka != 0) = false) (h2 : (kb != 0) = false) (h3 : (!na == nb) = true) (w : World) (hT : FmS w) : Calls Tryd.prog 3 #[.int .u32 (x : Int), .int .u32 (y : Int), .int .i64 mode] w (fun e' w' => e' = .returned (.bool true) ∧ Within w w') := by
  go_enter Tryd.func3, Tryd.ntmps3
  go_wp2_with fail
  refine (awake_true _ (hT.of (by repeat (first | with_reducible exact Within.refl _ | with_reducible assumption | with_reducible refine Within.alloc ?_ _ | with_reducible refine Within.drew ?_ | with_reducible refine Within.drewN ?_ _ | with_reducible refine Within.setCell ?_ (by first | (simp; done) | (simp; omega)) _ | with_reducible refine Within.trans ?_ (by assumption))))).mono ?_; rintro e1 w1 ⟨rfl, hb1⟩
  go_wp2_with fail
  refine (OX.out _).mono ?_; rintro e2 w2 ⟨g1, rfl, hI1, hg1, hb2⟩
  go_wp2_with fail
  refine (OY.out _).mono ?_; rintro e3 w3 ⟨g2, rfl, hI2, hg2, hb3⟩
  have hv3 := hb1.trans (hb2.trans hb3)
  have hJ1 := hI1.of hb3
  go_wp2
  go_ret
  exact ⟨rfl, (by repeat (first | with_reducible exact Within.refl _ | with_reducible assumption | with_reducible refine Within.alloc ?_ _ | with_reducible refine Within.drew ?_ | with_reducible refine Within.drewN ?_ _ | with_reducible refine Within.setCell ?_ (by first | (simp; done) | (simp; omega)) _ | with_reducible refine Within.trans ?_ (by assumption)))⟩

set_option maxRecDepth 100000 in
set_option maxHeartbeats 600000 in
theorem stz_main (x y ma mb : Nat) (mode ka kb ea eb : Int) (na nb : Bool) (hm : decide (mode < 0) = false) (hm2 : decide (mode > 4) = false) (OX : Hid (∀ w, Calls Tryd.prog 13 #[.int .u32 (x : Int)] w (fun e w' => ∃ g, e = .returned (.agg #[.int .i64 ka, .bool na, .pointer (some ⟨g, 0, none⟩), .int .i64 ea]) ∧ IntB w' g (ma : Int) ∧ w.heap.size ≤ g ∧ Within w w'))) (OY : Hid (∀ w, Calls Tryd.prog 13 #[.int .u32 (y : Int)] w (fun e w' => ∃ g, e = .returned (.agg #[.int .i64 kb, .bool nb, .pointer (some ⟨g, 0, none⟩), .int .i64 eb]) ∧ IntB w' g (mb : Int) ∧ w.heap.size ≤ g ∧ Within w w'))) (h1 : (ka != 0) = false) (h2 : (kb != 0) = false) (h3 : (!na == nb) = false) (n1 : Bool) (m1 : Nat) (e1 c1 : Int) (SP : Hid (∀ (w : World) (g : Nat), IntB w g (ma : Int) → Calls Tryd.prog 16 #[.agg #[.int .i64 ka, .bool false, .pointer (some ⟨g, 0, none⟩), .int .i64 ea], .agg #[.int .i64 ka, .bool false, .pointer (some ⟨g, 0, none⟩), .int .i64 ea]] w (fun e' w' => ∃ h, e' = .returned (.agg #[.int .i64 0, .bool n1, .pointer (some ⟨h, 0, none⟩), .int .i64 e1]) ∧ IntB w' h (m1 : Int) ∧ w.heap.size ≤ h ∧ Within w w'))) (C1 : Hid (∀ (w : World) (g h : Nat), IntB w g (m1 : Int) → IntB w h (mb : Int) → Calls Tryd.prog 15 #[.agg #[.int .i64 0, .bool n1, .pointer (some ⟨g, 0, none⟩), .int .i64 e1], .agg #[.int .i64 kb, .bool false, .pointer (some ⟨h, 0, none⟩), .int .i64 eb]] w (fun e' w' => e' = .returned (.int .i64 c1) ∧ Within w w'))) (n2 : Bool) (m2 : Nat) (e2 c2 : Int) (SQ : Hid (∀ (w : World) (g : Nat), IntB w g (mb : Int) → Calls Tryd.prog 16 #[.agg #[.int .i64 kb, .bool false, .pointer (some ⟨g, 0, none⟩), .int .i64 eb], .agg #[.int .i64 kb, .bool false, .pointer (some ⟨g, 0, none⟩), .int .i64 eb]] w (fun e' w' => ∃ h, e' = .returned (.agg #[.int .i64 0, .bool n2, .pointer (some ⟨h, 0, none⟩), .int .i64 e2]) ∧ IntB w' h (m2 : Int) ∧ w.heap.size ≤ h ∧ Within w w'))) (C2 : Hid (∀ (w : World) (g h : Nat), IntB w g (ma : Int) → IntB w h (m2 : Int) → Calls Tryd.prog 15 #[.agg #[.int .i64 ka, .bool false, .pointer (some ⟨g, 0, none⟩), .int .i64 ea], .agg #[.int .i64 0, .bool n2, .pointer (some ⟨h, 0, none⟩), .int .i64 e2]] w (fun e' w' => e' = .returned (.int .i64 c2) ∧ Within w w'))) (u1 u2 : Bool) (d1 : decide (c1 < 0) = u1) (d2 : decide (c2 > 0) = u2) (EV : Hid (u1 = false → u2 = false → ∃ (r : Nat) (fl n : Int) (nr : Bool) (mr : Nat) (kr er : Int) (n3 : Bool) (m3 : Nat) (e3 c3 : Int), Hid (∀ w, FmS w → Calls Tryd.prog 17 #[.float .f32 x, .float .f32 y, .int .i64 mode] w (fun e' w' => e' = .returned (.tuple #[.float .f32 r, .int .i64 fl, .int .i64 n]) ∧ Within w w')) ∧ Hid (∀ w, Calls Tryd.prog 13 #[.int .u32 (r : Int)] w (fun e w' => ∃ g, e = .returned (.agg #[.int .i64 kr, .bool nr, .pointer (some ⟨g, 0, none⟩), .int .i64 er]) ∧ IntB w' g (mr : Int) ∧ w.heap.size ≤ g ∧ Within w w')) ∧ Hid (∀ (w : World) (g g0 : Nat), IntB w g (ma : Int) → IntB w g0 (mb : Int) → Calls Tryd.prog 16 #[.agg #[.int .i64 ka, .bool na, .pointer (some ⟨g, 0, none⟩), .int .i64 ea], .agg #[.int .i64 kb, .bool (!nb), .pointer (some ⟨g0, 0, none⟩), .int .i64 eb]] w (fun e' w' => ∃ h, e' = .returned (.agg #[.int .i64 0, .bool n3, .pointer (some ⟨h, 0, none⟩), .int .i64 e3]) ∧ IntB w' h (m3 : Int) ∧ w.heap.size ≤ h ∧ Within w w')) ∧ Hid (∀ (w : World) (g h : Nat), IntB w g (mr : Int) → IntB w h (m3 : Int) → Calls Tryd.prog 15 #[.agg #[.int .i64 kr, .bool nr, .pointer (some ⟨g, 0, none⟩), .int .i64 er], .agg #[.int .i64 0, .bool n3, .pointer (some ⟨h, 0, none⟩), .int .i64 e3]] w (fun e' w' => e' = .returned (.int .i64 c3) ∧ Within w w')) ∧ (n == 0) = true ∧ (fl == 0) = true ∧ (c3 == 0) = true)) (w : World) (hT : FmS w) : Calls Tryd.prog 3 #[.int .u32 (x : Int), .int .u32 (y : Int), .int .i64 mode] w (fun e' w' => e' = .returned (.bool true) ∧ Within w w') := by
  go_enter Tryd.func3, Tryd.ntmps3
  go_wp2_with fail
  refine (awake_true _ (hT.of (by repeat (first | with_reducible exact Within.refl _ | with_reducible assumption | with_reducible refine Within.alloc ?_ _ | with_reducible refine Within.drew ?_ | with_reducible refine Within.drewN ?_ _ | with_reducible refine Within.setCell ?_ (by first | (simp; done) | (simp; omega)) _ | with_reducible refine Within.trans ?_ (by assumption))))).mono ?_; rintro e1 w1 ⟨rfl, hb1⟩
  go_wp2_with fail
  refine (OX.out _).mono ?_; rintro e2 w2 ⟨g1, rfl, hI1, hg1, hb2⟩
  go_wp2_with fail
  refine (OY.out _).mono ?_; rintro e3 w3 ⟨g2, rfl, hI2, hg2, hb3⟩
  have hv3 := hb1.trans (hb2.trans hb3)
  have hJ1 := hI1.of hb3
  go_upto_region 8 with fail
  go_cut [9, 10] (fun s9 s10 wx => ∃ P Q, s9 = .pointer (some ⟨P, 0, none⟩) ∧ s10 = .pointer (some ⟨Q, 0, none⟩) ∧ wx.cell? ⟨P, 0, none⟩ = some (.int .i64 ka) ∧ wx.cell? ⟨P, 1, none⟩ = some (.bool false) ∧ wx.cell? ⟨P, 2, none⟩ = some (.pointer (some ⟨g1, 0, none⟩)) ∧ wx.cell? ⟨P, 3, none⟩ = some (.int .i64 ea) ∧ wx.cell? ⟨Q, 0, none⟩ = some (.int .i64 kb) ∧ wx.cell? ⟨Q, 1, none⟩ = some (.bool false) ∧ wx.cell? ⟨Q, 2, none⟩ = some (.pointer (some ⟨g2, 0, none⟩)) ∧ wx.cell? ⟨Q, 3, none⟩ = some (.int .i64 eb) ∧ Within ((w3.alloc (.cells #[.int .i64 ka, .bool na, .pointer (some ⟨g1, 0, none⟩), .int .i64 ea] 26)).alloc (.cells #[.int .i64 kb, .bool nb, .pointer (some ⟨g2, 0, none⟩), .int .i64 eb] 26)) wx)
  case first =>
    refine wp_region_sctG (fun W => W.cell? ⟨w3.heap.size, 0, none⟩ = some (.int .i64 ka) ∧ W.cell? ⟨w3.heap.size, 1, none⟩ = some (.bool na) ∧ W.cell? ⟨w3.heap.size, 2, none⟩ = some (.pointer (some ⟨g1, 0, none⟩)) ∧ W.cell? ⟨w3.heap.size, 3, none⟩ = some (.int .i64 ea) ∧ W.cell? ⟨w3.heap.size + 1, 0, none⟩ = some (.int .i64 kb) ∧ W.cell? ⟨w3.heap.size + 1, 1, none⟩ = some (.bool nb) ∧ W.cell? ⟨w3.heap.size + 1, 2, none⟩ = some (.pointer (some ⟨g2, 0, none⟩)) ∧ W.cell? ⟨w3.heap.size + 1, 3, none⟩ = some (.int .i64 eb) ∧ Within ((w3.alloc (.cells #[.int .i64 ka, .bool na, .pointer (some ⟨g1, 0, none⟩), .int .i64 ea] 26)).alloc (.cells #[.int .i64 kb, .bool nb, .pointer (some ⟨g2, 0, none⟩), .int .i64 eb] 26)) W ∧ w3.heap.size < W.heap.size ∧ w3.heap.size + 1 < W.heap.size) 7 (.firm 0 (.firm 2 (.three 1 (.three 3 (.two 4 (.one 5 (.one 6 (.one 7 .nil))) 5 (.one 4 (.one 6 (.one 7 .nil)))) 4 (.two 3 (.one 5 (.one 6 (.one 7 .nil))) 5 (.one 3 (.one 6 (.one 7 .nil)))) 5 (.two 3 (.one 4 (.one 6 (.one 7 .nil))) 4 (.one 3 (.one 6 (.one 7 .nil))))) 4 (.two 1 (.two 3 (.one 5 (.one 6 (.one 7 .nil))) 5 (.one 3 (.one 6 (.one 7 .nil)))) 5 (.one 1 (.one 3 (.one 6 (.one 7 .nil))))) 5 (.two 1 (.two 3 (.one 4 (.one 6 (.one 7 .nil))) 4 (.one 3 (.one 6 (.one 7 .nil)))) 4 (.one 1 (.one 3 (.one 6 (.one 7 .nil)))))))) (by kernel_rfl) (by kernel_rfl) ⟨by go_simp, by go_simp, by go_simp, by go_simp, by go_simp, by go_simp, by go_simp, by go_simp, Within.refl _, by simp; omega, by simp⟩ ?_
    rintro w0 ⟨c0, c1, c2, c3, c4, c5, c6, c7, hw0, hs0, hs1⟩
    try simp only [Act.put, List.setIfInBounds_toArray, List.set_cons_zero, List.set_cons_succ]
    repeat
      apply sct_firm rfl rfl (by repeat (first | with_reducible exact Within.refl _ | with_reducible assumption | with_reducible refine Within.alloc ?_ _ | with_reducible refine Within.drew ?_ | with_reducible refine Within.drewN ?_ _ | with_reducible refine Within.setCell ?_ (by first | (simp; done) | (simp; omega)) _ | with_reducible refine Within.trans ?_ (by assumption)))
      · intro wq hq
        have hcq := hq.cells
        clear hq
        go_simp
        first | rfl | (trace_state; fail)
      try simp only [Act.put, List.setIfInBounds_toArray, List.set_cons_zero, List.set_cons_succ]
    refine sct_three rfl rfl rfl rfl rfl rfl (fun K hK => ?_) (fun K hK => ?_) (fun K hK => ?_)
    · go_simp
      refine (Ramount ka ea na g1 _).mono ?_; rintro e4 w4 ⟨rfl, hb4⟩
      have hv4 : Within w0 w4 := Within.trans (by repeat (first | with_reducible exact Within.refl _ | with_reducible assumption | with_reducible refine Within.alloc ?_ _ | with_reducible refine Within.drew ?_ | with_reducible refine Within.drewN ?_ _ | with_reducible refine Within.setCell ?_ (by first | (simp; done) | (simp; omega)) _ | with_reducible refine Within.trans ?_ (by assumption))) hb4
      have hz4 := hv4.sizes
      refine hK _ _ (by repeat (first | with_reducible exact Within.refl _ | with_reducible assumption | with_reducible refine Within.alloc ?_ _ | with_reducible refine Within.drew ?_ | with_reducible refine Within.drewN ?_ _ | with_reducible refine Within.setCell ?_ (by first | (simp; done) | (simp; omega)) _ | with_reducible refine Within.trans ?_ (by assumption))) ?_
      clear hK K
      try simp only [Act.put, List.setIfInBounds_toArray, List.set_cons_zero, List.set_cons_succ]
      refine sct_three rfl rfl rfl rfl rfl rfl (fun K hK => ?_) (fun K hK => ?_) (fun K hK => ?_)
      · go_simp
        refine (Ramount kb eb nb g2 _).mono ?_; rintro e5 w5 ⟨rfl, hb5⟩
        have hv5 : Within w0 w5 := Within.trans (by repeat (first | with_reducible exact Within.refl _ | with_reducible assumption | with_reducible refine Within.alloc ?_ _ | with_reducible refine Within.drew ?_ | with_reducible refine Within.drewN ?_ _ | with_reducible refine Within.setCell ?_ (by first | (simp; done) | (simp; omega)) _ | with_reducible refine Within.trans ?_ (by assumption))) hb5
        have hz5 := hv5.sizes
        refine hK _ _ (by repeat (first | with_reducible exact Within.refl _ | with_reducible assumption | with_reducible refine Within.alloc ?_ _ | with_reducible refine Within.drew ?_ | with_reducible refine Within.drewN ?_ _ | with_reducible refine Within.setCell ?_ (by first | (simp; done) | (simp; omega)) _ | with_reducible refine Within.trans ?_ (by assumption))) ?_
        clear hK K
        try simp only [Act.put, List.setIfInBounds_toArray, List.set_cons_zero, List.set_cons_succ]
        refine sct_two rfl rfl rfl rfl (fun K hK => ?_) (fun K hK => ?_)
        · go_simp
          refine hK _ _ (by repeat (first | with_reducible exact Within.refl _ | with_reducible assumption | with_reducible refine Within.alloc ?_ _ | with_reducible refine Within.drew ?_ | with_reducible refine Within.drewN ?_ _ | with_reducible refine Within.setCell ?_ (by first | (simp; done) | (simp; omega)) _ | with_reducible refine Within.trans ?_ (by assumption))) ?_
          clear hK K
          try simp only [Act.put, List.setIfInBounds_toArray, List.set_cons_zero, List.set_cons_succ]
          refine sct_one rfl rfl (fun K hK => ?_)
          go_simp
          refine hK _ _ (fun _ => (by repeat (first | with_reducible exact Within.refl _ | with_reducible assumption | with_reducible refine Within.alloc ?_ _ | with_reducible refine Within.drew ?_ | with_reducible refine Within.drewN ?_ _ | with_reducible refine Within.setCell ?_ (by first | (simp; done) | (simp; omega)) _ | with_reducible refine Within.trans ?_ (by assumption)))) ?_
          clear hK K
          try simp only [Act.put, List.setIfInBounds_toArray, List.set_cons_zero, List.set_cons_succ]
          refine sct_one rfl rfl (fun K hK => ?_)
          go_simp
          refine hK _ _ (fun _ => (by repeat (first | with_reducible exact Within.refl _ | with_reducible assumption | with_reducible refine Within.alloc ?_ _ | with_reducible refine Within.drew ?_ | with_reducible refine Within.drewN ?_ _ | with_reducible refine Within.setCell ?_ (by first | (simp; done) | (simp; omega)) _ | with_reducible refine Within.trans ?_ (by assumption)))) ?_
          clear hK K
          try simp only [Act.put, List.setIfInBounds_toArray, List.set_cons_zero, List.set_cons_succ]
          refine sct_one rfl rfl (fun K hK => ?_)
          go_simp
          refine hK _ _ (fun h => absurd h (by decide)) ?_
          clear hK K
          try simp only [Act.put, List.setIfInBounds_toArray, List.set_cons_zero, List.set_cons_succ]
          refine sct_nil ?_
          go_wp2_with fail
          go_meet
          exact ⟨_, _, rfl, rfl, by go_simp, by go_simp, by go_simp, by go_simp, by go_simp, by go_simp, by go_simp, by go_simp, Within.trans hw0 (by repeat (first | with_reducible exact Within.refl _ | with_reducible assumption | with_reducible refine Within.alloc ?_ _ | with_reducible refine Within.drew ?_ | with_reducible refine Within.drewN ?_ _ | with_reducible refine Within.setCell ?_ (by first | (simp; done) | (simp; omega)) _ | with_reducible refine Within.trans ?_ (by assumption)))⟩
        · go_simp
          refine hK _ _ (by repeat (first | with_reducible exact Within.refl _ | with_reducible assumption | with_reducible refine Within.alloc ?_ _ | with_reducible refine Within.drew ?_ | with_reducible refine Within.drewN ?_ _ | with_reducible refine Within.setCell ?_ (by first | (simp; done) | (simp; omega)) _ | with_reducible refine Within.trans ?_ (by assumption))) ?_
          clear hK K
          try simp only [Act.put, List.setIfInBounds_toArray, List.set_cons_zero, List.set_cons_succ]
          refine sct_one rfl rfl (fun K hK => ?_)
          go_simp
          refine hK _ _ (fun _ => (by repeat (first | with_reducible exact Within.refl _ | with_reducible assumption | with_reducible refine Within.alloc ?_ _ | with_reducible refine Within.drew ?_ | with_reducible refine Within.drewN ?_ _ | with_reducible refine Within.setCell ?_ (by first | (simp; done) | (simp; omega)) _ | with_reducible refine Within.trans ?_ (by assumption)))) ?_
          clear hK K
          try simp only [Act.put, List.setIfInBounds_toArray, List.set_cons_zero, List.set_cons_succ]
          refine sct_one rfl rfl (fun K hK => ?_)
          go_simp
          refine hK _ _ (fun _ => (by repeat (first | with_reducible exact Within.refl _ | with_reducible assumption | with_reducible refine Within.alloc ?_ _ | with_reducible refine Within.drew ?_ | with_reducible refine Within.drewN ?_ _ | with_reducible refine Within.setCell ?_ (by first | (simp; done) | (simp; omega)) _ | with_reducible refine Within.trans ?_ (by assumption)))) ?_
          clear hK K
          try simp only [Act.put, List.setIfInBounds_toArray, List.set_cons_zero, List.set_cons_succ]
          refine sct_one rfl rfl (fun K hK => ?_)
          go_simp
          refine hK _ _ (fun h => absurd h (by decide)) ?_
          clear hK K
          try simp only [Act.put, List.setIfInBounds_toArray, List.set_cons_zero, List.set_cons_succ]
          refine sct_nil ?_
          go_wp2_with fail
          go_meet
          exact ⟨_, _, rfl, rfl, by go_simp, by go_simp, by go_simp, by go_simp, by go_simp, by go_simp, by go_simp, by go_simp, Within.trans hw0 (by repeat (first | with_reducible exact Within.refl _ | with_reducible assumption | with_reducible refine Within.alloc ?_ _ | with_reducible refine Within.drew ?_ | with_reducible refine Within.drewN ?_ _ | with_reducible refine Within.setCell ?_ (by first | (simp; done) | (simp; omega)) _ | with_reducible refine Within.trans ?_ (by assumption)))⟩
      · go_simp
        refine hK _ _ (by repeat (first | with_reducible exact Within.refl _ | with_reducible assumption | with_reducible refine Within.alloc ?_ _ | with_reducible refine Within.drew ?_ | with_reducible refine Within.drewN ?_ _ | with_reducible refine Within.setCell ?_ (by first | (simp; done) | (simp; omega)) _ | with_reducible refine Within.trans ?_ (by assumption))) ?_
        clear hK K
        try simp only [Act.put, List.setIfInBounds_toArray, List.set_cons_zero, List.set_cons_succ]
        refine sct_two rfl rfl rfl rfl (fun K hK => ?_) (fun K hK => ?_)
        · go_simp
          refine (Ramount kb eb nb g2 _).mono ?_; rintro e5 w5 ⟨rfl, hb5⟩
          have hv5 : Within w0 w5 := Within.trans (by repeat (first | with_reducible exact Within.refl _ | with_reducible assumption | with_reducible refine Within.alloc ?_ _ | with_reducible refine Within.drew ?_ | with_reducible refine Within.drewN ?_ _ | with_reducible refine Within.setCell ?_ (by first | (simp; done) | (simp; omega)) _ | with_reducible refine Within.trans ?_ (by assumption))) hb5
          have hz5 := hv5.sizes
          have r4_5_0 : w5.cell? ⟨w4.heap.size, 0, none⟩ = some (.int .i64 0) := (hb5.cells _ _ (by first | assumption | (simp; done) | (simp; omega) | omega)).trans (by go_simp)
          have r4_5_1 : w5.cell? ⟨w4.heap.size, 1, none⟩ = some (.bool false) := (hb5.cells _ _ (by first | assumption | (simp; done) | (simp; omega) | omega)).trans (by go_simp)
          have r4_5_2 : w5.cell? ⟨w4.heap.size, 2, none⟩ = some (.pointer none) := (hb5.cells _ _ (by first | assumption | (simp; done) | (simp; omega) | omega)).trans (by go_simp)
          have r4_5_3 : w5.cell? ⟨w4.heap.size, 3, none⟩ = some (.int .i64 0) := (hb5.cells _ _ (by first | assumption | (simp; done) | (simp; omega) | omega)).trans (by go_simp)
          have rf4_5 : ∀ o, w5.frozen? ⟨w4.heap.size, o, none⟩ = false := fun o => (hb5.frozens _ _ (by first | assumption | (simp; done) | (simp; omega) | omega)).trans (by go_simp)
          have rl4_5 : w4.heap.size < w5.heap.size := World.block_lt_of_cell? w5 _ r4_5_0
          refine hK _ _ (by repeat (first | with_reducible exact Within.refl _ | with_reducible assumption | with_reducible refine Within.alloc ?_ _ | with_reducible refine Within.drew ?_ | with_reducible refine Within.drewN ?_ _ | with_reducible refine Within.setCell ?_ (by first | (simp; done) | (simp; omega)) _ | with_reducible refine Within.trans ?_ (by assumption))) ?_
          clear hK K
          try simp only [Act.put, List.setIfInBounds_toArray, List.set_cons_zero, List.set_cons_succ]
          refine sct_one rfl rfl (fun K hK => ?_)
          go_simp
          refine hK _ _ (fun _ => (by repeat (first | with_reducible exact Within.refl _ | with_reducible assumption | with_reducible refine Within.alloc ?_ _ | with_reducible refine Within.drew ?_ | with_reducible refine Within.drewN ?_ _ | with_reducible refine Within.setCell ?_ (by first | (simp; done) | (simp; omega)) _ | with_reducible refine Within.trans ?_ (by assumption)))) ?_
          clear hK K
          try simp only [Act.put, List.setIfInBounds_toArray, List.set_cons_zero, List.set_cons_succ]
          refine sct_one rfl rfl (fun K hK => ?_)
          go_simp
          refine hK _ _ (fun _ => (by repeat (first | with_reducible exact Within.refl _ | with_reducible assumption | with_reducible refine Within.alloc ?_ _ | with_reducible refine Within.drew ?_ | with_reducible refine Within.drewN ?_ _ | with_reducible refine Within.setCell ?_ (by first | (simp; done) | (simp; omega)) _ | with_reducible refine Within.trans ?_ (by assumption)))) ?_
          clear hK K
          try simp only [Act.put, List.setIfInBounds_toArray, List.set_cons_zero, List.set_cons_succ]
          refine sct_one rfl rfl (fun K hK => ?_)
          go_simp
          refine hK _ _ (fun h => absurd h (by decide)) ?_
          clear hK K
          try simp only [Act.put, List.setIfInBounds_toArray, List.set_cons_zero, List.set_cons_succ]
          refine sct_nil ?_
          go_wp2_with fail
          go_meet
          exact ⟨_, _, rfl, rfl, by go_simp, by go_simp, by go_simp, by go_simp, by go_simp, by go_simp, by go_simp, by go_simp, Within.trans hw0 (by repeat (first | with_reducible exact Within.refl _ | with_reducible assumption | with_reducible refine Within.alloc ?_ _ | with_reducible refine Within.drew ?_ | with_reducible refine Within.drewN ?_ _ | with_reducible refine Within.setCell ?_ (by first | (simp; done) | (simp; omega)) _ | with_reducible refine Within.trans ?_ (by assumption)))⟩
        · go_simp
          refine hK _ _ (by repeat (first | with_reducible exact Within.refl _ | with_reducible assumption | with_reducible refine Within.alloc ?_ _ | with_reducible refine Within.drew ?_ | with_reducible refine Within.drewN ?_ _ | with_reducible refine Within.setCell ?_ (by first | (simp; done) | (simp; omega)) _ | with_reducible refine Within.trans ?_ (by assumption))) ?_
          clear hK K
          try simp only [Act.put, List.setIfInBounds_toArray, List.set_cons_zero, List.set_cons_succ]
          refine sct_one rfl rfl (fun K hK => ?_)
          go_simp
          refine (Ramount kb eb nb g2 _).mono ?_; rintro e5 w5 ⟨rfl, hb5⟩
          have hv5 : Within w0 w5 := Within.trans (by repeat (first | with_reducible exact Within.refl _ | with_reducible assumption | with_reducible refine Within.alloc ?_ _ | with_reducible refine Within.drew ?_ | with_reducible refine Within.drewN ?_ _ | with_reducible refine Within.setCell ?_ (by first | (simp; done) | (simp; omega)) _ | with_reducible refine Within.trans ?_ (by assumption))) hb5
          have hz5 := hv5.sizes
          have r4_5_0 : w5.cell? ⟨w4.heap.size, 0, none⟩ = some (.int .i64 0) := (hb5.cells _ _ (by first | assumption | (simp; done) | (simp; omega) | omega)).trans (by go_simp)
          have r4_5_1 : w5.cell? ⟨w4.heap.size, 1, none⟩ = some (.bool false) := (hb5.cells _ _ (by first | assumption | (simp; done) | (simp; omega) | omega)).trans (by go_simp)
          have r4_5_2 : w5.cell? ⟨w4.heap.size, 2, none⟩ = some (.pointer none) := (hb5.cells _ _ (by first | assumption | (simp; done) | (simp; omega) | omega)).trans (by go_simp)
          have r4_5_3 : w5.cell? ⟨w4.heap.size, 3, none⟩ = some (.int .i64 0) := (hb5.cells _ _ (by first | assumption | (simp; done) | (simp; omega) | omega)).trans (by go_simp)
          have rf4_5 : ∀ o, w5.frozen? ⟨w4.heap.size, o, none⟩ = false := fun o => (hb5.frozens _ _ (by first | assumption | (simp; done) | (simp; omega) | omega)).trans (by go_simp)
          have rl4_5 : w4.heap.size < w5.heap.size := World.block_lt_of_cell? w5 _ r4_5_0
          have r5_5_0 : w5.cell? ⟨w4.heap.size + 1, 0, none⟩ = some (.int .i64 0) := (hb5.cells _ _ (by first | assumption | (simp; done) | (simp; omega) | omega)).trans (by go_simp)
          have r5_5_1 : w5.cell? ⟨w4.heap.size + 1, 1, none⟩ = some (.bool false) := (hb5.cells _ _ (by first | assumption | (simp; done) | (simp; omega) | omega)).trans (by go_simp)
          have r5_5_2 : w5.cell? ⟨w4.heap.size + 1, 2, none⟩ = some (.pointer none) := (hb5.cells _ _ (by first | assumption | (simp; done) | (simp; omega) | omega)).trans (by go_simp)
          have r5_5_3 : w5.cell? ⟨w4.heap.size + 1, 3, none⟩ = some (.int .i64 0) := (hb5.cells _ _ (by first | assumption | (simp; done) | (simp; omega) | omega)).trans (by go_simp)
          have rf5_5 : ∀ o, w5.frozen? ⟨w4.heap.size + 1, o, none⟩ = false := fun o => (hb5.frozens _ _ (by first | assumption | (simp; done) | (simp; omega) | omega)).trans (by go_simp)
          have rl5_5 : w4.heap.size + 1 < w5.heap.size := World.block_lt_of_cell? w5 _ r5_5_0
          refine hK _ _ (fun _ => (by repeat (first | with_reducible exact Within.refl _ | with_reducible assumption | with_reducible refine Within.alloc ?_ _ | with_reducible refine Within.drew ?_ | with_reducible refine Within.drewN ?_ _ | with_reducible refine Within.setCell ?_ (by first | (simp; done) | (simp; omega)) _ | with_reducible refine Within.trans ?_ (by assumption)))) ?_
          clear hK K
          try simp only [Act.put, List.setIfInBounds_toArray, List.set_cons_zero, List.set_cons_succ]
          refine sct_one rfl rfl (fun K hK => ?_)
          go_simp
          refine hK _ _ (fun _ => (by repeat (first | with_reducible exact Within.refl _ | with_reducible assumption | with_reducible refine Within.alloc ?_ _ | with_reducible refine Within.drew ?_ | with_reducible refine Within.drewN ?_ _ | with_reducible refine Within.setCell ?_ (by first | (simp; done) | (simp; omega)) _ | with_reducible refine Within.trans ?_ (by assumption)))) ?_
          clear hK K
          try simp only [Act.put, List.setIfInBounds_toArray, List.set_cons_zero, List.set_cons_succ]
          refine sct_one rfl rfl (fun K hK => ?_)
          go_simp
          refine hK _ _ (fun h => absurd h (by decide)) ?_
          clear hK K
          try simp only [Act.put, List.setIfInBounds_toArray, List.set_cons_zero, List.set_cons_succ]
          refine sct_nil ?_
          go_wp2_with fail
          go_meet
          exact ⟨_, _, rfl, rfl, by go_simp, by go_simp, by go_simp, by go_simp, by go_simp, by go_simp, by go_simp, by go_simp, Within.trans hw0 (by repeat (first | with_reducible exact Within.refl _ | with_reducible assumption | with_reducible refine Within.alloc ?_ _ | with_reducible refine Within.drew ?_ | with_reducible refine Within.drewN ?_ _ | with_reducible refine Within.setCell ?_ (by first | (simp; done) | (simp; omega)) _ | with_reducible refine Within.trans ?_ (by assumption)))⟩
      · go_simp
        refine hK _ _ (by repeat (first | with_reducible exact Within.refl _ | with_reducible assumption | with_reducible refine Within.alloc ?_ _ | with_reducible refine Within.drew ?_ | with_reducible refine Within.drewN ?_ _ | with_reducible refine Within.setCell ?_ (by first | (simp; done) | (simp; omega)) _ | with_reducible refine Within.trans ?_ (by assumption))) ?_
        clear hK K
        try simp only [Act.put, List.setIfInBounds_toArray, List.set_cons_zero, List.set_cons_succ]
        refine sct_two rfl rfl rfl rfl (fun K hK => ?_) (fun K hK => ?_)
        · go_simp
          refine (Ramount kb eb nb g2 _).mono ?_; rintro e5 w5 ⟨rfl, hb5⟩
          have hv5 : Within w0 w5 := Within.trans (by repeat (first | with_reducible exact Within.refl _ | with_reducible assumption | with_reducible refine Within.alloc ?_ _ | with_reducible refine Within.drew ?_ | with_reducible refine Within.drewN ?_ _ | with_reducible refine Within.setCell ?_ (by first | (simp; done) | (simp; omega)) _ | with_reducible refine Within.trans ?_ (by assumption))) hb5
          have hz5 := hv5.sizes
          have r5_5_0 : w5.cell? ⟨w4.heap.size, 0, none⟩ = some (.int .i64 0) := (hb5.cells _ _ (by first | assumption | (simp; done) | (simp; omega) | omega)).trans (by go_simp)
          have r5_5_1 : w5.cell? ⟨w4.heap.size, 1, none⟩ = some (.bool false) := (hb5.cells _ _ (by first | assumption | (simp; done) | (simp; omega) | omega)).trans (by go_simp)
          have r5_5_2 : w5.cell? ⟨w4.heap.size, 2, none⟩ = some (.pointer none) := (hb5.cells _ _ (by first | assumption | (simp; done) | (simp; omega) | omega)).trans (by go_simp)
          have r5_5_3 : w5.cell? ⟨w4.heap.size, 3, none⟩ = some (.int .i64 0) := (hb5.cells _ _ (by first | assumption | (simp; done) | (simp; omega) | omega)).trans (by go_simp)
          have rf5_5 : ∀ o, w5.frozen? ⟨w4.heap.size, o, none⟩ = false := fun o => (hb5.frozens _ _ (by first | assumption | (simp; done) | (simp; omega) | omega)).trans (by go_simp)
          have rl5_5 : w4.heap.size < w5.heap.size := World.block_lt_of_cell? w5 _ r5_5_0
          refine hK _ _ (by repeat (first | with_reducible exact Within.refl _ | with_reducible assumption | with_reducible refine Within.alloc ?_ _ | with_reducible refine Within.drew ?_ | with_reducible refine Within.drewN ?_ _ | with_reducible refine Within.setCell ?_ (by first | (simp; done) | (simp; omega)) _ | with_reducible refine Within.trans ?_ (by assumption))) ?_
          clear hK K
          try simp only [Act.put, List.setIfInBounds_toArray, List.set_cons_zero, List.set_cons_succ]
          refine sct_one rfl rfl (fun K hK => ?_)
          go_simp
          refine hK _ _ (fun _ => (by repeat (first | with_reducible exact Within.refl _ | with_reducible assumption | with_reducible refine Within.alloc ?_ _ | with_reducible refine Within.drew ?_ | with_reducible refine Within.drewN ?_ _ | with_reducible refine Within.setCell ?_ (by first | (simp; done) | (simp; omega)) _ | with_reducible refine Within.trans ?_ (by assumption)))) ?_
          clear hK K
          try simp only [Act.put, List.setIfInBounds_toArray, List.set_cons_zero, List.set_cons_succ]
          refine sct_one rfl rfl (fun K hK => ?_)
          go_simp
          refine hK _ _ (fun _ => (by repeat (first | with_reducible exact Within.refl _ | with_reducible assumption | with_reducible refine Within.alloc ?_ _ | with_reducible refine Within.drew ?_ | with_reducible refine Within.drewN ?_ _ | with_reducible refine Within.setCell ?_ (by first | (simp; done) | (simp; omega)) _ | with_reducible refine Within.trans ?_ (by assumption)))) ?_
          clear hK K
          try simp only [Act.put, List.setIfInBounds_toArray, List.set_cons_zero, List.set_cons_succ]
          refine sct_one rfl rfl (fun K hK => ?_)
          go_simp
          refine hK _ _ (fun h => absurd h (by decide)) ?_
          clear hK K
          try simp only [Act.put, List.setIfInBounds_toArray, List.set_cons_zero, List.set_cons_succ]
          refine sct_nil ?_
          go_wp2_with fail
          go_meet
          exact ⟨_, _, rfl, rfl, by go_simp, by go_simp, by go_simp, by go_simp, by go_simp, by go_simp, by go_simp, by go_simp, Within.trans hw0 (by repeat (first | with_reducible exact Within.refl _ | with_reducible assumption | with_reducible refine Within.alloc ?_ _ | with_reducible refine Within.drew ?_ | with_reducible refine Within.drewN ?_ _ | with_reducible refine Within.setCell ?_ (by first | (simp; done) | (simp; omega)) _ | with_reducible refine Within.trans ?_ (by assumption)))⟩
        · go_simp
          refine hK _ _ (by repeat (first | with_reducible exact Within.refl _ | with_reducible assumption | with_reducible refine Within.alloc ?_ _ | with_reducible refine Within.drew ?_ | with_reducible refine Within.drewN ?_ _ | with_reducible refine Within.setCell ?_ (by first | (simp; done) | (simp; omega)) _ | with_reducible refine Within.trans ?_ (by assumption))) ?_
          clear hK K
          try simp only [Act.put, List.setIfInBounds_toArray, List.set_cons_zero, List.set_cons_succ]
          refine sct_one rfl rfl (fun K hK => ?_)
          go_simp
          refine (Ramount kb eb nb g2 _).mono ?_; rintro e5 w5 ⟨rfl, hb5⟩
          have hv5 : Within w0 w5 := Within.trans (by repeat (first | with_reducible exact Within.refl _ | with_reducible assumption | with_reducible refine Within.alloc ?_ _ | with_reducible refine Within.drew ?_ | with_reducible refine Within.drewN ?_ _ | with_reducible refine Within.setCell ?_ (by first | (simp; done) | (simp; omega)) _ | with_reducible refine Within.trans ?_ (by assumption))) hb5
          have hz5 := hv5.sizes
          have r5_5_0 : w5.cell? ⟨w4.heap.size, 0, none⟩ = some (.int .i64 0) := (hb5.cells _ _ (by first | assumption | (simp; done) | (simp; omega) | omega)).trans (by go_simp)
          have r5_5_1 : w5.cell? ⟨w4.heap.size, 1, none⟩ = some (.bool false) := (hb5.cells _ _ (by first | assumption | (simp; done) | (simp; omega) | omega)).trans (by go_simp)
          have r5_5_2 : w5.cell? ⟨w4.heap.size, 2, none⟩ = some (.pointer none) := (hb5.cells _ _ (by first | assumption | (simp; done) | (simp; omega) | omega)).trans (by go_simp)
          have r5_5_3 : w5.cell? ⟨w4.heap.size, 3, none⟩ = some (.int .i64 0) := (hb5.cells _ _ (by first | assumption | (simp; done) | (simp; omega) | omega)).trans (by go_simp)
          have rf5_5 : ∀ o, w5.frozen? ⟨w4.heap.size, o, none⟩ = false := fun o => (hb5.frozens _ _ (by first | assumption | (simp; done) | (simp; omega) | omega)).trans (by go_simp)
          have rl5_5 : w4.heap.size < w5.heap.size := World.block_lt_of_cell? w5 _ r5_5_0
          have r4_5_0 : w5.cell? ⟨w4.heap.size + 1, 0, none⟩ = some (.int .i64 0) := (hb5.cells _ _ (by first | assumption | (simp; done) | (simp; omega) | omega)).trans (by go_simp)
          have r4_5_1 : w5.cell? ⟨w4.heap.size + 1, 1, none⟩ = some (.bool false) := (hb5.cells _ _ (by first | assumption | (simp; done) | (simp; omega) | omega)).trans (by go_simp)
          have r4_5_2 : w5.cell? ⟨w4.heap.size + 1, 2, none⟩ = some (.pointer none) := (hb5.cells _ _ (by first | assumption | (simp; done) | (simp; omega) | omega)).trans (by go_simp)
          have r4_5_3 : w5.cell? ⟨w4.heap.size + 1, 3, none⟩ = some (.int .i64 0) := (hb5.cells _ _ (by first | assumption | (simp; done) | (simp; omega) | omega)).trans (by go_simp)
          have rf4_5 : ∀ o, w5.frozen? ⟨w4.heap.size + 1, o, none⟩ = false := fun o => (hb5.frozens _ _ (by first | assumption | (simp; done) | (simp; omega) | omega)).trans (by go_simp)
          have rl4_5 : w4.heap.size + 1 < w5.heap.size := World.block_lt_of_cell? w5 _ r4_5_0
          refine hK _ _ (fun _ => (by repeat (first | with_reducible exact Within.refl _ | with_reducible assumption | with_reducible refine Within.alloc ?_ _ | with_reducible refine Within.drew ?_ | with_reducible refine Within.drewN ?_ _ | with_reducible refine Within.setCell ?_ (by first | (simp; done) | (simp; omega)) _ | with_reducible refine Within.trans ?_ (by assumption)))) ?_
          clear hK K
          try simp only [Act.put, List.setIfInBounds_toArray, List.set_cons_zero, List.set_cons_succ]
          refine sct_one rfl rfl (fun K hK => ?_)
          go_simp
          refine hK _ _ (fun _ => (by repeat (first | with_reducible exact Within.refl _ | with_reducible assumption | with_reducible refine Within.alloc ?_ _ | with_reducible refine Within.drew ?_ | with_reducible refine Within.drewN ?_ _ | with_reducible refine Within.setCell ?_ (by first | (simp; done) | (simp; omega)) _ | with_reducible refine Within.trans ?_ (by assumption)))) ?_
          clear hK K
          try simp only [Act.put, List.setIfInBounds_toArray, List.set_cons_zero, List.set_cons_succ]
          refine sct_one rfl rfl (fun K hK => ?_)
          go_simp
          refine hK _ _ (fun h => absurd h (by decide)) ?_
          clear hK K
          try simp only [Act.put, List.setIfInBounds_toArray, List.set_cons_zero, List.set_cons_succ]
          refine sct_nil ?_
          go_wp2_with fail
          go_meet
          exact ⟨_, _, rfl, rfl, by go_simp, by go_simp, by go_simp, by go_simp, by go_simp, by go_simp, by go_simp, by go_simp, Within.trans hw0 (by repeat (first | with_reducible exact Within.refl _ | with_reducible assumption | with_reducible refine Within.alloc ?_ _ | with_reducible refine Within.drew ?_ | with_reducible refine Within.drewN ?_ _ | with_reducible refine Within.setCell ?_ (by first | (simp; done) | (simp; omega)) _ | with_reducible refine Within.trans ?_ (by assumption)))⟩
    · go_simp
      refine hK _ _ (by repeat (first | with_reducible exact Within.refl _ | with_reducible assumption | with_reducible refine Within.alloc ?_ _ | with_reducible refine Within.drew ?_ | with_reducible refine Within.drewN ?_ _ | with_reducible refine Within.setCell ?_ (by first | (simp; done) | (simp; omega)) _ | with_reducible refine Within.trans ?_ (by assumption))) ?_
      clear hK K
      try simp only [Act.put, List.setIfInBounds_toArray, List.set_cons_zero, List.set_cons_succ]
      refine sct_two rfl rfl rfl rfl (fun K hK => ?_) (fun K hK => ?_)
      · go_simp
        refine (Ramount ka ea na g1 _).mono ?_; rintro e4 w4 ⟨rfl, hb4⟩
        have hv4 : Within w0 w4 := Within.trans (by repeat (first | with_reducible exact Within.refl _ | with_reducible assumption | with_reducible refine Within.alloc ?_ _ | with_reducible refine Within.drew ?_ | with_reducible refine Within.drewN ?_ _ | with_reducible refine Within.setCell ?_ (by first | (simp; done) | (simp; omega)) _ | with_reducible refine Within.trans ?_ (by assumption))) hb4
        have hz4 := hv4.sizes
        have r4_4_0 : w4.cell? ⟨w0.heap.size, 0, none⟩ = some (.int .i64 0) := (hb4.cells _ _ (by first | assumption | (simp; done) | (simp; omega) | omega)).trans (by go_simp)
        have r4_4_1 : w4.cell? ⟨w0.heap.size, 1, none⟩ = some (.bool false) := (hb4.cells _ _ (by first | assumption | (simp; done) | (simp; omega) | omega)).trans (by go_simp)
        have r4_4_2 : w4.cell? ⟨w0.heap.size, 2, none⟩ = some (.pointer none) := (hb4.cells _ _ (by first | assumption | (simp; done) | (simp; omega) | omega)).trans (by go_simp)
        have r4_4_3 : w4.cell? ⟨w0.heap.size, 3, none⟩ = some (.int .i64 0) := (hb4.cells _ _ (by first | assumption | (simp; done) | (simp; omega) | omega)).trans (by go_simp)
        have rf4_4 : ∀ o, w4.frozen? ⟨w0.heap.size, o, none⟩ = false := fun o => (hb4.frozens _ _ (by first | assumption | (simp; done) | (simp; omega) | omega)).trans (by go_simp)
        have rl4_4 : w0.heap.size < w4.heap.size := World.block_lt_of_cell? w4 _ r4_4_0
        refine hK _ _ (by repeat (first | with_reducible exact Within.refl _ | with_reducible assumption | with_reducible refine Within.alloc ?_ _ | with_reducible refine Within.drew ?_ | with_reducible refine Within.drewN ?_ _ | with_reducible refine Within.setCell ?_ (by first | (simp; done) | (simp; omega)) _ | with_reducible refine Within.trans ?_ (by assumption))) ?_
        clear hK K
        try simp only [Act.put, List.setIfInBounds_toArray, List.set_cons_zero, List.set_cons_succ]
        refine sct_two rfl rfl rfl rfl (fun K hK => ?_) (fun K hK => ?_)
        · go_simp
          refine (Ramount kb eb nb g2 _).mono ?_; rintro e5 w5 ⟨rfl, hb5⟩
          have hv5 : Within w0 w5 := Within.trans (by repeat (first | with_reducible exact Within.refl _ | with_reducible assumption | with_reducible refine Within.alloc ?_ _ | with_reducible refine Within.drew ?_ | with_reducible refine Within.drewN ?_ _ | with_reducible refine Within.setCell ?_ (by first | (simp; done) | (simp; omega)) _ | with_reducible refine Within.trans ?_ (by assumption))) hb5
          have hz5 := hv5.sizes
          have r4_5_0 : w5.cell? ⟨w0.heap.size, 0, none⟩ = some (.int .i64 0) := (hb5.cells _ _ (by first | assumption | (simp; done) | (simp; omega) | omega)).trans (by go_simp)
          have r4_5_1 : w5.cell? ⟨w0.heap.size, 1, none⟩ = some (.bool false) := (hb5.cells _ _ (by first | assumption | (simp; done) | (simp; omega) | omega)).trans (by go_simp)
          have r4_5_2 : w5.cell? ⟨w0.heap.size, 2, none⟩ = some (.pointer none) := (hb5.cells _ _ (by first | assumption | (simp; done) | (simp; omega) | omega)).trans (by go_simp)
          have r4_5_3 : w5.cell? ⟨w0.heap.size, 3, none⟩ = some (.int .i64 0) := (hb5.cells _ _ (by first | assumption | (simp; done) | (simp; omega) | omega)).trans (by go_simp)
          have rf4_5 : ∀ o, w5.frozen? ⟨w0.heap.size, o, none⟩ = false := fun o => (hb5.frozens _ _ (by first | assumption | (simp; done) | (simp; omega) | omega)).trans (by go_simp)
          have rl4_5 : w0.heap.size < w5.heap.size := World.block_lt_of_cell? w5 _ r4_5_0
          refine hK _ _ (by repeat (first | with_reducible exact Within.refl _ | with_reducible assumption | with_reducible refine Within.alloc ?_ _ | with_reducible refine Within.drew ?_ | with_reducible refine Within.drewN ?_ _ | with_reducible refine Within.setCell ?_ (by first | (simp; done) | (simp; omega)) _ | with_reducible refine Within.trans ?_ (by assumption))) ?_
          clear hK K
          try simp only [Act.put, List.setIfInBounds_toArray, List.set_cons_zero, List.set_cons_succ]
          refine sct_one rfl rfl (fun K hK => ?_)
          go_simp
          refine hK _ _ (fun _ => (by repeat (first | with_reducible exact Within.refl _ | with_reducible assumption | with_reducible refine Within.alloc ?_ _ | with_reducible refine Within.drew ?_ | with_reducible refine Within.drewN ?_ _ | with_reducible refine Within.setCell ?_ (by first | (simp; done) | (simp; omega)) _ | with_reducible refine Within.trans ?_ (by assumption)))) ?_
          clear hK K
          try simp only [Act.put, List.setIfInBounds_toArray, List.set_cons_zero, List.set_cons_succ]
          refine sct_one rfl rfl (fun K hK => ?_)
          go_simp
          refine hK _ _ (fun _ => (by repeat (first | with_reducible exact Within.refl _ | with_reducible assumption | with_reducible refine Within.alloc ?_ _ | with_reducible refine Within.drew ?_ | with_reducible refine Within.drewN ?_ _ | with_reducible refine Within.setCell ?_ (by first | (simp; done) | (simp; omega)) _ | with_reducible refine Within.trans ?_ (by assumption)))) ?_
          clear hK K
          try simp only [Act.put, List.setIfInBounds_toArray, List.set_cons_zero, List.set_cons_succ]
          refine sct_one rfl rfl (fun K hK => ?_)
          go_simp
          refine hK _ _ (fun h => absurd h (by decide)) ?_
          clear hK K
          try simp only [Act.put, List.setIfInBounds_toArray, List.set_cons_zero, List.set_cons_succ]
          refine sct_nil ?_
          go_wp2_with fail
          go_meet
          exact ⟨_, _, rfl, rfl, by go_simp, by go_simp, by go_simp, by go_simp, by go_simp, by go_simp, by go_simp, by go_simp, Within.trans hw0 (by repeat (first | with_reducible exact Within.refl _ | with_reducible assumption | with_reducible refine Within.alloc ?_ _ | with_reducible refine Within.drew ?_ | with_reducible refine Within.drewN ?_ _ | with_reducible refine Within.setCell ?_ (by first | (simp; done) | (simp; omega)) _ | with_reducible refine Within.trans ?_ (by assumption)))⟩
        · go_simp
          refine hK _ _ (by repeat (first | with_reducible exact Within.refl _ | with_reducible assumption | with_reducible refine Within.alloc ?_ _ | with_reducible refine Within.drew ?_ | with_reducible refine Within.drewN ?_ _ | with_reducible refine Within.setCell ?_ (by first | (simp; done) | (simp; omega)) _ | with_reducible refine Within.trans ?_ (by assumption))) ?_
          clear hK K
          try simp only [Act.put, List.setIfInBounds_toArray, List.set_cons_zero, List.set_cons_succ]
          refine sct_one rfl rfl (fun K hK => ?_)
          go_simp
          refine (Ramount kb eb nb g2 _).mono ?_; rintro e5 w5 ⟨rfl, hb5⟩
          have hv5 : Within w0 w5 := Within.trans (by repeat (first | with_reducible exact Within.refl _ | with_reducible assumption | with_reducible refine Within.alloc ?_ _ | with_reducible refine Within.drew ?_ | with_reducible refine Within.drewN ?_ _ | with_reducible refine Within.setCell ?_ (by first | (simp; done) | (simp; omega)) _ | with_reducible refine Within.trans ?_ (by assumption))) hb5
          have hz5 := hv5.sizes
          have r4_5_0 : w5.cell? ⟨w0.heap.size, 0, none⟩ = some (.int .i64 0) := (hb5.cells _ _ (by first | assumption | (simp; done) | (simp; omega) | omega)).trans (by go_simp)
          have r4_5_1 : w5.cell? ⟨w0.heap.size, 1, none⟩ = some (.bool false) := (hb5.cells _ _ (by first | assumption | (simp; done) | (simp; omega) | omega)).trans (by go_simp)
          have r4_5_2 : w5.cell? ⟨w0.heap.size, 2, none⟩ = some (.pointer none) := (hb5.cells _ _ (by first | assumption | (simp; done) | (simp; omega) | omega)).trans (by go_simp)
          have r4_5_3 : w5.cell? ⟨w0.heap.size, 3, none⟩ = some (.int .i64 0) := (hb5.cells _ _ (by first | assumption | (simp; done) | (simp; omega) | omega)).trans (by go_simp)
          have rf4_5 : ∀ o, w5.frozen? ⟨w0.heap.size, o, none⟩ = false := fun o => (hb5.frozens _ _ (by first | assumption | (simp; done) | (simp; omega) | omega)).trans (by go_simp)
          have rl4_5 : w0.heap.size < w5.heap.size := World.block_lt_of_cell? w5 _ r4_5_0
          have r5_5_0 : w5.cell? ⟨w4.heap.size, 0, none⟩ = some (.int .i64 0) := (hb5.cells _ _ (by first | assumption | (simp; done) | (simp; omega) | omega)).trans (by go_simp)
          have r5_5_1 : w5.cell? ⟨w4.heap.size, 1, none⟩ = some (.bool false) := (hb5.cells _ _ (by first | assumption | (simp; done) | (simp; omega) | omega)).trans (by go_simp)
          have r5_5_2 : w5.cell? ⟨w4.heap.size, 2, none⟩ = some (.pointer none) := (hb5.cells _ _ (by first | assumption | (simp; done) | (simp; omega) | omega)).trans (by go_simp)
          have r5_5_3 : w5.cell? ⟨w4.heap.size, 3, none⟩ = some (.int .i64 0) := (hb5.cells _ _ (by first | assumption | (simp; done) | (simp; omega) | omega)).trans (by go_simp)
          have rf5_5 : ∀ o, w5.frozen? ⟨w4.heap.size, o, none⟩ = false := fun o => (hb5.frozens _ _ (by first | assumption | (simp; done) | (simp; omega) | omega)).trans (by go_simp)
          have rl5_5 : w4.heap.size < w5.heap.size := World.block_lt_of_cell? w5 _ r5_5_0
          refine hK _ _ (fun _ => (by repeat (first | with_reducible exact Within.refl _ | with_reducible assumption | with_reducible refine Within.alloc ?_ _ | with_reducible refine Within.drew ?_ | with_reducible refine Within.drewN ?_ _ | with_reducible refine Within.setCell ?_ (by first | (simp; done) | (simp; omega)) _ | with_reducible refine Within.trans ?_ (by assumption)))) ?_
          clear hK K
          try simp only [Act.put, List.setIfInBounds_toArray, List.set_cons_zero, List.set_cons_succ]
          refine sct_one rfl rfl (fun K hK => ?_)
          go_simp
          refine hK _ _ (fun _ => (by repeat (first | with_reducible exact Within.refl _ | with_reducible assumption | with_reducible refine Within.alloc ?_ _ | with_reducible refine Within.drew ?_ | with_reducible refine Within.drewN ?_ _ | with_reducible refine Within.setCell ?_ (by first | (simp; done) | (simp; omega)) _ | with_reducible refine Within.trans ?_ (by assumption)))) ?_
          clear hK K
          try simp only [Act.put, List.setIfInBounds_toArray, List.set_cons_zero, List.set_cons_succ]
          refine sct_one rfl rfl (fun K hK => ?_)
          go_simp
          refine hK _ _ (fun h => absurd h (by decide)) ?_
          clear hK K
          try simp only [Act.put, List.setIfInBounds_toArray, List.set_cons_zero, List.set_cons_succ]
          refine sct_nil ?_
          go_wp2_with fail
          go_meet
          exact ⟨_, _, rfl, rfl, by go_simp, by go_simp, by go_simp, by go_simp, by go_simp, by go_simp, by go_simp, by go_simp, Within.trans hw0 (by repeat (first | with_reducible exact Within.refl _ | with_reducible assumption | with_reducible refine Within.alloc ?_ _ | with_reducible refine Within.drew ?_ | with_reducible refine Within.drewN ?_ _ | with_reducible refine Within.setCell ?_ (by first | (simp; done) | (simp; omega)) _ | with_reducible refine Within.trans ?_ (by assumption)))⟩
      · go_simp
        refine hK _ _ (by repeat (first | with_reducible exact Within.refl _ | with_reducible assumption | with_reducible refine Within.alloc ?_ _ | with_reducible refine Within.drew ?_ | with_reducible refine Within.drewN ?_ _ | with_reducible refine Within.setCell ?_ (by first | (simp; done) | (simp; omega)) _ | with_reducible refine Within.trans ?_ (by assumption))) ?_
        clear hK K
        try simp only [Act.put, List.setIfInBounds_toArray, List.set_cons_zero, List.set_cons_succ]
        refine sct_one rfl rfl (fun K hK => ?_)
        go_simp
        refine (Ramount ka ea na g1 _).mono ?_; rintro e4 w4 ⟨rfl, hb4⟩
        have hv4 : Within w0 w4 := Within.trans (by repeat (first | with_reducible exact Within.refl _ | with_reducible assumption | with_reducible refine Within.alloc ?_ _ | with_reducible refine Within.drew ?_ | with_reducible refine Within.drewN ?_ _ | with_reducible refine Within.setCell ?_ (by first | (simp; done) | (simp; omega)) _ | with_reducible refine Within.trans ?_ (by assumption))) hb4
        have hz4 := hv4.sizes
        have r4_4_0 : w4.cell? ⟨w0.heap.size, 0, none⟩ = some (.int .i64 0) := (hb4.cells _ _ (by first | assumption | (simp; done) | (simp; omega) | omega)).trans (by go_simp)
        have r4_4_1 : w4.cell? ⟨w0.heap.size, 1, none⟩ = some (.bool false) := (hb4.cells _ _ (by first | assumption | (simp; done) | (simp; omega) | omega)).trans (by go_simp)
        have r4_4_2 : w4.cell? ⟨w0.heap.size, 2, none⟩ = some (.pointer none) := (hb4.cells _ _ (by first | assumption | (simp; done) | (simp; omega) | omega)).trans (by go_simp)
        have r4_4_3 : w4.cell? ⟨w0.heap.size, 3, none⟩ = some (.int .i64 0) := (hb4.cells _ _ (by first | assumption | (simp; done) | (simp; omega) | omega)).trans (by go_simp)
        have rf4_4 : ∀ o, w4.frozen? ⟨w0.heap.size, o, none⟩ = false := fun o => (hb4.frozens _ _ (by first | assumption | (simp; done) | (simp; omega) | omega)).trans (by go_simp)
        have rl4_4 : w0.heap.size < w4.heap.size := World.block_lt_of_cell? w4 _ r4_4_0
        have r5_4_0 : w4.cell? ⟨w0.heap.size + 1, 0, none⟩ = some (.int .i64 0) := (hb4.cells _ _ (by first | assumption | (simp; done) | (simp; omega) | omega)).trans (by go_simp)
        have r5_4_1 : w4.cell? ⟨w0.heap.size + 1, 1, none⟩ = some (.bool false) := (hb4.cells _ _ (by first | assumption | (simp; done) | (simp; omega) | omega)).trans (by go_simp)
        have r5_4_2 : w4.cell? ⟨w0.heap.size + 1, 2, none⟩ = some (.pointer none) := (hb4.cells _ _ (by first | assumption | (simp; done) | (simp; omega) | omega)).trans (by go_simp)
        have r5_4_3 : w4.cell? ⟨w0.heap.size + 1, 3, none⟩ = some (.int .i64 0) := (hb4.cells _ _ (by first | assumption | (simp; done) | (simp; omega) | omega)).trans (by go_simp)
        have rf5_4 : ∀ o, w4.frozen? ⟨w0.heap.size + 1, o, none⟩ = false := fun o => (hb4.frozens _ _ (by first | assumption | (simp; done) | (simp; omega) | omega)).trans (by go_simp)
        have rl5_4 : w0.heap.size + 1 < w4.heap.size := World.block_lt_of_cell? w4 _ r5_4_0
        refine hK _ _ (fun _ => (by repeat (first | with_reducible exact Within.refl _ | with_reducible assumption | with_reducible refine Within.alloc ?_ _ | with_reducible refine Within.drew ?_ | with_reducible refine Within.drewN ?_ _ | with_reducible refine Within.setCell ?_ (by first | (simp; done) | (simp; omega)) _ | with_reducible refine Within.trans ?_ (by assumption)))) ?_
        clear hK K
        try simp only [Act.put, List.setIfInBounds_toArray, List.set_cons_zero, List.set_cons_succ]
        refine sct_one rfl rfl (fun K hK => ?_)
        go_simp
        refine (Ramount kb eb nb g2 _).mono ?_; rintro e5 w5 ⟨rfl, hb5⟩
        have hv5 : Within w0 w5 := Within.trans (by repeat (first | with_reducible exact Within.refl _ | with_reducible assumption | with_reducible refine Within.alloc ?_ _ | with_reducible refine Within.drew ?_ | with_reducible refine Within.drewN ?_ _ | with_reducible refine Within.setCell ?_ (by first | (simp; done) | (simp; omega)) _ | with_reducible refine Within.trans ?_ (by assumption))) hb5
        have hz5 := hv5.sizes
        have r4_5_0 : w5.cell? ⟨w0.heap.size, 0, none⟩ = some (.int .i64 0) := (hb5.cells _ _ (by first | assumption | (simp; done) | (simp; omega) | omega)).trans (by go_simp)
        have r4_5_1 : w5.cell? ⟨w0.heap.size, 1, none⟩ = some (.bool false) := (hb5.cells _ _ (by first | assumption | (simp; done) | (simp; omega) | omega)).trans (by go_simp)
        have r4_5_2 : w5.cell? ⟨w0.heap.size, 2, none⟩ = some (.pointer none) := (hb5.cells _ _ (by first | assumption | (simp; done) | (simp; omega) | omega)).trans (by go_simp)
        have r4_5_3 : w5.cell? ⟨w0.heap.size, 3, none⟩ = some (.int .i64 0) := (hb5.cells _ _ (by first | assumption | (simp; done) | (simp; omega) | omega)).trans (by go_simp)
        have rf4_5 : ∀ o, w5.frozen? ⟨w0.heap.size, o, none⟩ = false := fun o => (hb5.frozens _ _ (by first | assumption | (simp; done) | (simp; omega) | omega)).trans (by go_simp)
        have rl4_5 : w0.heap.size < w5.heap.size := World.block_lt_of_cell? w5 _ r4_5_0
        have r5_5_0 : w5.cell? ⟨w0.heap.size + 1, 0, none⟩ = some (.int .i64 0) := (hb5.cells _ _ (by first | assumption | (simp; done) | (simp; omega) | omega)).trans (by go_simp)
        have r5_5_1 : w5.cell? ⟨w0.heap.size + 1, 1, none⟩ = some (.bool false) := (hb5.cells _ _ (by first | assumption | (simp; done) | (simp; omega) | omega)).trans (by go_simp)
        have r5_5_2 : w5.cell? ⟨w0.heap.size + 1, 2, none⟩ = some (.pointer none) := (hb5.cells _ _ (by first | assumption | (simp; done) | (simp; omega) | omega)).trans (by go_simp)
        have r5_5_3 : w5.cell? ⟨w0.heap.size + 1, 3, none⟩ = some (.int .i64 0) := (hb5.cells _ _ (by first | assumption | (simp; done) | (simp; omega) | omega)).trans (by go_simp)
        have rf5_5 : ∀ o, w5.frozen? ⟨w0.heap.size + 1, o, none⟩ = false := fun o => (hb5.frozens _ _ (by first | assumption | (simp; done) | (simp; omega) | omega)).trans (by go_simp)
        have rl5_5 : w0.heap.size + 1 < w5.heap.size := World.block_lt_of_cell? w5 _ r5_5_0
        refine hK _ _ (fun _ => (by repeat (first | with_reducible exact Within.refl _ | with_reducible assumption | with_reducible refine Within.alloc ?_ _ | with_reducible refine Within.drew ?_ | with_reducible refine Within.drewN ?_ _ | with_reducible refine Within.setCell ?_ (by first | (simp; done) | (simp; omega)) _ | with_reducible refine Within.trans ?_ (by assumption)))) ?_
        clear hK K
        try simp only [Act.put, List.setIfInBounds_toArray, List.set_cons_zero, List.set_cons_succ]
        refine sct_one rfl rfl (fun K hK => ?_)
        go_simp
        refine hK _ _ (fun _ => (by repeat (first | with_reducible exact Within.refl _ | with_reducible assumption | with_reducible refine Within.alloc ?_ _ | with_reducible refine Within.drew ?_ | with_reducible refine Within.drewN ?_ _ | with_reducible refine Within.setCell ?_ (by first | (simp; done) | (simp; omega)) _ | with_reducible refine Within.trans ?_ (by assumption)))) ?_
        clear hK K
        try simp only [Act.put, List.setIfInBounds_toArray, List.set_cons_zero, List.set_cons_succ]
        refine sct_one rfl rfl (fun K hK => ?_)
        go_simp
        refine hK _ _ (fun h => absurd h (by decide)) ?_
        clear hK K
        try simp only [Act.put, List.setIfInBounds_toArray, List.set_cons_zero, List.set_cons_succ]
        refine sct_nil ?_
        go_wp2_with fail
        go_meet
        exact ⟨_, _, rfl, rfl, by go_simp, by go_simp, by go_simp, by go_simp, by go_simp, by go_simp, by go_simp, by go_simp, Within.trans hw0 (by repeat (first | with_reducible exact Within.refl _ | with_reducible assumption | with_reducible refine Within.alloc ?_ _ | with_reducible refine Within.drew ?_ | with_reducible refine Within.drewN ?_ _ | with_reducible refine Within.setCell ?_ (by first | (simp; done) | (simp; omega)) _ | with_reducible refine Within.trans ?_ (by assumption)))⟩
    · go_simp
      refine hK _ _ (by repeat (first | with_reducible exact Within.refl _ | with_reducible assumption | with_reducible refine Within.alloc ?_ _ | with_reducible refine Within.drew ?_ | with_reducible refine Within.drewN ?_ _ | with_reducible refine Within.setCell ?_ (by first | (simp; done) | (simp; omega)) _ | with_reducible refine Within.trans ?_ (by assumption))) ?_
      clear hK K
      try simp only [Act.put, List.setIfInBounds_toArray, List.set_cons_zero, List.set_cons_succ]
      refine sct_two rfl rfl rfl rfl (fun K hK => ?_) (fun K hK => ?_)
      · go_simp
        refine (Ramount ka ea na g1 _).mono ?_; rintro e4 w4 ⟨rfl, hb4⟩
        have hv4 : Within w0 w4 := Within.trans (by repeat (first | with_reducible exact Within.refl _ | with_reducible assumption | with_reducible refine Within.alloc ?_ _ | with_reducible refine Within.drew ?_ | with_reducible refine Within.drewN ?_ _ | with_reducible refine Within.setCell ?_ (by first | (simp; done) | (simp; omega)) _ | with_reducible refine Within.trans ?_ (by assumption))) hb4
        have hz4 := hv4.sizes
        have r5_4_0 : w4.cell? ⟨w0.heap.size, 0, none⟩ = some (.int .i64 0) := (hb4.cells _ _ (by first | assumption | (simp; done) | (simp; omega) | omega)).trans (by go_simp)
        have r5_4_1 : w4.cell? ⟨w0.heap.size, 1, none⟩ = some (.bool false) := (hb4.cells _ _ (by first | assumption | (simp; done) | (simp; omega) | omega)).trans (by go_simp)
        have r5_4_2 : w4.cell? ⟨w0.heap.size, 2, none⟩ = some (.pointer none) := (hb4.cells _ _ (by first | assumption | (simp; done) | (simp; omega) | omega)).trans (by go_simp)
        have r5_4_3 : w4.cell? ⟨w0.heap.size, 3, none⟩ = some (.int .i64 0) := (hb4.cells _ _ (by first | assumption | (simp; done) | (simp; omega) | omega)).trans (by go_simp)
        have rf5_4 : ∀ o, w4.frozen? ⟨w0.heap.size, o, none⟩ = false := fun o => (hb4.frozens _ _ (by first | assumption | (simp; done) | (simp; omega) | omega)).trans (by go_simp)
        have rl5_4 : w0.heap.size < w4.heap.size := World.block_lt_of_cell? w4 _ r5_4_0
        refine hK _ _ (by repeat (first | with_reducible exact Within.refl _ | with_reducible assumption | with_reducible refine Within.alloc ?_ _ | with_reducible refine Within.drew ?_ | with_reducible refine Within.drewN ?_ _ | with_reducible refine Within.setCell ?_ (by first | (simp; done) | (simp; omega)) _ | with_reducible refine Within.trans ?_ (by assumption))) ?_
        clear hK K
        try simp only [Act.put, List.setIfInBounds_toArray, List.set_cons_zero, List.set_cons_succ]
        refine sct_two rfl rfl rfl rfl (fun K hK => ?_) (fun K hK => ?_)
        · go_simp
          refine (Ramount kb eb nb g2 _).mono ?_; rintro e5 w5 ⟨rfl, hb5⟩
          have hv5 : Within w0 w5 := Within.trans (by repeat (first | with_reducible exact Within.refl _ | with_reducible assumption | with_reducible refine Within.alloc ?_ _ | with_reducible refine Within.drew ?_ | with_reducible refine Within.drewN ?_ _ | with_reducible refine Within.setCell ?_ (by first | (simp; done) | (simp; omega)) _ | with_reducible refine Within.trans ?_ (by assumption))) hb5
          have hz5 := hv5.sizes
          have r5_5_0 : w5.cell? ⟨w0.heap.size, 0, none⟩ = some (.int .i64 0) := (hb5.cells _ _ (by first | assumption | (simp; done) | (simp; omega) | omega)).trans (by go_simp)
          have r5_5_1 : w5.cell? ⟨w0.heap.size, 1, none⟩ = some (.bool false) := (hb5.cells _ _ (by first | assumption | (simp; done) | (simp; omega) | omega)).trans (by go_simp)
          have r5_5_2 : w5.cell? ⟨w0.heap.size, 2, none⟩ = some (.pointer none) := (hb5.cells _ _ (by first | assumption | (simp; done) | (simp; omega) | omega)).trans (by go_simp)
          have r5_5_3 : w5.cell? ⟨w0.heap.size, 3, none⟩ = some (.int .i64 0) := (hb5.cells _ _ (by first | assumption | (simp; done) | (simp; omega) | omega)).trans (by go_simp)
          have rf5_5 : ∀ o, w5.frozen? ⟨w0.heap.size, o, none⟩ = false := fun o => (hb5.frozens _ _ (by first | assumption | (simp; done) | (simp; omega) | omega)).trans (by go_simp)
          have rl5_5 : w0.heap.size < w5.heap.size := World.block_lt_of_cell? w5 _ r5_5_0
          refine hK _ _ (by repeat (first | with_reducible exact Within.refl _ | with_reducible assumption | with_reducible refine Within.alloc ?_ _ | with_reducible refine Within.drew ?_ | with_reducible refine Within.drewN ?_ _ | with_reducible refine Within.setCell ?_ (by first | (simp; done) | (simp; omega)) _ | with_reducible refine Within.trans ?_ (by assumption))) ?_
          clear hK K
          try simp only [Act.put, List.setIfInBounds_toArray, List.set_cons_zero, List.set_cons_succ]
          refine sct_one rfl rfl (fun K hK => ?_)
          go_simp
          refine hK _ _ (fun _ => (by repeat (first | with_reducible exact Within.refl _ | with_reducible assumption | with_reducible refine Within.alloc ?_ _ | with_reducible refine Within.drew ?_ | with_reducible refine Within.drewN ?_ _ | with_reducible refine Within.setCell ?_ (by first | (simp; done) | (simp; omega)) _ | with_reducible refine Within.trans ?_ (by assumption)))) ?_
          clear hK K
          try simp only [Act.put, List.setIfInBounds_toArray, List.set_cons_zero, List.set_cons_succ]
          refine sct_one rfl rfl (fun K hK => ?_)
          go_simp
          refine hK _ _ (fun _ => (by repeat (first | with_reducible exact Within.refl _ | with_reducible assumption | with_reducible refine Within.alloc ?_ _ | with_reducible refine Within.drew ?_ | with_reducible refine Within.drewN ?_ _ | with_reducible refine Within.setCell ?_ (by first | (simp; done) | (simp; omega)) _ | with_reducible refine Within.trans ?_ (by assumption)))) ?_
          clear hK K
          try simp only [Act.put, List.setIfInBounds_toArray, List.set_cons_zero, List.set_cons_succ]
          refine sct_one rfl rfl (fun K hK => ?_)
          go_simp
          refine hK _ _ (fun h => absurd h (by decide)) ?_
          clear hK K
          try simp only [Act.put, List.setIfInBounds_toArray, List.set_cons_zero, List.set_cons_succ]
          refine sct_nil ?_
          go_wp2_with fail
          go_meet
          exact ⟨_, _, rfl, rfl, by go_simp, by go_simp, by go_simp, by go_simp, by go_simp, by go_simp, by go_simp, by go_simp, Within.trans hw0 (by repeat (first | with_reducible exact Within.refl _ | with_reducible assumption | with_reducible refine Within.alloc ?_ _ | with_reducible refine Within.drew ?_ | with_reducible refine Within.drewN ?_ _ | with_reducible refine Within.setCell ?_ (by first | (simp; done) | (simp; omega)) _ | with_reducible refine Within.trans ?_ (by assumption)))⟩
        · go_simp
          refine hK _ _ (by repeat (first | with_reducible exact Within.refl _ | with_reducible assumption | with_reducible refine Within.alloc ?_ _ | with_reducible refine Within.drew ?_ | with_reducible refine Within.drewN ?_ _ | with_reducible refine Within.setCell ?_ (by first | (simp; done) | (simp; omega)) _ | with_reducible refine Within.trans ?_ (by assumption))) ?_
          clear hK K
          try simp only [Act.put, List.setIfInBounds_toArray, List.set_cons_zero, List.set_cons_succ]
          refine sct_one rfl rfl (fun K hK => ?_)
          go_simp
          refine (Ramount kb eb nb g2 _).mono ?_; rintro e5 w5 ⟨rfl, hb5⟩
          have hv5 : Within w0 w5 := Within.trans (by repeat (first | with_reducible exact Within.refl _ | with_reducible assumption | with_reducible refine Within.alloc ?_ _ | with_reducible refine Within.drew ?_ | with_reducible refine Within.drewN ?_ _ | with_reducible refine Within.setCell ?_ (by first | (simp; done) | (simp; omega)) _ | with_reducible refine Within.trans ?_ (by assumption))) hb5
          have hz5 := hv5.sizes
          have r5_5_0 : w5.cell? ⟨w0.heap.size, 0, none⟩ = some (.int .i64 0) := (hb5.cells _ _ (by first | assumption | (simp; done) | (simp; omega) | omega)).trans (by go_simp)
          have r5_5_1 : w5.cell? ⟨w0.heap.size, 1, none⟩ = some (.bool false) := (hb5.cells _ _ (by first | assumption | (simp; done) | (simp; omega) | omega)).trans (by go_simp)
          have r5_5_2 : w5.cell? ⟨w0.heap.size, 2, none⟩ = some (.pointer none) := (hb5.cells _ _ (by first | assumption | (simp; done) | (simp; omega) | omega)).trans (by go_simp)
          have r5_5_3 : w5.cell? ⟨w0.heap.size, 3, none⟩ = some (.int .i64 0) := (hb5.cells _ _ (by first | assumption | (simp; done) | (simp; omega) | omega)).trans (by go_simp)
          have rf5_5 : ∀ o, w5.frozen? ⟨w0.heap.size, o, none⟩ = false := fun o => (hb5.frozens _ _ (by first | assumption | (simp; done) | (simp; omega) | omega)).trans (by go_simp)
          have rl5_5 : w0.heap.size < w5.heap.size := World.block_lt_of_cell? w5 _ r5_5_0
          have r4_5_0 : w5.cell? ⟨w4.heap.size, 0, none⟩ = some (.int .i64 0) := (hb5.cells _ _ (by first | assumption | (simp; done) | (simp; omega) | omega)).trans (by go_simp)
          have r4_5_1 : w5.cell? ⟨w4.heap.size, 1, none⟩ = some (.bool false) := (hb5.cells _ _ (by first | assumption | (simp; done) | (simp; omega) | omega)).trans (by go_simp)
          have r4_5_2 : w5.cell? ⟨w4.heap.size, 2, none⟩ = some (.pointer none) := (hb5.cells _ _ (by first | assumption | (simp; done) | (simp; omega) | omega)).trans (by go_simp)
          have r4_5_3 : w5.cell? ⟨w4.heap.size, 3, none⟩ = some (.int .i64 0) := (hb5.cells _ _ (by first | assumption | (simp; done) | (simp; omega) | omega)).trans (by go_simp)
          have rf4_5 : ∀ o, w5.frozen? ⟨w4.heap.size, o, none⟩ = false := fun o => (hb5.frozens _ _ (by first | assumption | (simp; done) | (simp; omega) | omega)).trans (by go_simp)
          have rl4_5 : w4.heap.size < w5.heap.size := World.block_lt_of_cell? w5 _ r4_5_0
          refine hK _ _ (fun _ => (by repeat (first | with_reducible exact Within.refl _ | with_reducible assumption | with_reducible refine Within.alloc ?_ _ | with_reducible refine Within.drew ?_ | with_reducible refine Within.drewN ?_ _ | with_reducible refine Within.setCell ?_ (by first | (simp; done) | (simp; omega)) _ | with_reducible refine Within.trans ?_ (by assumption)))) ?_
          clear hK K
          try simp only [Act.put, List.setIfInBounds_toArray, List.set_cons_zero, List.set_cons_succ]
          refine sct_one rfl rfl (fun K hK => ?_)
          go_simp
          refine hK _ _ (fun _ => (by repeat (first | with_reducible exact Within.refl _ | with_reducible assumption | with_reducible refine Within.alloc ?_ _ | with_reducible refine Within.drew ?_ | with_reducible refine Within.drewN ?_ _ | with_reducible refine Within.setCell ?_ (by first | (simp; done) | (simp; omega)) _ | with_reducible refine Within.trans ?_ (by assumption)))) ?_
          clear hK K
          try simp only [Act.put, List.setIfInBounds_toArray, List.set_cons_zero, List.set_cons_succ]
          refine sct_one rfl rfl (fun K hK => ?_)
          go_simp
          refine hK _ _ (fun h => absurd h (by decide)) ?_
          clear hK K
          try simp only [Act.put, List.setIfInBounds_toArray, List.set_cons_zero, List.set_cons_succ]
          refine sct_nil ?_
          go_wp2_with fail
          go_meet
          exact ⟨_, _, rfl, rfl, by go_simp, by go_simp, by go_simp, by go_simp, by go_simp, by go_simp, by go_simp, by go_simp, Within.trans hw0 (by repeat (first | with_reducible exact Within.refl _ | with_reducible assumption | with_reducible refine Within.alloc ?_ _ | with_reducible refine Within.drew ?_ | with_reducible refine Within.drewN ?_ _ | with_reducible refine Within.setCell ?_ (by first | (simp; done) | (simp; omega)) _ | with_reducible refine Within.trans ?_ (by assumption)))⟩
      · go_simp
        refine hK _ _ (by repeat (first | with_reducible exact Within.refl _ | with_reducible assumption | with_reducible refine Within.alloc ?_ _ | with_reducible refine Within.drew ?_ | with_reducible refine Within.drewN ?_ _ | with_reducible refine Within.setCell ?_ (by first | (simp; done) | (simp; omega)) _ | with_reducible refine Within.trans ?_ (by assumption))) ?_
        clear hK K
        try simp only [Act.put, List.setIfInBounds_toArray, List.set_cons_zero, List.set_cons_succ]
        refine sct_one rfl rfl (fun K hK => ?_)
        go_simp
        refine (Ramount ka ea na g1 _).mono ?_; rintro e4 w4 ⟨rfl, hb4⟩
        have hv4 : Within w0 w4 := Within.trans (by repeat (first | with_reducible exact Within.refl _ | with_reducible assumption | with_reducible refine Within.alloc ?_ _ | with_reducible refine Within.drew ?_ | with_reducible refine Within.drewN ?_ _ | with_reducible refine Within.setCell ?_ (by first | (simp; done) | (simp; omega)) _ | with_reducible refine Within.trans ?_ (by assumption))) hb4
        have hz4 := hv4.sizes
        have r5_4_0 : w4.cell? ⟨w0.heap.size, 0, none⟩ = some (.int .i64 0) := (hb4.cells _ _ (by first | assumption | (simp; done) | (simp; omega) | omega)).trans (by go_simp)
        have r5_4_1 : w4.cell? ⟨w0.heap.size, 1, none⟩ = some (.bool false) := (hb4.cells _ _ (by first | assumption | (simp; done) | (simp; omega) | omega)).trans (by go_simp)
        have r5_4_2 : w4.cell? ⟨w0.heap.size, 2, none⟩ = some (.pointer none) := (hb4.cells _ _ (by first | assumption | (simp; done) | (simp; omega) | omega)).trans (by go_simp)
        have r5_4_3 : w4.cell? ⟨w0.heap.size, 3, none⟩ = some (.int .i64 0) := (hb4.cells _ _ (by first | assumption | (simp; done) | (simp; omega) | omega)).trans (by go_simp)
        have rf5_4 : ∀ o, w4.frozen? ⟨w0.heap.size, o, none⟩ = false := fun o => (hb4.frozens _ _ (by first | assumption | (simp; done) | (simp; omega) | omega)).trans (by go_simp)
        have rl5_4 : w0.heap.size < w4.heap.size := World.block_lt_of_cell? w4 _ r5_4_0
        have r4_4_0 : w4.cell? ⟨w0.heap.size + 1, 0, none⟩ = some (.int .i64 0) := (hb4.cells _ _ (by first | assumption | (simp; done) | (simp; omega) | omega)).trans (by go_simp)
        have r4_4_1 : w4.cell? ⟨w0.heap.size + 1, 1, none⟩ = some (.bool false) := (hb4.cells _ _ (by first | assumption | (simp; done) | (simp; omega) | omega)).trans (by go_simp)
        have r4_4_2 : w4.cell? ⟨w0.heap.size + 1, 2, none⟩ = some (.pointer none) := (hb4.cells _ _ (by first | assumption | (simp; done) | (simp; omega) | omega)).trans (by go_simp)
        have r4_4_3 : w4.cell? ⟨w0.heap.size + 1, 3, none⟩ = some (.int .i64 0) := (hb4.cells _ _ (by first | assumption | (simp; done) | (simp; omega) | omega)).trans (by go_simp)
        have rf4_4 : ∀ o, w4.frozen? ⟨w0.heap.size + 1, o, none⟩ = false := fun o => (hb4.frozens _ _ (by first | assumption | (simp; done) | (simp; omega) | omega)).trans (by go_simp)
        have rl4_4 : w0.heap.size + 1 < w4.heap.size := World.block_lt_of_cell? w4 _ r4_4_0
        refine hK _ _ (fun _ => (by repeat (first | with_reducible exact Within.refl _ | with_reducible assumption | with_reducible refine Within.alloc ?_ _ | with_reducible refine Within.drew ?_ | with_reducible refine Within.drewN ?_ _ | with_reducible refine Within.setCell ?_ (by first | (simp; done) | (simp; omega)) _ | with_reducible refine Within.trans ?_ (by assumption)))) ?_
        clear hK K
        try simp only [Act.put, List.setIfInBounds_toArray, List.set_cons_zero, List.set_cons_succ]
        refine sct_one rfl rfl (fun K hK => ?_)
        go_simp
        refine (Ramount kb eb nb g2 _).mono ?_; rintro e5 w5 ⟨rfl, hb5⟩
        have hv5 : Within w0 w5 := Within.trans (by repeat (first | with_reducible exact Within.refl _ | with_reducible assumption | with_reducible refine Within.alloc ?_ _ | with_reducible refine Within.drew ?_ | with_reducible refine Within.drewN ?_ _ | with_reducible refine Within.setCell ?_ (by first | (simp; done) | (simp; omega)) _ | with_reducible refine Within.trans ?_ (by assumption))) hb5
        have hz5 := hv5.sizes
        have r5_5_0 : w5.cell? ⟨w0.heap.size, 0, none⟩ = some (.int .i64 0) := (hb5.cells _ _ (by first | assumption | (simp; done) | (simp; omega) | omega)).trans (by go_simp)
        have r5_5_1 : w5.cell? ⟨w0.heap.size, 1, none⟩ = some (.bool false) := (hb5.cells _ _ (by first | assumption | (simp; done) | (simp; omega) | omega)).trans (by go_simp)
        have r5_5_2 : w5.cell? ⟨w0.heap.size, 2, none⟩ = some (.pointer none) := (hb5.cells _ _ (by first | assumption | (simp; done) | (simp; omega) | omega)).trans (by go_simp)
        have r5_5_3 : w5.cell? ⟨w0.heap.size, 3, none⟩ = some (.int .i64 0) := (hb5.cells _ _ (by first | assumption | (simp; done) | (simp; omega) | omega)).trans (by go_simp)
        have rf5_5 : ∀ o, w5.frozen? ⟨w0.heap.size, o, none⟩ = false := fun o => (hb5.frozens _ _ (by first | assumption | (simp; done) | (simp; omega) | omega)).trans (by go_simp)
        have rl5_5 : w0.heap.size < w5.heap.size := World.block_lt_of_cell? w5 _ r5_5_0
        have r4_5_0 : w5.cell? ⟨w0.heap.size + 1, 0, none⟩ = some (.int .i64 0) := (hb5.cells _ _ (by first | assumption | (simp; done) | (simp; omega) | omega)).trans (by go_simp)
        have r4_5_1 : w5.cell? ⟨w0.heap.size + 1, 1, none⟩ = some (.bool false) := (hb5.cells _ _ (by first | assumption | (simp; done) | (simp; omega) | omega)).trans (by go_simp)
        have r4_5_2 : w5.cell? ⟨w0.heap.size + 1, 2, none⟩ = some (.pointer none) := (hb5.cells _ _ (by first | assumption | (simp; done) | (simp; omega) | omega)).trans (by go_simp)
        have r4_5_3 : w5.cell? ⟨w0.heap.size + 1, 3, none⟩ = some (.int .i64 0) := (hb5.cells _ _ (by first | assumption | (simp; done) | (simp; omega) | omega)).trans (by go_simp)
        have rf4_5 : ∀ o, w5.frozen? ⟨w0.heap.size + 1, o, none⟩ = false := fun o => (hb5.frozens _ _ (by first | assumption | (simp; done) | (simp; omega) | omega)).trans (by go_simp)
        have rl4_5 : w0.heap.size + 1 < w5.heap.size := World.block_lt_of_cell? w5 _ r4_5_0
        refine hK _ _ (fun _ => (by repeat (first | with_reducible exact Within.refl _ | with_reducible assumption | with_reducible refine Within.alloc ?_ _ | with_reducible refine Within.drew ?_ | with_reducible refine Within.drewN ?_ _ | with_reducible refine Within.setCell ?_ (by first | (simp; done) | (simp; omega)) _ | with_reducible refine Within.trans ?_ (by assumption)))) ?_
        clear hK K
        try simp only [Act.put, List.setIfInBounds_toArray, List.set_cons_zero, List.set_cons_succ]
        refine sct_one rfl rfl (fun K hK => ?_)
        go_simp
        refine hK _ _ (fun _ => (by repeat (first | with_reducible exact Within.refl _ | with_reducible assumption | with_reducible refine Within.alloc ?_ _ | with_reducible refine Within.drew ?_ | with_reducible refine Within.drewN ?_ _ | with_reducible refine Within.setCell ?_ (by first | (simp; done) | (simp; omega)) _ | with_reducible refine Within.trans ?_ (by assumption)))) ?_
        clear hK K
        try simp only [Act.put, List.setIfInBounds_toArray, List.set_cons_zero, List.set_cons_succ]
        refine sct_one rfl rfl (fun K hK => ?_)
        go_simp
        refine hK _ _ (fun h => absurd h (by decide)) ?_
        clear hK K
        try simp only [Act.put, List.setIfInBounds_toArray, List.set_cons_zero, List.set_cons_succ]
        refine sct_nil ?_
        go_wp2_with fail
        go_meet
        exact ⟨_, _, rfl, rfl, by go_simp, by go_simp, by go_simp, by go_simp, by go_simp, by go_simp, by go_simp, by go_simp, Within.trans hw0 (by repeat (first | with_reducible exact Within.refl _ | with_reducible assumption | with_reducible refine Within.alloc ?_ _ | with_reducible refine Within.drew ?_ | with_reducible refine Within.drewN ?_ _ | with_reducible refine Within.setCell ?_ (by first | (simp; done) | (simp; omega)) _ | with_reducible refine Within.trans ?_ (by assumption)))⟩
  case rest =>
    obtain ⟨P, Q, rfl, rfl, p0, p1, p2, p3, q0, q1, q2, q3, hw⟩ := hcut
    have hlP : P < wc.heap.size := World.block_lt_of_cell? wc _ p0; have hlQ : Q < wc.heap.size := World.block_lt_of_cell? wc _ q0
    have a0 : wc.cell? ⟨w3.heap.size, 0, none⟩ = some (.int .i64 ka) := (hw.cells _ _ (by simp; omega)).trans (by go_simp)
    have a1 : wc.cell? ⟨w3.heap.size, 1, none⟩ = some (.bool na) := (hw.cells _ _ (by simp; omega)).trans (by go_simp)
    have a2 : wc.cell? ⟨w3.heap.size, 2, none⟩ = some (.pointer (some ⟨g1, 0, none⟩)) := (hw.cells _ _ (by simp; omega)).trans (by go_simp)
    have a3 : wc.cell? ⟨w3.heap.size, 3, none⟩ = some (.int .i64 ea) := (hw.cells _ _ (by simp; omega)).trans (by go_simp)
    have b0 : wc.cell? ⟨w3.heap.size + 1, 0, none⟩ = some (.int .i64 kb) := (hw.cells _ _ (by simp)).trans (by go_simp)
    have b1 : wc.cell? ⟨w3.heap.size + 1, 1, none⟩ = some (.bool nb) := (hw.cells _ _ (by simp)).trans (by go_simp)
    have b2 : wc.cell? ⟨w3.heap.size + 1, 2, none⟩ = some (.pointer (some ⟨g2, 0, none⟩)) := (hw.cells _ _ (by simp)).trans (by go_simp)
    have b3 : wc.cell? ⟨w3.heap.size + 1, 3, none⟩ = some (.int .i64 eb) := (hw.cells _ _ (by simp)).trans (by go_simp)
    have hlA : w3.heap.size < wc.heap.size := World.block_lt_of_cell? wc _ a0; have hlB : w3.heap.size + 1 < wc.heap.size := World.block_lt_of_cell? wc _ b0
    have hX1 : IntB wc g1 (ma : Int) := IntB.of ((by repeat (first | with_reducible assumption | with_reducible exact ib_new _ _ (by simp; done) | with_reducible refine IntB.alloc ?_ _ | with_reducible refine IntB.drew ?_ | with_reducible refine IntB.setNum ?_ (by first | assumption | (simp; done) | (simp; omega)) (by repeat (first | with_reducible assumption | with_reducible refine NumTy.set ?_ _ _)) _ | with_reducible refine IntB.drewN ?_ _))) hw
    have hX2 : IntB wc g2 (mb : Int) := IntB.of ((by repeat (first | with_reducible assumption | with_reducible exact ib_new _ _ (by simp; done) | with_reducible refine IntB.alloc ?_ _ | with_reducible refine IntB.drew ?_ | with_reducible refine IntB.setNum ?_ (by first | assumption | (simp; done) | (simp; omega)) (by repeat (first | with_reducible assumption | with_reducible refine NumTy.set ?_ _ _)) _ | with_reducible refine IntB.drewN ?_ _))) hw
    have hwc : Within w wc := Within.trans (by repeat (first | with_reducible exact Within.refl _ | with_reducible assumption | with_reducible refine Within.alloc ?_ _ | with_reducible refine Within.drew ?_ | with_reducible refine Within.drewN ?_ _ | with_reducible refine Within.setCell ?_ (by first | (simp; done) | (simp; omega)) _ | with_reducible refine Within.trans ?_ (by assumption))) hw
    clear hw hI1 hI2 hJ1 hg1 hg2 hv3 hb1 hb2 hb3
    go_upto_region 9 with fail
    refine wp_region_schG (fun W => W.cell? ⟨P, 0, none⟩ = some (.int .i64 ka) ∧ W.cell? ⟨P, 1, none⟩ = some (.bool false) ∧ W.cell? ⟨P, 2, none⟩ = some (.pointer (some ⟨g1, 0, none⟩)) ∧ W.cell? ⟨P, 3, none⟩ = some (.int .i64 ea) ∧ W.cell? ⟨Q, 0, none⟩ = some (.int .i64 kb) ∧ W.cell? ⟨Q, 1, none⟩ = some (.bool false) ∧ W.cell? ⟨Q, 2, none⟩ = some (.pointer (some ⟨g2, 0, none⟩)) ∧ W.cell? ⟨Q, 3, none⟩ = some (.int .i64 eb) ∧ IntB W g1 (ma : Int) ∧ IntB W g2 (mb : Int) ∧ Within wc W ∧ P < W.heap.size ∧ Q < W.heap.size) 13 (.firm 0 (.firm 1 (.firm 3 (.one 2 (.one 4 (.firm 5 (.firm 6 (.firm 7 (.firm 8 (.firm 9 (.one 10 (.one 11 (.firm 12 (.one 13 .nil)))))))))))))) (by kernel_rfl) (by kernel_rfl) ⟨p0, p1, p2, p3, q0, q1, q2, q3, hX1, hX2, Within.refl _, hlP, hlQ⟩ ?_
    rintro w0 ⟨x0, x1, x2, x3, x4, x5, x6, x7, hY1, hY2, hw9, hs0, hs1⟩
    try simp only [Act.put, List.setIfInBounds_toArray, List.set_cons_zero, List.set_cons_succ]
    apply sch_firm rfl rfl (by repeat (first | with_reducible exact Within.refl _ | with_reducible assumption | with_reducible refine Within.alloc ?_ _ | with_reducible refine Within.drew ?_ | with_reducible refine Within.drewN ?_ _ | with_reducible refine Within.setCell ?_ (by first | (simp; done) | (simp; omega)) _ | with_reducible refine Within.trans ?_ (by assumption)))
    · intro wq hq
      have hcq := hq.cells
      clear hq
      go_simp
      first | rfl | (trace_state; fail)
    try simp only [Act.put, List.setIfInBounds_toArray, List.set_cons_zero, List.set_cons_succ]
    apply sch_firm rfl rfl (by repeat (first | with_reducible exact Within.refl _ | with_reducible assumption | with_reducible refine Within.alloc ?_ _ | with_reducible refine Within.drew ?_ | with_reducible refine Within.drewN ?_ _ | with_reducible refine Within.setCell ?_ (by first | (simp; done) | (simp; omega)) _ | with_reducible refine Within.trans ?_ (by assumption)))
    · intro wq hq
      have hcq := hq.cells
      clear hq
      go_simp
      first | rfl | (trace_state; fail)
    try simp only [Act.put, List.setIfInBounds_toArray, List.set_cons_zero, List.set_cons_succ]
    apply sch_firm rfl rfl (by repeat (first | with_reducible exact Within.refl _ | with_reducible assumption | with_reducible refine Within.alloc ?_ _ | with_reducible refine Within.drew ?_ | with_reducible refine Within.drewN ?_ _ | with_reducible refine Within.setCell ?_ (by first | (simp; done) | (simp; omega)) _ | with_reducible refine Within.trans ?_ (by assumption)))
    · intro wq hq
      have hcq := hq.cells
      clear hq
      go_simp
      first | rfl | (trace_state; fail)
    try simp only [Act.put, List.setIfInBounds_toArray, List.set_cons_zero, List.set_cons_succ]
    refine sch_one rfl rfl (fun K hK => ?_)
    go_simp
    refine (SP.out _ _ (by repeat (first | with_reducible assumption | with_reducible exact ib_new _ _ (by simp; done) | with_reducible refine IntB.alloc ?_ _ | with_reducible refine IntB.drew ?_ | with_reducible refine IntB.setNum ?_ (by first | assumption | (simp; done) | (simp; omega)) (by repeat (first | with_reducible assumption | with_reducible refine NumTy.set ?_ _ _)) _ | with_reducible refine IntB.drewN ?_ _))).mono ?_; rintro e4 w4 ⟨h1, rfl, hA1, hg1, hb4⟩
    have hv4 : Within w0 w4 := (Within.refl w0).drew.trans hb4
    refine hK _ _ (fun _ => (by repeat (first | with_reducible exact Within.refl _ | with_reducible assumption | with_reducible refine Within.alloc ?_ _ | with_reducible refine Within.drew ?_ | with_reducible refine Within.drewN ?_ _ | with_reducible refine Within.setCell ?_ (by first | (simp; done) | (simp; omega)) _ | with_reducible refine Within.trans ?_ (by assumption)))) ?_
    clear hK K
    try simp only [Act.put, List.setIfInBounds_toArray, List.set_cons_zero, List.set_cons_succ]
    refine sch_one rfl rfl (fun K hK => ?_)
    go_simp
    refine (C1.out _ _ _ hA1 (hY2.of hv4)).mono ?_; rintro e5 w5 ⟨rfl, hb5⟩
    have hv5 := hv4.trans hb5
    refine hK _ _ (fun _ => (by repeat (first | with_reducible exact Within.refl _ | with_reducible assumption | with_reducible refine Within.alloc ?_ _ | with_reducible refine Within.drew ?_ | with_reducible refine Within.drewN ?_ _ | with_reducible refine Within.setCell ?_ (by first | (simp; done) | (simp; omega)) _ | with_reducible refine Within.trans ?_ (by assumption)))) ?_
    clear hK K
    try simp only [Act.put, List.setIfInBounds_toArray, List.set_cons_zero, List.set_cons_succ]
    apply sch_firm rfl rfl (by repeat (first | with_reducible exact Within.refl _ | with_reducible assumption | with_reducible refine Within.alloc ?_ _ | with_reducible refine Within.drew ?_ | with_reducible refine Within.drewN ?_ _ | with_reducible refine Within.setCell ?_ (by first | (simp; done) | (simp; omega)) _ | with_reducible refine Within.trans ?_ (by assumption)))
    · intro wq hq
      have hcq := hq.cells
      clear hq
      go_simp
      first | rfl | (trace_state; fail)
    try simp only [Act.put, List.setIfInBounds_toArray, List.set_cons_zero, List.set_cons_succ]
    apply sch_firm rfl rfl (by repeat (first | with_reducible exact Within.refl _ | with_reducible assumption | with_reducible refine Within.alloc ?_ _ | with_reducible refine Within.drew ?_ | with_reducible refine Within.drewN ?_ _ | with_reducible refine Within.setCell ?_ (by first | (simp; done) | (simp; omega)) _ | with_reducible refine Within.trans ?_ (by assumption)))
    · intro wq hq
      have hcq := hq.cells
      clear hq
      go_simp
      first | rfl | (trace_state; fail)
    try simp only [Act.put, List.setIfInBounds_toArray, List.set_cons_zero, List.set_cons_succ]
    cases u1
    · apply sch_want rfl rfl (by repeat (first | with_reducible exact Within.refl _ | with_reducible assumption | with_reducible refine Within.alloc ?_ _ | with_reducible refine Within.drew ?_ | with_reducible refine Within.drewN ?_ _ | with_reducible refine Within.setCell ?_ (by first | (simp; done) | (simp; omega)) _ | with_reducible refine Within.trans ?_ (by assumption)))
      · intro wq hq
        have hcq := hq.cells
        clear hq
        go_simp
        first | rfl | (trace_state; fail)
      try simp only [Act.put, List.setIfInBounds_toArray, List.set_cons_zero, List.set_cons_succ]
      apply sch_want rfl rfl (by repeat (first | with_reducible exact Within.refl _ | with_reducible assumption | with_reducible refine Within.alloc ?_ _ | with_reducible refine Within.drew ?_ | with_reducible refine Within.drewN ?_ _ | with_reducible refine Within.setCell ?_ (by first | (simp; done) | (simp; omega)) _ | with_reducible refine Within.trans ?_ (by assumption)))
      · intro wq hq
        have hcq := hq.cells
        clear hq
        go_simp
        first | rfl | (trace_state; fail)
      try simp only [Act.put, List.setIfInBounds_toArray, List.set_cons_zero, List.set_cons_succ]
      apply sch_want rfl rfl (by repeat (first | with_reducible exact Within.refl _ | with_reducible assumption | with_reducible refine Within.alloc ?_ _ | with_reducible refine Within.drew ?_ | with_reducible refine Within.drewN ?_ _ | with_reducible refine Within.setCell ?_ (by first | (simp; done) | (simp; omega)) _ | with_reducible refine Within.trans ?_ (by assumption)))
      · intro wq hq
        have hcq := hq.cells
        clear hq
        go_simp
        first | rfl | (trace_state; fail)
      try simp only [Act.put, List.setIfInBounds_toArray, List.set_cons_zero, List.set_cons_succ]
      refine sch_one_want rfl rfl (fun K hK => ?_)
      go_simp
      refine (SQ.out _ _ (hY2.of hv5)).mono ?_; rintro e6 w6 ⟨h2, rfl, hA2, hg2, hb6⟩
      have hv6 := hv5.trans hb6
      refine hK _ _ (fun _ => (by repeat (first | with_reducible exact Within.refl _ | with_reducible assumption | with_reducible refine Within.alloc ?_ _ | with_reducible refine Within.drew ?_ | with_reducible refine Within.drewN ?_ _ | with_reducible refine Within.setCell ?_ (by first | (simp; done) | (simp; omega)) _ | with_reducible refine Within.trans ?_ (by assumption)))) ?_
      clear hK K
      try simp only [Act.put, List.setIfInBounds_toArray, List.set_cons_zero, List.set_cons_succ]
      refine sch_one_want rfl rfl (fun K hK => ?_)
      go_simp
      refine (C2.out _ _ _ (hY1.of hv6) hA2).mono ?_; rintro e7 w7 ⟨rfl, hb7⟩
      have hv7 := hv6.trans hb7
      refine hK _ _ (fun _ => (by repeat (first | with_reducible exact Within.refl _ | with_reducible assumption | with_reducible refine Within.alloc ?_ _ | with_reducible refine Within.drew ?_ | with_reducible refine Within.drewN ?_ _ | with_reducible refine Within.setCell ?_ (by first | (simp; done) | (simp; omega)) _ | with_reducible refine Within.trans ?_ (by assumption)))) ?_
      clear hK K
      try simp only [Act.put, List.setIfInBounds_toArray, List.set_cons_zero, List.set_cons_succ]
      apply sch_want rfl rfl (by repeat (first | with_reducible exact Within.refl _ | with_reducible assumption | with_reducible refine Within.alloc ?_ _ | with_reducible refine Within.drew ?_ | with_reducible refine Within.drewN ?_ _ | with_reducible refine Within.setCell ?_ (by first | (simp; done) | (simp; omega)) _ | with_reducible refine Within.trans ?_ (by assumption)))
      · intro wq hq
        have hcq := hq.cells
        clear hq
        go_simp
        first | rfl | (trace_state; fail)
      try simp only [Act.put, List.setIfInBounds_toArray, List.set_cons_zero, List.set_cons_succ]
      refine sch_one rfl rfl (fun K hK => ?_)
      go_simp
      refine hK _ _ (fun h => absurd h (by decide)) ?_
      clear hK K
      try simp only [Act.put, List.setIfInBounds_toArray, List.set_cons_zero, List.set_cons_succ]
      refine sch_nil ?_
      cases u2
      · obtain ⟨r, fl, n, nr, mr, kr, er, n3, m3, e3, c3, SU, OR, S3, C3, d3, d4, d5⟩ := EV.out rfl rfl
        have hwx : Within wc w7 := hw9.trans hv7
        go_wp2_with fail
        refine (g_any x _).mono ?_; rintro e8 w8 ⟨rfl, rfl⟩
        go_wp2_with fail
        refine (g_any y _).mono ?_; rintro e9 w9 ⟨rfl, rfl⟩
        go_wp2_with fail
        refine (SU.out _ (hT.of (hwc.trans hwx))).mono ?_; rintro e10 wd ⟨rfl, hb10⟩
        have hwd := hwx.trans hb10
        go_upto_region 12 with fail
        have a0' := (hwd.cells _ 0 hlA).trans a0
        have a1' := (hwd.cells _ 1 hlA).trans a1
        have a2' := (hwd.cells _ 2 hlA).trans a2
        have a3' := (hwd.cells _ 3 hlA).trans a3
        have b0' := (hwd.cells _ 0 hlB).trans b0
        have b1' := (hwd.cells _ 1 hlB).trans b1
        have b2' := (hwd.cells _ 2 hlB).trans b2
        have b3' := (hwd.cells _ 3 hlB).trans b3
        have hz := hwd.sizes
        refine wp_region_schG (fun W => W.cell? ⟨w3.heap.size, 0, none⟩ = some (.int .i64 ka) ∧ W.cell? ⟨w3.heap.size, 1, none⟩ = some (.bool na) ∧ W.cell? ⟨w3.heap.size, 2, none⟩ = some (.pointer (some ⟨g1, 0, none⟩)) ∧ W.cell? ⟨w3.heap.size, 3, none⟩ = some (.int .i64 ea) ∧ W.cell? ⟨w3.heap.size + 1, 0, none⟩ = some (.int .i64 kb) ∧ W.cell? ⟨w3.heap.size + 1, 1, none⟩ = some (.bool nb) ∧ W.cell? ⟨w3.heap.size + 1, 2, none⟩ = some (.pointer (some ⟨g2, 0, none⟩)) ∧ W.cell? ⟨w3.heap.size + 1, 3, none⟩ = some (.int .i64 eb) ∧ IntB W g1 (ma : Int) ∧ IntB W g2 (mb : Int) ∧ Within wd W ∧ w3.heap.size < W.heap.size ∧ w3.heap.size + 1 < W.heap.size) 17 (.firm 0 (.firm 1 (.firm 2 (.firm 3 (.firm 4 (.firm 5 (.firm 6 (.firm 7 (.firm 10 (.firm 11 (.one 8 (.one 9 (.one 12 (.one 13 (.one 14 (.firm 15 (.firm 16 (.one 17 .nil)))))))))))))))))) (by kernel_rfl) (by kernel_rfl) ⟨a0', a1', a2', a3', b0', b1', b2', b3', hX1.of hwd, hX2.of hwd, Within.refl _, by omega, by omega⟩ ?_
        rintro wz ⟨y0, y1, y2, y3, y4, y5, y6, y7, hZ1, hZ2, hw12, ht0, ht1⟩
        try simp only [Act.put, List.setIfInBounds_toArray, List.set_cons_zero, List.set_cons_succ]
        apply sch_firm rfl rfl (by repeat (first | with_reducible exact Within.refl _ | with_reducible assumption | with_reducible refine Within.alloc ?_ _ | with_reducible refine Within.drew ?_ | with_reducible refine Within.drewN ?_ _ | with_reducible refine Within.setCell ?_ (by first | (simp; done) | (simp; omega)) _ | with_reducible refine Within.trans ?_ (by assumption)))
        · intro wq hq
          have hcq := hq.cells
          clear hq
          go_simp
          first | rfl | (trace_state; fail)
        try simp only [Act.put, List.setIfInBounds_toArray, List.set_cons_zero, List.set_cons_succ]
        apply sch_firm rfl rfl (by repeat (first | with_reducible exact Within.refl _ | with_reducible assumption | with_reducible refine Within.alloc ?_ _ | with_reducible refine Within.drew ?_ | with_reducible refine Within.drewN ?_ _ | with_reducible refine Within.setCell ?_ (by first | (simp; done) | (simp; omega)) _ | with_reducible refine Within.trans ?_ (by assumption)))
        · intro wq hq
          have hcq := hq.cells
          clear hq
          go_simp
          first | rfl | (trace_state; fail)
        try simp only [Act.put, List.setIfInBounds_toArray, List.set_cons_zero, List.set_cons_succ]
        apply sch_firm rfl rfl (by repeat (first | with_reducible exact Within.refl _ | with_reducible assumption | with_reducible refine Within.alloc ?_ _ | with_reducible refine Within.drew ?_ | with_reducible refine Within.drewN ?_ _ | with_reducible refine Within.setCell ?_ (by first | (simp; done) | (simp; omega)) _ | with_reducible refine Within.trans ?_ (by assumption)))
        · intro wq hq
          have hcq := hq.cells
          clear hq
          go_simp
          first | rfl | (trace_state; fail)
        try simp only [Act.put, List.setIfInBounds_toArray, List.set_cons_zero, List.set_cons_succ]
        apply sch_want rfl rfl (by repeat (first | with_reducible exact Within.refl _ | with_reducible assumption | with_reducible refine Within.alloc ?_ _ | with_reducible refine Within.drew ?_ | with_reducible refine Within.drewN ?_ _ | with_reducible refine Within.setCell ?_ (by first | (simp; done) | (simp; omega)) _ | with_reducible refine Within.trans ?_ (by assumption)))
        · intro wq hq
          have hcq := hq.cells
          clear hq
          go_simp
          first | rfl | (trace_state; fail)
        try simp only [Act.put, List.setIfInBounds_toArray, List.set_cons_zero, List.set_cons_succ]
        apply sch_want rfl rfl (by repeat (first | with_reducible exact Within.refl _ | with_reducible assumption | with_reducible refine Within.alloc ?_ _ | with_reducible refine Within.drew ?_ | with_reducible refine Within.drewN ?_ _ | with_reducible refine Within.setCell ?_ (by first | (simp; done) | (simp; omega)) _ | with_reducible refine Within.trans ?_ (by assumption)))
        · intro wq hq
          have hcq := hq.cells
          clear hq
          go_simp
          first | rfl | (trace_state; fail)
        try simp only [Act.put, List.setIfInBounds_toArray, List.set_cons_zero, List.set_cons_succ]
        apply sch_firm rfl rfl (by repeat (first | with_reducible exact Within.refl _ | with_reducible assumption | with_reducible refine Within.alloc ?_ _ | with_reducible refine Within.drew ?_ | with_reducible refine Within.drewN ?_ _ | with_reducible refine Within.setCell ?_ (by first | (simp; done) | (simp; omega)) _ | with_reducible refine Within.trans ?_ (by assumption)))
        · intro wq hq
          have hcq := hq.cells
          clear hq
          go_simp
          first | rfl | (trace_state; fail)
        try simp only [Act.put, List.setIfInBounds_toArray, List.set_cons_zero, List.set_cons_succ]
        apply sch_firm rfl rfl (by repeat (first | with_reducible exact Within.refl _ | with_reducible assumption | with_reducible refine Within.alloc ?_ _ | with_reducible refine Within.drew ?_ | with_reducible refine Within.drewN ?_ _ | with_reducible refine Within.setCell ?_ (by first | (simp; done) | (simp; omega)) _ | with_reducible refine Within.trans ?_ (by assumption)))
        · intro wq hq
          have hcq := hq.cells
          clear hq
          go_simp
          first | rfl | (trace_state; fail)
        try simp only [Act.put, List.setIfInBounds_toArray, List.set_cons_zero, List.set_cons_succ]
        apply sch_want rfl rfl (by repeat (first | with_reducible exact Within.refl _ | with_reducible assumption | with_reducible refine Within.alloc ?_ _ | with_reducible refine Within.drew ?_ | with_reducible refine Within.drewN ?_ _ | with_reducible refine Within.setCell ?_ (by first | (simp; done) | (simp; omega)) _ | with_reducible refine Within.trans ?_ (by assumption)))
        · intro wq hq
          have hcq := hq.cells
          clear hq
          go_simp
          first | rfl | (trace_state; fail)
        try simp only [Act.put, List.setIfInBounds_toArray, List.set_cons_zero, List.set_cons_succ]
        apply sch_want rfl rfl (by repeat (first | with_reducible exact Within.refl _ | with_reducible assumption | with_reducible refine Within.alloc ?_ _ | with_reducible refine Within.drew ?_ | with_reducible refine Within.drewN ?_ _ | with_reducible refine Within.setCell ?_ (by first | (simp; done) | (simp; omega)) _ | with_reducible refine Within.trans ?_ (by assumption)))
        · intro wq hq
          have hcq := hq.cells
          clear hq
          go_simp
          first | rfl | (trace_state; fail)
        try simp only [Act.put, List.setIfInBounds_toArray, List.set_cons_zero, List.set_cons_succ]
        apply sch_want rfl rfl (by repeat (first | with_reducible exact Within.refl _ | with_reducible assumption | with_reducible refine Within.alloc ?_ _ | with_reducible refine Within.drew ?_ | with_reducible refine Within.drewN ?_ _ | with_reducible refine Within.setCell ?_ (by first | (simp; done) | (simp; omega)) _ | with_reducible refine Within.trans ?_ (by assumption)))
        · intro wq hq
          have hcq := hq.cells
          clear hq
          go_simp
          first | rfl | (trace_state; fail)
        try simp only [Act.put, List.setIfInBounds_toArray, List.set_cons_zero, List.set_cons_succ]
        refine sch_one_want rfl rfl (fun K hK => ?_)
        go_simp
        refine hK _ _ (fun _ => (by repeat (first | with_reducible exact Within.refl _ | with_reducible assumption | with_reducible refine Within.alloc ?_ _ | with_reducible refine Within.drew ?_ | with_reducible refine Within.drewN ?_ _ | with_reducible refine Within.setCell ?_ (by first | (simp; done) | (simp; omega)) _ | with_reducible refine Within.trans ?_ (by assumption)))) ?_
        clear hK K
        try simp only [Act.put, List.setIfInBounds_toArray, List.set_cons_zero, List.set_cons_succ]
        refine sch_one_want rfl rfl (fun K hK => ?_)
        go_simp
        refine (OR.out _).mono ?_; rintro e11 wA ⟨g3, rfl, hA3, hg3, hb11⟩
        have hvA : Within wz wA := Within.trans (by repeat (first | with_reducible exact Within.refl _ | with_reducible assumption | with_reducible refine Within.alloc ?_ _ | with_reducible refine Within.drew ?_ | with_reducible refine Within.drewN ?_ _ | with_reducible refine Within.setCell ?_ (by first | (simp; done) | (simp; omega)) _ | with_reducible refine Within.trans ?_ (by assumption))) hb11
        refine hK _ _ (fun _ => (by repeat (first | with_reducible exact Within.refl _ | with_reducible assumption | with_reducible refine Within.alloc ?_ _ | with_reducible refine Within.drew ?_ | with_reducible refine Within.drewN ?_ _ | with_reducible refine Within.setCell ?_ (by first | (simp; done) | (simp; omega)) _ | with_reducible refine Within.trans ?_ (by assumption)))) ?_
        clear hK K
        try simp only [Act.put, List.setIfInBounds_toArray, List.set_cons_zero, List.set_cons_succ]
        refine sch_one_want rfl rfl (fun K hK => ?_)
        go_simp
        refine (Rminus kb eb nb g2 _).mono ?_; rintro e12 wB ⟨rfl, hb12⟩
        have hvB := hvA.trans hb12
        have hA3' := hA3.of hb12
        refine hK _ _ (fun _ => (by repeat (first | with_reducible exact Within.refl _ | with_reducible assumption | with_reducible refine Within.alloc ?_ _ | with_reducible refine Within.drew ?_ | with_reducible refine Within.drewN ?_ _ | with_reducible refine Within.setCell ?_ (by first | (simp; done) | (simp; omega)) _ | with_reducible refine Within.trans ?_ (by assumption)))) ?_
        clear hK K
        try simp only [Act.put, List.setIfInBounds_toArray, List.set_cons_zero, List.set_cons_succ]
        refine sch_one_want rfl rfl (fun K hK => ?_)
        go_simp
        refine (S3.out _ _ _ (hZ1.of hvB) (hZ2.of hvB)).mono ?_; rintro e13 wC ⟨h3, rfl, hA4, hg4, hb13⟩
        have hvC := hvB.trans hb13
        have hA5 := hA3'.of hb13
        refine hK _ _ (fun _ => (by repeat (first | with_reducible exact Within.refl _ | with_reducible assumption | with_reducible refine Within.alloc ?_ _ | with_reducible refine Within.drew ?_ | with_reducible refine Within.drewN ?_ _ | with_reducible refine Within.setCell ?_ (by first | (simp; done) | (simp; omega)) _ | with_reducible refine Within.trans ?_ (by assumption)))) ?_
        clear hK K
        try simp only [Act.put, List.setIfInBounds_toArray, List.set_cons_zero, List.set_cons_succ]
        refine sch_one_want rfl rfl (fun K hK => ?_)
        go_simp
        refine (C3.out _ _ _ hA5 hA4).mono ?_; rintro e14 wD ⟨rfl, hb14⟩
        have hvD := hvC.trans hb14
        refine hK _ _ (fun _ => (by repeat (first | with_reducible exact Within.refl _ | with_reducible assumption | with_reducible refine Within.alloc ?_ _ | with_reducible refine Within.drew ?_ | with_reducible refine Within.drewN ?_ _ | with_reducible refine Within.setCell ?_ (by first | (simp; done) | (simp; omega)) _ | with_reducible refine Within.trans ?_ (by assumption)))) ?_
        clear hK K
        try simp only [Act.put, List.setIfInBounds_toArray, List.set_cons_zero, List.set_cons_succ]
        apply sch_want rfl rfl (by repeat (first | with_reducible exact Within.refl _ | with_reducible assumption | with_reducible refine Within.alloc ?_ _ | with_reducible refine Within.drew ?_ | with_reducible refine Within.drewN ?_ _ | with_reducible refine Within.setCell ?_ (by first | (simp; done) | (simp; omega)) _ | with_reducible refine Within.trans ?_ (by assumption)))
        · intro wq hq
          have hcq := hq.cells
          clear hq
          go_simp
          first | rfl | (trace_state; fail)
        try simp only [Act.put, List.setIfInBounds_toArray, List.set_cons_zero, List.set_cons_succ]
        apply sch_firm rfl rfl (by repeat (first | with_reducible exact Within.refl _ | with_reducible assumption | with_reducible refine Within.alloc ?_ _ | with_reducible refine Within.drew ?_ | with_reducible refine Within.drewN ?_ _ | with_reducible refine Within.setCell ?_ (by first | (simp; done) | (simp; omega)) _ | with_reducible refine Within.trans ?_ (by assumption)))
        · intro wq hq
          have hcq := hq.cells
          clear hq
          go_simp
          first | rfl | (trace_state; fail)
        try simp only [Act.put, List.setIfInBounds_toArray, List.set_cons_zero, List.set_cons_succ]
        refine sch_one rfl rfl (fun K hK => ?_)
        go_simp
        refine hK _ _ (fun h => absurd h (by decide)) ?_
        clear hK K
        try simp only [Act.put, List.setIfInBounds_toArray, List.set_cons_zero, List.set_cons_succ]
        refine sch_nil ?_
        go_wp2
        go_ret
        exact ⟨rfl, hwc.trans (hwd.trans (hw12.trans hvD))⟩
      · go_wp2
        go_ret
        exact ⟨rfl, hwc.trans (hw9.trans hv7)⟩
    · refine sch_skip rfl rfl (by repeat (first | with_reducible exact Within.refl _ | with_reducible assumption | with_reducible refine Within.alloc ?_ _ | with_reducible refine Within.drew ?_ | with_reducible refine Within.drewN ?_ _ | with_reducible refine Within.setCell ?_ (by first | (simp; done) | (simp; omega)) _ | with_reducible refine Within.trans ?_ (by assumption))) ?_
      try simp only [Act.put, List.setIfInBounds_toArray, List.set_cons_zero, List.set_cons_succ]
      refine sch_skip rfl rfl (by repeat (first | with_reducible exact Within.refl _ | with_reducible assumption | with_reducible refine Within.alloc ?_ _ | with_reducible refine Within.drew ?_ | with_reducible refine Within.drewN ?_ _ | with_reducible refine Within.setCell ?_ (by first | (simp; done) | (simp; omega)) _ | with_reducible refine Within.trans ?_ (by assumption))) ?_
      try simp only [Act.put, List.setIfInBounds_toArray, List.set_cons_zero, List.set_cons_succ]
      refine sch_skip rfl rfl (by repeat (first | with_reducible exact Within.refl _ | with_reducible assumption | with_reducible refine Within.alloc ?_ _ | with_reducible refine Within.drew ?_ | with_reducible refine Within.drewN ?_ _ | with_reducible refine Within.setCell ?_ (by first | (simp; done) | (simp; omega)) _ | with_reducible refine Within.trans ?_ (by assumption))) ?_
      try simp only [Act.put, List.setIfInBounds_toArray, List.set_cons_zero, List.set_cons_succ]
      refine sch_one_skip rfl rfl (by repeat (first | with_reducible exact Within.refl _ | with_reducible assumption | with_reducible refine Within.alloc ?_ _ | with_reducible refine Within.drew ?_ | with_reducible refine Within.drewN ?_ _ | with_reducible refine Within.setCell ?_ (by first | (simp; done) | (simp; omega)) _ | with_reducible refine Within.trans ?_ (by assumption))) ?_
      try simp only [Act.put, List.setIfInBounds_toArray, List.set_cons_zero, List.set_cons_succ]
      refine sch_one_skip rfl rfl (by repeat (first | with_reducible exact Within.refl _ | with_reducible assumption | with_reducible refine Within.alloc ?_ _ | with_reducible refine Within.drew ?_ | with_reducible refine Within.drewN ?_ _ | with_reducible refine Within.setCell ?_ (by first | (simp; done) | (simp; omega)) _ | with_reducible refine Within.trans ?_ (by assumption))) ?_
      try simp only [Act.put, List.setIfInBounds_toArray, List.set_cons_zero, List.set_cons_succ]
      refine sch_skip rfl rfl (by repeat (first | with_reducible exact Within.refl _ | with_reducible assumption | with_reducible refine Within.alloc ?_ _ | with_reducible refine Within.drew ?_ | with_reducible refine Within.drewN ?_ _ | with_reducible refine Within.setCell ?_ (by first | (simp; done) | (simp; omega)) _ | with_reducible refine Within.trans ?_ (by assumption))) ?_
      try simp only [Act.put, List.setIfInBounds_toArray, List.set_cons_zero, List.set_cons_succ]
      refine sch_one rfl rfl (fun K hK => ?_)
      go_simp
      refine hK _ _ (fun h => absurd h (by decide)) ?_
      clear hK K
      try simp only [Act.put, List.setIfInBounds_toArray, List.set_cons_zero, List.set_cons_succ]
      refine sch_nil ?_
      go_wp2
      go_ret
      exact ⟨rfl, hwc.trans (hw9.trans hv5)⟩

end Go.Proofs.YtifgngmebnjfkaaDoor
