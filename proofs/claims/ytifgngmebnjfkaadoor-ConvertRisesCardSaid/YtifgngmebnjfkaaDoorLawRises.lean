/- ConvertRises: of what is not above what comes is not above, in each mode: the walk. -/
import Derived.Test.YtifgngmebnjfkaaDoorCvp5
namespace Go.Proofs.YtifgngmebnjfkaaDoor
open Go.RowKit

set_option maxRecDepth 100000 in
set_option maxHeartbeats 600000 in
theorem rises_nx (x y : Nat) (k width mode : Int) (hx : (FloatKind.f64.format.order x x != some .eq) = true) (w : World) (hT : FmS w) : Calls Tryd.prog 7 #[.int .u64 x, .int .u64 y, .int .i64 k, .int .i64 width, .int .i64 mode] w fun e' w' => e' = .returned (.bool true) ∧ Within w w' := by
  go_enter Tryd.func7, Tryd.ntmps7
  go_wp2_with fail
  refine (awake_true _ hT).mono ?_; rintro e0 w0 ⟨rfl, hb0⟩
  go_wp2_with fail
  refine (f_any x _).mono ?_; rintro e1 w1 ⟨rfl, rfl⟩
  go_wp2_with fail
  refine (f_any y _).mono ?_; rintro e2 w2 ⟨rfl, rfl⟩
  go_wp2
  go_ret
  exact ⟨rfl, (by repeat (first | with_reducible exact Within.refl _ | with_reducible assumption | with_reducible refine Within.alloc ?_ _ | with_reducible refine Within.drew ?_ | with_reducible refine Within.setCell ?_ (by first | (simp; done) | (simp; omega)) _ | with_reducible refine Within.trans ?_ (by assumption)))⟩

set_option maxRecDepth 100000 in
set_option maxHeartbeats 600000 in
theorem rises_ny (x y : Nat) (k width mode : Int) (hx : (FloatKind.f64.format.order x x != some .eq) = false) (hy : (FloatKind.f64.format.order y y != some .eq) = true) (w : World) (hT : FmS w) : Calls Tryd.prog 7 #[.int .u64 x, .int .u64 y, .int .i64 k, .int .i64 width, .int .i64 mode] w fun e' w' => e' = .returned (.bool true) ∧ Within w w' := by
  go_enter Tryd.func7, Tryd.ntmps7
  go_wp2_with fail
  refine (awake_true _ hT).mono ?_; rintro e0 w0 ⟨rfl, hb0⟩
  go_wp2_with fail
  refine (f_any x _).mono ?_; rintro e1 w1 ⟨rfl, rfl⟩
  go_wp2_with fail
  refine (f_any y _).mono ?_; rintro e2 w2 ⟨rfl, rfl⟩
  go_wp2
  go_ret
  exact ⟨rfl, (by repeat (first | with_reducible exact Within.refl _ | with_reducible assumption | with_reducible refine Within.alloc ?_ _ | with_reducible refine Within.drew ?_ | with_reducible refine Within.setCell ?_ (by first | (simp; done) | (simp; omega)) _ | with_reducible refine Within.trans ?_ (by assumption)))⟩

set_option maxRecDepth 100000 in
set_option maxHeartbeats 600000 in
theorem rises_low (x y : Nat) (k width mode : Int) (hx : (FloatKind.f64.format.order x x != some .eq) = false) (hy : (FloatKind.f64.format.order y y != some .eq) = false) (hm : decide (mode < 0) = true) (w : World) (hT : FmS w) : Calls Tryd.prog 7 #[.int .u64 x, .int .u64 y, .int .i64 k, .int .i64 width, .int .i64 mode] w fun e' w' => e' = .returned (.bool true) ∧ Within w w' := by
  go_enter Tryd.func7, Tryd.ntmps7
  go_wp2_with fail
  refine (awake_true _ hT).mono ?_; rintro e0 w0 ⟨rfl, hb0⟩
  go_wp2_with fail
  refine (f_any x _).mono ?_; rintro e1 w1 ⟨rfl, rfl⟩
  go_wp2_with fail
  refine (f_any y _).mono ?_; rintro e2 w2 ⟨rfl, rfl⟩
  go_wp2
  go_ret
  exact ⟨rfl, (by repeat (first | with_reducible exact Within.refl _ | with_reducible assumption | with_reducible refine Within.alloc ?_ _ | with_reducible refine Within.drew ?_ | with_reducible refine Within.setCell ?_ (by first | (simp; done) | (simp; omega)) _ | with_reducible refine Within.trans ?_ (by assumption)))⟩

set_option maxRecDepth 100000 in
set_option maxHeartbeats 600000 in
theorem rises_high (x y : Nat) (k width mode : Int) (hx : (FloatKind.f64.format.order x x != some .eq) = false) (hy : (FloatKind.f64.format.order y y != some .eq) = false) (hm : decide (mode < 0) = false) (hm2 : decide (mode > 4) = true) (w : World) (hT : FmS w) : Calls Tryd.prog 7 #[.int .u64 x, .int .u64 y, .int .i64 k, .int .i64 width, .int .i64 mode] w fun e' w' => e' = .returned (.bool true) ∧ Within w w' := by
  go_enter Tryd.func7, Tryd.ntmps7
  go_wp2_with fail
  refine (awake_true _ hT).mono ?_; rintro e0 w0 ⟨rfl, hb0⟩
  go_wp2_with fail
  refine (f_any x _).mono ?_; rintro e1 w1 ⟨rfl, rfl⟩
  go_wp2_with fail
  refine (f_any y _).mono ?_; rintro e2 w2 ⟨rfl, rfl⟩
  go_wp2
  go_ret
  exact ⟨rfl, (by repeat (first | with_reducible exact Within.refl _ | with_reducible assumption | with_reducible refine Within.alloc ?_ _ | with_reducible refine Within.drew ?_ | with_reducible refine Within.setCell ?_ (by first | (simp; done) | (simp; omega)) _ | with_reducible refine Within.trans ?_ (by assumption)))⟩

set_option maxRecDepth 100000 in
set_option maxHeartbeats 600000 in
theorem rises_u8 (x y p q c d s t : Nat) (k mode i j u v f1 f2 f3 f4 f5 f6 f7 f8 f9 f10 : Int) (hx : (FloatKind.f64.format.order x x != some .eq) = false) (hy : (FloatKind.f64.format.order y y != some .eq) = false) (hm : decide (mode < 0) = false) (hm2 : decide (mode > 4) = false) (hgt : (FloatKind.f64.format.order x y == some .gt) = false) (NP : Hid (∀ w, FmS w → Calls Tryd.prog 21 #[.float .f64 x, .int .i64 mode] w fun e' w' => e' = .returned (.tuple #[.float .f32 p, .int .i64 f1, .int .i64 0]) ∧ Within w w')) (NQ : Hid (∀ w, FmS w → Calls Tryd.prog 21 #[.float .f64 y, .int .i64 mode] w fun e' w' => e' = .returned (.tuple #[.float .f32 q, .int .i64 f2, .int .i64 0]) ∧ Within w w')) (WC : Hid (∀ w, Calls Tryd.prog 37 #[.float .f64 x, .int .i64 mode] w fun e' w' => e' = .returned (.tuple #[.float .f64 c, .int .i64 f3, .int .i64 0]) ∧ Within w w')) (WD : Hid (∀ w, Calls Tryd.prog 37 #[.float .f64 y, .int .i64 mode] w fun e' w' => e' = .returned (.tuple #[.float .f64 d, .int .i64 f4, .int .i64 0]) ∧ Within w w')) (SS : Hid (∀ w, FmD w → Calls Tryd.prog 34 #[.float .f64 x, .int .i64 k, .int .i64 mode] w fun e' w' => e' = .returned (.tuple #[.float .f64 s, .int .i64 f5, .int .i64 0]) ∧ Within w w')) (ST : Hid (∀ w, FmD w → Calls Tryd.prog 34 #[.float .f64 y, .int .i64 k, .int .i64 mode] w fun e' w' => e' = .returned (.tuple #[.float .f64 t, .int .i64 f6, .int .i64 0]) ∧ Within w w')) (II : Hid (∀ w, Calls Tryd.prog 33 #[.float .f64 x, .int .i64 8, .int .i64 mode] w fun e' w' => e' = .returned (.tuple #[.int .i64 i, .int .i64 f7, .int .i64 0]) ∧ Within w w')) (IJ : Hid (∀ w, Calls Tryd.prog 33 #[.float .f64 y, .int .i64 8, .int .i64 mode] w fun e' w' => e' = .returned (.tuple #[.int .i64 j, .int .i64 f8, .int .i64 0]) ∧ Within w w')) (UU : Hid (∀ w, Calls Tryd.prog 38 #[.float .f64 x, .int .i64 8, .int .i64 mode] w fun e' w' => e' = .returned (.tuple #[.int .u64 u, .int .i64 f9, .int .i64 0]) ∧ Within w w')) (UV : Hid (∀ w, Calls Tryd.prog 38 #[.float .f64 y, .int .i64 8, .int .i64 mode] w fun e' w' => e' = .returned (.tuple #[.int .u64 v, .int .i64 f10, .int .i64 0]) ∧ Within w w')) (r1 : (FloatKind.f32.format.order p q == some .lt || FloatKind.f32.format.order p q == some .eq) = true) (r2 : (FloatKind.f64.format.order c d == some .lt || FloatKind.f64.format.order c d == some .eq) = true) (r3 : (FloatKind.f64.format.order s t == some .lt || FloatKind.f64.format.order s t == some .eq) = true) (r4 : decide (i ≤ j) = true) (r5 : decide (u ≤ v) = true) (w : World) (hT : FmS w) (hD : FmD w) : Calls Tryd.prog 7 #[.int .u64 x, .int .u64 y, .int .i64 k, .int .i64 8, .int .i64 mode] w fun e' w' => e' = .returned (.bool true) ∧ Within w w' := by
  go_enter Tryd.func7, Tryd.ntmps7
  go_wp2_with fail
  refine (awake_true _ hT).mono ?_; rintro e0 w0 ⟨rfl, hb0⟩
  go_wp2_with fail
  refine (f_any x _).mono ?_; rintro e1 w1 ⟨rfl, rfl⟩
  go_wp2_with fail
  refine (f_any y _).mono ?_; rintro e2 w2 ⟨rfl, rfl⟩
  go_wp2_with fail
  refine (NP.out _ (hT.of (by repeat (first | with_reducible exact Within.refl _ | with_reducible assumption | with_reducible refine Within.alloc ?_ _ | with_reducible refine Within.drew ?_ | with_reducible refine Within.setCell ?_ (by first | (simp; done) | (simp; omega)) _ | with_reducible refine Within.trans ?_ (by assumption))))).mono ?_; rintro e3 w3 ⟨rfl, hb3⟩
  go_wp2_with fail
  refine (NQ.out _ (hT.of (by repeat (first | with_reducible exact Within.refl _ | with_reducible assumption | with_reducible refine Within.alloc ?_ _ | with_reducible refine Within.drew ?_ | with_reducible refine Within.setCell ?_ (by first | (simp; done) | (simp; omega)) _ | with_reducible refine Within.trans ?_ (by assumption))))).mono ?_; rintro e4 w4 ⟨rfl, hb4⟩
  go_wp2_with fail
  refine (WC.out _).mono ?_; rintro e5 w5 ⟨rfl, hb5⟩
  go_wp2_with fail
  refine (WD.out _).mono ?_; rintro e6 w6 ⟨rfl, hb6⟩
  go_wp2_with fail
  refine (SS.out _ (hD.of (by repeat (first | with_reducible exact Within.refl _ | with_reducible assumption | with_reducible refine Within.alloc ?_ _ | with_reducible refine Within.drew ?_ | with_reducible refine Within.setCell ?_ (by first | (simp; done) | (simp; omega)) _ | with_reducible refine Within.trans ?_ (by assumption))))).mono ?_; rintro e7 w7 ⟨rfl, hb7⟩
  go_wp2_with fail
  refine (ST.out _ (hD.of (by repeat (first | with_reducible exact Within.refl _ | with_reducible assumption | with_reducible refine Within.alloc ?_ _ | with_reducible refine Within.drew ?_ | with_reducible refine Within.setCell ?_ (by first | (simp; done) | (simp; omega)) _ | with_reducible refine Within.trans ?_ (by assumption))))).mono ?_; rintro e8 w8 ⟨rfl, hb8⟩
  go_wp2_with fail
  refine (II.out _).mono ?_; rintro e9 w9 ⟨rfl, hb9⟩
  go_wp2_with fail
  refine (IJ.out _).mono ?_; rintro e10 w10 ⟨rfl, hb10⟩
  go_wp2_with fail
  refine (UU.out _).mono ?_; rintro e11 w11 ⟨rfl, hb11⟩
  go_wp2_with fail
  refine (UV.out _).mono ?_; rintro e12 w12 ⟨rfl, hb12⟩
  go_wp2
  go_ret
  exact ⟨rfl, (by repeat (first | with_reducible exact Within.refl _ | with_reducible assumption | with_reducible refine Within.alloc ?_ _ | with_reducible refine Within.drew ?_ | with_reducible refine Within.setCell ?_ (by first | (simp; done) | (simp; omega)) _ | with_reducible refine Within.trans ?_ (by assumption)))⟩

set_option maxRecDepth 100000 in
set_option maxHeartbeats 600000 in
theorem rises_u16 (x y p q c d s t : Nat) (k mode i j u v f1 f2 f3 f4 f5 f6 f7 f8 f9 f10 : Int) (hx : (FloatKind.f64.format.order x x != some .eq) = false) (hy : (FloatKind.f64.format.order y y != some .eq) = false) (hm : decide (mode < 0) = false) (hm2 : decide (mode > 4) = false) (hgt : (FloatKind.f64.format.order x y == some .gt) = false) (NP : Hid (∀ w, FmS w → Calls Tryd.prog 21 #[.float .f64 x, .int .i64 mode] w fun e' w' => e' = .returned (.tuple #[.float .f32 p, .int .i64 f1, .int .i64 0]) ∧ Within w w')) (NQ : Hid (∀ w, FmS w → Calls Tryd.prog 21 #[.float .f64 y, .int .i64 mode] w fun e' w' => e' = .returned (.tuple #[.float .f32 q, .int .i64 f2, .int .i64 0]) ∧ Within w w')) (WC : Hid (∀ w, Calls Tryd.prog 37 #[.float .f64 x, .int .i64 mode] w fun e' w' => e' = .returned (.tuple #[.float .f64 c, .int .i64 f3, .int .i64 0]) ∧ Within w w')) (WD : Hid (∀ w, Calls Tryd.prog 37 #[.float .f64 y, .int .i64 mode] w fun e' w' => e' = .returned (.tuple #[.float .f64 d, .int .i64 f4, .int .i64 0]) ∧ Within w w')) (SS : Hid (∀ w, FmD w → Calls Tryd.prog 34 #[.float .f64 x, .int .i64 k, .int .i64 mode] w fun e' w' => e' = .returned (.tuple #[.float .f64 s, .int .i64 f5, .int .i64 0]) ∧ Within w w')) (ST : Hid (∀ w, FmD w → Calls Tryd.prog 34 #[.float .f64 y, .int .i64 k, .int .i64 mode] w fun e' w' => e' = .returned (.tuple #[.float .f64 t, .int .i64 f6, .int .i64 0]) ∧ Within w w')) (II : Hid (∀ w, Calls Tryd.prog 33 #[.float .f64 x, .int .i64 16, .int .i64 mode] w fun e' w' => e' = .returned (.tuple #[.int .i64 i, .int .i64 f7, .int .i64 0]) ∧ Within w w')) (IJ : Hid (∀ w, Calls Tryd.prog 33 #[.float .f64 y, .int .i64 16, .int .i64 mode] w fun e' w' => e' = .returned (.tuple #[.int .i64 j, .int .i64 f8, .int .i64 0]) ∧ Within w w')) (UU : Hid (∀ w, Calls Tryd.prog 38 #[.float .f64 x, .int .i64 16, .int .i64 mode] w fun e' w' => e' = .returned (.tuple #[.int .u64 u, .int .i64 f9, .int .i64 0]) ∧ Within w w')) (UV : Hid (∀ w, Calls Tryd.prog 38 #[.float .f64 y, .int .i64 16, .int .i64 mode] w fun e' w' => e' = .returned (.tuple #[.int .u64 v, .int .i64 f10, .int .i64 0]) ∧ Within w w')) (r1 : (FloatKind.f32.format.order p q == some .lt || FloatKind.f32.format.order p q == some .eq) = true) (r2 : (FloatKind.f64.format.order c d == some .lt || FloatKind.f64.format.order c d == some .eq) = true) (r3 : (FloatKind.f64.format.order s t == some .lt || FloatKind.f64.format.order s t == some .eq) = true) (r4 : decide (i ≤ j) = true) (r5 : decide (u ≤ v) = true) (w : World) (hT : FmS w) (hD : FmD w) : Calls Tryd.prog 7 #[.int .u64 x, .int .u64 y, .int .i64 k, .int .i64 16, .int .i64 mode] w fun e' w' => e' = .returned (.bool true) ∧ Within w w' := by
  go_enter Tryd.func7, Tryd.ntmps7
  go_wp2_with fail
  refine (awake_true _ hT).mono ?_; rintro e0 w0 ⟨rfl, hb0⟩
  go_wp2_with fail
  refine (f_any x _).mono ?_; rintro e1 w1 ⟨rfl, rfl⟩
  go_wp2_with fail
  refine (f_any y _).mono ?_; rintro e2 w2 ⟨rfl, rfl⟩
  go_wp2_with fail
  refine (NP.out _ (hT.of (by repeat (first | with_reducible exact Within.refl _ | with_reducible assumption | with_reducible refine Within.alloc ?_ _ | with_reducible refine Within.drew ?_ | with_reducible refine Within.setCell ?_ (by first | (simp; done) | (simp; omega)) _ | with_reducible refine Within.trans ?_ (by assumption))))).mono ?_; rintro e3 w3 ⟨rfl, hb3⟩
  go_wp2_with fail
  refine (NQ.out _ (hT.of (by repeat (first | with_reducible exact Within.refl _ | with_reducible assumption | with_reducible refine Within.alloc ?_ _ | with_reducible refine Within.drew ?_ | with_reducible refine Within.setCell ?_ (by first | (simp; done) | (simp; omega)) _ | with_reducible refine Within.trans ?_ (by assumption))))).mono ?_; rintro e4 w4 ⟨rfl, hb4⟩
  go_wp2_with fail
  refine (WC.out _).mono ?_; rintro e5 w5 ⟨rfl, hb5⟩
  go_wp2_with fail
  refine (WD.out _).mono ?_; rintro e6 w6 ⟨rfl, hb6⟩
  go_wp2_with fail
  refine (SS.out _ (hD.of (by repeat (first | with_reducible exact Within.refl _ | with_reducible assumption | with_reducible refine Within.alloc ?_ _ | with_reducible refine Within.drew ?_ | with_reducible refine Within.setCell ?_ (by first | (simp; done) | (simp; omega)) _ | with_reducible refine Within.trans ?_ (by assumption))))).mono ?_; rintro e7 w7 ⟨rfl, hb7⟩
  go_wp2_with fail
  refine (ST.out _ (hD.of (by repeat (first | with_reducible exact Within.refl _ | with_reducible assumption | with_reducible refine Within.alloc ?_ _ | with_reducible refine Within.drew ?_ | with_reducible refine Within.setCell ?_ (by first | (simp; done) | (simp; omega)) _ | with_reducible refine Within.trans ?_ (by assumption))))).mono ?_; rintro e8 w8 ⟨rfl, hb8⟩
  go_wp2_with fail
  refine (II.out _).mono ?_; rintro e9 w9 ⟨rfl, hb9⟩
  go_wp2_with fail
  refine (IJ.out _).mono ?_; rintro e10 w10 ⟨rfl, hb10⟩
  go_wp2_with fail
  refine (UU.out _).mono ?_; rintro e11 w11 ⟨rfl, hb11⟩
  go_wp2_with fail
  refine (UV.out _).mono ?_; rintro e12 w12 ⟨rfl, hb12⟩
  go_wp2
  go_ret
  exact ⟨rfl, (by repeat (first | with_reducible exact Within.refl _ | with_reducible assumption | with_reducible refine Within.alloc ?_ _ | with_reducible refine Within.drew ?_ | with_reducible refine Within.setCell ?_ (by first | (simp; done) | (simp; omega)) _ | with_reducible refine Within.trans ?_ (by assumption)))⟩

set_option maxRecDepth 100000 in
set_option maxHeartbeats 600000 in
theorem rises_u32 (x y p q c d s t : Nat) (k mode i j u v f1 f2 f3 f4 f5 f6 f7 f8 f9 f10 : Int) (hx : (FloatKind.f64.format.order x x != some .eq) = false) (hy : (FloatKind.f64.format.order y y != some .eq) = false) (hm : decide (mode < 0) = false) (hm2 : decide (mode > 4) = false) (hgt : (FloatKind.f64.format.order x y == some .gt) = false) (NP : Hid (∀ w, FmS w → Calls Tryd.prog 21 #[.float .f64 x, .int .i64 mode] w fun e' w' => e' = .returned (.tuple #[.float .f32 p, .int .i64 f1, .int .i64 0]) ∧ Within w w')) (NQ : Hid (∀ w, FmS w → Calls Tryd.prog 21 #[.float .f64 y, .int .i64 mode] w fun e' w' => e' = .returned (.tuple #[.float .f32 q, .int .i64 f2, .int .i64 0]) ∧ Within w w')) (WC : Hid (∀ w, Calls Tryd.prog 37 #[.float .f64 x, .int .i64 mode] w fun e' w' => e' = .returned (.tuple #[.float .f64 c, .int .i64 f3, .int .i64 0]) ∧ Within w w')) (WD : Hid (∀ w, Calls Tryd.prog 37 #[.float .f64 y, .int .i64 mode] w fun e' w' => e' = .returned (.tuple #[.float .f64 d, .int .i64 f4, .int .i64 0]) ∧ Within w w')) (SS : Hid (∀ w, FmD w → Calls Tryd.prog 34 #[.float .f64 x, .int .i64 k, .int .i64 mode] w fun e' w' => e' = .returned (.tuple #[.float .f64 s, .int .i64 f5, .int .i64 0]) ∧ Within w w')) (ST : Hid (∀ w, FmD w → Calls Tryd.prog 34 #[.float .f64 y, .int .i64 k, .int .i64 mode] w fun e' w' => e' = .returned (.tuple #[.float .f64 t, .int .i64 f6, .int .i64 0]) ∧ Within w w')) (II : Hid (∀ w, Calls Tryd.prog 33 #[.float .f64 x, .int .i64 32, .int .i64 mode] w fun e' w' => e' = .returned (.tuple #[.int .i64 i, .int .i64 f7, .int .i64 0]) ∧ Within w w')) (IJ : Hid (∀ w, Calls Tryd.prog 33 #[.float .f64 y, .int .i64 32, .int .i64 mode] w fun e' w' => e' = .returned (.tuple #[.int .i64 j, .int .i64 f8, .int .i64 0]) ∧ Within w w')) (UU : Hid (∀ w, Calls Tryd.prog 38 #[.float .f64 x, .int .i64 32, .int .i64 mode] w fun e' w' => e' = .returned (.tuple #[.int .u64 u, .int .i64 f9, .int .i64 0]) ∧ Within w w')) (UV : Hid (∀ w, Calls Tryd.prog 38 #[.float .f64 y, .int .i64 32, .int .i64 mode] w fun e' w' => e' = .returned (.tuple #[.int .u64 v, .int .i64 f10, .int .i64 0]) ∧ Within w w')) (r1 : (FloatKind.f32.format.order p q == some .lt || FloatKind.f32.format.order p q == some .eq) = true) (r2 : (FloatKind.f64.format.order c d == some .lt || FloatKind.f64.format.order c d == some .eq) = true) (r3 : (FloatKind.f64.format.order s t == some .lt || FloatKind.f64.format.order s t == some .eq) = true) (r4 : decide (i ≤ j) = true) (r5 : decide (u ≤ v) = true) (w : World) (hT : FmS w) (hD : FmD w) : Calls Tryd.prog 7 #[.int .u64 x, .int .u64 y, .int .i64 k, .int .i64 32, .int .i64 mode] w fun e' w' => e' = .returned (.bool true) ∧ Within w w' := by
  go_enter Tryd.func7, Tryd.ntmps7
  go_wp2_with fail
  refine (awake_true _ hT).mono ?_; rintro e0 w0 ⟨rfl, hb0⟩
  go_wp2_with fail
  refine (f_any x _).mono ?_; rintro e1 w1 ⟨rfl, rfl⟩
  go_wp2_with fail
  refine (f_any y _).mono ?_; rintro e2 w2 ⟨rfl, rfl⟩
  go_wp2_with fail
  refine (NP.out _ (hT.of (by repeat (first | with_reducible exact Within.refl _ | with_reducible assumption | with_reducible refine Within.alloc ?_ _ | with_reducible refine Within.drew ?_ | with_reducible refine Within.setCell ?_ (by first | (simp; done) | (simp; omega)) _ | with_reducible refine Within.trans ?_ (by assumption))))).mono ?_; rintro e3 w3 ⟨rfl, hb3⟩
  go_wp2_with fail
  refine (NQ.out _ (hT.of (by repeat (first | with_reducible exact Within.refl _ | with_reducible assumption | with_reducible refine Within.alloc ?_ _ | with_reducible refine Within.drew ?_ | with_reducible refine Within.setCell ?_ (by first | (simp; done) | (simp; omega)) _ | with_reducible refine Within.trans ?_ (by assumption))))).mono ?_; rintro e4 w4 ⟨rfl, hb4⟩
  go_wp2_with fail
  refine (WC.out _).mono ?_; rintro e5 w5 ⟨rfl, hb5⟩
  go_wp2_with fail
  refine (WD.out _).mono ?_; rintro e6 w6 ⟨rfl, hb6⟩
  go_wp2_with fail
  refine (SS.out _ (hD.of (by repeat (first | with_reducible exact Within.refl _ | with_reducible assumption | with_reducible refine Within.alloc ?_ _ | with_reducible refine Within.drew ?_ | with_reducible refine Within.setCell ?_ (by first | (simp; done) | (simp; omega)) _ | with_reducible refine Within.trans ?_ (by assumption))))).mono ?_; rintro e7 w7 ⟨rfl, hb7⟩
  go_wp2_with fail
  refine (ST.out _ (hD.of (by repeat (first | with_reducible exact Within.refl _ | with_reducible assumption | with_reducible refine Within.alloc ?_ _ | with_reducible refine Within.drew ?_ | with_reducible refine Within.setCell ?_ (by first | (simp; done) | (simp; omega)) _ | with_reducible refine Within.trans ?_ (by assumption))))).mono ?_; rintro e8 w8 ⟨rfl, hb8⟩
  go_wp2_with fail
  refine (II.out _).mono ?_; rintro e9 w9 ⟨rfl, hb9⟩
  go_wp2_with fail
  refine (IJ.out _).mono ?_; rintro e10 w10 ⟨rfl, hb10⟩
  go_wp2_with fail
  refine (UU.out _).mono ?_; rintro e11 w11 ⟨rfl, hb11⟩
  go_wp2_with fail
  refine (UV.out _).mono ?_; rintro e12 w12 ⟨rfl, hb12⟩
  go_wp2
  go_ret
  exact ⟨rfl, (by repeat (first | with_reducible exact Within.refl _ | with_reducible assumption | with_reducible refine Within.alloc ?_ _ | with_reducible refine Within.drew ?_ | with_reducible refine Within.setCell ?_ (by first | (simp; done) | (simp; omega)) _ | with_reducible refine Within.trans ?_ (by assumption)))⟩

set_option maxRecDepth 100000 in
set_option maxHeartbeats 600000 in
theorem rises_u64 (x y p q c d s t : Nat) (k mode i j u v f1 f2 f3 f4 f5 f6 f7 f8 f9 f10 : Int) (hx : (FloatKind.f64.format.order x x != some .eq) = false) (hy : (FloatKind.f64.format.order y y != some .eq) = false) (hm : decide (mode < 0) = false) (hm2 : decide (mode > 4) = false) (hgt : (FloatKind.f64.format.order x y == some .gt) = false) (NP : Hid (∀ w, FmS w → Calls Tryd.prog 21 #[.float .f64 x, .int .i64 mode] w fun e' w' => e' = .returned (.tuple #[.float .f32 p, .int .i64 f1, .int .i64 0]) ∧ Within w w')) (NQ : Hid (∀ w, FmS w → Calls Tryd.prog 21 #[.float .f64 y, .int .i64 mode] w fun e' w' => e' = .returned (.tuple #[.float .f32 q, .int .i64 f2, .int .i64 0]) ∧ Within w w')) (WC : Hid (∀ w, Calls Tryd.prog 37 #[.float .f64 x, .int .i64 mode] w fun e' w' => e' = .returned (.tuple #[.float .f64 c, .int .i64 f3, .int .i64 0]) ∧ Within w w')) (WD : Hid (∀ w, Calls Tryd.prog 37 #[.float .f64 y, .int .i64 mode] w fun e' w' => e' = .returned (.tuple #[.float .f64 d, .int .i64 f4, .int .i64 0]) ∧ Within w w')) (SS : Hid (∀ w, FmD w → Calls Tryd.prog 34 #[.float .f64 x, .int .i64 k, .int .i64 mode] w fun e' w' => e' = .returned (.tuple #[.float .f64 s, .int .i64 f5, .int .i64 0]) ∧ Within w w')) (ST : Hid (∀ w, FmD w → Calls Tryd.prog 34 #[.float .f64 y, .int .i64 k, .int .i64 mode] w fun e' w' => e' = .returned (.tuple #[.float .f64 t, .int .i64 f6, .int .i64 0]) ∧ Within w w')) (II : Hid (∀ w, Calls Tryd.prog 33 #[.float .f64 x, .int .i64 64, .int .i64 mode] w fun e' w' => e' = .returned (.tuple #[.int .i64 i, .int .i64 f7, .int .i64 0]) ∧ Within w w')) (IJ : Hid (∀ w, Calls Tryd.prog 33 #[.float .f64 y, .int .i64 64, .int .i64 mode] w fun e' w' => e' = .returned (.tuple #[.int .i64 j, .int .i64 f8, .int .i64 0]) ∧ Within w w')) (UU : Hid (∀ w, Calls Tryd.prog 38 #[.float .f64 x, .int .i64 64, .int .i64 mode] w fun e' w' => e' = .returned (.tuple #[.int .u64 u, .int .i64 f9, .int .i64 0]) ∧ Within w w')) (UV : Hid (∀ w, Calls Tryd.prog 38 #[.float .f64 y, .int .i64 64, .int .i64 mode] w fun e' w' => e' = .returned (.tuple #[.int .u64 v, .int .i64 f10, .int .i64 0]) ∧ Within w w')) (r1 : (FloatKind.f32.format.order p q == some .lt || FloatKind.f32.format.order p q == some .eq) = true) (r2 : (FloatKind.f64.format.order c d == some .lt || FloatKind.f64.format.order c d == some .eq) = true) (r3 : (FloatKind.f64.format.order s t == some .lt || FloatKind.f64.format.order s t == some .eq) = true) (r4 : decide (i ≤ j) = true) (r5 : decide (u ≤ v) = true) (w : World) (hT : FmS w) (hD : FmD w) : Calls Tryd.prog 7 #[.int .u64 x, .int .u64 y, .int .i64 k, .int .i64 64, .int .i64 mode] w fun e' w' => e' = .returned (.bool true) ∧ Within w w' := by
  go_enter Tryd.func7, Tryd.ntmps7
  go_wp2_with fail
  refine (awake_true _ hT).mono ?_; rintro e0 w0 ⟨rfl, hb0⟩
  go_wp2_with fail
  refine (f_any x _).mono ?_; rintro e1 w1 ⟨rfl, rfl⟩
  go_wp2_with fail
  refine (f_any y _).mono ?_; rintro e2 w2 ⟨rfl, rfl⟩
  go_wp2_with fail
  refine (NP.out _ (hT.of (by repeat (first | with_reducible exact Within.refl _ | with_reducible assumption | with_reducible refine Within.alloc ?_ _ | with_reducible refine Within.drew ?_ | with_reducible refine Within.setCell ?_ (by first | (simp; done) | (simp; omega)) _ | with_reducible refine Within.trans ?_ (by assumption))))).mono ?_; rintro e3 w3 ⟨rfl, hb3⟩
  go_wp2_with fail
  refine (NQ.out _ (hT.of (by repeat (first | with_reducible exact Within.refl _ | with_reducible assumption | with_reducible refine Within.alloc ?_ _ | with_reducible refine Within.drew ?_ | with_reducible refine Within.setCell ?_ (by first | (simp; done) | (simp; omega)) _ | with_reducible refine Within.trans ?_ (by assumption))))).mono ?_; rintro e4 w4 ⟨rfl, hb4⟩
  go_wp2_with fail
  refine (WC.out _).mono ?_; rintro e5 w5 ⟨rfl, hb5⟩
  go_wp2_with fail
  refine (WD.out _).mono ?_; rintro e6 w6 ⟨rfl, hb6⟩
  go_wp2_with fail
  refine (SS.out _ (hD.of (by repeat (first | with_reducible exact Within.refl _ | with_reducible assumption | with_reducible refine Within.alloc ?_ _ | with_reducible refine Within.drew ?_ | with_reducible refine Within.setCell ?_ (by first | (simp; done) | (simp; omega)) _ | with_reducible refine Within.trans ?_ (by assumption))))).mono ?_; rintro e7 w7 ⟨rfl, hb7⟩
  go_wp2_with fail
  refine (ST.out _ (hD.of (by repeat (first | with_reducible exact Within.refl _ | with_reducible assumption | with_reducible refine Within.alloc ?_ _ | with_reducible refine Within.drew ?_ | with_reducible refine Within.setCell ?_ (by first | (simp; done) | (simp; omega)) _ | with_reducible refine Within.trans ?_ (by assumption))))).mono ?_; rintro e8 w8 ⟨rfl, hb8⟩
  go_wp2_with fail
  refine (II.out _).mono ?_; rintro e9 w9 ⟨rfl, hb9⟩
  go_wp2_with fail
  refine (IJ.out _).mono ?_; rintro e10 w10 ⟨rfl, hb10⟩
  go_wp2_with fail
  refine (UU.out _).mono ?_; rintro e11 w11 ⟨rfl, hb11⟩
  go_wp2_with fail
  refine (UV.out _).mono ?_; rintro e12 w12 ⟨rfl, hb12⟩
  go_wp2
  go_ret
  exact ⟨rfl, (by repeat (first | with_reducible exact Within.refl _ | with_reducible assumption | with_reducible refine Within.alloc ?_ _ | with_reducible refine Within.drew ?_ | with_reducible refine Within.setCell ?_ (by first | (simp; done) | (simp; omega)) _ | with_reducible refine Within.trans ?_ (by assumption)))⟩

set_option maxRecDepth 100000 in
set_option maxHeartbeats 600000 in
theorem rises_u0 (x y p q c d s t : Nat) (k width mode i j u v f1 f2 f3 f4 f5 f6 f7 f8 f9 f10 : Int) (hx : (FloatKind.f64.format.order x x != some .eq) = false) (hy : (FloatKind.f64.format.order y y != some .eq) = false) (hm : decide (mode < 0) = false) (hm2 : decide (mode > 4) = false) (hgt : (FloatKind.f64.format.order x y == some .gt) = false) (NP : Hid (∀ w, FmS w → Calls Tryd.prog 21 #[.float .f64 x, .int .i64 mode] w fun e' w' => e' = .returned (.tuple #[.float .f32 p, .int .i64 f1, .int .i64 0]) ∧ Within w w')) (NQ : Hid (∀ w, FmS w → Calls Tryd.prog 21 #[.float .f64 y, .int .i64 mode] w fun e' w' => e' = .returned (.tuple #[.float .f32 q, .int .i64 f2, .int .i64 0]) ∧ Within w w')) (WC : Hid (∀ w, Calls Tryd.prog 37 #[.float .f64 x, .int .i64 mode] w fun e' w' => e' = .returned (.tuple #[.float .f64 c, .int .i64 f3, .int .i64 0]) ∧ Within w w')) (WD : Hid (∀ w, Calls Tryd.prog 37 #[.float .f64 y, .int .i64 mode] w fun e' w' => e' = .returned (.tuple #[.float .f64 d, .int .i64 f4, .int .i64 0]) ∧ Within w w')) (SS : Hid (∀ w, FmD w → Calls Tryd.prog 34 #[.float .f64 x, .int .i64 k, .int .i64 mode] w fun e' w' => e' = .returned (.tuple #[.float .f64 s, .int .i64 f5, .int .i64 0]) ∧ Within w w')) (ST : Hid (∀ w, FmD w → Calls Tryd.prog 34 #[.float .f64 y, .int .i64 k, .int .i64 mode] w fun e' w' => e' = .returned (.tuple #[.float .f64 t, .int .i64 f6, .int .i64 0]) ∧ Within w w')) (II : Hid (∀ w, Calls Tryd.prog 33 #[.float .f64 x, .int .i64 width, .int .i64 mode] w fun e' w' => e' = .returned (.tuple #[.int .i64 i, .int .i64 f7, .int .i64 21]) ∧ Within w w')) (IJ : Hid (∀ w, Calls Tryd.prog 33 #[.float .f64 y, .int .i64 width, .int .i64 mode] w fun e' w' => e' = .returned (.tuple #[.int .i64 j, .int .i64 f8, .int .i64 21]) ∧ Within w w')) (UU : Hid (∀ w, Calls Tryd.prog 38 #[.float .f64 x, .int .i64 width, .int .i64 mode] w fun e' w' => e' = .returned (.tuple #[.int .u64 u, .int .i64 f9, .int .i64 21]) ∧ Within w w')) (UV : Hid (∀ w, Calls Tryd.prog 38 #[.float .f64 y, .int .i64 width, .int .i64 mode] w fun e' w' => e' = .returned (.tuple #[.int .u64 v, .int .i64 f10, .int .i64 21]) ∧ Within w w')) (r1 : (FloatKind.f32.format.order p q == some .lt || FloatKind.f32.format.order p q == some .eq) = true) (r2 : (FloatKind.f64.format.order c d == some .lt || FloatKind.f64.format.order c d == some .eq) = true) (r3 : (FloatKind.f64.format.order s t == some .lt || FloatKind.f64.format.order s t == some .eq) = true) (r4 : decide (i ≤ j) = true) (r5 : decide (u ≤ v) = true) (b1 : (width == 8) = false) (b2 : (width == 16) = false) (b3 : (width == 32) = false) (b4 : (width == 64) = false) (w : World) (hT : FmS w) (hD : FmD w) : Calls Tryd.prog 7 #[.int .u64 x, .int .u64 y, .int .i64 k, .int .i64 width, .int .i64 mode] w fun e' w' => e' = .returned (.bool true) ∧ Within w w' := by
  go_enter Tryd.func7, Tryd.ntmps7
  go_wp2_with fail
  refine (awake_true _ hT).mono ?_; rintro e0 w0 ⟨rfl, hb0⟩
  go_wp2_with fail
  refine (f_any x _).mono ?_; rintro e1 w1 ⟨rfl, rfl⟩
  go_wp2_with fail
  refine (f_any y _).mono ?_; rintro e2 w2 ⟨rfl, rfl⟩
  go_wp2_with fail
  refine (NP.out _ (hT.of (by repeat (first | with_reducible exact Within.refl _ | with_reducible assumption | with_reducible refine Within.alloc ?_ _ | with_reducible refine Within.drew ?_ | with_reducible refine Within.setCell ?_ (by first | (simp; done) | (simp; omega)) _ | with_reducible refine Within.trans ?_ (by assumption))))).mono ?_; rintro e3 w3 ⟨rfl, hb3⟩
  go_wp2_with fail
  refine (NQ.out _ (hT.of (by repeat (first | with_reducible exact Within.refl _ | with_reducible assumption | with_reducible refine Within.alloc ?_ _ | with_reducible refine Within.drew ?_ | with_reducible refine Within.setCell ?_ (by first | (simp; done) | (simp; omega)) _ | with_reducible refine Within.trans ?_ (by assumption))))).mono ?_; rintro e4 w4 ⟨rfl, hb4⟩
  go_wp2_with fail
  refine (WC.out _).mono ?_; rintro e5 w5 ⟨rfl, hb5⟩
  go_wp2_with fail
  refine (WD.out _).mono ?_; rintro e6 w6 ⟨rfl, hb6⟩
  go_wp2_with fail
  refine (SS.out _ (hD.of (by repeat (first | with_reducible exact Within.refl _ | with_reducible assumption | with_reducible refine Within.alloc ?_ _ | with_reducible refine Within.drew ?_ | with_reducible refine Within.setCell ?_ (by first | (simp; done) | (simp; omega)) _ | with_reducible refine Within.trans ?_ (by assumption))))).mono ?_; rintro e7 w7 ⟨rfl, hb7⟩
  go_wp2_with fail
  refine (ST.out _ (hD.of (by repeat (first | with_reducible exact Within.refl _ | with_reducible assumption | with_reducible refine Within.alloc ?_ _ | with_reducible refine Within.drew ?_ | with_reducible refine Within.setCell ?_ (by first | (simp; done) | (simp; omega)) _ | with_reducible refine Within.trans ?_ (by assumption))))).mono ?_; rintro e8 w8 ⟨rfl, hb8⟩
  go_wp2_with fail
  refine (II.out _).mono ?_; rintro e9 w9 ⟨rfl, hb9⟩
  go_wp2_with fail
  refine (IJ.out _).mono ?_; rintro e10 w10 ⟨rfl, hb10⟩
  go_wp2_with fail
  refine (UU.out _).mono ?_; rintro e11 w11 ⟨rfl, hb11⟩
  go_wp2_with fail
  refine (UV.out _).mono ?_; rintro e12 w12 ⟨rfl, hb12⟩
  go_wp2
  go_ret
  exact ⟨rfl, (by repeat (first | with_reducible exact Within.refl _ | with_reducible assumption | with_reducible refine Within.alloc ?_ _ | with_reducible refine Within.drew ?_ | with_reducible refine Within.setCell ?_ (by first | (simp; done) | (simp; omega)) _ | with_reducible refine Within.trans ?_ (by assumption)))⟩

set_option maxRecDepth 100000 in
set_option maxHeartbeats 600000 in
theorem rises_s8 (x y p q c d s t : Nat) (k mode i j u v f1 f2 f3 f4 f5 f6 f7 f8 f9 f10 : Int) (hx : (FloatKind.f64.format.order x x != some .eq) = false) (hy : (FloatKind.f64.format.order y y != some .eq) = false) (hm : decide (mode < 0) = false) (hm2 : decide (mode > 4) = false) (hgt : (FloatKind.f64.format.order x y == some .gt) = true) (NP : Hid (∀ w, FmS w → Calls Tryd.prog 21 #[.float .f64 y, .int .i64 mode] w fun e' w' => e' = .returned (.tuple #[.float .f32 p, .int .i64 f1, .int .i64 0]) ∧ Within w w')) (NQ : Hid (∀ w, FmS w → Calls Tryd.prog 21 #[.float .f64 x, .int .i64 mode] w fun e' w' => e' = .returned (.tuple #[.float .f32 q, .int .i64 f2, .int .i64 0]) ∧ Within w w')) (WC : Hid (∀ w, Calls Tryd.prog 37 #[.float .f64 y, .int .i64 mode] w fun e' w' => e' = .returned (.tuple #[.float .f64 c, .int .i64 f3, .int .i64 0]) ∧ Within w w')) (WD : Hid (∀ w, Calls Tryd.prog 37 #[.float .f64 x, .int .i64 mode] w fun e' w' => e' = .returned (.tuple #[.float .f64 d, .int .i64 f4, .int .i64 0]) ∧ Within w w')) (SS : Hid (∀ w, FmD w → Calls Tryd.prog 34 #[.float .f64 y, .int .i64 k, .int .i64 mode] w fun e' w' => e' = .returned (.tuple #[.float .f64 s, .int .i64 f5, .int .i64 0]) ∧ Within w w')) (ST : Hid (∀ w, FmD w → Calls Tryd.prog 34 #[.float .f64 x, .int .i64 k, .int .i64 mode] w fun e' w' => e' = .returned (.tuple #[.float .f64 t, .int .i64 f6, .int .i64 0]) ∧ Within w w')) (II : Hid (∀ w, Calls Tryd.prog 33 #[.float .f64 y, .int .i64 8, .int .i64 mode] w fun e' w' => e' = .returned (.tuple #[.int .i64 i, .int .i64 f7, .int .i64 0]) ∧ Within w w')) (IJ : Hid (∀ w, Calls Tryd.prog 33 #[.float .f64 x, .int .i64 8, .int .i64 mode] w fun e' w' => e' = .returned (.tuple #[.int .i64 j, .int .i64 f8, .int .i64 0]) ∧ Within w w')) (UU : Hid (∀ w, Calls Tryd.prog 38 #[.float .f64 y, .int .i64 8, .int .i64 mode] w fun e' w' => e' = .returned (.tuple #[.int .u64 u, .int .i64 f9, .int .i64 0]) ∧ Within w w')) (UV : Hid (∀ w, Calls Tryd.prog 38 #[.float .f64 x, .int .i64 8, .int .i64 mode] w fun e' w' => e' = .returned (.tuple #[.int .u64 v, .int .i64 f10, .int .i64 0]) ∧ Within w w')) (r1 : (FloatKind.f32.format.order p q == some .lt || FloatKind.f32.format.order p q == some .eq) = true) (r2 : (FloatKind.f64.format.order c d == some .lt || FloatKind.f64.format.order c d == some .eq) = true) (r3 : (FloatKind.f64.format.order s t == some .lt || FloatKind.f64.format.order s t == some .eq) = true) (r4 : decide (i ≤ j) = true) (r5 : decide (u ≤ v) = true) (w : World) (hT : FmS w) (hD : FmD w) : Calls Tryd.prog 7 #[.int .u64 x, .int .u64 y, .int .i64 k, .int .i64 8, .int .i64 mode] w fun e' w' => e' = .returned (.bool true) ∧ Within w w' := by
  go_enter Tryd.func7, Tryd.ntmps7
  go_wp2_with fail
  refine (awake_true _ hT).mono ?_; rintro e0 w0 ⟨rfl, hb0⟩
  go_wp2_with fail
  refine (f_any x _).mono ?_; rintro e1 w1 ⟨rfl, rfl⟩
  go_wp2_with fail
  refine (f_any y _).mono ?_; rintro e2 w2 ⟨rfl, rfl⟩
  go_wp2_with fail
  refine (NP.out _ (hT.of (by repeat (first | with_reducible exact Within.refl _ | with_reducible assumption | with_reducible refine Within.alloc ?_ _ | with_reducible refine Within.drew ?_ | with_reducible refine Within.setCell ?_ (by first | (simp; done) | (simp; omega)) _ | with_reducible refine Within.trans ?_ (by assumption))))).mono ?_; rintro e3 w3 ⟨rfl, hb3⟩
  go_wp2_with fail
  refine (NQ.out _ (hT.of (by repeat (first | with_reducible exact Within.refl _ | with_reducible assumption | with_reducible refine Within.alloc ?_ _ | with_reducible refine Within.drew ?_ | with_reducible refine Within.setCell ?_ (by first | (simp; done) | (simp; omega)) _ | with_reducible refine Within.trans ?_ (by assumption))))).mono ?_; rintro e4 w4 ⟨rfl, hb4⟩
  go_wp2_with fail
  refine (WC.out _).mono ?_; rintro e5 w5 ⟨rfl, hb5⟩
  go_wp2_with fail
  refine (WD.out _).mono ?_; rintro e6 w6 ⟨rfl, hb6⟩
  go_wp2_with fail
  refine (SS.out _ (hD.of (by repeat (first | with_reducible exact Within.refl _ | with_reducible assumption | with_reducible refine Within.alloc ?_ _ | with_reducible refine Within.drew ?_ | with_reducible refine Within.setCell ?_ (by first | (simp; done) | (simp; omega)) _ | with_reducible refine Within.trans ?_ (by assumption))))).mono ?_; rintro e7 w7 ⟨rfl, hb7⟩
  go_wp2_with fail
  refine (ST.out _ (hD.of (by repeat (first | with_reducible exact Within.refl _ | with_reducible assumption | with_reducible refine Within.alloc ?_ _ | with_reducible refine Within.drew ?_ | with_reducible refine Within.setCell ?_ (by first | (simp; done) | (simp; omega)) _ | with_reducible refine Within.trans ?_ (by assumption))))).mono ?_; rintro e8 w8 ⟨rfl, hb8⟩
  go_wp2_with fail
  refine (II.out _).mono ?_; rintro e9 w9 ⟨rfl, hb9⟩
  go_wp2_with fail
  refine (IJ.out _).mono ?_; rintro e10 w10 ⟨rfl, hb10⟩
  go_wp2_with fail
  refine (UU.out _).mono ?_; rintro e11 w11 ⟨rfl, hb11⟩
  go_wp2_with fail
  refine (UV.out _).mono ?_; rintro e12 w12 ⟨rfl, hb12⟩
  go_wp2
  go_ret
  exact ⟨rfl, (by repeat (first | with_reducible exact Within.refl _ | with_reducible assumption | with_reducible refine Within.alloc ?_ _ | with_reducible refine Within.drew ?_ | with_reducible refine Within.setCell ?_ (by first | (simp; done) | (simp; omega)) _ | with_reducible refine Within.trans ?_ (by assumption)))⟩

set_option maxRecDepth 100000 in
set_option maxHeartbeats 600000 in
theorem rises_s16 (x y p q c d s t : Nat) (k mode i j u v f1 f2 f3 f4 f5 f6 f7 f8 f9 f10 : Int) (hx : (FloatKind.f64.format.order x x != some .eq) = false) (hy : (FloatKind.f64.format.order y y != some .eq) = false) (hm : decide (mode < 0) = false) (hm2 : decide (mode > 4) = false) (hgt : (FloatKind.f64.format.order x y == some .gt) = true) (NP : Hid (∀ w, FmS w → Calls Tryd.prog 21 #[.float .f64 y, .int .i64 mode] w fun e' w' => e' = .returned (.tuple #[.float .f32 p, .int .i64 f1, .int .i64 0]) ∧ Within w w')) (NQ : Hid (∀ w, FmS w → Calls Tryd.prog 21 #[.float .f64 x, .int .i64 mode] w fun e' w' => e' = .returned (.tuple #[.float .f32 q, .int .i64 f2, .int .i64 0]) ∧ Within w w')) (WC : Hid (∀ w, Calls Tryd.prog 37 #[.float .f64 y, .int .i64 mode] w fun e' w' => e' = .returned (.tuple #[.float .f64 c, .int .i64 f3, .int .i64 0]) ∧ Within w w')) (WD : Hid (∀ w, Calls Tryd.prog 37 #[.float .f64 x, .int .i64 mode] w fun e' w' => e' = .returned (.tuple #[.float .f64 d, .int .i64 f4, .int .i64 0]) ∧ Within w w')) (SS : Hid (∀ w, FmD w → Calls Tryd.prog 34 #[.float .f64 y, .int .i64 k, .int .i64 mode] w fun e' w' => e' = .returned (.tuple #[.float .f64 s, .int .i64 f5, .int .i64 0]) ∧ Within w w')) (ST : Hid (∀ w, FmD w → Calls Tryd.prog 34 #[.float .f64 x, .int .i64 k, .int .i64 mode] w fun e' w' => e' = .returned (.tuple #[.float .f64 t, .int .i64 f6, .int .i64 0]) ∧ Within w w')) (II : Hid (∀ w, Calls Tryd.prog 33 #[.float .f64 y, .int .i64 16, .int .i64 mode] w fun e' w' => e' = .returned (.tuple #[.int .i64 i, .int .i64 f7, .int .i64 0]) ∧ Within w w')) (IJ : Hid (∀ w, Calls Tryd.prog 33 #[.float .f64 x, .int .i64 16, .int .i64 mode] w fun e' w' => e' = .returned (.tuple #[.int .i64 j, .int .i64 f8, .int .i64 0]) ∧ Within w w')) (UU : Hid (∀ w, Calls Tryd.prog 38 #[.float .f64 y, .int .i64 16, .int .i64 mode] w fun e' w' => e' = .returned (.tuple #[.int .u64 u, .int .i64 f9, .int .i64 0]) ∧ Within w w')) (UV : Hid (∀ w, Calls Tryd.prog 38 #[.float .f64 x, .int .i64 16, .int .i64 mode] w fun e' w' => e' = .returned (.tuple #[.int .u64 v, .int .i64 f10, .int .i64 0]) ∧ Within w w')) (r1 : (FloatKind.f32.format.order p q == some .lt || FloatKind.f32.format.order p q == some .eq) = true) (r2 : (FloatKind.f64.format.order c d == some .lt || FloatKind.f64.format.order c d == some .eq) = true) (r3 : (FloatKind.f64.format.order s t == some .lt || FloatKind.f64.format.order s t == some .eq) = true) (r4 : decide (i ≤ j) = true) (r5 : decide (u ≤ v) = true) (w : World) (hT : FmS w) (hD : FmD w) : Calls Tryd.prog 7 #[.int .u64 x, .int .u64 y, .int .i64 k, .int .i64 16, .int .i64 mode] w fun e' w' => e' = .returned (.bool true) ∧ Within w w' := by
  go_enter Tryd.func7, Tryd.ntmps7
  go_wp2_with fail
  refine (awake_true _ hT).mono ?_; rintro e0 w0 ⟨rfl, hb0⟩
  go_wp2_with fail
  refine (f_any x _).mono ?_; rintro e1 w1 ⟨rfl, rfl⟩
  go_wp2_with fail
  refine (f_any y _).mono ?_; rintro e2 w2 ⟨rfl, rfl⟩
  go_wp2_with fail
  refine (NP.out _ (hT.of (by repeat (first | with_reducible exact Within.refl _ | with_reducible assumption | with_reducible refine Within.alloc ?_ _ | with_reducible refine Within.drew ?_ | with_reducible refine Within.setCell ?_ (by first | (simp; done) | (simp; omega)) _ | with_reducible refine Within.trans ?_ (by assumption))))).mono ?_; rintro e3 w3 ⟨rfl, hb3⟩
  go_wp2_with fail
  refine (NQ.out _ (hT.of (by repeat (first | with_reducible exact Within.refl _ | with_reducible assumption | with_reducible refine Within.alloc ?_ _ | with_reducible refine Within.drew ?_ | with_reducible refine Within.setCell ?_ (by first | (simp; done) | (simp; omega)) _ | with_reducible refine Within.trans ?_ (by assumption))))).mono ?_; rintro e4 w4 ⟨rfl, hb4⟩
  go_wp2_with fail
  refine (WC.out _).mono ?_; rintro e5 w5 ⟨rfl, hb5⟩
  go_wp2_with fail
  refine (WD.out _).mono ?_; rintro e6 w6 ⟨rfl, hb6⟩
  go_wp2_with fail
  refine (SS.out _ (hD.of (by repeat (first | with_reducible exact Within.refl _ | with_reducible assumption | with_reducible refine Within.alloc ?_ _ | with_reducible refine Within.drew ?_ | with_reducible refine Within.setCell ?_ (by first | (simp; done) | (simp; omega)) _ | with_reducible refine Within.trans ?_ (by assumption))))).mono ?_; rintro e7 w7 ⟨rfl, hb7⟩
  go_wp2_with fail
  refine (ST.out _ (hD.of (by repeat (first | with_reducible exact Within.refl _ | with_reducible assumption | with_reducible refine Within.alloc ?_ _ | with_reducible refine Within.drew ?_ | with_reducible refine Within.setCell ?_ (by first | (simp; done) | (simp; omega)) _ | with_reducible refine Within.trans ?_ (by assumption))))).mono ?_; rintro e8 w8 ⟨rfl, hb8⟩
  go_wp2_with fail
  refine (II.out _).mono ?_; rintro e9 w9 ⟨rfl, hb9⟩
  go_wp2_with fail
  refine (IJ.out _).mono ?_; rintro e10 w10 ⟨rfl, hb10⟩
  go_wp2_with fail
  refine (UU.out _).mono ?_; rintro e11 w11 ⟨rfl, hb11⟩
  go_wp2_with fail
  refine (UV.out _).mono ?_; rintro e12 w12 ⟨rfl, hb12⟩
  go_wp2
  go_ret
  exact ⟨rfl, (by repeat (first | with_reducible exact Within.refl _ | with_reducible assumption | with_reducible refine Within.alloc ?_ _ | with_reducible refine Within.drew ?_ | with_reducible refine Within.setCell ?_ (by first | (simp; done) | (simp; omega)) _ | with_reducible refine Within.trans ?_ (by assumption)))⟩

set_option maxRecDepth 100000 in
set_option maxHeartbeats 600000 in
theorem rises_s32 (x y p q c d s t : Nat) (k mode i j u v f1 f2 f3 f4 f5 f6 f7 f8 f9 f10 : Int) (hx : (FloatKind.f64.format.order x x != some .eq) = false) (hy : (FloatKind.f64.format.order y y != some .eq) = false) (hm : decide (mode < 0) = false) (hm2 : decide (mode > 4) = false) (hgt : (FloatKind.f64.format.order x y == some .gt) = true) (NP : Hid (∀ w, FmS w → Calls Tryd.prog 21 #[.float .f64 y, .int .i64 mode] w fun e' w' => e' = .returned (.tuple #[.float .f32 p, .int .i64 f1, .int .i64 0]) ∧ Within w w')) (NQ : Hid (∀ w, FmS w → Calls Tryd.prog 21 #[.float .f64 x, .int .i64 mode] w fun e' w' => e' = .returned (.tuple #[.float .f32 q, .int .i64 f2, .int .i64 0]) ∧ Within w w')) (WC : Hid (∀ w, Calls Tryd.prog 37 #[.float .f64 y, .int .i64 mode] w fun e' w' => e' = .returned (.tuple #[.float .f64 c, .int .i64 f3, .int .i64 0]) ∧ Within w w')) (WD : Hid (∀ w, Calls Tryd.prog 37 #[.float .f64 x, .int .i64 mode] w fun e' w' => e' = .returned (.tuple #[.float .f64 d, .int .i64 f4, .int .i64 0]) ∧ Within w w')) (SS : Hid (∀ w, FmD w → Calls Tryd.prog 34 #[.float .f64 y, .int .i64 k, .int .i64 mode] w fun e' w' => e' = .returned (.tuple #[.float .f64 s, .int .i64 f5, .int .i64 0]) ∧ Within w w')) (ST : Hid (∀ w, FmD w → Calls Tryd.prog 34 #[.float .f64 x, .int .i64 k, .int .i64 mode] w fun e' w' => e' = .returned (.tuple #[.float .f64 t, .int .i64 f6, .int .i64 0]) ∧ Within w w')) (II : Hid (∀ w, Calls Tryd.prog 33 #[.float .f64 y, .int .i64 32, .int .i64 mode] w fun e' w' => e' = .returned (.tuple #[.int .i64 i, .int .i64 f7, .int .i64 0]) ∧ Within w w')) (IJ : Hid (∀ w, Calls Tryd.prog 33 #[.float .f64 x, .int .i64 32, .int .i64 mode] w fun e' w' => e' = .returned (.tuple #[.int .i64 j, .int .i64 f8, .int .i64 0]) ∧ Within w w')) (UU : Hid (∀ w, Calls Tryd.prog 38 #[.float .f64 y, .int .i64 32, .int .i64 mode] w fun e' w' => e' = .returned (.tuple #[.int .u64 u, .int .i64 f9, .int .i64 0]) ∧ Within w w')) (UV : Hid (∀ w, Calls Tryd.prog 38 #[.float .f64 x, .int .i64 32, .int .i64 mode] w fun e' w' => e' = .returned (.tuple #[.int .u64 v, .int .i64 f10, .int .i64 0]) ∧ Within w w')) (r1 : (FloatKind.f32.format.order p q == some .lt || FloatKind.f32.format.order p q == some .eq) = true) (r2 : (FloatKind.f64.format.order c d == some .lt || FloatKind.f64.format.order c d == some .eq) = true) (r3 : (FloatKind.f64.format.order s t == some .lt || FloatKind.f64.format.order s t == some .eq) = true) (r4 : decide (i ≤ j) = true) (r5 : decide (u ≤ v) = true) (w : World) (hT : FmS w) (hD : FmD w) : Calls Tryd.prog 7 #[.int .u64 x, .int .u64 y, .int .i64 k, .int .i64 32, .int .i64 mode] w fun e' w' => e' = .returned (.bool true) ∧ Within w w' := by
  go_enter Tryd.func7, Tryd.ntmps7
  go_wp2_with fail
  refine (awake_true _ hT).mono ?_; rintro e0 w0 ⟨rfl, hb0⟩
  go_wp2_with fail
  refine (f_any x _).mono ?_; rintro e1 w1 ⟨rfl, rfl⟩
  go_wp2_with fail
  refine (f_any y _).mono ?_; rintro e2 w2 ⟨rfl, rfl⟩
  go_wp2_with fail
  refine (NP.out _ (hT.of (by repeat (first | with_reducible exact Within.refl _ | with_reducible assumption | with_reducible refine Within.alloc ?_ _ | with_reducible refine Within.drew ?_ | with_reducible refine Within.setCell ?_ (by first | (simp; done) | (simp; omega)) _ | with_reducible refine Within.trans ?_ (by assumption))))).mono ?_; rintro e3 w3 ⟨rfl, hb3⟩
  go_wp2_with fail
  refine (NQ.out _ (hT.of (by repeat (first | with_reducible exact Within.refl _ | with_reducible assumption | with_reducible refine Within.alloc ?_ _ | with_reducible refine Within.drew ?_ | with_reducible refine Within.setCell ?_ (by first | (simp; done) | (simp; omega)) _ | with_reducible refine Within.trans ?_ (by assumption))))).mono ?_; rintro e4 w4 ⟨rfl, hb4⟩
  go_wp2_with fail
  refine (WC.out _).mono ?_; rintro e5 w5 ⟨rfl, hb5⟩
  go_wp2_with fail
  refine (WD.out _).mono ?_; rintro e6 w6 ⟨rfl, hb6⟩
  go_wp2_with fail
  refine (SS.out _ (hD.of (by repeat (first | with_reducible exact Within.refl _ | with_reducible assumption | with_reducible refine Within.alloc ?_ _ | with_reducible refine Within.drew ?_ | with_reducible refine Within.setCell ?_ (by first | (simp; done) | (simp; omega)) _ | with_reducible refine Within.trans ?_ (by assumption))))).mono ?_; rintro e7 w7 ⟨rfl, hb7⟩
  go_wp2_with fail
  refine (ST.out _ (hD.of (by repeat (first | with_reducible exact Within.refl _ | with_reducible assumption | with_reducible refine Within.alloc ?_ _ | with_reducible refine Within.drew ?_ | with_reducible refine Within.setCell ?_ (by first | (simp; done) | (simp; omega)) _ | with_reducible refine Within.trans ?_ (by assumption))))).mono ?_; rintro e8 w8 ⟨rfl, hb8⟩
  go_wp2_with fail
  refine (II.out _).mono ?_; rintro e9 w9 ⟨rfl, hb9⟩
  go_wp2_with fail
  refine (IJ.out _).mono ?_; rintro e10 w10 ⟨rfl, hb10⟩
  go_wp2_with fail
  refine (UU.out _).mono ?_; rintro e11 w11 ⟨rfl, hb11⟩
  go_wp2_with fail
  refine (UV.out _).mono ?_; rintro e12 w12 ⟨rfl, hb12⟩
  go_wp2
  go_ret
  exact ⟨rfl, (by repeat (first | with_reducible exact Within.refl _ | with_reducible assumption | with_reducible refine Within.alloc ?_ _ | with_reducible refine Within.drew ?_ | with_reducible refine Within.setCell ?_ (by first | (simp; done) | (simp; omega)) _ | with_reducible refine Within.trans ?_ (by assumption)))⟩

set_option maxRecDepth 100000 in
set_option maxHeartbeats 600000 in
theorem rises_s64 (x y p q c d s t : Nat) (k mode i j u v f1 f2 f3 f4 f5 f6 f7 f8 f9 f10 : Int) (hx : (FloatKind.f64.format.order x x != some .eq) = false) (hy : (FloatKind.f64.format.order y y != some .eq) = false) (hm : decide (mode < 0) = false) (hm2 : decide (mode > 4) = false) (hgt : (FloatKind.f64.format.order x y == some .gt) = true) (NP : Hid (∀ w, FmS w → Calls Tryd.prog 21 #[.float .f64 y, .int .i64 mode] w fun e' w' => e' = .returned (.tuple #[.float .f32 p, .int .i64 f1, .int .i64 0]) ∧ Within w w')) (NQ : Hid (∀ w, FmS w → Calls Tryd.prog 21 #[.float .f64 x, .int .i64 mode] w fun e' w' => e' = .returned (.tuple #[.float .f32 q, .int .i64 f2, .int .i64 0]) ∧ Within w w')) (WC : Hid (∀ w, Calls Tryd.prog 37 #[.float .f64 y, .int .i64 mode] w fun e' w' => e' = .returned (.tuple #[.float .f64 c, .int .i64 f3, .int .i64 0]) ∧ Within w w')) (WD : Hid (∀ w, Calls Tryd.prog 37 #[.float .f64 x, .int .i64 mode] w fun e' w' => e' = .returned (.tuple #[.float .f64 d, .int .i64 f4, .int .i64 0]) ∧ Within w w')) (SS : Hid (∀ w, FmD w → Calls Tryd.prog 34 #[.float .f64 y, .int .i64 k, .int .i64 mode] w fun e' w' => e' = .returned (.tuple #[.float .f64 s, .int .i64 f5, .int .i64 0]) ∧ Within w w')) (ST : Hid (∀ w, FmD w → Calls Tryd.prog 34 #[.float .f64 x, .int .i64 k, .int .i64 mode] w fun e' w' => e' = .returned (.tuple #[.float .f64 t, .int .i64 f6, .int .i64 0]) ∧ Within w w')) (II : Hid (∀ w, Calls Tryd.prog 33 #[.float .f64 y, .int .i64 64, .int .i64 mode] w fun e' w' => e' = .returned (.tuple #[.int .i64 i, .int .i64 f7, .int .i64 0]) ∧ Within w w')) (IJ : Hid (∀ w, Calls Tryd.prog 33 #[.float .f64 x, .int .i64 64, .int .i64 mode] w fun e' w' => e' = .returned (.tuple #[.int .i64 j, .int .i64 f8, .int .i64 0]) ∧ Within w w')) (UU : Hid (∀ w, Calls Tryd.prog 38 #[.float .f64 y, .int .i64 64, .int .i64 mode] w fun e' w' => e' = .returned (.tuple #[.int .u64 u, .int .i64 f9, .int .i64 0]) ∧ Within w w')) (UV : Hid (∀ w, Calls Tryd.prog 38 #[.float .f64 x, .int .i64 64, .int .i64 mode] w fun e' w' => e' = .returned (.tuple #[.int .u64 v, .int .i64 f10, .int .i64 0]) ∧ Within w w')) (r1 : (FloatKind.f32.format.order p q == some .lt || FloatKind.f32.format.order p q == some .eq) = true) (r2 : (FloatKind.f64.format.order c d == some .lt || FloatKind.f64.format.order c d == some .eq) = true) (r3 : (FloatKind.f64.format.order s t == some .lt || FloatKind.f64.format.order s t == some .eq) = true) (r4 : decide (i ≤ j) = true) (r5 : decide (u ≤ v) = true) (w : World) (hT : FmS w) (hD : FmD w) : Calls Tryd.prog 7 #[.int .u64 x, .int .u64 y, .int .i64 k, .int .i64 64, .int .i64 mode] w fun e' w' => e' = .returned (.bool true) ∧ Within w w' := by
  go_enter Tryd.func7, Tryd.ntmps7
  go_wp2_with fail
  refine (awake_true _ hT).mono ?_; rintro e0 w0 ⟨rfl, hb0⟩
  go_wp2_with fail
  refine (f_any x _).mono ?_; rintro e1 w1 ⟨rfl, rfl⟩
  go_wp2_with fail
  refine (f_any y _).mono ?_; rintro e2 w2 ⟨rfl, rfl⟩
  go_wp2_with fail
  refine (NP.out _ (hT.of (by repeat (first | with_reducible exact Within.refl _ | with_reducible assumption | with_reducible refine Within.alloc ?_ _ | with_reducible refine Within.drew ?_ | with_reducible refine Within.setCell ?_ (by first | (simp; done) | (simp; omega)) _ | with_reducible refine Within.trans ?_ (by assumption))))).mono ?_; rintro e3 w3 ⟨rfl, hb3⟩
  go_wp2_with fail
  refine (NQ.out _ (hT.of (by repeat (first | with_reducible exact Within.refl _ | with_reducible assumption | with_reducible refine Within.alloc ?_ _ | with_reducible refine Within.drew ?_ | with_reducible refine Within.setCell ?_ (by first | (simp; done) | (simp; omega)) _ | with_reducible refine Within.trans ?_ (by assumption))))).mono ?_; rintro e4 w4 ⟨rfl, hb4⟩
  go_wp2_with fail
  refine (WC.out _).mono ?_; rintro e5 w5 ⟨rfl, hb5⟩
  go_wp2_with fail
  refine (WD.out _).mono ?_; rintro e6 w6 ⟨rfl, hb6⟩
  go_wp2_with fail
  refine (SS.out _ (hD.of (by repeat (first | with_reducible exact Within.refl _ | with_reducible assumption | with_reducible refine Within.alloc ?_ _ | with_reducible refine Within.drew ?_ | with_reducible refine Within.setCell ?_ (by first | (simp; done) | (simp; omega)) _ | with_reducible refine Within.trans ?_ (by assumption))))).mono ?_; rintro e7 w7 ⟨rfl, hb7⟩
  go_wp2_with fail
  refine (ST.out _ (hD.of (by repeat (first | with_reducible exact Within.refl _ | with_reducible assumption | with_reducible refine Within.alloc ?_ _ | with_reducible refine Within.drew ?_ | with_reducible refine Within.setCell ?_ (by first | (simp; done) | (simp; omega)) _ | with_reducible refine Within.trans ?_ (by assumption))))).mono ?_; rintro e8 w8 ⟨rfl, hb8⟩
  go_wp2_with fail
  refine (II.out _).mono ?_; rintro e9 w9 ⟨rfl, hb9⟩
  go_wp2_with fail
  refine (IJ.out _).mono ?_; rintro e10 w10 ⟨rfl, hb10⟩
  go_wp2_with fail
  refine (UU.out _).mono ?_; rintro e11 w11 ⟨rfl, hb11⟩
  go_wp2_with fail
  refine (UV.out _).mono ?_; rintro e12 w12 ⟨rfl, hb12⟩
  go_wp2
  go_ret
  exact ⟨rfl, (by repeat (first | with_reducible exact Within.refl _ | with_reducible assumption | with_reducible refine Within.alloc ?_ _ | with_reducible refine Within.drew ?_ | with_reducible refine Within.setCell ?_ (by first | (simp; done) | (simp; omega)) _ | with_reducible refine Within.trans ?_ (by assumption)))⟩

set_option maxRecDepth 100000 in
set_option maxHeartbeats 600000 in
theorem rises_s0 (x y p q c d s t : Nat) (k width mode i j u v f1 f2 f3 f4 f5 f6 f7 f8 f9 f10 : Int) (hx : (FloatKind.f64.format.order x x != some .eq) = false) (hy : (FloatKind.f64.format.order y y != some .eq) = false) (hm : decide (mode < 0) = false) (hm2 : decide (mode > 4) = false) (hgt : (FloatKind.f64.format.order x y == some .gt) = true) (NP : Hid (∀ w, FmS w → Calls Tryd.prog 21 #[.float .f64 y, .int .i64 mode] w fun e' w' => e' = .returned (.tuple #[.float .f32 p, .int .i64 f1, .int .i64 0]) ∧ Within w w')) (NQ : Hid (∀ w, FmS w → Calls Tryd.prog 21 #[.float .f64 x, .int .i64 mode] w fun e' w' => e' = .returned (.tuple #[.float .f32 q, .int .i64 f2, .int .i64 0]) ∧ Within w w')) (WC : Hid (∀ w, Calls Tryd.prog 37 #[.float .f64 y, .int .i64 mode] w fun e' w' => e' = .returned (.tuple #[.float .f64 c, .int .i64 f3, .int .i64 0]) ∧ Within w w')) (WD : Hid (∀ w, Calls Tryd.prog 37 #[.float .f64 x, .int .i64 mode] w fun e' w' => e' = .returned (.tuple #[.float .f64 d, .int .i64 f4, .int .i64 0]) ∧ Within w w')) (SS : Hid (∀ w, FmD w → Calls Tryd.prog 34 #[.float .f64 y, .int .i64 k, .int .i64 mode] w fun e' w' => e' = .returned (.tuple #[.float .f64 s, .int .i64 f5, .int .i64 0]) ∧ Within w w')) (ST : Hid (∀ w, FmD w → Calls Tryd.prog 34 #[.float .f64 x, .int .i64 k, .int .i64 mode] w fun e' w' => e' = .returned (.tuple #[.float .f64 t, .int .i64 f6, .int .i64 0]) ∧ Within w w')) (II : Hid (∀ w, Calls Tryd.prog 33 #[.float .f64 y, .int .i64 width, .int .i64 mode] w fun e' w' => e' = .returned (.tuple #[.int .i64 i, .int .i64 f7, .int .i64 21]) ∧ Within w w')) (IJ : Hid (∀ w, Calls Tryd.prog 33 #[.float .f64 x, .int .i64 width, .int .i64 mode] w fun e' w' => e' = .returned (.tuple #[.int .i64 j, .int .i64 f8, .int .i64 21]) ∧ Within w w')) (UU : Hid (∀ w, Calls Tryd.prog 38 #[.float .f64 y, .int .i64 width, .int .i64 mode] w fun e' w' => e' = .returned (.tuple #[.int .u64 u, .int .i64 f9, .int .i64 21]) ∧ Within w w')) (UV : Hid (∀ w, Calls Tryd.prog 38 #[.float .f64 x, .int .i64 width, .int .i64 mode] w fun e' w' => e' = .returned (.tuple #[.int .u64 v, .int .i64 f10, .int .i64 21]) ∧ Within w w')) (r1 : (FloatKind.f32.format.order p q == some .lt || FloatKind.f32.format.order p q == some .eq) = true) (r2 : (FloatKind.f64.format.order c d == some .lt || FloatKind.f64.format.order c d == some .eq) = true) (r3 : (FloatKind.f64.format.order s t == some .lt || FloatKind.f64.format.order s t == some .eq) = true) (r4 : decide (i ≤ j) = true) (r5 : decide (u ≤ v) = true) (b1 : (width == 8) = false) (b2 : (width == 16) = false) (b3 : (width == 32) = false) (b4 : (width == 64) = false) (w : World) (hT : FmS w) (hD : FmD w) : Calls Tryd.prog 7 #[.int .u64 x, .int .u64 y, .int .i64 k, .int .i64 width, .int .i64 mode] w fun e' w' => e' = .returned (.bool true) ∧ Within w w' := by
  go_enter Tryd.func7, Tryd.ntmps7
  go_wp2_with fail
  refine (awake_true _ hT).mono ?_; rintro e0 w0 ⟨rfl, hb0⟩
  go_wp2_with fail
  refine (f_any x _).mono ?_; rintro e1 w1 ⟨rfl, rfl⟩
  go_wp2_with fail
  refine (f_any y _).mono ?_; rintro e2 w2 ⟨rfl, rfl⟩
  go_wp2_with fail
  refine (NP.out _ (hT.of (by repeat (first | with_reducible exact Within.refl _ | with_reducible assumption | with_reducible refine Within.alloc ?_ _ | with_reducible refine Within.drew ?_ | with_reducible refine Within.setCell ?_ (by first | (simp; done) | (simp; omega)) _ | with_reducible refine Within.trans ?_ (by assumption))))).mono ?_; rintro e3 w3 ⟨rfl, hb3⟩
  go_wp2_with fail
  refine (NQ.out _ (hT.of (by repeat (first | with_reducible exact Within.refl _ | with_reducible assumption | with_reducible refine Within.alloc ?_ _ | with_reducible refine Within.drew ?_ | with_reducible refine Within.setCell ?_ (by first | (simp; done) | (simp; omega)) _ | with_reducible refine Within.trans ?_ (by assumption))))).mono ?_; rintro e4 w4 ⟨rfl, hb4⟩
  go_wp2_with fail
  refine (WC.out _).mono ?_; rintro e5 w5 ⟨rfl, hb5⟩
  go_wp2_with fail
  refine (WD.out _).mono ?_; rintro e6 w6 ⟨rfl, hb6⟩
  go_wp2_with fail
  refine (SS.out _ (hD.of (by repeat (first | with_reducible exact Within.refl _ | with_reducible assumption | with_reducible refine Within.alloc ?_ _ | with_reducible refine Within.drew ?_ | with_reducible refine Within.setCell ?_ (by first | (simp; done) | (simp; omega)) _ | with_reducible refine Within.trans ?_ (by assumption))))).mono ?_; rintro e7 w7 ⟨rfl, hb7⟩
  go_wp2_with fail
  refine (ST.out _ (hD.of (by repeat (first | with_reducible exact Within.refl _ | with_reducible assumption | with_reducible refine Within.alloc ?_ _ | with_reducible refine Within.drew ?_ | with_reducible refine Within.setCell ?_ (by first | (simp; done) | (simp; omega)) _ | with_reducible refine Within.trans ?_ (by assumption))))).mono ?_; rintro e8 w8 ⟨rfl, hb8⟩
  go_wp2_with fail
  refine (II.out _).mono ?_; rintro e9 w9 ⟨rfl, hb9⟩
  go_wp2_with fail
  refine (IJ.out _).mono ?_; rintro e10 w10 ⟨rfl, hb10⟩
  go_wp2_with fail
  refine (UU.out _).mono ?_; rintro e11 w11 ⟨rfl, hb11⟩
  go_wp2_with fail
  refine (UV.out _).mono ?_; rintro e12 w12 ⟨rfl, hb12⟩
  go_wp2
  go_ret
  exact ⟨rfl, (by repeat (first | with_reducible exact Within.refl _ | with_reducible assumption | with_reducible refine Within.alloc ?_ _ | with_reducible refine Within.drew ?_ | with_reducible refine Within.setCell ?_ (by first | (simp; done) | (simp; omega)) _ | with_reducible refine Within.trans ?_ (by assumption)))⟩

theorem int_no (nm : Bool) (a : Nat) (width mode : Int) (ha : a < 18446744073709551616) (hmode : 0 ≤ mode ∧ mode ≤ 4) (b1 : (width == 8) = false) (b2 : (width == 16) = false) (b3 : (width == 32) = false) (b4 : (width == 64) = false) (w : World) : if nm then Calls Tryd.prog 33 #[.float .f64 a, .int .i64 width, .int .i64 mode] w fun e' w' => e' = .returned (.tuple #[.int .i64 0, .int .i64 0, .int .i64 21]) ∧ Within w w' else Calls Tryd.prog 38 #[.float .f64 a, .int .i64 width, .int .i64 mode] w fun e' w' => e' = .returned (.tuple #[.int .u64 0, .int .i64 0, .int .i64 21]) ∧ Within w w' := by
  have WH := Lib.hid (fun w => Whole_any a mode ha w)
  rw [show nErr mode = 0 from if_pos hmode] at WH
  cases nm
  · rw [if_neg Bool.false_ne_true]; exact Uint_width a _ width mode _ WH (Lib.hid fun w => fits_no width b1 b2 b3 b4 w) w
  · rw [if_pos rfl]; exact Int_width a _ width mode _ WH (Lib.hid fun w => fits_no width b1 b2 b3 b4 w) w
theorem rises_facts {a b : Nat} {k mode : Int} (ha : a < 18446744073709551616) (hb : b < 18446744073709551616) (na : a % 9223372036854775808 ≤ 9218868437227405312) (nb : b % 9223372036854775808 ≤ 9218868437227405312) (hmode : 0 ≤ mode ∧ mode ≤ 4) (h : Fp.un Ieee.double a ≤ Fp.un Ieee.double b) :
    (FloatKind.f32.format.order (nWord a mode) (nWord b mode) == some .lt || FloatKind.f32.format.order (nWord a mode) (nWord b mode) == some .eq) = true ∧
    (FloatKind.f64.format.order (hWord a mode) (hWord b mode) == some .lt || FloatKind.f64.format.order (hWord a mode) (hWord b mode) == some .eq) = true ∧
    (FloatKind.f64.format.order (tBase k mode (ngD a) (a % 9223372036854775808) + sgnD (ngD a)) (tBase k mode (ngD b) (b % 9223372036854775808) + sgnD (ngD b)) == some .lt || FloatKind.f64.format.order (tBase k mode (ngD a) (a % 9223372036854775808) + sgnD (ngD a)) (tBase k mode (ngD b) (b % 9223372036854775808) + sgnD (ngD b)) == some .eq) = true ∧
    Fp.un Ieee.double (hWord a mode) ≤ Fp.un Ieee.double (hWord b mode) := by
  have magm := fun {r r' : Nat} (h : r ≤ r') => Fp.mag_mono Ieee.double h
  have magms := fun {r r' : Nat} (h : r ≤ r') => Fp.mag_mono Ieee.single h
  obtain ⟨a1, a2, a3, _⟩ := hWord_fin ha hmode na
  obtain ⟨b1, b2, b3, _⟩ := hWord_fin hb hmode nb
  have hH : Fp.un Ieee.double (hWord a mode) ≤ Fp.un Ieee.double (hWord b mode) := by
    rw [a3, b3]
    refine rise (F := fun b r => (Fp.mag Ieee.double (hBase mode b r) : Int)) (fun b => ?_) (fun b r => Int.natCast_nonneg _) (fun b r r' h1 h2 => Int.ofNat_le.2 (magm (hBase_mono mode b h1 h2))) ha hb na nb h
    have : hBase mode b 0 = 0 := by unfold hBase; rw [if_pos (.inl rfl)]
    rw [this, Fp.mag_zero]; rfl
  refine ⟨?_, un_le a2 b2 hH, ?_, hH⟩
  · have l1 := sBase_le mode (ngD a) (a % 9223372036854775808)
    have l2 := sBase_le mode (ngD b) (b % 9223372036854775808)
    rw [nWord_base hmode na, nWord_base hmode nb]
    have m1 : ∀ c r, sBase mode c r ≤ 2139095040 → (sBase mode c r + sgnS c) % 2147483648 ≤ 2139095040 := fun c r h => by unfold sgnS; split <;> omega
    refine unS_le (m1 _ _ l1) (m1 _ _ l2) ?_
    rw [unS_sgn _ (by omega), unS_sgn _ (by omega)]
    refine rise (F := fun b r => (Fp.mag Ieee.single (sBase mode b r) : Int)) (fun b => ?_) (fun b r => Int.natCast_nonneg _) (fun b r r' h1 _ => Int.ofNat_le.2 (magms (sBase_mono mode b h1))) ha hb na nb h
    have : sBase mode b 0 = 0 := by unfold sBase; rw [if_pos rfl]
    rw [this, Fp.mag_zero]; rfl
  · have l1 := tBase_le k mode (ngD a) (a % 9223372036854775808)
    have l2 := tBase_le k mode (ngD b) (b % 9223372036854775808)
    have m1 : ∀ c r, tBase k mode c r ≤ 9218868437227405312 → (tBase k mode c r + sgnD c) % 9223372036854775808 ≤ 9218868437227405312 := fun c r h => by unfold sgnD; split <;> omega
    refine un_le (m1 _ _ l1) (m1 _ _ l2) ?_
    rw [un_sgn _ (by omega), un_sgn _ (by omega)]
    refine rise (F := fun b r => (Fp.mag Ieee.double (tBase k mode b r) : Int)) (fun b => ?_) (fun b r => Int.natCast_nonneg _) (fun b r r' h1 _ => Int.ofNat_le.2 (magm (tBase_mono k mode b h1))) ha hb na nb h
    have : tBase k mode b 0 = 0 := by unfold tBase; rw [if_pos (.inl rfl), if_pos rfl]
    rw [this, Fp.mag_zero]; rfl

theorem rises_stay (x y : Nat) (k width mode : Int) (hx : x < 18446744073709551616) (hy : y < 18446744073709551616) (nx : x % 9223372036854775808 ≤ 9218868437227405312) (ny : y % 9223372036854775808 ≤ 9218868437227405312) (m1 : ¬ mode < 0) (m2 : ¬ mode > 4) (hgt : (FloatKind.f64.format.order x y == some .gt) = false) (hle : Fp.un Ieee.double x ≤ Fp.un Ieee.double y) (w : World) (hT : FmS w) (hD : FmD w) : Calls Tryd.prog 7 #[.int .u64 x, .int .u64 y, .int .i64 k, .int .i64 width, .int .i64 mode] w fun e' w' => e' = .returned (.bool true) ∧ Within w w' := by
  have hmode : 0 ≤ mode ∧ mode ≤ 4 := by omega
  have hE : nErr mode = 0 := if_pos hmode
  have hxx := self_ne nx
  have hyy := self_ne ny
  have A1 := Lib.hid (fun w h => Narrow_any x mode hx w h)
  have A2 := Lib.hid (fun w h => Narrow_any y mode hy w h)
  have A3 := Lib.hid (fun w => Whole_any x mode hx w)
  have A4 := Lib.hid (fun w => Whole_any y mode hy w)
  rw [hE] at A1 A2 A3 A4
  obtain ⟨f5, A5⟩ := scale_known x k mode hx nx hmode
  obtain ⟨f6, A6⟩ := scale_known y k mode hy ny hmode
  obtain ⟨r1, r2, r3, r4⟩ := rises_facts (k := max (-10000) (min k 10000)) hx hy nx ny hmode hle
  by_cases b8 : width = 8
  · subst b8
    obtain ⟨f7, A7⟩ := Int_8_known x mode hx nx hmode
    obtain ⟨f8, A8⟩ := Int_8_known y mode hy ny hmode
    obtain ⟨f9, A9⟩ := Uint_8_known x mode hx nx hmode
    obtain ⟨f10, A10⟩ := Uint_8_known y mode hy ny hmode
    exact rises_u8 x y _ _ _ _ _ _ k mode _ _ _ _ _ _ _ _ _ _ _ _ _ _ hxx hyy (decide_eq_false m1) (decide_eq_false m2) hgt A1 A2 A3 A4 (Lib.hid A5) (Lib.hid A6) (Lib.hid A7) (Lib.hid A8) (Lib.hid A9) (Lib.hid A10) r1 r2 r3 (decide_eq_true (iOf_mono 8 r4)) (decide_eq_true (uOf_mono 8 r4)) w hT hD
  by_cases b16 : width = 16
  · subst b16
    obtain ⟨f7, A7⟩ := Int_16_known x mode hx nx hmode
    obtain ⟨f8, A8⟩ := Int_16_known y mode hy ny hmode
    obtain ⟨f9, A9⟩ := Uint_16_known x mode hx nx hmode
    obtain ⟨f10, A10⟩ := Uint_16_known y mode hy ny hmode
    exact rises_u16 x y _ _ _ _ _ _ k mode _ _ _ _ _ _ _ _ _ _ _ _ _ _ hxx hyy (decide_eq_false m1) (decide_eq_false m2) hgt A1 A2 A3 A4 (Lib.hid A5) (Lib.hid A6) (Lib.hid A7) (Lib.hid A8) (Lib.hid A9) (Lib.hid A10) r1 r2 r3 (decide_eq_true (iOf_mono 16 r4)) (decide_eq_true (uOf_mono 16 r4)) w hT hD
  by_cases b32 : width = 32
  · subst b32
    obtain ⟨f7, A7⟩ := Int_32_known x mode hx nx hmode
    obtain ⟨f8, A8⟩ := Int_32_known y mode hy ny hmode
    obtain ⟨f9, A9⟩ := Uint_32_known x mode hx nx hmode
    obtain ⟨f10, A10⟩ := Uint_32_known y mode hy ny hmode
    exact rises_u32 x y _ _ _ _ _ _ k mode _ _ _ _ _ _ _ _ _ _ _ _ _ _ hxx hyy (decide_eq_false m1) (decide_eq_false m2) hgt A1 A2 A3 A4 (Lib.hid A5) (Lib.hid A6) (Lib.hid A7) (Lib.hid A8) (Lib.hid A9) (Lib.hid A10) r1 r2 r3 (decide_eq_true (iOf_mono 32 r4)) (decide_eq_true (uOf_mono 32 r4)) w hT hD
  by_cases b64 : width = 64
  · subst b64
    obtain ⟨f7, A7⟩ := Int_64_known x mode hx nx hmode
    obtain ⟨f8, A8⟩ := Int_64_known y mode hy ny hmode
    obtain ⟨f9, A9⟩ := Uint_64_known x mode hx nx hmode
    obtain ⟨f10, A10⟩ := Uint_64_known y mode hy ny hmode
    exact rises_u64 x y _ _ _ _ _ _ k mode _ _ _ _ _ _ _ _ _ _ _ _ _ _ hxx hyy (decide_eq_false m1) (decide_eq_false m2) hgt A1 A2 A3 A4 (Lib.hid A5) (Lib.hid A6) (Lib.hid A7) (Lib.hid A8) (Lib.hid A9) (Lib.hid A10) r1 r2 r3 (decide_eq_true (iOf_mono 64 r4)) (decide_eq_true (uOf_mono 64 r4)) w hT hD
  have c1 : (width == 8) = false := by rw [beq_eq_false_iff_ne]; exact b8
  have c2 : (width == 16) = false := by rw [beq_eq_false_iff_ne]; exact b16
  have c3 : (width == 32) = false := by rw [beq_eq_false_iff_ne]; exact b32
  have c4 : (width == 64) = false := by rw [beq_eq_false_iff_ne]; exact b64
  exact rises_u0 x y _ _ _ _ _ _ k width mode _ _ _ _ _ _ _ _ _ _ _ _ _ _ hxx hyy (decide_eq_false m1) (decide_eq_false m2) hgt A1 A2 A3 A4 (Lib.hid A5) (Lib.hid A6) (Lib.hid fun w => int_no true x width mode hx hmode c1 c2 c3 c4 w) (Lib.hid fun w => int_no true y width mode hy hmode c1 c2 c3 c4 w) (Lib.hid fun w => int_no false x width mode hx hmode c1 c2 c3 c4 w) (Lib.hid fun w => int_no false y width mode hy hmode c1 c2 c3 c4 w) r1 r2 r3 (by decide) (by decide) c1 c2 c3 c4 w hT hD

theorem rises_swap (x y : Nat) (k width mode : Int) (hx : x < 18446744073709551616) (hy : y < 18446744073709551616) (nx : x % 9223372036854775808 ≤ 9218868437227405312) (ny : y % 9223372036854775808 ≤ 9218868437227405312) (m1 : ¬ mode < 0) (m2 : ¬ mode > 4) (hgt : (FloatKind.f64.format.order x y == some .gt) = true) (hle : Fp.un Ieee.double y ≤ Fp.un Ieee.double x) (w : World) (hT : FmS w) (hD : FmD w) : Calls Tryd.prog 7 #[.int .u64 x, .int .u64 y, .int .i64 k, .int .i64 width, .int .i64 mode] w fun e' w' => e' = .returned (.bool true) ∧ Within w w' := by
  have hmode : 0 ≤ mode ∧ mode ≤ 4 := by omega
  have hE : nErr mode = 0 := if_pos hmode
  have hxx := self_ne nx
  have hyy := self_ne ny
  have A1 := Lib.hid (fun w h => Narrow_any y mode hy w h)
  have A2 := Lib.hid (fun w h => Narrow_any x mode hx w h)
  have A3 := Lib.hid (fun w => Whole_any y mode hy w)
  have A4 := Lib.hid (fun w => Whole_any x mode hx w)
  rw [hE] at A1 A2 A3 A4
  obtain ⟨f5, A5⟩ := scale_known y k mode hy ny hmode
  obtain ⟨f6, A6⟩ := scale_known x k mode hx nx hmode
  obtain ⟨r1, r2, r3, r4⟩ := rises_facts (k := max (-10000) (min k 10000)) hy hx ny nx hmode hle
  by_cases b8 : width = 8
  · subst b8
    obtain ⟨f7, A7⟩ := Int_8_known y mode hy ny hmode
    obtain ⟨f8, A8⟩ := Int_8_known x mode hx nx hmode
    obtain ⟨f9, A9⟩ := Uint_8_known y mode hy ny hmode
    obtain ⟨f10, A10⟩ := Uint_8_known x mode hx nx hmode
    exact rises_s8 x y _ _ _ _ _ _ k mode _ _ _ _ _ _ _ _ _ _ _ _ _ _ hxx hyy (decide_eq_false m1) (decide_eq_false m2) hgt A1 A2 A3 A4 (Lib.hid A5) (Lib.hid A6) (Lib.hid A7) (Lib.hid A8) (Lib.hid A9) (Lib.hid A10) r1 r2 r3 (decide_eq_true (iOf_mono 8 r4)) (decide_eq_true (uOf_mono 8 r4)) w hT hD
  by_cases b16 : width = 16
  · subst b16
    obtain ⟨f7, A7⟩ := Int_16_known y mode hy ny hmode
    obtain ⟨f8, A8⟩ := Int_16_known x mode hx nx hmode
    obtain ⟨f9, A9⟩ := Uint_16_known y mode hy ny hmode
    obtain ⟨f10, A10⟩ := Uint_16_known x mode hx nx hmode
    exact rises_s16 x y _ _ _ _ _ _ k mode _ _ _ _ _ _ _ _ _ _ _ _ _ _ hxx hyy (decide_eq_false m1) (decide_eq_false m2) hgt A1 A2 A3 A4 (Lib.hid A5) (Lib.hid A6) (Lib.hid A7) (Lib.hid A8) (Lib.hid A9) (Lib.hid A10) r1 r2 r3 (decide_eq_true (iOf_mono 16 r4)) (decide_eq_true (uOf_mono 16 r4)) w hT hD
  by_cases b32 : width = 32
  · subst b32
    obtain ⟨f7, A7⟩ := Int_32_known y mode hy ny hmode
    obtain ⟨f8, A8⟩ := Int_32_known x mode hx nx hmode
    obtain ⟨f9, A9⟩ := Uint_32_known y mode hy ny hmode
    obtain ⟨f10, A10⟩ := Uint_32_known x mode hx nx hmode
    exact rises_s32 x y _ _ _ _ _ _ k mode _ _ _ _ _ _ _ _ _ _ _ _ _ _ hxx hyy (decide_eq_false m1) (decide_eq_false m2) hgt A1 A2 A3 A4 (Lib.hid A5) (Lib.hid A6) (Lib.hid A7) (Lib.hid A8) (Lib.hid A9) (Lib.hid A10) r1 r2 r3 (decide_eq_true (iOf_mono 32 r4)) (decide_eq_true (uOf_mono 32 r4)) w hT hD
  by_cases b64 : width = 64
  · subst b64
    obtain ⟨f7, A7⟩ := Int_64_known y mode hy ny hmode
    obtain ⟨f8, A8⟩ := Int_64_known x mode hx nx hmode
    obtain ⟨f9, A9⟩ := Uint_64_known y mode hy ny hmode
    obtain ⟨f10, A10⟩ := Uint_64_known x mode hx nx hmode
    exact rises_s64 x y _ _ _ _ _ _ k mode _ _ _ _ _ _ _ _ _ _ _ _ _ _ hxx hyy (decide_eq_false m1) (decide_eq_false m2) hgt A1 A2 A3 A4 (Lib.hid A5) (Lib.hid A6) (Lib.hid A7) (Lib.hid A8) (Lib.hid A9) (Lib.hid A10) r1 r2 r3 (decide_eq_true (iOf_mono 64 r4)) (decide_eq_true (uOf_mono 64 r4)) w hT hD
  have c1 : (width == 8) = false := by rw [beq_eq_false_iff_ne]; exact b8
  have c2 : (width == 16) = false := by rw [beq_eq_false_iff_ne]; exact b16
  have c3 : (width == 32) = false := by rw [beq_eq_false_iff_ne]; exact b32
  have c4 : (width == 64) = false := by rw [beq_eq_false_iff_ne]; exact b64
  exact rises_s0 x y _ _ _ _ _ _ k width mode _ _ _ _ _ _ _ _ _ _ _ _ _ _ hxx hyy (decide_eq_false m1) (decide_eq_false m2) hgt A1 A2 A3 A4 (Lib.hid A5) (Lib.hid A6) (Lib.hid fun w => int_no true y width mode hy hmode c1 c2 c3 c4 w) (Lib.hid fun w => int_no true x width mode hx hmode c1 c2 c3 c4 w) (Lib.hid fun w => int_no false y width mode hy hmode c1 c2 c3 c4 w) (Lib.hid fun w => int_no false x width mode hx hmode c1 c2 c3 c4 w) r1 r2 r3 (by decide) (by decide) c1 c2 c3 c4 w hT hD

theorem rises_walk (x y : Nat) (k width mode : Int) (hx : x < 18446744073709551616) (hy : y < 18446744073709551616) (_ : -9223372036854775808 ≤ k) (_ : k < 9223372036854775808) (_ : -9223372036854775808 ≤ width) (_ : width < 9223372036854775808) (_ : -9223372036854775808 ≤ mode) (_ : mode < 9223372036854775808) (w : World) (hT : FmS w) (hD : FmD w) : Calls Tryd.prog 7 #[.int .u64 x, .int .u64 y, .int .i64 k, .int .i64 width, .int .i64 mode] w fun e' w' => e' = .returned (.bool true) ∧ Within w w' := by
  have ex := ne_self (a := x)
  have ey := ne_self (a := y)
  by_cases nx : 9218868437227405312 < x % 9223372036854775808
  · rw [decide_eq_true nx] at ex; exact rises_nx x y k width mode ex w hT
  rw [decide_eq_false nx] at ex
  by_cases ny : 9218868437227405312 < y % 9223372036854775808
  · rw [decide_eq_true ny] at ey; exact rises_ny x y k width mode ex ey w hT
  rw [decide_eq_false ny] at ey
  by_cases m1 : mode < 0
  · exact rises_low x y k width mode ex ey (decide_eq_true m1) w hT
  by_cases m2 : mode > 4
  · exact rises_high x y k width mode ex ey (decide_eq_false m1) (decide_eq_true m2) w hT
  have hg := un_gt (x := x) (y := y) (by omega) (by omega)
  by_cases hgt : Fp.un Ieee.double y < Fp.un Ieee.double x
  · rw [decide_eq_true hgt] at hg
    exact rises_swap x y k width mode hx hy (by omega) (by omega) m1 m2 hg (Int.le_of_lt hgt) w hT hD
  · rw [decide_eq_false hgt] at hg
    exact rises_stay x y k width mode hx hy (by omega) (by omega) m1 m2 hg (by omega) w hT hD

end Go.Proofs.YtifgngmebnjfkaaDoor
