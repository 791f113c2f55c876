/- ConvertBack: there and back: the walk. -/
import Derived.Test.YtifgngmebnjfkaaDoorCvp2
namespace Go.Proofs.YtifgngmebnjfkaaDoor
open Go.RowKit

set_option maxRecDepth 100000 in
set_option maxHeartbeats 600000 in
theorem lbits_nan (a : Nat) (hx : (FloatKind.f32.format.order a a != some .eq) = true) (w : World) : Calls Tryd.prog 30 #[.float .f32 a] w fun e w' => e = .returned (.int .u32 2143289344) ∧ w = w' := by
  go_enter Tryd.func30, Tryd.ntmps30
  go_wp2
  go_ret
  exact ⟨rfl, rfl⟩

set_option maxRecDepth 100000 in
set_option maxHeartbeats 600000 in
theorem lbits_num (a : Nat) (hx : (FloatKind.f32.format.order a a != some .eq) = false) (w : World) : Calls Tryd.prog 30 #[.float .f32 a] w fun e w' => e = .returned (.int .u32 a) ∧ w = w' := by
  go_enter Tryd.func30, Tryd.ntmps30
  go_wp2
  go_ret
  exact ⟨rfl, rfl⟩

theorem lbits_any (a : Nat) (w : World) : Calls Tryd.prog 30 #[.float .f32 a] w fun e w' => e = .returned (.int .u32 (canonS a : Nat)) ∧ w = w' := by
  have hx : (FloatKind.f32.format.order a a != some .eq) = decide (2139095040 < a % 2147483648) := by
    show (!(Ieee.single.order a a == some .eq)) = _
    rw [Fp.order32_self]; unfold Fp.isNaN32; simp
  unfold canonS nanS
  cases hb : decide (2139095040 < a % 2147483648)
  · rw [hb] at hx; rw [if_neg Bool.false_ne_true]; exact lbits_num a hx w
  · rw [hb] at hx; rw [if_pos rfl]; exact lbits_nan a hx w

set_option maxRecDepth 100000 in
set_option maxHeartbeats 600000 in
theorem cback_low (x y : Nat) (n mode : Int) (hm : decide (mode < 0) = true) (w : World) (hT : FmS w) : Calls Tryd.prog 5 #[.int .u64 x, .int .u32 y, .int .i64 n, .int .i64 mode] w fun e' w' => e' = .returned (.bool true) ∧ Within w w' := by
  go_enter Tryd.func5, Tryd.ntmps5
  go_wp2_with fail
  refine (awake_true _ hT).mono ?_; rintro e0 w0 ⟨rfl, hb0⟩
  go_wp2
  go_ret
  exact ⟨rfl, (by repeat (first | with_reducible exact Within.refl _ | with_reducible assumption | with_reducible refine Within.alloc ?_ _ | with_reducible refine Within.drew ?_ | with_reducible refine Within.setCell ?_ (by first | (simp; done) | (simp; omega)) _ | with_reducible refine Within.trans ?_ (by assumption)))⟩

set_option maxRecDepth 100000 in
set_option maxHeartbeats 600000 in
theorem cback_high (x y : Nat) (n mode : Int) (hm : decide (mode < 0) = false) (hm2 : decide (mode > 4) = true) (w : World) (hT : FmS w) : Calls Tryd.prog 5 #[.int .u64 x, .int .u32 y, .int .i64 n, .int .i64 mode] w fun e' w' => e' = .returned (.bool true) ∧ Within w w' := by
  go_enter Tryd.func5, Tryd.ntmps5
  go_wp2_with fail
  refine (awake_true _ hT).mono ?_; rintro e0 w0 ⟨rfl, hb0⟩
  go_wp2
  go_ret
  exact ⟨rfl, (by repeat (first | with_reducible exact Within.refl _ | with_reducible assumption | with_reducible refine Within.alloc ?_ _ | with_reducible refine Within.drew ?_ | with_reducible refine Within.setCell ?_ (by first | (simp; done) | (simp; omega)) _ | with_reducible refine Within.trans ?_ (by assumption)))⟩

set_option maxRecDepth 100000 in
set_option maxHeartbeats 600000 in
theorem cback_nan_big (x y v cy s wv : Nat) (n mode fl : Int) (hm : decide (mode < 0) = false) (hm2 : decide (mode > 4) = false) (WY : Hid (∀ w, Calls Tryd.prog 26 #[.float .f32 y] w fun e' w' => e' = .returned (.float .f64 v) ∧ Within w w')) (NY : Hid (∀ w, FmS w → Calls Tryd.prog 21 #[.float .f64 v, .int .i64 mode] w fun e' w' => e' = .returned (.tuple #[.float .f32 cy, .int .i64 0, .int .i64 0]) ∧ Within w w')) (BY : Hid (∀ w, Calls Tryd.prog 30 #[.float .f32 y] w fun e' w' => e' = .returned (.int .u32 cy) ∧ w = w')) (NX : Hid (∀ w, FmS w → Calls Tryd.prog 21 #[.float .f64 x, .int .i64 0] w fun e' w' => e' = .returned (.tuple #[.float .f32 s, .int .i64 fl, .int .i64 0]) ∧ Within w w')) (WX : Hid (∀ w, Calls Tryd.prog 26 #[.float .f32 s] w fun e' w' => e' = .returned (.float .f64 wv) ∧ Within w w')) (hx : (FloatKind.f64.format.order x x == some .eq) = false) (hn : decide (n > 9007199254740992) = true) (w : World) (hT : FmS w) : Calls Tryd.prog 5 #[.int .u64 x, .int .u32 y, .int .i64 n, .int .i64 mode] w fun e' w' => e' = .returned (.bool true) ∧ Within w w' := by
  have hn' : True → decide (n > 9007199254740992) = true := fun _ => hn
  clear hn
  have n1 : ((cy : Int) != (cy : Int)) = false := by simp
  go_enter Tryd.func5, Tryd.ntmps5
  go_wp2_with fail
  refine (awake_true _ hT).mono ?_; rintro e0 w0 ⟨rfl, hb0⟩
  go_wp2_with fail
  refine (g_any y _).mono ?_; rintro e1 w1 ⟨rfl, rfl⟩
  go_wp2_with fail
  refine (WY.out _).mono ?_; rintro e2 w2 ⟨rfl, hb2⟩
  go_wp2_with fail
  refine (NY.out _ (hT.of (by repeat (first | with_reducible exact Within.refl _ | with_reducible assumption | with_reducible refine Within.alloc ?_ _ | with_reducible refine Within.drew ?_ | with_reducible refine Within.setCell ?_ (by first | (simp; done) | (simp; omega)) _ | with_reducible refine Within.trans ?_ (by assumption))))).mono ?_; rintro e3 w3 ⟨rfl, hb3⟩
  go_wp2_with fail
  refine (g_any y _).mono ?_; rintro e4 w4 ⟨rfl, rfl⟩
  go_wp2_with fail
  refine (BY.out _).mono ?_; rintro e5 w5 ⟨rfl, rfl⟩
  go_wp2_with fail
  refine (f_any x _).mono ?_; rintro e6 w6 ⟨rfl, rfl⟩
  go_wp2_with fail
  refine (NX.out _ (hT.of (by repeat (first | with_reducible exact Within.refl _ | with_reducible assumption | with_reducible refine Within.alloc ?_ _ | with_reducible refine Within.drew ?_ | with_reducible refine Within.setCell ?_ (by first | (simp; done) | (simp; omega)) _ | with_reducible refine Within.trans ?_ (by assumption))))).mono ?_; rintro e7 w7 ⟨rfl, hb7⟩
  go_wp2_with fail
  refine (WX.out _).mono ?_; rintro e8 w8 ⟨rfl, hb8⟩
  go_wp2_with fail
  refine (f_any x _).mono ?_; rintro e9 w9 ⟨rfl, rfl⟩
  go_wp2_with fail
  refine (f_any x _).mono ?_; rintro e10 w10 ⟨rfl, rfl⟩
  go_wp2
  go_ret
  exact ⟨rfl, (by repeat (first | with_reducible exact Within.refl _ | with_reducible assumption | with_reducible refine Within.alloc ?_ _ | with_reducible refine Within.drew ?_ | with_reducible refine Within.setCell ?_ (by first | (simp; done) | (simp; omega)) _ | with_reducible refine Within.trans ?_ (by assumption)))⟩

set_option maxRecDepth 100000 in
set_option maxHeartbeats 600000 in
theorem cback_nan_small (x y v cy s wv : Nat) (n mode fl : Int) (hm : decide (mode < 0) = false) (hm2 : decide (mode > 4) = false) (WY : Hid (∀ w, Calls Tryd.prog 26 #[.float .f32 y] w fun e' w' => e' = .returned (.float .f64 v) ∧ Within w w')) (NY : Hid (∀ w, FmS w → Calls Tryd.prog 21 #[.float .f64 v, .int .i64 mode] w fun e' w' => e' = .returned (.tuple #[.float .f32 cy, .int .i64 0, .int .i64 0]) ∧ Within w w')) (BY : Hid (∀ w, Calls Tryd.prog 30 #[.float .f32 y] w fun e' w' => e' = .returned (.int .u32 cy) ∧ w = w')) (NX : Hid (∀ w, FmS w → Calls Tryd.prog 21 #[.float .f64 x, .int .i64 0] w fun e' w' => e' = .returned (.tuple #[.float .f32 s, .int .i64 fl, .int .i64 0]) ∧ Within w w')) (WX : Hid (∀ w, Calls Tryd.prog 26 #[.float .f32 s] w fun e' w' => e' = .returned (.float .f64 wv) ∧ Within w w')) (hx : (FloatKind.f64.format.order x x == some .eq) = false) (hn : True → decide (n > 9007199254740992) = false) (hn2 : True → decide (n < -9007199254740992) = true) (w : World) (hT : FmS w) : Calls Tryd.prog 5 #[.int .u64 x, .int .u32 y, .int .i64 n, .int .i64 mode] w fun e' w' => e' = .returned (.bool true) ∧ Within w w' := by
  have n1 : ((cy : Int) != (cy : Int)) = false := by simp
  go_enter Tryd.func5, Tryd.ntmps5
  go_wp2_with fail
  refine (awake_true _ hT).mono ?_; rintro e0 w0 ⟨rfl, hb0⟩
  go_wp2_with fail
  refine (g_any y _).mono ?_; rintro e1 w1 ⟨rfl, rfl⟩
  go_wp2_with fail
  refine (WY.out _).mono ?_; rintro e2 w2 ⟨rfl, hb2⟩
  go_wp2_with fail
  refine (NY.out _ (hT.of (by repeat (first | with_reducible exact Within.refl _ | with_reducible assumption | with_reducible refine Within.alloc ?_ _ | with_reducible refine Within.drew ?_ | with_reducible refine Within.setCell ?_ (by first | (simp; done) | (simp; omega)) _ | with_reducible refine Within.trans ?_ (by assumption))))).mono ?_; rintro e3 w3 ⟨rfl, hb3⟩
  go_wp2_with fail
  refine (g_any y _).mono ?_; rintro e4 w4 ⟨rfl, rfl⟩
  go_wp2_with fail
  refine (BY.out _).mono ?_; rintro e5 w5 ⟨rfl, rfl⟩
  go_wp2_with fail
  refine (f_any x _).mono ?_; rintro e6 w6 ⟨rfl, rfl⟩
  go_wp2_with fail
  refine (NX.out _ (hT.of (by repeat (first | with_reducible exact Within.refl _ | with_reducible assumption | with_reducible refine Within.alloc ?_ _ | with_reducible refine Within.drew ?_ | with_reducible refine Within.setCell ?_ (by first | (simp; done) | (simp; omega)) _ | with_reducible refine Within.trans ?_ (by assumption))))).mono ?_; rintro e7 w7 ⟨rfl, hb7⟩
  go_wp2_with fail
  refine (WX.out _).mono ?_; rintro e8 w8 ⟨rfl, hb8⟩
  go_wp2_with fail
  refine (f_any x _).mono ?_; rintro e9 w9 ⟨rfl, rfl⟩
  go_wp2_with fail
  refine (f_any x _).mono ?_; rintro e10 w10 ⟨rfl, rfl⟩
  go_wp2
  go_ret
  exact ⟨rfl, (by repeat (first | with_reducible exact Within.refl _ | with_reducible assumption | with_reducible refine Within.alloc ?_ _ | with_reducible refine Within.drew ?_ | with_reducible refine Within.setCell ?_ (by first | (simp; done) | (simp; omega)) _ | with_reducible refine Within.trans ?_ (by assumption)))⟩

set_option maxRecDepth 100000 in
set_option maxHeartbeats 600000 in
theorem cback_nan_in (x y v cy s wv : Nat) (n mode fl : Int) (hm : decide (mode < 0) = false) (hm2 : decide (mode > 4) = false) (WY : Hid (∀ w, Calls Tryd.prog 26 #[.float .f32 y] w fun e' w' => e' = .returned (.float .f64 v) ∧ Within w w')) (NY : Hid (∀ w, FmS w → Calls Tryd.prog 21 #[.float .f64 v, .int .i64 mode] w fun e' w' => e' = .returned (.tuple #[.float .f32 cy, .int .i64 0, .int .i64 0]) ∧ Within w w')) (BY : Hid (∀ w, Calls Tryd.prog 30 #[.float .f32 y] w fun e' w' => e' = .returned (.int .u32 cy) ∧ w = w')) (NX : Hid (∀ w, FmS w → Calls Tryd.prog 21 #[.float .f64 x, .int .i64 0] w fun e' w' => e' = .returned (.tuple #[.float .f32 s, .int .i64 fl, .int .i64 0]) ∧ Within w w')) (WX : Hid (∀ w, Calls Tryd.prog 26 #[.float .f32 s] w fun e' w' => e' = .returned (.float .f64 wv) ∧ Within w w')) (hx : (FloatKind.f64.format.order x x == some .eq) = false) (c : Nat) (hn : True → decide (n > 9007199254740992) = false) (hn2 : True → decide (n < -9007199254740992) = false) (FI : Hid (∀ w, FmD w → Calls Tryd.prog 32 #[.int .i64 n, .int .i64 mode] w fun e' w' => e' = .returned (.tuple #[.float .f64 c, .int .i64 0, .int .i64 0]) ∧ Within w w')) (IN : Hid (∀ w, Calls Tryd.prog 33 #[.float .f64 c, .int .i64 64, .int .i64 mode] w fun e' w' => e' = .returned (.tuple #[.int .i64 n, .int .i64 0, .int .i64 0]) ∧ Within w w')) (w : World) (hT : FmS w) (hD : FmD w) : Calls Tryd.prog 5 #[.int .u64 x, .int .u32 y, .int .i64 n, .int .i64 mode] w fun e' w' => e' = .returned (.bool true) ∧ Within w w' := by
  have n3 : (n == n) = true := by simp
  have n1 : ((cy : Int) != (cy : Int)) = false := by simp
  go_enter Tryd.func5, Tryd.ntmps5
  go_wp2_with fail
  refine (awake_true _ hT).mono ?_; rintro e0 w0 ⟨rfl, hb0⟩
  go_wp2_with fail
  refine (g_any y _).mono ?_; rintro e1 w1 ⟨rfl, rfl⟩
  go_wp2_with fail
  refine (WY.out _).mono ?_; rintro e2 w2 ⟨rfl, hb2⟩
  go_wp2_with fail
  refine (NY.out _ (hT.of (by repeat (first | with_reducible exact Within.refl _ | with_reducible assumption | with_reducible refine Within.alloc ?_ _ | with_reducible refine Within.drew ?_ | with_reducible refine Within.setCell ?_ (by first | (simp; done) | (simp; omega)) _ | with_reducible refine Within.trans ?_ (by assumption))))).mono ?_; rintro e3 w3 ⟨rfl, hb3⟩
  go_wp2_with fail
  refine (g_any y _).mono ?_; rintro e4 w4 ⟨rfl, rfl⟩
  go_wp2_with fail
  refine (BY.out _).mono ?_; rintro e5 w5 ⟨rfl, rfl⟩
  go_wp2_with fail
  refine (f_any x _).mono ?_; rintro e6 w6 ⟨rfl, rfl⟩
  go_wp2_with fail
  refine (NX.out _ (hT.of (by repeat (first | with_reducible exact Within.refl _ | with_reducible assumption | with_reducible refine Within.alloc ?_ _ | with_reducible refine Within.drew ?_ | with_reducible refine Within.setCell ?_ (by first | (simp; done) | (simp; omega)) _ | with_reducible refine Within.trans ?_ (by assumption))))).mono ?_; rintro e7 w7 ⟨rfl, hb7⟩
  go_wp2_with fail
  refine (WX.out _).mono ?_; rintro e8 w8 ⟨rfl, hb8⟩
  go_wp2_with fail
  refine (f_any x _).mono ?_; rintro e9 w9 ⟨rfl, rfl⟩
  go_wp2_with fail
  refine (f_any x _).mono ?_; rintro e10 w10 ⟨rfl, rfl⟩
  go_wp2_with fail
  refine (FI.out _ (hD.of (by repeat (first | with_reducible exact Within.refl _ | with_reducible assumption | with_reducible refine Within.alloc ?_ _ | with_reducible refine Within.drew ?_ | with_reducible refine Within.setCell ?_ (by first | (simp; done) | (simp; omega)) _ | with_reducible refine Within.trans ?_ (by assumption))))).mono ?_; rintro e13 w13 ⟨rfl, hb13⟩
  go_wp2_with fail
  refine (IN.out _).mono ?_; rintro e14 w14 ⟨rfl, hb14⟩
  go_wp2
  go_ret
  exact ⟨rfl, (by repeat (first | with_reducible exact Within.refl _ | with_reducible assumption | with_reducible refine Within.alloc ?_ _ | with_reducible refine Within.drew ?_ | with_reducible refine Within.setCell ?_ (by first | (simp; done) | (simp; omega)) _ | with_reducible refine Within.trans ?_ (by assumption)))⟩

set_option maxRecDepth 100000 in
set_option maxHeartbeats 600000 in
theorem cback_num_big (x y v cy s wv : Nat) (n mode fl : Int) (z : Bool) (hm : decide (mode < 0) = false) (hm2 : decide (mode > 4) = false) (WY : Hid (∀ w, Calls Tryd.prog 26 #[.float .f32 y] w fun e' w' => e' = .returned (.float .f64 v) ∧ Within w w')) (NY : Hid (∀ w, FmS w → Calls Tryd.prog 21 #[.float .f64 v, .int .i64 mode] w fun e' w' => e' = .returned (.tuple #[.float .f32 cy, .int .i64 0, .int .i64 0]) ∧ Within w w')) (BY : Hid (∀ w, Calls Tryd.prog 30 #[.float .f32 y] w fun e' w' => e' = .returned (.int .u32 cy) ∧ w = w')) (NX : Hid (∀ w, FmS w → Calls Tryd.prog 21 #[.float .f64 x, .int .i64 0] w fun e' w' => e' = .returned (.tuple #[.float .f32 s, .int .i64 fl, .int .i64 0]) ∧ Within w w')) (WX : Hid (∀ w, Calls Tryd.prog 26 #[.float .f32 s] w fun e' w' => e' = .returned (.float .f64 wv) ∧ Within w w')) (hx : (FloatKind.f64.format.order x x == some .eq) = true) (FX : Hid (∀ w, FmS w → Calls Tryd.prog 28 #[.float .f64 x] w fun e' w' => e' = .returned (.bool z) ∧ Within w w')) (hz : ((wv : Int) == (x : Int)) = z) (hn : decide (n > 9007199254740992) = true) (w : World) (hT : FmS w) : Calls Tryd.prog 5 #[.int .u64 x, .int .u32 y, .int .i64 n, .int .i64 mode] w fun e' w' => e' = .returned (.bool true) ∧ Within w w' := by
  have hn' : True → decide (n > 9007199254740992) = true := fun _ => hn
  clear hn
  have n2 : (z != z) = false := by simp
  have n1 : ((cy : Int) != (cy : Int)) = false := by simp
  go_enter Tryd.func5, Tryd.ntmps5
  go_wp2_with fail
  refine (awake_true _ hT).mono ?_; rintro e0 w0 ⟨rfl, hb0⟩
  go_wp2_with fail
  refine (g_any y _).mono ?_; rintro e1 w1 ⟨rfl, rfl⟩
  go_wp2_with fail
  refine (WY.out _).mono ?_; rintro e2 w2 ⟨rfl, hb2⟩
  go_wp2_with fail
  refine (NY.out _ (hT.of (by repeat (first | with_reducible exact Within.refl _ | with_reducible assumption | with_reducible refine Within.alloc ?_ _ | with_reducible refine Within.drew ?_ | with_reducible refine Within.setCell ?_ (by first | (simp; done) | (simp; omega)) _ | with_reducible refine Within.trans ?_ (by assumption))))).mono ?_; rintro e3 w3 ⟨rfl, hb3⟩
  go_wp2_with fail
  refine (g_any y _).mono ?_; rintro e4 w4 ⟨rfl, rfl⟩
  go_wp2_with fail
  refine (BY.out _).mono ?_; rintro e5 w5 ⟨rfl, rfl⟩
  go_wp2_with fail
  refine (f_any x _).mono ?_; rintro e6 w6 ⟨rfl, rfl⟩
  go_wp2_with fail
  refine (NX.out _ (hT.of (by repeat (first | with_reducible exact Within.refl _ | with_reducible assumption | with_reducible refine Within.alloc ?_ _ | with_reducible refine Within.drew ?_ | with_reducible refine Within.setCell ?_ (by first | (simp; done) | (simp; omega)) _ | with_reducible refine Within.trans ?_ (by assumption))))).mono ?_; rintro e7 w7 ⟨rfl, hb7⟩
  go_wp2_with fail
  refine (WX.out _).mono ?_; rintro e8 w8 ⟨rfl, hb8⟩
  go_wp2_with fail
  refine (f_any x _).mono ?_; rintro e9 w9 ⟨rfl, rfl⟩
  go_wp2_with fail
  refine (f_any x _).mono ?_; rintro e10 w10 ⟨rfl, rfl⟩
  go_wp2_with fail
  refine (f_any x _).mono ?_; rintro e11 w11 ⟨rfl, rfl⟩
  go_wp2_with fail
  refine (FX.out _ (hT.of (by repeat (first | with_reducible exact Within.refl _ | with_reducible assumption | with_reducible refine Within.alloc ?_ _ | with_reducible refine Within.drew ?_ | with_reducible refine Within.setCell ?_ (by first | (simp; done) | (simp; omega)) _ | with_reducible refine Within.trans ?_ (by assumption))))).mono ?_; rintro e12 w12 ⟨rfl, hb12⟩
  go_wp2
  go_ret
  exact ⟨rfl, (by repeat (first | with_reducible exact Within.refl _ | with_reducible assumption | with_reducible refine Within.alloc ?_ _ | with_reducible refine Within.drew ?_ | with_reducible refine Within.setCell ?_ (by first | (simp; done) | (simp; omega)) _ | with_reducible refine Within.trans ?_ (by assumption)))⟩

set_option maxRecDepth 100000 in
set_option maxHeartbeats 600000 in
theorem cback_num_small (x y v cy s wv : Nat) (n mode fl : Int) (z : Bool) (hm : decide (mode < 0) = false) (hm2 : decide (mode > 4) = false) (WY : Hid (∀ w, Calls Tryd.prog 26 #[.float .f32 y] w fun e' w' => e' = .returned (.float .f64 v) ∧ Within w w')) (NY : Hid (∀ w, FmS w → Calls Tryd.prog 21 #[.float .f64 v, .int .i64 mode] w fun e' w' => e' = .returned (.tuple #[.float .f32 cy, .int .i64 0, .int .i64 0]) ∧ Within w w')) (BY : Hid (∀ w, Calls Tryd.prog 30 #[.float .f32 y] w fun e' w' => e' = .returned (.int .u32 cy) ∧ w = w')) (NX : Hid (∀ w, FmS w → Calls Tryd.prog 21 #[.float .f64 x, .int .i64 0] w fun e' w' => e' = .returned (.tuple #[.float .f32 s, .int .i64 fl, .int .i64 0]) ∧ Within w w')) (WX : Hid (∀ w, Calls Tryd.prog 26 #[.float .f32 s] w fun e' w' => e' = .returned (.float .f64 wv) ∧ Within w w')) (hx : (FloatKind.f64.format.order x x == some .eq) = true) (FX : Hid (∀ w, FmS w → Calls Tryd.prog 28 #[.float .f64 x] w fun e' w' => e' = .returned (.bool z) ∧ Within w w')) (hz : ((wv : Int) == (x : Int)) = z) (hn : True → decide (n > 9007199254740992) = false) (hn2 : True → decide (n < -9007199254740992) = true) (w : World) (hT : FmS w) : Calls Tryd.prog 5 #[.int .u64 x, .int .u32 y, .int .i64 n, .int .i64 mode] w fun e' w' => e' = .returned (.bool true) ∧ Within w w' := by
  have n2 : (z != z) = false := by simp
  have n1 : ((cy : Int) != (cy : Int)) = false := by simp
  go_enter Tryd.func5, Tryd.ntmps5
  go_wp2_with fail
  refine (awake_true _ hT).mono ?_; rintro e0 w0 ⟨rfl, hb0⟩
  go_wp2_with fail
  refine (g_any y _).mono ?_; rintro e1 w1 ⟨rfl, rfl⟩
  go_wp2_with fail
  refine (WY.out _).mono ?_; rintro e2 w2 ⟨rfl, hb2⟩
  go_wp2_with fail
  refine (NY.out _ (hT.of (by repeat (first | with_reducible exact Within.refl _ | with_reducible assumption | with_reducible refine Within.alloc ?_ _ | with_reducible refine Within.drew ?_ | with_reducible refine Within.setCell ?_ (by first | (simp; done) | (simp; omega)) _ | with_reducible refine Within.trans ?_ (by assumption))))).mono ?_; rintro e3 w3 ⟨rfl, hb3⟩
  go_wp2_with fail
  refine (g_any y _).mono ?_; rintro e4 w4 ⟨rfl, rfl⟩
  go_wp2_with fail
  refine (BY.out _).mono ?_; rintro e5 w5 ⟨rfl, rfl⟩
  go_wp2_with fail
  refine (f_any x _).mono ?_; rintro e6 w6 ⟨rfl, rfl⟩
  go_wp2_with fail
  refine (NX.out _ (hT.of (by repeat (first | with_reducible exact Within.refl _ | with_reducible assumption | with_reducible refine Within.alloc ?_ _ | with_reducible refine Within.drew ?_ | with_reducible refine Within.setCell ?_ (by first | (simp; done) | (simp; omega)) _ | with_reducible refine Within.trans ?_ (by assumption))))).mono ?_; rintro e7 w7 ⟨rfl, hb7⟩
  go_wp2_with fail
  refine (WX.out _).mono ?_; rintro e8 w8 ⟨rfl, hb8⟩
  go_wp2_with fail
  refine (f_any x _).mono ?_; rintro e9 w9 ⟨rfl, rfl⟩
  go_wp2_with fail
  refine (f_any x _).mono ?_; rintro e10 w10 ⟨rfl, rfl⟩
  go_wp2_with fail
  refine (f_any x _).mono ?_; rintro e11 w11 ⟨rfl, rfl⟩
  go_wp2_with fail
  refine (FX.out _ (hT.of (by repeat (first | with_reducible exact Within.refl _ | with_reducible assumption | with_reducible refine Within.alloc ?_ _ | with_reducible refine Within.drew ?_ | with_reducible refine Within.setCell ?_ (by first | (simp; done) | (simp; omega)) _ | with_reducible refine Within.trans ?_ (by assumption))))).mono ?_; rintro e12 w12 ⟨rfl, hb12⟩
  go_wp2
  go_ret
  exact ⟨rfl, (by repeat (first | with_reducible exact Within.refl _ | with_reducible assumption | with_reducible refine Within.alloc ?_ _ | with_reducible refine Within.drew ?_ | with_reducible refine Within.setCell ?_ (by first | (simp; done) | (simp; omega)) _ | with_reducible refine Within.trans ?_ (by assumption)))⟩

set_option maxRecDepth 100000 in
set_option maxHeartbeats 600000 in
theorem cback_num_in (x y v cy s wv : Nat) (n mode fl : Int) (z : Bool) (hm : decide (mode < 0) = false) (hm2 : decide (mode > 4) = false) (WY : Hid (∀ w, Calls Tryd.prog 26 #[.float .f32 y] w fun e' w' => e' = .returned (.float .f64 v) ∧ Within w w')) (NY : Hid (∀ w, FmS w → Calls Tryd.prog 21 #[.float .f64 v, .int .i64 mode] w fun e' w' => e' = .returned (.tuple #[.float .f32 cy, .int .i64 0, .int .i64 0]) ∧ Within w w')) (BY : Hid (∀ w, Calls Tryd.prog 30 #[.float .f32 y] w fun e' w' => e' = .returned (.int .u32 cy) ∧ w = w')) (NX : Hid (∀ w, FmS w → Calls Tryd.prog 21 #[.float .f64 x, .int .i64 0] w fun e' w' => e' = .returned (.tuple #[.float .f32 s, .int .i64 fl, .int .i64 0]) ∧ Within w w')) (WX : Hid (∀ w, Calls Tryd.prog 26 #[.float .f32 s] w fun e' w' => e' = .returned (.float .f64 wv) ∧ Within w w')) (hx : (FloatKind.f64.format.order x x == some .eq) = true) (FX : Hid (∀ w, FmS w → Calls Tryd.prog 28 #[.float .f64 x] w fun e' w' => e' = .returned (.bool z) ∧ Within w w')) (hz : ((wv : Int) == (x : Int)) = z) (c : Nat) (hn : True → decide (n > 9007199254740992) = false) (hn2 : True → decide (n < -9007199254740992) = false) (FI : Hid (∀ w, FmD w → Calls Tryd.prog 32 #[.int .i64 n, .int .i64 mode] w fun e' w' => e' = .returned (.tuple #[.float .f64 c, .int .i64 0, .int .i64 0]) ∧ Within w w')) (IN : Hid (∀ w, Calls Tryd.prog 33 #[.float .f64 c, .int .i64 64, .int .i64 mode] w fun e' w' => e' = .returned (.tuple #[.int .i64 n, .int .i64 0, .int .i64 0]) ∧ Within w w')) (w : World) (hT : FmS w) (hD : FmD w) : Calls Tryd.prog 5 #[.int .u64 x, .int .u32 y, .int .i64 n, .int .i64 mode] w fun e' w' => e' = .returned (.bool true) ∧ Within w w' := by
  have n3 : (n == n) = true := by simp
  have n2 : (z != z) = false := by simp
  have n1 : ((cy : Int) != (cy : Int)) = false := by simp
  go_enter Tryd.func5, Tryd.ntmps5
  go_wp2_with fail
  refine (awake_true _ hT).mono ?_; rintro e0 w0 ⟨rfl, hb0⟩
  go_wp2_with fail
  refine (g_any y _).mono ?_; rintro e1 w1 ⟨rfl, rfl⟩
  go_wp2_with fail
  refine (WY.out _).mono ?_; rintro e2 w2 ⟨rfl, hb2⟩
  go_wp2_with fail
  refine (NY.out _ (hT.of (by repeat (first | with_reducible exact Within.refl _ | with_reducible assumption | with_reducible refine Within.alloc ?_ _ | with_reducible refine Within.drew ?_ | with_reducible refine Within.setCell ?_ (by first | (simp; done) | (simp; omega)) _ | with_reducible refine Within.trans ?_ (by assumption))))).mono ?_; rintro e3 w3 ⟨rfl, hb3⟩
  go_wp2_with fail
  refine (g_any y _).mono ?_; rintro e4 w4 ⟨rfl, rfl⟩
  go_wp2_with fail
  refine (BY.out _).mono ?_; rintro e5 w5 ⟨rfl, rfl⟩
  go_wp2_with fail
  refine (f_any x _).mono ?_; rintro e6 w6 ⟨rfl, rfl⟩
  go_wp2_with fail
  refine (NX.out _ (hT.of (by repeat (first | with_reducible exact Within.refl _ | with_reducible assumption | with_reducible refine Within.alloc ?_ _ | with_reducible refine Within.drew ?_ | with_reducible refine Within.setCell ?_ (by first | (simp; done) | (simp; omega)) _ | with_reducible refine Within.trans ?_ (by assumption))))).mono ?_; rintro e7 w7 ⟨rfl, hb7⟩
  go_wp2_with fail
  refine (WX.out _).mono ?_; rintro e8 w8 ⟨rfl, hb8⟩
  go_wp2_with fail
  refine (f_any x _).mono ?_; rintro e9 w9 ⟨rfl, rfl⟩
  go_wp2_with fail
  refine (f_any x _).mono ?_; rintro e10 w10 ⟨rfl, rfl⟩
  go_wp2_with fail
  refine (f_any x _).mono ?_; rintro e11 w11 ⟨rfl, rfl⟩
  go_wp2_with fail
  refine (FX.out _ (hT.of (by repeat (first | with_reducible exact Within.refl _ | with_reducible assumption | with_reducible refine Within.alloc ?_ _ | with_reducible refine Within.drew ?_ | with_reducible refine Within.setCell ?_ (by first | (simp; done) | (simp; omega)) _ | with_reducible refine Within.trans ?_ (by assumption))))).mono ?_; rintro e12 w12 ⟨rfl, hb12⟩
  go_wp2_with fail
  refine (FI.out _ (hD.of (by repeat (first | with_reducible exact Within.refl _ | with_reducible assumption | with_reducible refine Within.alloc ?_ _ | with_reducible refine Within.drew ?_ | with_reducible refine Within.setCell ?_ (by first | (simp; done) | (simp; omega)) _ | with_reducible refine Within.trans ?_ (by assumption))))).mono ?_; rintro e13 w13 ⟨rfl, hb13⟩
  go_wp2_with fail
  refine (IN.out _).mono ?_; rintro e14 w14 ⟨rfl, hb14⟩
  go_wp2
  go_ret
  exact ⟨rfl, (by repeat (first | with_reducible exact Within.refl _ | with_reducible assumption | with_reducible refine Within.alloc ?_ _ | with_reducible refine Within.drew ?_ | with_reducible refine Within.setCell ?_ (by first | (simp; done) | (simp; omega)) _ | with_reducible refine Within.trans ?_ (by assumption)))⟩

theorem wWord_lt (b : Nat) (hb : b < 4294967296) : wWord b < 18446744073709551616 := by
  unfold wWord
  split
  · decide
  · split
    · unfold sgnD; split <;> omega
    · rename_i h1 h2
      exact (Fp.Rep.is (Fp.widen_is (single_is hb (by omega))).2 _).1
theorem nWord_lt (a : Nat) (ha : a < 18446744073709551616) (mode : Int) : nWord a mode < 4294967296 := by
  have hs : ∀ b, sgnS b ≤ 2147483648 := fun b => by unfold sgnS; split <;> omega
  have := hs (ngD a)
  unfold nWord
  split
  · decide
  split
  · decide
  split
  · omega
  split
  · omega
  rename_i h1 h2 h3 h4
  have h0 : magD a ≠ 0 := fun h => h3 (magD_zero.1 h)
  obtain ⟨t1, t2, _⟩ := top53_bounds h0 (magD_rep (a := a) (by omega))
  unfold sWord
  split
  · split <;> omega
  · rename_i ho
    have := num_ltS (sAmt_rep (ngD a) (((magD a).log2 : Int) - 1126) mode (m := top53 (magD a)) (by omega) (by omega) (by simpa using ho)).1
    omega
theorem cback_walk (x y : Nat) (n mode : Int) (hx : x < 18446744073709551616) (hy : y < 4294967296) (hn1 : -9223372036854775808 ≤ n) (hn2 : n < 9223372036854775808) (_ : -9223372036854775808 ≤ mode) (_ : mode < 9223372036854775808) (w : World) (hT : FmS w) (hD : FmD w) : Calls Tryd.prog 5 #[.int .u64 x, .int .u32 y, .int .i64 n, .int .i64 mode] w fun e' w' => e' = .returned (.bool true) ∧ Within w w' := by
  by_cases m1 : mode < 0
  · exact cback_low x y n mode (decide_eq_true m1) w hT
  by_cases m2 : mode > 4
  · exact cback_high x y n mode (decide_eq_false m1) (decide_eq_true m2) w hT
  have hmode : 0 ≤ mode ∧ mode ≤ 4 := by omega
  have hE : nErr mode = 0 := if_pos hmode
  have hE0 : nErr 0 = 0 := by decide
  have WY := Lib.hid (fun w => Widen_any y hy w)
  have NY := Lib.hid (fun w h => Narrow_any (wWord y) mode (wWord_lt y hy) w h)
  rw [(narrow_wide hy hmode).1, (narrow_wide hy hmode).2, hE] at NY
  have BY := Lib.hid (fun w => lbits_any y w)
  have NX := Lib.hid (fun w h => Narrow_any x 0 hx w h)
  rw [hE0] at NX
  have WX := Lib.hid (fun w => Widen_any (nWord x 0) (nWord_lt x hx 0) w)
  have hxx : (FloatKind.f64.format.order x x == some .eq) = !decide (9218868437227405312 < x % 9223372036854775808) := by
    have := ne_self (a := x)
    rw [← this]; simp [bne]
  have hin : -9007199254740992 ≤ n → n ≤ 9007199254740992 → ∃ c : Nat, (∀ w, FmD w → Calls Tryd.prog 32 #[.int .i64 n, .int .i64 mode] w fun e' w' => e' = .returned (.tuple #[.float .f64 c, .int .i64 0, .int .i64 0]) ∧ Within w w') ∧ (∀ w, Calls Tryd.prog 33 #[.float .f64 c, .int .i64 64, .int .i64 mode] w fun e' w' => e' = .returned (.tuple #[.int .i64 n, .int .i64 0, .int .i64 0]) ∧ Within w w') := fun a b => by
    obtain ⟨c, c1, c2, c3⟩ := int_back n mode hmode a b w
    refine ⟨c, fun w h => ?_, c3⟩
    have := FromInt_any n mode hn1 (by omega) w h
    rwa [c1, c2, hE] at this
  by_cases hnan : 9218868437227405312 < x % 9223372036854775808
  · rw [decide_eq_true hnan] at hxx
    by_cases hb : n > 9007199254740992
    · exact cback_nan_big x y _ _ _ _ n mode _ (decide_eq_false m1) (decide_eq_false m2) WY NY BY NX WX hxx (decide_eq_true hb) w hT
    by_cases hs : n < -9007199254740992
    · exact cback_nan_small x y _ _ _ _ n mode _ (decide_eq_false m1) (decide_eq_false m2) WY NY BY NX WX hxx (fun _ => decide_eq_false hb) (fun _ => decide_eq_true hs) w hT
    obtain ⟨c, c1, c2⟩ := hin (by omega) (by omega)
    exact cback_nan_in x y _ _ _ _ n mode _ (decide_eq_false m1) (decide_eq_false m2) WY NY BY NX WX hxx c (fun _ => decide_eq_false hb) (fun _ => decide_eq_false hs) (Lib.hid c1) (Lib.hid c2) w hT hD
  · rw [decide_eq_false hnan] at hxx
    have FX := Lib.hid (fun w h => Fits_any x hx w h)
    have hz : ((wWord (nWord x 0) : Int) == (x : Int)) = (nFlags x 0 == 0) := by
      have := fits_iff hx hnan
      rw [Bool.eq_iff_iff, beq_iff_eq, beq_iff_eq, this]
      omega
    by_cases hb : n > 9007199254740992
    · exact cback_num_big x y _ _ _ _ n mode _ _ (decide_eq_false m1) (decide_eq_false m2) WY NY BY NX WX hxx FX hz (decide_eq_true hb) w hT
    by_cases hs : n < -9007199254740992
    · exact cback_num_small x y _ _ _ _ n mode _ _ (decide_eq_false m1) (decide_eq_false m2) WY NY BY NX WX hxx FX hz (fun _ => decide_eq_false hb) (fun _ => decide_eq_true hs) w hT
    obtain ⟨c, c1, c2⟩ := hin (by omega) (by omega)
    exact cback_num_in x y _ _ _ _ n mode _ _ (decide_eq_false m1) (decide_eq_false m2) WY NY BY NX WX hxx FX hz c (fun _ => decide_eq_false hb) (fun _ => decide_eq_false hs) (Lib.hid c1) (Lib.hid c2) w hT hD

end Go.Proofs.YtifgngmebnjfkaaDoor
