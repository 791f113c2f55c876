/- ConvertTurned: with all signs turned up and down change places: the walk. -/
import Derived.Test.YtifgngmebnjfkaaDoorCv18
namespace Go.Proofs.YtifgngmebnjfkaaDoor
open Go.RowKit

@[go_sem] theorem mx_neg32 (P : Program) (w : World) (a : Nat) : (Op.unary UnOp.neg (Value.float .f32 a)).run P w = .ok (.float .f32 (Go.Op.negFloat .f32 a)) w := rfl
theorem u32_turn {a : Nat} (ha : a < 4294967296) : bits .xor .u32 (a : Int) 2147483648 = (tuS a : Int) := by
  have h := u32_xor_nat a 2147483648 ha (by decide)
  rw [show ((2147483648 : Nat) : Int) = 2147483648 from rfl] at h
  rw [h, ← xor_tuS ha]

set_option maxRecDepth 100000 in
set_option maxHeartbeats 600000 in
theorem mirror_nan (a b : Nat) (na : (FloatKind.f32.format.order a a != some .eq) = true) (nb : (FloatKind.f32.format.order b b != some .eq) = true) (w : World) : Calls Tryd.prog 52 #[.float .f32 a, .float .f32 b] w fun e' w' => e' = .returned (.bool true) ∧ w = w' := by
  go_enter Tryd.func52, Tryd.ntmps52
  go_wp2
  go_ret
  exact ⟨rfl, rfl⟩

set_option maxRecDepth 100000 in
set_option maxHeartbeats 600000 in
theorem mirror_eq (a b : Nat) (na : (FloatKind.f32.format.order a a != some .eq) = false) (c : Nat) (hx : bits .xor .u32 (a : Int) 2147483648 = (c : Int)) (w : World) : Calls Tryd.prog 52 #[.float .f32 a, .float .f32 b] w fun e' w' => e' = .returned (.bool ((c : Int) == b)) ∧ w = w' := by
  go_enter Tryd.func52, Tryd.ntmps52
  go_wp2
  go_ret
  exact ⟨rfl, rfl⟩

set_option maxRecDepth 100000 in
set_option maxHeartbeats 600000 in
theorem turned_up (w : World) : Calls Tryd.prog 51 #[.int .i64 3] w fun e' w' => e' = .returned (.int .i64 4) ∧ w = w' := by
  go_enter Tryd.func51, Tryd.ntmps51
  go_wp2
  go_ret
  exact ⟨rfl, rfl⟩

set_option maxRecDepth 100000 in
set_option maxHeartbeats 600000 in
theorem turned_down (w : World) : Calls Tryd.prog 51 #[.int .i64 4] w fun e' w' => e' = .returned (.int .i64 3) ∧ w = w' := by
  go_enter Tryd.func51, Tryd.ntmps51
  go_wp2
  go_ret
  exact ⟨rfl, rfl⟩

set_option maxRecDepth 100000 in
set_option maxHeartbeats 600000 in
theorem turned_else (mode : Int) (h3 : (mode == 3) = false) (h4 : (mode == 4) = false) (w : World) : Calls Tryd.prog 51 #[.int .i64 mode] w fun e' w' => e' = .returned (.int .i64 mode) ∧ w = w' := by
  go_enter Tryd.func51, Tryd.ntmps51
  go_wp2
  go_ret
  exact ⟨rfl, rfl⟩

theorem turned_any (mode : Int) (w : World) : Calls Tryd.prog 51 #[.int .i64 mode] w fun e' w' => e' = .returned (.int .i64 (tm mode)) ∧ w = w' := by
  unfold tm
  by_cases h3 : mode = 3
  · subst h3; exact turned_up w
  by_cases h4 : mode = 4
  · subst h4; exact turned_down w
  · rw [if_neg h3, if_neg h4]; exact turned_else mode (beq_eq_false_iff_ne.2 h3) (beq_eq_false_iff_ne.2 h4) w

set_option maxRecDepth 100000 in
set_option maxHeartbeats 600000 in
theorem turned_low (x y z : Nat) (mode : Int) (hm : decide (mode < 0) = true) (w : World) (hT : FmS w) : Calls Tryd.prog 10 #[.int .u64 x, .int .u32 y, .int .u32 z, .int .i64 mode] w fun e' w' => e' = .returned (.bool true) ∧ Within w w' := by
  go_enter Tryd.func10, Tryd.ntmps10
  go_wp2_with fail
  refine (awake_true _ hT).mono ?_; rintro e0 w0 ⟨rfl, hb0⟩
  go_wp2
  go_ret
  exact ⟨rfl, (by repeat (first | with_reducible exact Within.refl _ | with_reducible assumption | with_reducible refine Within.alloc ?_ _ | with_reducible refine Within.drew ?_ | with_reducible refine Within.setCell ?_ (by first | (simp; done) | (simp; omega)) _ | with_reducible refine Within.trans ?_ (by assumption)))⟩

set_option maxRecDepth 100000 in
set_option maxHeartbeats 600000 in
theorem turned_high (x y z : Nat) (mode : Int) (hm : decide (mode < 0) = false) (hm2 : decide (mode > 4) = true) (w : World) (hT : FmS w) : Calls Tryd.prog 10 #[.int .u64 x, .int .u32 y, .int .u32 z, .int .i64 mode] w fun e' w' => e' = .returned (.bool true) ∧ Within w w' := by
  go_enter Tryd.func10, Tryd.ntmps10
  go_wp2_with fail
  refine (awake_true _ hT).mono ?_; rintro e0 w0 ⟨rfl, hb0⟩
  go_wp2
  go_ret
  exact ⟨rfl, (by repeat (first | with_reducible exact Within.refl _ | with_reducible assumption | with_reducible refine Within.alloc ?_ _ | with_reducible refine Within.drew ?_ | with_reducible refine Within.setCell ?_ (by first | (simp; done) | (simp; omega)) _ | with_reducible refine Within.trans ?_ (by assumption)))⟩

set_option maxRecDepth 100000 in
set_option maxHeartbeats 600000 in
theorem turned_mirror (x y z nx ny nz p1 p2 p3 p4 p5 p6 p7 p8 : Nat) (mode om k1 k2 k3 k4 : Int) (hm : decide (mode < 0) = false) (hm2 : decide (mode > 4) = false) (ex : Go.Op.negFloat .f64 x = nx) (ey : Go.Op.negFloat .f32 y = ny) (ez : Go.Op.negFloat .f32 z = nz) (TU : Hid (∀ w, Calls Tryd.prog 51 #[.int .i64 mode] w fun e' w' => e' = .returned (.int .i64 om) ∧ w = w')) (NA : Hid (∀ w, FmS w → Calls Tryd.prog 21 #[.float .f64 x, .int .i64 mode] w fun e' w' => e' = .returned (.tuple #[.float .f32 p1, .int .i64 k1, .int .i64 0]) ∧ Within w w')) (NB : Hid (∀ w, FmS w → Calls Tryd.prog 21 #[.float .f64 nx, .int .i64 om] w fun e' w' => e' = .returned (.tuple #[.float .f32 p2, .int .i64 k1, .int .i64 0]) ∧ Within w w')) (M1 : Hid (∀ w, Calls Tryd.prog 52 #[.float .f32 p1, .float .f32 p2] w fun e' w' => e' = .returned (.bool true) ∧ w = w')) (MA : Hid (∀ w, FmS w → Calls Tryd.prog 48 #[.float .f32 y, .float .f32 z, .int .i64 mode] w fun e' w' => e' = .returned (.tuple #[.float .f32 p3, .int .i64 k2, .int .i64 0]) ∧ Within w w')) (MB : Hid (∀ w, FmS w → Calls Tryd.prog 48 #[.float .f32 ny, .float .f32 z, .int .i64 om] w fun e' w' => e' = .returned (.tuple #[.float .f32 p4, .int .i64 k2, .int .i64 0]) ∧ Within w w')) (M2 : Hid (∀ w, Calls Tryd.prog 52 #[.float .f32 p3, .float .f32 p4] w fun e' w' => e' = .returned (.bool true) ∧ w = w')) (DA : Hid (∀ w, FmS w → Calls Tryd.prog 53 #[.float .f32 y, .float .f32 z, .int .i64 mode] w fun e' w' => e' = .returned (.tuple #[.float .f32 p5, .int .i64 k3, .int .i64 0]) ∧ Within w w')) (DB : Hid (∀ w, FmS w → Calls Tryd.prog 53 #[.float .f32 y, .float .f32 nz, .int .i64 om] w fun e' w' => e' = .returned (.tuple #[.float .f32 p6, .int .i64 k3, .int .i64 0]) ∧ Within w w')) (M3 : Hid (∀ w, Calls Tryd.prog 52 #[.float .f32 p5, .float .f32 p6] w fun e' w' => e' = .returned (.bool true) ∧ w = w')) (AA : Hid (∀ w, FmS w → Calls Tryd.prog 47 #[.float .f32 y, .float .f32 z, .int .i64 mode] w fun e' w' => e' = .returned (.tuple #[.float .f32 p7, .int .i64 k4, .int .i64 0]) ∧ Within w w')) (AB : Hid (∀ w, FmS w → Calls Tryd.prog 47 #[.float .f32 ny, .float .f32 nz, .int .i64 om] w fun e' w' => e' = .returned (.tuple #[.float .f32 p8, .int .i64 k4, .int .i64 0]) ∧ Within w w')) (M4 : Hid (∀ w, Calls Tryd.prog 52 #[.float .f32 p7, .float .f32 p8] w fun e' w' => e' = .returned (.bool true) ∧ w = w')) (w : World) (hT : FmS w) : Calls Tryd.prog 10 #[.int .u64 x, .int .u32 y, .int .u32 z, .int .i64 mode] w fun e' w' => e' = .returned (.bool true) ∧ Within w w' := by
  have hkk : ∀ k : Int, (k != k) = false := fun k => by simp
  have hke : ∀ k : Int, (k == k) = true := fun k => by simp
  go_enter Tryd.func10, Tryd.ntmps10
  go_wp2_with fail
  refine (awake_true _ hT).mono ?_; rintro e0 w0 ⟨rfl, hb0⟩
  go_wp2_with fail
  refine (TU.out _).mono ?_; rintro e1 w1 ⟨rfl, rfl⟩
  go_wp2_with fail
  refine (f_any x _).mono ?_; rintro e2 w2 ⟨rfl, rfl⟩
  go_wp2_with fail
  refine (NA.out _ (hT.of (by repeat (first | with_reducible exact Within.refl _ | with_reducible assumption | with_reducible refine Within.alloc ?_ _ | with_reducible refine Within.drew ?_ | with_reducible refine Within.setCell ?_ (by first | (simp; done) | (simp; omega)) _ | with_reducible refine Within.trans ?_ (by assumption))))).mono ?_; rintro e3 w3 ⟨rfl, hb3⟩
  go_wp2_with fail
  refine (f_any x _).mono ?_; rintro e4 w4 ⟨rfl, rfl⟩
  go_wp2_with fail
  refine (NB.out _ (hT.of (by repeat (first | with_reducible exact Within.refl _ | with_reducible assumption | with_reducible refine Within.alloc ?_ _ | with_reducible refine Within.drew ?_ | with_reducible refine Within.setCell ?_ (by first | (simp; done) | (simp; omega)) _ | with_reducible refine Within.trans ?_ (by assumption))))).mono ?_; rintro e5 w5 ⟨rfl, hb5⟩
  go_wp2_with fail
  refine (M1.out _).mono ?_; rintro e6 w6 ⟨rfl, rfl⟩
  go_wp2_with fail
  refine (g_any y _).mono ?_; rintro e7 w7 ⟨rfl, rfl⟩
  go_wp2_with fail
  refine (g_any z _).mono ?_; rintro e8 w8 ⟨rfl, rfl⟩
  go_wp2_with fail
  refine (MA.out _ (hT.of (by repeat (first | with_reducible exact Within.refl _ | with_reducible assumption | with_reducible refine Within.alloc ?_ _ | with_reducible refine Within.drew ?_ | with_reducible refine Within.setCell ?_ (by first | (simp; done) | (simp; omega)) _ | with_reducible refine Within.trans ?_ (by assumption))))).mono ?_; rintro e9 w9 ⟨rfl, hb9⟩
  go_wp2_with fail
  refine (g_any y _).mono ?_; rintro e10 w10 ⟨rfl, rfl⟩
  go_wp2_with fail
  refine (g_any z _).mono ?_; rintro e11 w11 ⟨rfl, rfl⟩
  go_wp2_with fail
  refine (MB.out _ (hT.of (by repeat (first | with_reducible exact Within.refl _ | with_reducible assumption | with_reducible refine Within.alloc ?_ _ | with_reducible refine Within.drew ?_ | with_reducible refine Within.setCell ?_ (by first | (simp; done) | (simp; omega)) _ | with_reducible refine Within.trans ?_ (by assumption))))).mono ?_; rintro e12 w12 ⟨rfl, hb12⟩
  go_wp2_with fail
  refine (M2.out _).mono ?_; rintro e13 w13 ⟨rfl, rfl⟩
  go_wp2_with fail
  refine (g_any y _).mono ?_; rintro e14 w14 ⟨rfl, rfl⟩
  go_wp2_with fail
  refine (g_any z _).mono ?_; rintro e15 w15 ⟨rfl, rfl⟩
  go_wp2_with fail
  refine (DA.out _ (hT.of (by repeat (first | with_reducible exact Within.refl _ | with_reducible assumption | with_reducible refine Within.alloc ?_ _ | with_reducible refine Within.drew ?_ | with_reducible refine Within.setCell ?_ (by first | (simp; done) | (simp; omega)) _ | with_reducible refine Within.trans ?_ (by assumption))))).mono ?_; rintro e16 w16 ⟨rfl, hb16⟩
  go_wp2_with fail
  refine (g_any y _).mono ?_; rintro e17 w17 ⟨rfl, rfl⟩
  go_wp2_with fail
  refine (g_any z _).mono ?_; rintro e18 w18 ⟨rfl, rfl⟩
  go_wp2_with fail
  refine (DB.out _ (hT.of (by repeat (first | with_reducible exact Within.refl _ | with_reducible assumption | with_reducible refine Within.alloc ?_ _ | with_reducible refine Within.drew ?_ | with_reducible refine Within.setCell ?_ (by first | (simp; done) | (simp; omega)) _ | with_reducible refine Within.trans ?_ (by assumption))))).mono ?_; rintro e19 w19 ⟨rfl, hb19⟩
  go_wp2_with fail
  refine (M3.out _).mono ?_; rintro e20 w20 ⟨rfl, rfl⟩
  go_wp2_with fail
  refine (g_any y _).mono ?_; rintro e21 w21 ⟨rfl, rfl⟩
  go_wp2_with fail
  refine (g_any z _).mono ?_; rintro e22 w22 ⟨rfl, rfl⟩
  go_wp2_with fail
  refine (AA.out _ (hT.of (by repeat (first | with_reducible exact Within.refl _ | with_reducible assumption | with_reducible refine Within.alloc ?_ _ | with_reducible refine Within.drew ?_ | with_reducible refine Within.setCell ?_ (by first | (simp; done) | (simp; omega)) _ | with_reducible refine Within.trans ?_ (by assumption))))).mono ?_; rintro e23 w23 ⟨rfl, hb23⟩
  go_wp2_with fail
  refine (g_any y _).mono ?_; rintro e24 w24 ⟨rfl, rfl⟩
  go_wp2_with fail
  refine (g_any z _).mono ?_; rintro e25 w25 ⟨rfl, rfl⟩
  go_wp2_with fail
  refine (AB.out _ (hT.of (by repeat (first | with_reducible exact Within.refl _ | with_reducible assumption | with_reducible refine Within.alloc ?_ _ | with_reducible refine Within.drew ?_ | with_reducible refine Within.setCell ?_ (by first | (simp; done) | (simp; omega)) _ | with_reducible refine Within.trans ?_ (by assumption))))).mono ?_; rintro e26 w26 ⟨rfl, hb26⟩
  go_wp2_with fail
  refine (M4.out _).mono ?_; rintro e27 w27 ⟨rfl, rfl⟩
  go_wp2
  go_ret
  exact ⟨rfl, (by repeat (first | with_reducible exact Within.refl _ | with_reducible assumption | with_reducible refine Within.alloc ?_ _ | with_reducible refine Within.drew ?_ | with_reducible refine Within.setCell ?_ (by first | (simp; done) | (simp; omega)) _ | with_reducible refine Within.trans ?_ (by assumption)))⟩

set_option maxRecDepth 100000 in
set_option maxHeartbeats 600000 in
theorem turned_zero (x y z nx ny nz p1 p2 p3 p4 p5 p6 p7 p8 : Nat) (mode om k1 k2 k3 k4 : Int) (hm : decide (mode < 0) = false) (hm2 : decide (mode > 4) = false) (ex : Go.Op.negFloat .f64 x = nx) (ey : Go.Op.negFloat .f32 y = ny) (ez : Go.Op.negFloat .f32 z = nz) (TU : Hid (∀ w, Calls Tryd.prog 51 #[.int .i64 mode] w fun e' w' => e' = .returned (.int .i64 om) ∧ w = w')) (NA : Hid (∀ w, FmS w → Calls Tryd.prog 21 #[.float .f64 x, .int .i64 mode] w fun e' w' => e' = .returned (.tuple #[.float .f32 p1, .int .i64 k1, .int .i64 0]) ∧ Within w w')) (NB : Hid (∀ w, FmS w → Calls Tryd.prog 21 #[.float .f64 nx, .int .i64 om] w fun e' w' => e' = .returned (.tuple #[.float .f32 p2, .int .i64 k1, .int .i64 0]) ∧ Within w w')) (M1 : Hid (∀ w, Calls Tryd.prog 52 #[.float .f32 p1, .float .f32 p2] w fun e' w' => e' = .returned (.bool true) ∧ w = w')) (MA : Hid (∀ w, FmS w → Calls Tryd.prog 48 #[.float .f32 y, .float .f32 z, .int .i64 mode] w fun e' w' => e' = .returned (.tuple #[.float .f32 p3, .int .i64 k2, .int .i64 0]) ∧ Within w w')) (MB : Hid (∀ w, FmS w → Calls Tryd.prog 48 #[.float .f32 ny, .float .f32 z, .int .i64 om] w fun e' w' => e' = .returned (.tuple #[.float .f32 p4, .int .i64 k2, .int .i64 0]) ∧ Within w w')) (M2 : Hid (∀ w, Calls Tryd.prog 52 #[.float .f32 p3, .float .f32 p4] w fun e' w' => e' = .returned (.bool true) ∧ w = w')) (DA : Hid (∀ w, FmS w → Calls Tryd.prog 53 #[.float .f32 y, .float .f32 z, .int .i64 mode] w fun e' w' => e' = .returned (.tuple #[.float .f32 p5, .int .i64 k3, .int .i64 0]) ∧ Within w w')) (DB : Hid (∀ w, FmS w → Calls Tryd.prog 53 #[.float .f32 y, .float .f32 nz, .int .i64 om] w fun e' w' => e' = .returned (.tuple #[.float .f32 p6, .int .i64 k3, .int .i64 0]) ∧ Within w w')) (M3 : Hid (∀ w, Calls Tryd.prog 52 #[.float .f32 p5, .float .f32 p6] w fun e' w' => e' = .returned (.bool true) ∧ w = w')) (AA : Hid (∀ w, FmS w → Calls Tryd.prog 47 #[.float .f32 y, .float .f32 z, .int .i64 mode] w fun e' w' => e' = .returned (.tuple #[.float .f32 p7, .int .i64 k4, .int .i64 0]) ∧ Within w w')) (AB : Hid (∀ w, FmS w → Calls Tryd.prog 47 #[.float .f32 ny, .float .f32 nz, .int .i64 om] w fun e' w' => e' = .returned (.tuple #[.float .f32 p8, .int .i64 k4, .int .i64 0]) ∧ Within w w')) (M4 : Hid (∀ w, Calls Tryd.prog 52 #[.float .f32 p7, .float .f32 p8] w fun e' w' => e' = .returned (.bool false) ∧ w = w')) (z7 : (FloatKind.f32.format.order p7 0 == some .eq) = true) (z8 : (FloatKind.f32.format.order p8 0 == some .eq) = true) (w : World) (hT : FmS w) : Calls Tryd.prog 10 #[.int .u64 x, .int .u32 y, .int .u32 z, .int .i64 mode] w fun e' w' => e' = .returned (.bool true) ∧ Within w w' := by
  have hkk : ∀ k : Int, (k != k) = false := fun k => by simp
  have hke : ∀ k : Int, (k == k) = true := fun k => by simp
  go_enter Tryd.func10, Tryd.ntmps10
  go_wp2_with fail
  refine (awake_true _ hT).mono ?_; rintro e0 w0 ⟨rfl, hb0⟩
  go_wp2_with fail
  refine (TU.out _).mono ?_; rintro e1 w1 ⟨rfl, rfl⟩
  go_wp2_with fail
  refine (f_any x _).mono ?_; rintro e2 w2 ⟨rfl, rfl⟩
  go_wp2_with fail
  refine (NA.out _ (hT.of (by repeat (first | with_reducible exact Within.refl _ | with_reducible assumption | with_reducible refine Within.alloc ?_ _ | with_reducible refine Within.drew ?_ | with_reducible refine Within.setCell ?_ (by first | (simp; done) | (simp; omega)) _ | with_reducible refine Within.trans ?_ (by assumption))))).mono ?_; rintro e3 w3 ⟨rfl, hb3⟩
  go_wp2_with fail
  refine (f_any x _).mono ?_; rintro e4 w4 ⟨rfl, rfl⟩
  go_wp2_with fail
  refine (NB.out _ (hT.of (by repeat (first | with_reducible exact Within.refl _ | with_reducible assumption | with_reducible refine Within.alloc ?_ _ | with_reducible refine Within.drew ?_ | with_reducible refine Within.setCell ?_ (by first | (simp; done) | (simp; omega)) _ | with_reducible refine Within.trans ?_ (by assumption))))).mono ?_; rintro e5 w5 ⟨rfl, hb5⟩
  go_wp2_with fail
  refine (M1.out _).mono ?_; rintro e6 w6 ⟨rfl, rfl⟩
  go_wp2_with fail
  refine (g_any y _).mono ?_; rintro e7 w7 ⟨rfl, rfl⟩
  go_wp2_with fail
  refine (g_any z _).mono ?_; rintro e8 w8 ⟨rfl, rfl⟩
  go_wp2_with fail
  refine (MA.out _ (hT.of (by repeat (first | with_reducible exact Within.refl _ | with_reducible assumption | with_reducible refine Within.alloc ?_ _ | with_reducible refine Within.drew ?_ | with_reducible refine Within.setCell ?_ (by first | (simp; done) | (simp; omega)) _ | with_reducible refine Within.trans ?_ (by assumption))))).mono ?_; rintro e9 w9 ⟨rfl, hb9⟩
  go_wp2_with fail
  refine (g_any y _).mono ?_; rintro e10 w10 ⟨rfl, rfl⟩
  go_wp2_with fail
  refine (g_any z _).mono ?_; rintro e11 w11 ⟨rfl, rfl⟩
  go_wp2_with fail
  refine (MB.out _ (hT.of (by repeat (first | with_reducible exact Within.refl _ | with_reducible assumption | with_reducible refine Within.alloc ?_ _ | with_reducible refine Within.drew ?_ | with_reducible refine Within.setCell ?_ (by first | (simp; done) | (simp; omega)) _ | with_reducible refine Within.trans ?_ (by assumption))))).mono ?_; rintro e12 w12 ⟨rfl, hb12⟩
  go_wp2_with fail
  refine (M2.out _).mono ?_; rintro e13 w13 ⟨rfl, rfl⟩
  go_wp2_with fail
  refine (g_any y _).mono ?_; rintro e14 w14 ⟨rfl, rfl⟩
  go_wp2_with fail
  refine (g_any z _).mono ?_; rintro e15 w15 ⟨rfl, rfl⟩
  go_wp2_with fail
  refine (DA.out _ (hT.of (by repeat (first | with_reducible exact Within.refl _ | with_reducible assumption | with_reducible refine Within.alloc ?_ _ | with_reducible refine Within.drew ?_ | with_reducible refine Within.setCell ?_ (by first | (simp; done) | (simp; omega)) _ | with_reducible refine Within.trans ?_ (by assumption))))).mono ?_; rintro e16 w16 ⟨rfl, hb16⟩
  go_wp2_with fail
  refine (g_any y _).mono ?_; rintro e17 w17 ⟨rfl, rfl⟩
  go_wp2_with fail
  refine (g_any z _).mono ?_; rintro e18 w18 ⟨rfl, rfl⟩
  go_wp2_with fail
  refine (DB.out _ (hT.of (by repeat (first | with_reducible exact Within.refl _ | with_reducible assumption | with_reducible refine Within.alloc ?_ _ | with_reducible refine Within.drew ?_ | with_reducible refine Within.setCell ?_ (by first | (simp; done) | (simp; omega)) _ | with_reducible refine Within.trans ?_ (by assumption))))).mono ?_; rintro e19 w19 ⟨rfl, hb19⟩
  go_wp2_with fail
  refine (M3.out _).mono ?_; rintro e20 w20 ⟨rfl, rfl⟩
  go_wp2_with fail
  refine (g_any y _).mono ?_; rintro e21 w21 ⟨rfl, rfl⟩
  go_wp2_with fail
  refine (g_any z _).mono ?_; rintro e22 w22 ⟨rfl, rfl⟩
  go_wp2_with fail
  refine (AA.out _ (hT.of (by repeat (first | with_reducible exact Within.refl _ | with_reducible assumption | with_reducible refine Within.alloc ?_ _ | with_reducible refine Within.drew ?_ | with_reducible refine Within.setCell ?_ (by first | (simp; done) | (simp; omega)) _ | with_reducible refine Within.trans ?_ (by assumption))))).mono ?_; rintro e23 w23 ⟨rfl, hb23⟩
  go_wp2_with fail
  refine (g_any y _).mono ?_; rintro e24 w24 ⟨rfl, rfl⟩
  go_wp2_with fail
  refine (g_any z _).mono ?_; rintro e25 w25 ⟨rfl, rfl⟩
  go_wp2_with fail
  refine (AB.out _ (hT.of (by repeat (first | with_reducible exact Within.refl _ | with_reducible assumption | with_reducible refine Within.alloc ?_ _ | with_reducible refine Within.drew ?_ | with_reducible refine Within.setCell ?_ (by first | (simp; done) | (simp; omega)) _ | with_reducible refine Within.trans ?_ (by assumption))))).mono ?_; rintro e26 w26 ⟨rfl, hb26⟩
  go_wp2_with fail
  refine (M4.out _).mono ?_; rintro e27 w27 ⟨rfl, rfl⟩
  go_wp2
  go_ret
  exact ⟨rfl, (by repeat (first | with_reducible exact Within.refl _ | with_reducible assumption | with_reducible refine Within.alloc ?_ _ | with_reducible refine Within.drew ?_ | with_reducible refine Within.setCell ?_ (by first | (simp; done) | (simp; omega)) _ | with_reducible refine Within.trans ?_ (by assumption)))⟩

end Go.Proofs.YtifgngmebnjfkaaDoor
