/- Package convert: sum, Add, Sub: walks, and what they come to. -/
import Derived.Test.YtifgngmebnjfkaaDoorCv12
namespace Go.Proofs.YtifgngmebnjfkaaDoor
open Go.RowKit

set_option maxRecDepth 100000 in
set_option maxHeartbeats 600000 in
theorem sum_nan_a (a b : Nat) (mode : Int) (hxa : (FloatKind.f64.format.order a a != some .eq) = true) (hadd : Ieee.double.add a b = none) (NO : Hid (∀ w, Calls Tryd.prog 67 #[] w fun e' w' => e' = .returned (.float .f32 2143289344) ∧ Within w w')) (w : World) : Calls Tryd.prog 87 #[.float .f64 a, .float .f64 b, .int .i64 mode] w fun e' w' => e' = .returned (.tuple #[.float .f32 2143289344, .int .i64 0]) ∧ Within w w' := by
  have hadd' := fun t w => m_float_nan .add t .f64 a b Tryd.prog w (.inr (.inl rfl)) hadd
  clear hadd
  go_enter Tryd.func87, Tryd.ntmps87
  go_wp2_with fail
  refine (NO.out _).mono ?_; rintro e5 w5 ⟨rfl, hb5⟩
  go_wp2
  go_ret2
  exact ⟨rfl, (by repeat (first | with_reducible exact Within.refl _ | with_reducible assumption | with_reducible refine Within.alloc ?_ _ | with_reducible refine Within.drew ?_ | with_reducible refine Within.setCell ?_ (by first | (simp; done) | (simp; omega)) _ | with_reducible refine Within.trans ?_ (by assumption)))⟩

set_option maxRecDepth 100000 in
set_option maxHeartbeats 600000 in
theorem sum_nan_b (a b : Nat) (mode : Int) (hxa : (FloatKind.f64.format.order a a != some .eq) = false) (hxb : (FloatKind.f64.format.order b b != some .eq) = true) (hadd : Ieee.double.add a b = none) (NO : Hid (∀ w, Calls Tryd.prog 67 #[] w fun e' w' => e' = .returned (.float .f32 2143289344) ∧ Within w w')) (w : World) : Calls Tryd.prog 87 #[.float .f64 a, .float .f64 b, .int .i64 mode] w fun e' w' => e' = .returned (.tuple #[.float .f32 2143289344, .int .i64 0]) ∧ Within w w' := by
  have hadd' := fun t w => m_float_nan .add t .f64 a b Tryd.prog w (.inr (.inl rfl)) hadd
  clear hadd
  go_enter Tryd.func87, Tryd.ntmps87
  go_wp2_with fail
  refine (NO.out _).mono ?_; rintro e5 w5 ⟨rfl, hb5⟩
  go_wp2
  go_ret2
  exact ⟨rfl, (by repeat (first | with_reducible exact Within.refl _ | with_reducible assumption | with_reducible refine Within.alloc ?_ _ | with_reducible refine Within.drew ?_ | with_reducible refine Within.setCell ?_ (by first | (simp; done) | (simp; omega)) _ | with_reducible refine Within.trans ?_ (by assumption)))⟩

set_option maxRecDepth 100000 in
set_option maxHeartbeats 600000 in
theorem sum_invalid (a b : Nat) (mode : Int) (hxa : (FloatKind.f64.format.order a a != some .eq) = false) (hxb : (FloatKind.f64.format.order b b != some .eq) = false) (hadd : Ieee.double.add a b = none) (hn : ∀ t, (FloatKind.f64.format.order ((Question.nanBits .f64 a b).cut t) ((Question.nanBits .f64 a b).cut t) != some .eq) = true) (NO : Hid (∀ w, Calls Tryd.prog 67 #[] w fun e' w' => e' = .returned (.float .f32 2143289344) ∧ Within w w')) (w : World) : Calls Tryd.prog 87 #[.float .f64 a, .float .f64 b, .int .i64 mode] w fun e' w' => e' = .returned (.tuple #[.float .f32 2143289344, .int .i64 8]) ∧ Within w w' := by
  have hadd' := fun t w => m_float_nan .add t .f64 a b Tryd.prog w (.inr (.inl rfl)) hadd
  clear hadd
  go_enter Tryd.func87, Tryd.ntmps87
  go_wp2_with fail
  refine (NO.out _).mono ?_; rintro e5 w5 ⟨rfl, hb5⟩
  go_wp2
  go_ret2
  exact ⟨rfl, (by repeat (first | with_reducible exact Within.refl _ | with_reducible assumption | with_reducible refine Within.alloc ?_ _ | with_reducible refine Within.drew ?_ | with_reducible refine Within.setCell ?_ (by first | (simp; done) | (simp; omega)) _ | with_reducible refine Within.trans ?_ (by assumption)))⟩

set_option maxRecDepth 100000 in
set_option maxHeartbeats 600000 in
theorem sum_inf (a b : Nat) (mode : Int) (hxa : (FloatKind.f64.format.order a a != some .eq) = false) (hxb : (FloatKind.f64.format.order b b != some .eq) = false) (s : Nat) (hadd : Ieee.double.add a b = some s) (hxs : (FloatKind.f64.format.order s s != some .eq) = false) (FI : Hid (∀ w, Calls Tryd.prog 89 #[.float .f64 s] w fun e' w' => e' = .returned (.bool false) ∧ Within w w')) (r : Nat) (hc : floatToFloatBits .f64 s .f32 = some r) (w : World) : Calls Tryd.prog 87 #[.float .f64 a, .float .f64 b, .int .i64 mode] w fun e' w' => e' = .returned (.tuple #[.float .f32 r, .int .i64 0]) ∧ Within w w' := by
  have hadd' := fun t P w => run_float_arith (P := P) w .add t .f64 _ _ _ hadd
  clear hadd
  have hcv := fun (w : World) => run_convert_float_float (P := Tryd.prog) w 40 31 .f64 .f32 s r (by kernel_rfl) (by kernel_rfl) hc
  clear hc
  go_enter Tryd.func87, Tryd.ntmps87
  go_wp2_with fail
  refine (FI.out _).mono ?_; rintro e1 w1 ⟨rfl, hb1⟩
  go_wp2
  go_ret2
  exact ⟨rfl, (by repeat (first | with_reducible exact Within.refl _ | with_reducible assumption | with_reducible refine Within.alloc ?_ _ | with_reducible refine Within.drew ?_ | with_reducible refine Within.setCell ?_ (by first | (simp; done) | (simp; omega)) _ | with_reducible refine Within.trans ?_ (by assumption)))⟩

set_option maxRecDepth 100000 in
set_option maxHeartbeats 600000 in
theorem sum_noughts (a b : Nat) (mode : Int) (hxa : (FloatKind.f64.format.order a a != some .eq) = false) (hxb : (FloatKind.f64.format.order b b != some .eq) = false) (s : Nat) (hadd : Ieee.double.add a b = some s) (hxs : (FloatKind.f64.format.order s s != some .eq) = false) (FI : Hid (∀ w, Calls Tryd.prog 89 #[.float .f64 s] w fun e' w' => e' = .returned (.bool true) ∧ w = w')) (hz : (FloatKind.f64.format.order s 0 == some .eq) = true) (ha0 : (FloatKind.f64.format.order a 0 != some .eq) = false) (p q : Bool) (r : Nat) (SA : Hid (∀ w, Calls Tryd.prog 103 #[.float .f64 a] w fun e' w' => e' = .returned (.bool p) ∧ w = w')) (SB : Hid (∀ w, Calls Tryd.prog 103 #[.float .f64 b] w fun e' w' => e' = .returned (.bool q) ∧ w = w')) (NT : Hid (∀ w, Calls Tryd.prog 118 #[.bool p, .bool q, .int .i64 mode] w fun e' w' => e' = .returned (.float .f32 r) ∧ w = w')) (w : World) : Calls Tryd.prog 87 #[.float .f64 a, .float .f64 b, .int .i64 mode] w fun e' w' => e' = .returned (.tuple #[.float .f32 r, .int .i64 0]) ∧ Within w w' := by
  have hadd' := fun t P w => run_float_arith (P := P) w .add t .f64 _ _ _ hadd
  clear hadd
  go_enter Tryd.func87, Tryd.ntmps87
  go_wp2_with fail
  refine (FI.out _).mono ?_; rintro e1 w1 ⟨rfl, rfl⟩
  go_wp2_with fail
  refine (SA.out _).mono ?_; rintro e2 w2 ⟨rfl, rfl⟩
  go_wp2_with fail
  refine (SB.out _).mono ?_; rintro e3 w3 ⟨rfl, rfl⟩
  go_wp2_with fail
  refine (NT.out _).mono ?_; rintro e4 w4 ⟨rfl, rfl⟩
  go_wp2
  go_ret2
  exact ⟨rfl, (by repeat (first | with_reducible exact Within.refl _ | with_reducible assumption | with_reducible refine Within.alloc ?_ _ | with_reducible refine Within.drew ?_ | with_reducible refine Within.setCell ?_ (by first | (simp; done) | (simp; omega)) _ | with_reducible refine Within.trans ?_ (by assumption)))⟩

set_option maxRecDepth 100000 in
set_option maxHeartbeats 600000 in
theorem sum_main (a b : Nat) (mode : Int) (hxa : (FloatKind.f64.format.order a a != some .eq) = false) (hxb : (FloatKind.f64.format.order b b != some .eq) = false) (s : Nat) (hadd : Ieee.double.add a b = some s) (hxs : (FloatKind.f64.format.order s s != some .eq) = false) (FI : Hid (∀ w, Calls Tryd.prog 89 #[.float .f64 s] w fun e' w' => e' = .returned (.bool true) ∧ w = w')) (hz : (FloatKind.f64.format.order s 0 == some .eq) = false) (t u v x l : Nat) (k1 : Ieee.double.sub s a = some t) (k2 : Ieee.double.sub s t = some u) (k3 : Ieee.double.sub a u = some v) (k4 : Ieee.double.sub b t = some x) (k5 : Ieee.double.add v x = some l) (n : Bool) (m : Nat) (e : Int) (y r : Nat) (fl : Int) (NU : Hid (∀ w, Calls Tryd.prog 91 #[.float .f64 s, .float .f64 l] w fun e' w' => e' = .returned (.agg #[.bool n, .int .u64 m, .int .i64 e]) ∧ Within w w')) (RN : Hid (∀ w, Calls Tryd.prog 70 #[.agg #[.bool n, .int .u64 m, .int .i64 e], .agg #[.int .i64 24, .int .i64 (-126), .int .i64 127], .int .i64 mode] w fun e' w' => e' = .returned (.tuple #[.float .f64 y, .int .i64 fl]) ∧ Within w w')) (hc : floatToFloatBits .f64 y .f32 = some r) (w : World) (hT : FmS w) : Calls Tryd.prog 87 #[.float .f64 a, .float .f64 b, .int .i64 mode] w fun e' w' => e' = .returned (.tuple #[.float .f32 r, .int .i64 fl]) ∧ Within w w' := by
  have hadd' := fun t P w => run_float_arith (P := P) w .add t .f64 _ _ _ hadd
  clear hadd
  have k1' := fun t P w => run_float_arith (P := P) w .sub t .f64 _ _ _ k1
  have k2' := fun t P w => run_float_arith (P := P) w .sub t .f64 _ _ _ k2
  have k3' := fun t P w => run_float_arith (P := P) w .sub t .f64 _ _ _ k3
  have k4' := fun t P w => run_float_arith (P := P) w .sub t .f64 _ _ _ k4
  have k5' := fun t P w => run_float_arith (P := P) w .add t .f64 _ _ _ k5
  clear k1 k2 k3 k4 k5
  have hcv := fun (w : World) => run_convert_float_float (P := Tryd.prog) w 40 31 .f64 .f32 y r (by kernel_rfl) (by kernel_rfl) hc
  clear hc
  go_enter Tryd.func87, Tryd.ntmps87
  go_wp2_with fail
  refine (FI.out _).mono ?_; rintro e1 w1 ⟨rfl, rfl⟩
  go_wp2
  refine wp_region_within (by kernel_rfl) (by kernel_rfl) ?_
  repeat
    apply wpq_step rfl
    · intro wq hCq
      have q0 := (hT.of hCq).1; have q1 := (hT.of hCq).2.1; have q2 := (hT.of hCq).2.2
      go_simp
      first | rfl | exact hCq.call (NU.out _) | exact hCq.call (RN.out _) | (trace_state; fail)
    simp only [Act.put, List.setIfInBounds_toArray, List.set_cons_zero, List.set_cons_succ]
  refine wpQuiet_nil ?_
  intro w3 hb3
  go_wp2
  go_ret2
  exact ⟨rfl, (by repeat (first | with_reducible exact Within.refl _ | with_reducible assumption | with_reducible refine Within.alloc ?_ _ | with_reducible refine Within.drew ?_ | with_reducible refine Within.setCell ?_ (by first | (simp; done) | (simp; omega)) _ | with_reducible refine Within.trans ?_ (by assumption)))⟩

set_option maxRecDepth 100000 in
set_option maxHeartbeats 600000 in
theorem add_bad (x y : Nat) (mode : Int) (KN : Hid (∀ w, Calls Tryd.prog 66 #[.int .i64 mode] w fun e' w' => e' = .returned (.bool false) ∧ w = w')) (w : World) : Calls Tryd.prog 47 #[.float .f32 x, .float .f32 y, .int .i64 mode] w fun e' w' => e' = .returned (.tuple #[.float .f32 0, .int .i64 0, .int .i64 20]) ∧ Within w w' := by
  go_enter Tryd.func47, Tryd.ntmps47
  go_wp2_with fail
  refine (KN.out _).mono ?_; rintro e1 w1 ⟨rfl, rfl⟩
  go_wp2
  go_ret3
  exact ⟨rfl, (by repeat (first | with_reducible exact Within.refl _ | with_reducible assumption | with_reducible refine Within.alloc ?_ _ | with_reducible refine Within.drew ?_ | with_reducible refine Within.setCell ?_ (by first | (simp; done) | (simp; omega)) _ | with_reducible refine Within.trans ?_ (by assumption)))⟩

set_option maxRecDepth 100000 in
set_option maxHeartbeats 600000 in
theorem finite_inf (s : Nat) (hs : Ieee.double.sub s s = none) (hn : ∀ t, (FloatKind.f64.format.order ((Question.nanBits .f64 s s).cut t) 0 == some .eq) = false) (w : World) : Calls Tryd.prog 89 #[.float .f64 s] w fun e w' => e = .returned (.bool false) ∧ Within w w' := by
  have hf := fun t w => m_float_nan .sub t .f64 s s Tryd.prog w (.inl rfl) hs
  clear hs
  go_enter Tryd.func89, Tryd.ntmps89
  go_wp2
  go_ret
  exact ⟨rfl, (by repeat (first | with_reducible exact Within.refl _ | with_reducible assumption | with_reducible refine Within.alloc ?_ _ | with_reducible refine Within.drew ?_ | with_reducible refine Within.setCell ?_ (by first | (simp; done) | (simp; omega)) _ | with_reducible refine Within.trans ?_ (by assumption)))⟩

set_option maxRecDepth 100000 in
set_option maxHeartbeats 600000 in
theorem add_nn (x y : Nat) (mode : Int) (KN : Hid (∀ w, Calls Tryd.prog 66 #[.int .i64 mode] w fun e' w' => e' = .returned (.bool true) ∧ w = w')) (gx : Bool) (ix : Nat) (hx : FloatKind.f32.decode x = .nan gx ix) (gy : Bool) (iy : Nat) (hy : FloatKind.f32.decode y = .nan gy iy) (SU : Hid (∀ tx ty w, Calls Tryd.prog 87 #[.float .f64 ((Question.nanConv .f64 x).cut tx), .float .f64 ((Question.nanConv .f64 y).cut ty), .int .i64 mode] w fun e' w' => e' = .returned (.tuple #[.float .f32 2143289344, .int .i64 0]) ∧ Within w w')) (w : World) : Calls Tryd.prog 47 #[.float .f32 x, .float .f32 y, .int .i64 mode] w fun e' w' => e' = .returned (.tuple #[.float .f32 2143289344, .int .i64 0, .int .i64 0]) ∧ Within w w' := by
  have cx := fun (w : World) => run_widen_nan 31 40 .f32 .f64 x Tryd.prog w (by decide) (by kernel_rfl) (by kernel_rfl) gx ix hx
  have cy := fun (w : World) => run_widen_nan 31 40 .f32 .f64 y Tryd.prog w (by decide) (by kernel_rfl) (by kernel_rfl) gy iy hy
  clear hx hy
  go_enter Tryd.func47, Tryd.ntmps47
  go_wp2_with fail
  refine (KN.out _).mono ?_; rintro e1 w1 ⟨rfl, rfl⟩
  go_wp2_with fail
  refine (SU.out _ _ _).mono ?_; rintro e2 w2 ⟨rfl, hb2⟩
  go_wp2
  go_ret3
  exact ⟨rfl, (by repeat (first | with_reducible exact Within.refl _ | with_reducible assumption | with_reducible refine Within.alloc ?_ _ | with_reducible refine Within.drew ?_ | with_reducible refine Within.setCell ?_ (by first | (simp; done) | (simp; omega)) _ | with_reducible refine Within.trans ?_ (by assumption)))⟩

set_option maxRecDepth 100000 in
set_option maxHeartbeats 600000 in
theorem add_nf (x y b : Nat) (mode : Int) (KN : Hid (∀ w, Calls Tryd.prog 66 #[.int .i64 mode] w fun e' w' => e' = .returned (.bool true) ∧ w = w')) (gx : Bool) (ix : Nat) (hx : FloatKind.f32.decode x = .nan gx ix) (hy : floatToFloatBits .f32 y .f64 = some b) (SU : Hid (∀ tx w, Calls Tryd.prog 87 #[.float .f64 ((Question.nanConv .f64 x).cut tx), .float .f64 b, .int .i64 mode] w fun e' w' => e' = .returned (.tuple #[.float .f32 2143289344, .int .i64 0]) ∧ Within w w')) (w : World) : Calls Tryd.prog 47 #[.float .f32 x, .float .f32 y, .int .i64 mode] w fun e' w' => e' = .returned (.tuple #[.float .f32 2143289344, .int .i64 0, .int .i64 0]) ∧ Within w w' := by
  have cx := fun (w : World) => run_widen_nan 31 40 .f32 .f64 x Tryd.prog w (by decide) (by kernel_rfl) (by kernel_rfl) gx ix hx
  have cy := fun (w : World) => run_convert_float_float (P := Tryd.prog) w 31 40 .f32 .f64 y b (by kernel_rfl) (by kernel_rfl) hy
  clear hx hy
  go_enter Tryd.func47, Tryd.ntmps47
  go_wp2_with fail
  refine (KN.out _).mono ?_; rintro e1 w1 ⟨rfl, rfl⟩
  go_wp2_with fail
  refine (SU.out _ _).mono ?_; rintro e2 w2 ⟨rfl, hb2⟩
  go_wp2
  go_ret3
  exact ⟨rfl, (by repeat (first | with_reducible exact Within.refl _ | with_reducible assumption | with_reducible refine Within.alloc ?_ _ | with_reducible refine Within.drew ?_ | with_reducible refine Within.setCell ?_ (by first | (simp; done) | (simp; omega)) _ | with_reducible refine Within.trans ?_ (by assumption)))⟩

set_option maxRecDepth 100000 in
set_option maxHeartbeats 600000 in
theorem add_fn (x y a : Nat) (mode : Int) (KN : Hid (∀ w, Calls Tryd.prog 66 #[.int .i64 mode] w fun e' w' => e' = .returned (.bool true) ∧ w = w')) (hx : floatToFloatBits .f32 x .f64 = some a) (gy : Bool) (iy : Nat) (hy : FloatKind.f32.decode y = .nan gy iy) (SU : Hid (∀ ty w, Calls Tryd.prog 87 #[.float .f64 a, .float .f64 ((Question.nanConv .f64 y).cut ty), .int .i64 mode] w fun e' w' => e' = .returned (.tuple #[.float .f32 2143289344, .int .i64 0]) ∧ Within w w')) (w : World) : Calls Tryd.prog 47 #[.float .f32 x, .float .f32 y, .int .i64 mode] w fun e' w' => e' = .returned (.tuple #[.float .f32 2143289344, .int .i64 0, .int .i64 0]) ∧ Within w w' := by
  have cx := fun (w : World) => run_convert_float_float (P := Tryd.prog) w 31 40 .f32 .f64 x a (by kernel_rfl) (by kernel_rfl) hx
  have cy := fun (w : World) => run_widen_nan 31 40 .f32 .f64 y Tryd.prog w (by decide) (by kernel_rfl) (by kernel_rfl) gy iy hy
  clear hx hy
  go_enter Tryd.func47, Tryd.ntmps47
  go_wp2_with fail
  refine (KN.out _).mono ?_; rintro e1 w1 ⟨rfl, rfl⟩
  go_wp2_with fail
  refine (SU.out _ _).mono ?_; rintro e2 w2 ⟨rfl, hb2⟩
  go_wp2
  go_ret3
  exact ⟨rfl, (by repeat (first | with_reducible exact Within.refl _ | with_reducible assumption | with_reducible refine Within.alloc ?_ _ | with_reducible refine Within.drew ?_ | with_reducible refine Within.setCell ?_ (by first | (simp; done) | (simp; omega)) _ | with_reducible refine Within.trans ?_ (by assumption)))⟩

end Go.Proofs.YtifgngmebnjfkaaDoor
