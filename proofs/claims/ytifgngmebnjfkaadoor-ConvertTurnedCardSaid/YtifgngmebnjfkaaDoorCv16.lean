/- Package convert: Mul, Div: walks. -/
import Derived.Test.YtifgngmebnjfkaaDoorCv15
namespace Go.Proofs.YtifgngmebnjfkaaDoor
open Go.RowKit

theorem fma_ext (x y z r : Nat) (h : FloatKind.f64.format.fma x y z = some r) : Go.Extern.MathFMA.fma #[.float .f64 x, .float .f64 y, .float .f64 z] = pure (.float .f64 r) := by
  conv => lhs; whnf
  rw [h]
theorem fma_run (w : World) (x y z : Nat) : (callFunc 90 #[.float .f64 x, .float .f64 y, .float .f64 z]).run Tryd.prog w = (Go.Extern.MathFMA.fma #[.float .f64 x, .float .f64 y, .float .f64 z] >>= fun v => pure (Next.value v)).run Tryd.prog w := by kernel_rfl
theorem fma_any (x y z r : Nat) (h : Ieee.double.fma x y z = some r) (w : World) : (callFunc 90 #[.float .f64 x, .float .f64 y, .float .f64 z]).run Tryd.prog w = .ok (.value (.float .f64 r)) w := by
  rw [fma_run, fma_ext x y z r h]; rfl

set_option maxRecDepth 100000 in
set_option maxHeartbeats 600000 in
theorem mul_bad (x y : Nat) (mode : Int) (KN : Hid (∀ w, Calls Tryd.prog 66 #[.int .i64 mode] w fun e' w' => e' = .returned (.bool false) ∧ w = w')) (w : World) : Calls Tryd.prog 48 #[.float .f32 x, .float .f32 y, .int .i64 mode] w fun e' w' => e' = .returned (.tuple #[.float .f32 0, .int .i64 0, .int .i64 20]) ∧ Within w w' := by
  go_enter Tryd.func48, Tryd.ntmps48
  go_wp2_with fail
  refine (KN.out _).mono ?_; rintro e1 w1 ⟨rfl, rfl⟩
  go_wp2
  go_ret3
  exact ⟨rfl, (by repeat (first | with_reducible exact Within.refl _ | with_reducible assumption | with_reducible refine Within.alloc ?_ _ | with_reducible refine Within.drew ?_ | with_reducible refine Within.setCell ?_ (by first | (simp; done) | (simp; omega)) _ | with_reducible refine Within.trans ?_ (by assumption)))⟩

set_option maxRecDepth 100000 in
set_option maxHeartbeats 600000 in
theorem mul_nn (x y : Nat) (mode : Int) (KN : Hid (∀ w, Calls Tryd.prog 66 #[.int .i64 mode] w fun e' w' => e' = .returned (.bool true) ∧ w = w')) (nx : (FloatKind.f32.format.order x x != some .eq) = true) (gx : Bool) (ix : Nat) (hx : FloatKind.f32.decode x = .nan gx ix) (gy : Bool) (iy : Nat) (hy : FloatKind.f32.decode y = .nan gy iy) (hm : ∀ tx ty, Ieee.double.mul ((Question.nanConv .f64 x).cut tx) ((Question.nanConv .f64 y).cut ty) = none) (NO : Hid (∀ w, Calls Tryd.prog 67 #[] w fun e' w' => e' = .returned (.float .f32 2143289344) ∧ Within w w')) (w : World) : Calls Tryd.prog 48 #[.float .f32 x, .float .f32 y, .int .i64 mode] w fun e' w' => e' = .returned (.tuple #[.float .f32 2143289344, .int .i64 0, .int .i64 0]) ∧ Within w w' := by
  have cx := fun (w : World) => run_widen_nan 31 40 .f32 .f64 x Tryd.prog w (by decide) (by kernel_rfl) (by kernel_rfl) gx ix hx
  have cy := fun (w : World) => run_widen_nan 31 40 .f32 .f64 y Tryd.prog w (by decide) (by kernel_rfl) (by kernel_rfl) gy iy hy
  have hmul := fun tx ty t w => m_float_nan .mul t .f64 ((Question.nanConv .f64 x).cut tx) ((Question.nanConv .f64 y).cut ty) Tryd.prog w (by first | exact .inr (.inr (.inl rfl)) | exact .inr (.inr (.inr rfl))) (hm tx ty)
  clear hm hx hy
  go_enter Tryd.func48, Tryd.ntmps48
  go_wp2_with fail
  refine (KN.out _).mono ?_; rintro e1 w1 ⟨rfl, rfl⟩
  go_wp2_with fail
  refine (NO.out _).mono ?_; rintro e5 w5 ⟨rfl, hb5⟩
  go_wp2
  go_ret3
  exact ⟨rfl, (by repeat (first | with_reducible exact Within.refl _ | with_reducible assumption | with_reducible refine Within.alloc ?_ _ | with_reducible refine Within.drew ?_ | with_reducible refine Within.setCell ?_ (by first | (simp; done) | (simp; omega)) _ | with_reducible refine Within.trans ?_ (by assumption)))⟩

set_option maxRecDepth 100000 in
set_option maxHeartbeats 600000 in
theorem mul_nf (x y b : Nat) (mode : Int) (KN : Hid (∀ w, Calls Tryd.prog 66 #[.int .i64 mode] w fun e' w' => e' = .returned (.bool true) ∧ w = w')) (nx : (FloatKind.f32.format.order x x != some .eq) = true) (gx : Bool) (ix : Nat) (hx : FloatKind.f32.decode x = .nan gx ix) (hy : floatToFloatBits .f32 y .f64 = some b) (hm : ∀ tx, Ieee.double.mul ((Question.nanConv .f64 x).cut tx) b = none) (NO : Hid (∀ w, Calls Tryd.prog 67 #[] w fun e' w' => e' = .returned (.float .f32 2143289344) ∧ Within w w')) (w : World) : Calls Tryd.prog 48 #[.float .f32 x, .float .f32 y, .int .i64 mode] w fun e' w' => e' = .returned (.tuple #[.float .f32 2143289344, .int .i64 0, .int .i64 0]) ∧ Within w w' := by
  have cx := fun (w : World) => run_widen_nan 31 40 .f32 .f64 x Tryd.prog w (by decide) (by kernel_rfl) (by kernel_rfl) gx ix hx
  have cy := fun (w : World) => run_convert_float_float (P := Tryd.prog) w 31 40 .f32 .f64 y b (by kernel_rfl) (by kernel_rfl) hy
  have hmul := fun tx t w => m_float_nan .mul t .f64 ((Question.nanConv .f64 x).cut tx) b Tryd.prog w (by first | exact .inr (.inr (.inl rfl)) | exact .inr (.inr (.inr rfl))) (hm tx)
  clear hm hx hy
  go_enter Tryd.func48, Tryd.ntmps48
  go_wp2_with fail
  refine (KN.out _).mono ?_; rintro e1 w1 ⟨rfl, rfl⟩
  go_wp2_with fail
  refine (NO.out _).mono ?_; rintro e5 w5 ⟨rfl, hb5⟩
  go_wp2
  go_ret3
  exact ⟨rfl, (by repeat (first | with_reducible exact Within.refl _ | with_reducible assumption | with_reducible refine Within.alloc ?_ _ | with_reducible refine Within.drew ?_ | with_reducible refine Within.setCell ?_ (by first | (simp; done) | (simp; omega)) _ | with_reducible refine Within.trans ?_ (by assumption)))⟩

set_option maxRecDepth 100000 in
set_option maxHeartbeats 600000 in
theorem mul_fn (x y a : Nat) (mode : Int) (KN : Hid (∀ w, Calls Tryd.prog 66 #[.int .i64 mode] w fun e' w' => e' = .returned (.bool true) ∧ w = w')) (nx : (FloatKind.f32.format.order x x != some .eq) = false) (ny : (FloatKind.f32.format.order y y != some .eq) = true) (hx : floatToFloatBits .f32 x .f64 = some a) (gy : Bool) (iy : Nat) (hy : FloatKind.f32.decode y = .nan gy iy) (hm : ∀ ty, Ieee.double.mul a ((Question.nanConv .f64 y).cut ty) = none) (NO : Hid (∀ w, Calls Tryd.prog 67 #[] w fun e' w' => e' = .returned (.float .f32 2143289344) ∧ Within w w')) (w : World) : Calls Tryd.prog 48 #[.float .f32 x, .float .f32 y, .int .i64 mode] w fun e' w' => e' = .returned (.tuple #[.float .f32 2143289344, .int .i64 0, .int .i64 0]) ∧ Within w w' := by
  have cx := fun (w : World) => run_convert_float_float (P := Tryd.prog) w 31 40 .f32 .f64 x a (by kernel_rfl) (by kernel_rfl) hx
  have cy := fun (w : World) => run_widen_nan 31 40 .f32 .f64 y Tryd.prog w (by decide) (by kernel_rfl) (by kernel_rfl) gy iy hy
  have hmul := fun ty t w => m_float_nan .mul t .f64 a ((Question.nanConv .f64 y).cut ty) Tryd.prog w (by first | exact .inr (.inr (.inl rfl)) | exact .inr (.inr (.inr rfl))) (hm ty)
  clear hm hx hy
  go_enter Tryd.func48, Tryd.ntmps48
  go_wp2_with fail
  refine (KN.out _).mono ?_; rintro e1 w1 ⟨rfl, rfl⟩
  go_wp2_with fail
  refine (NO.out _).mono ?_; rintro e5 w5 ⟨rfl, hb5⟩
  go_wp2
  go_ret3
  exact ⟨rfl, (by repeat (first | with_reducible exact Within.refl _ | with_reducible assumption | with_reducible refine Within.alloc ?_ _ | with_reducible refine Within.drew ?_ | with_reducible refine Within.setCell ?_ (by first | (simp; done) | (simp; omega)) _ | with_reducible refine Within.trans ?_ (by assumption)))⟩

set_option maxRecDepth 100000 in
set_option maxHeartbeats 600000 in
theorem mul_invalid (x y a b : Nat) (mode : Int) (KN : Hid (∀ w, Calls Tryd.prog 66 #[.int .i64 mode] w fun e' w' => e' = .returned (.bool true) ∧ w = w')) (nx : (FloatKind.f32.format.order x x != some .eq) = false) (ny : (FloatKind.f32.format.order y y != some .eq) = false) (hx : floatToFloatBits .f32 x .f64 = some a) (hy : floatToFloatBits .f32 y .f64 = some b) (hm : Ieee.double.mul a b = none) (hn : ∀ t, (FloatKind.f64.format.order ((Question.nanBits .f64 a b).cut t) ((Question.nanBits .f64 a b).cut t) != some .eq) = true) (NO : Hid (∀ w, Calls Tryd.prog 67 #[] w fun e' w' => e' = .returned (.float .f32 2143289344) ∧ Within w w')) (w : World) : Calls Tryd.prog 48 #[.float .f32 x, .float .f32 y, .int .i64 mode] w fun e' w' => e' = .returned (.tuple #[.float .f32 2143289344, .int .i64 8, .int .i64 0]) ∧ Within w w' := by
  have cx := fun (w : World) => run_convert_float_float (P := Tryd.prog) w 31 40 .f32 .f64 x a (by kernel_rfl) (by kernel_rfl) hx
  have cy := fun (w : World) => run_convert_float_float (P := Tryd.prog) w 31 40 .f32 .f64 y b (by kernel_rfl) (by kernel_rfl) hy
  clear hx hy
  have hmul := fun t w => m_float_nan .mul t .f64 a b Tryd.prog w (by first | exact .inr (.inr (.inl rfl)) | exact .inr (.inr (.inr rfl))) hm
  clear hm
  go_enter Tryd.func48, Tryd.ntmps48
  go_wp2_with fail
  refine (KN.out _).mono ?_; rintro e1 w1 ⟨rfl, rfl⟩
  go_wp2_with fail
  refine (NO.out _).mono ?_; rintro e5 w5 ⟨rfl, hb5⟩
  go_wp2
  go_ret3
  exact ⟨rfl, (by repeat (first | with_reducible exact Within.refl _ | with_reducible assumption | with_reducible refine Within.alloc ?_ _ | with_reducible refine Within.drew ?_ | with_reducible refine Within.setCell ?_ (by first | (simp; done) | (simp; omega)) _ | with_reducible refine Within.trans ?_ (by assumption)))⟩

set_option maxRecDepth 100000 in
set_option maxHeartbeats 600000 in
theorem mul_plain (x y a b : Nat) (mode : Int) (KN : Hid (∀ w, Calls Tryd.prog 66 #[.int .i64 mode] w fun e' w' => e' = .returned (.bool true) ∧ w = w')) (nx : (FloatKind.f32.format.order x x != some .eq) = false) (ny : (FloatKind.f32.format.order y y != some .eq) = false) (hx : floatToFloatBits .f32 x .f64 = some a) (hy : floatToFloatBits .f32 y .f64 = some b) (p : Nat) (hm : Ieee.double.mul a b = some p) (np : (FloatKind.f64.format.order p p != some .eq) = false) (PL : Hid (∀ w, Calls Tryd.prog 68 #[.float .f64 p] w fun e' w' => e' = .returned (.bool true) ∧ w = w')) (r : Nat) (hc : floatToFloatBits .f64 p .f32 = some r) (w : World) : Calls Tryd.prog 48 #[.float .f32 x, .float .f32 y, .int .i64 mode] w fun e' w' => e' = .returned (.tuple #[.float .f32 r, .int .i64 0, .int .i64 0]) ∧ Within w w' := by
  have cx := fun (w : World) => run_convert_float_float (P := Tryd.prog) w 31 40 .f32 .f64 x a (by kernel_rfl) (by kernel_rfl) hx
  have cy := fun (w : World) => run_convert_float_float (P := Tryd.prog) w 31 40 .f32 .f64 y b (by kernel_rfl) (by kernel_rfl) hy
  clear hx hy
  have hmul := fun t P w => run_float_arith (P := P) w .mul t .f64 _ _ _ hm
  clear hm
  have hcv := fun (w : World) => run_convert_float_float (P := Tryd.prog) w 40 31 .f64 .f32 p r (by kernel_rfl) (by kernel_rfl) hc
  clear hc
  go_enter Tryd.func48, Tryd.ntmps48
  go_wp2_with fail
  refine (KN.out _).mono ?_; rintro e1 w1 ⟨rfl, rfl⟩
  go_wp2_with fail
  refine (PL.out _).mono ?_; rintro e2 w2 ⟨rfl, rfl⟩
  go_wp2
  go_ret3
  exact ⟨rfl, (by repeat (first | with_reducible exact Within.refl _ | with_reducible assumption | with_reducible refine Within.alloc ?_ _ | with_reducible refine Within.drew ?_ | with_reducible refine Within.setCell ?_ (by first | (simp; done) | (simp; omega)) _ | with_reducible refine Within.trans ?_ (by assumption)))⟩

set_option maxRecDepth 100000 in
set_option maxHeartbeats 600000 in
theorem mul_main (x y a b : Nat) (mode : Int) (KN : Hid (∀ w, Calls Tryd.prog 66 #[.int .i64 mode] w fun e' w' => e' = .returned (.bool true) ∧ w = w')) (nx : (FloatKind.f32.format.order x x != some .eq) = false) (ny : (FloatKind.f32.format.order y y != some .eq) = false) (hx : floatToFloatBits .f32 x .f64 = some a) (hy : floatToFloatBits .f32 y .f64 = some b) (p : Nat) (hm : Ieee.double.mul a b = some p) (np : (FloatKind.f64.format.order p p != some .eq) = false) (PL : Hid (∀ w, Calls Tryd.prog 68 #[.float .f64 p] w fun e' w' => e' = .returned (.bool false) ∧ w = w')) (n : Bool) (m : Nat) (e : Int) (z r : Nat) (fl : Int) (TK : Hid (∀ w, Calls Tryd.prog 69 #[.float .f64 p] w fun e' w' => e' = .returned (.agg #[.bool n, .int .u64 m, .int .i64 e]) ∧ Within w w')) (RN : Hid (∀ w, Calls Tryd.prog 70 #[.agg #[.bool n, .int .u64 m, .int .i64 e], .agg #[.int .i64 24, .int .i64 (-126), .int .i64 127], .int .i64 mode] w fun e' w' => e' = .returned (.tuple #[.float .f64 z, .int .i64 fl]) ∧ Within w w')) (hc : floatToFloatBits .f64 z .f32 = some r) (w : World) (hT : FmS w) : Calls Tryd.prog 48 #[.float .f32 x, .float .f32 y, .int .i64 mode] w fun e' w' => e' = .returned (.tuple #[.float .f32 r, .int .i64 fl, .int .i64 0]) ∧ Within w w' := by
  have cx := fun (w : World) => run_convert_float_float (P := Tryd.prog) w 31 40 .f32 .f64 x a (by kernel_rfl) (by kernel_rfl) hx
  have cy := fun (w : World) => run_convert_float_float (P := Tryd.prog) w 31 40 .f32 .f64 y b (by kernel_rfl) (by kernel_rfl) hy
  clear hx hy
  have hmul := fun t P w => run_float_arith (P := P) w .mul t .f64 _ _ _ hm
  clear hm
  have hcv := fun (w : World) => run_convert_float_float (P := Tryd.prog) w 40 31 .f64 .f32 z r (by kernel_rfl) (by kernel_rfl) hc
  clear hc
  go_enter Tryd.func48, Tryd.ntmps48
  go_wp2_with fail
  refine (KN.out _).mono ?_; rintro e1 w1 ⟨rfl, rfl⟩
  go_wp2_with fail
  refine (PL.out _).mono ?_; rintro e2 w2 ⟨rfl, rfl⟩
  go_wp2
  refine wp_region_within (by kernel_rfl) (by kernel_rfl) ?_
  repeat
    apply wpq_step rfl
    · intro wq hCq
      have q0 := (hT.of hCq).1; have q1 := (hT.of hCq).2.1; have q2 := (hT.of hCq).2.2
      go_simp
      first | rfl | exact hCq.call (TK.out _) | exact hCq.call (RN.out _) | (trace_state; fail)
    simp only [Act.put, List.setIfInBounds_toArray, List.set_cons_zero, List.set_cons_succ]
  refine wpQuiet_nil ?_
  intro w3 hb3
  go_wp2
  go_ret3
  exact ⟨rfl, (by repeat (first | with_reducible exact Within.refl _ | with_reducible assumption | with_reducible refine Within.alloc ?_ _ | with_reducible refine Within.drew ?_ | with_reducible refine Within.setCell ?_ (by first | (simp; done) | (simp; omega)) _ | with_reducible refine Within.trans ?_ (by assumption)))⟩

set_option maxRecDepth 100000 in
set_option maxHeartbeats 600000 in
theorem div_bad (x y : Nat) (mode : Int) (KN : Hid (∀ w, Calls Tryd.prog 66 #[.int .i64 mode] w fun e' w' => e' = .returned (.bool false) ∧ w = w')) (w : World) : Calls Tryd.prog 53 #[.float .f32 x, .float .f32 y, .int .i64 mode] w fun e' w' => e' = .returned (.tuple #[.float .f32 0, .int .i64 0, .int .i64 20]) ∧ Within w w' := by
  go_enter Tryd.func53, Tryd.ntmps53
  go_wp2_with fail
  refine (KN.out _).mono ?_; rintro e1 w1 ⟨rfl, rfl⟩
  go_wp2
  go_ret3
  exact ⟨rfl, (by repeat (first | with_reducible exact Within.refl _ | with_reducible assumption | with_reducible refine Within.alloc ?_ _ | with_reducible refine Within.drew ?_ | with_reducible refine Within.setCell ?_ (by first | (simp; done) | (simp; omega)) _ | with_reducible refine Within.trans ?_ (by assumption)))⟩

set_option maxRecDepth 100000 in
set_option maxHeartbeats 600000 in
theorem div_nn (x y : Nat) (mode : Int) (KN : Hid (∀ w, Calls Tryd.prog 66 #[.int .i64 mode] w fun e' w' => e' = .returned (.bool true) ∧ w = w')) (nx : (FloatKind.f32.format.order x x != some .eq) = true) (gx : Bool) (ix : Nat) (hx : FloatKind.f32.decode x = .nan gx ix) (gy : Bool) (iy : Nat) (hy : FloatKind.f32.decode y = .nan gy iy) (hm : ∀ tx ty, Ieee.double.div ((Question.nanConv .f64 x).cut tx) ((Question.nanConv .f64 y).cut ty) = none) (NO : Hid (∀ w, Calls Tryd.prog 67 #[] w fun e' w' => e' = .returned (.float .f32 2143289344) ∧ Within w w')) (w : World) : Calls Tryd.prog 53 #[.float .f32 x, .float .f32 y, .int .i64 mode] w fun e' w' => e' = .returned (.tuple #[.float .f32 2143289344, .int .i64 0, .int .i64 0]) ∧ Within w w' := by
  have cx := fun (w : World) => run_widen_nan 31 40 .f32 .f64 x Tryd.prog w (by decide) (by kernel_rfl) (by kernel_rfl) gx ix hx
  have cy := fun (w : World) => run_widen_nan 31 40 .f32 .f64 y Tryd.prog w (by decide) (by kernel_rfl) (by kernel_rfl) gy iy hy
  have hmul := fun tx ty t w => m_float_nan .quo t .f64 ((Question.nanConv .f64 x).cut tx) ((Question.nanConv .f64 y).cut ty) Tryd.prog w (by first | exact .inr (.inr (.inl rfl)) | exact .inr (.inr (.inr rfl))) (hm tx ty)
  clear hm hx hy
  go_enter Tryd.func53, Tryd.ntmps53
  go_wp2_with fail
  refine (KN.out _).mono ?_; rintro e1 w1 ⟨rfl, rfl⟩
  go_wp2_with fail
  refine (NO.out _).mono ?_; rintro e5 w5 ⟨rfl, hb5⟩
  go_wp2
  go_ret3
  exact ⟨rfl, (by repeat (first | with_reducible exact Within.refl _ | with_reducible assumption | with_reducible refine Within.alloc ?_ _ | with_reducible refine Within.drew ?_ | with_reducible refine Within.setCell ?_ (by first | (simp; done) | (simp; omega)) _ | with_reducible refine Within.trans ?_ (by assumption)))⟩

set_option maxRecDepth 100000 in
set_option maxHeartbeats 600000 in
theorem div_nf (x y b : Nat) (mode : Int) (KN : Hid (∀ w, Calls Tryd.prog 66 #[.int .i64 mode] w fun e' w' => e' = .returned (.bool true) ∧ w = w')) (nx : (FloatKind.f32.format.order x x != some .eq) = true) (gx : Bool) (ix : Nat) (hx : FloatKind.f32.decode x = .nan gx ix) (hy : floatToFloatBits .f32 y .f64 = some b) (hm : ∀ tx, Ieee.double.div ((Question.nanConv .f64 x).cut tx) b = none) (NO : Hid (∀ w, Calls Tryd.prog 67 #[] w fun e' w' => e' = .returned (.float .f32 2143289344) ∧ Within w w')) (w : World) : Calls Tryd.prog 53 #[.float .f32 x, .float .f32 y, .int .i64 mode] w fun e' w' => e' = .returned (.tuple #[.float .f32 2143289344, .int .i64 0, .int .i64 0]) ∧ Within w w' := by
  have cx := fun (w : World) => run_widen_nan 31 40 .f32 .f64 x Tryd.prog w (by decide) (by kernel_rfl) (by kernel_rfl) gx ix hx
  have cy := fun (w : World) => run_convert_float_float (P := Tryd.prog) w 31 40 .f32 .f64 y b (by kernel_rfl) (by kernel_rfl) hy
  have hmul := fun tx t w => m_float_nan .quo t .f64 ((Question.nanConv .f64 x).cut tx) b Tryd.prog w (by first | exact .inr (.inr (.inl rfl)) | exact .inr (.inr (.inr rfl))) (hm tx)
  clear hm hx hy
  go_enter Tryd.func53, Tryd.ntmps53
  go_wp2_with fail
  refine (KN.out _).mono ?_; rintro e1 w1 ⟨rfl, rfl⟩
  go_wp2_with fail
  refine (NO.out _).mono ?_; rintro e5 w5 ⟨rfl, hb5⟩
  go_wp2
  go_ret3
  exact ⟨rfl, (by repeat (first | with_reducible exact Within.refl _ | with_reducible assumption | with_reducible refine Within.alloc ?_ _ | with_reducible refine Within.drew ?_ | with_reducible refine Within.setCell ?_ (by first | (simp; done) | (simp; omega)) _ | with_reducible refine Within.trans ?_ (by assumption)))⟩

set_option maxRecDepth 100000 in
set_option maxHeartbeats 600000 in
theorem div_fn (x y a : Nat) (mode : Int) (KN : Hid (∀ w, Calls Tryd.prog 66 #[.int .i64 mode] w fun e' w' => e' = .returned (.bool true) ∧ w = w')) (nx : (FloatKind.f32.format.order x x != some .eq) = false) (ny : (FloatKind.f32.format.order y y != some .eq) = true) (hx : floatToFloatBits .f32 x .f64 = some a) (gy : Bool) (iy : Nat) (hy : FloatKind.f32.decode y = .nan gy iy) (hm : ∀ ty, Ieee.double.div a ((Question.nanConv .f64 y).cut ty) = none) (NO : Hid (∀ w, Calls Tryd.prog 67 #[] w fun e' w' => e' = .returned (.float .f32 2143289344) ∧ Within w w')) (w : World) : Calls Tryd.prog 53 #[.float .f32 x, .float .f32 y, .int .i64 mode] w fun e' w' => e' = .returned (.tuple #[.float .f32 2143289344, .int .i64 0, .int .i64 0]) ∧ Within w w' := by
  have cx := fun (w : World) => run_convert_float_float (P := Tryd.prog) w 31 40 .f32 .f64 x a (by kernel_rfl) (by kernel_rfl) hx
  have cy := fun (w : World) => run_widen_nan 31 40 .f32 .f64 y Tryd.prog w (by decide) (by kernel_rfl) (by kernel_rfl) gy iy hy
  have hmul := fun ty t w => m_float_nan .quo t .f64 a ((Question.nanConv .f64 y).cut ty) Tryd.prog w (by first | exact .inr (.inr (.inl rfl)) | exact .inr (.inr (.inr rfl))) (hm ty)
  clear hm hx hy
  go_enter Tryd.func53, Tryd.ntmps53
  go_wp2_with fail
  refine (KN.out _).mono ?_; rintro e1 w1 ⟨rfl, rfl⟩
  go_wp2_with fail
  refine (NO.out _).mono ?_; rintro e5 w5 ⟨rfl, hb5⟩
  go_wp2
  go_ret3
  exact ⟨rfl, (by repeat (first | with_reducible exact Within.refl _ | with_reducible assumption | with_reducible refine Within.alloc ?_ _ | with_reducible refine Within.drew ?_ | with_reducible refine Within.setCell ?_ (by first | (simp; done) | (simp; omega)) _ | with_reducible refine Within.trans ?_ (by assumption)))⟩

set_option maxRecDepth 100000 in
set_option maxHeartbeats 600000 in
theorem div_invalid (x y a b : Nat) (mode : Int) (KN : Hid (∀ w, Calls Tryd.prog 66 #[.int .i64 mode] w fun e' w' => e' = .returned (.bool true) ∧ w = w')) (nx : (FloatKind.f32.format.order x x != some .eq) = false) (ny : (FloatKind.f32.format.order y y != some .eq) = false) (hx : floatToFloatBits .f32 x .f64 = some a) (hy : floatToFloatBits .f32 y .f64 = some b) (hm : Ieee.double.div a b = none) (hn : ∀ t, (FloatKind.f64.format.order ((Question.nanBits .f64 a b).cut t) ((Question.nanBits .f64 a b).cut t) != some .eq) = true) (NO : Hid (∀ w, Calls Tryd.prog 67 #[] w fun e' w' => e' = .returned (.float .f32 2143289344) ∧ Within w w')) (w : World) : Calls Tryd.prog 53 #[.float .f32 x, .float .f32 y, .int .i64 mode] w fun e' w' => e' = .returned (.tuple #[.float .f32 2143289344, .int .i64 8, .int .i64 0]) ∧ Within w w' := by
  have cx := fun (w : World) => run_convert_float_float (P := Tryd.prog) w 31 40 .f32 .f64 x a (by kernel_rfl) (by kernel_rfl) hx
  have cy := fun (w : World) => run_convert_float_float (P := Tryd.prog) w 31 40 .f32 .f64 y b (by kernel_rfl) (by kernel_rfl) hy
  clear hx hy
  have hmul := fun t w => m_float_nan .quo t .f64 a b Tryd.prog w (by first | exact .inr (.inr (.inl rfl)) | exact .inr (.inr (.inr rfl))) hm
  clear hm
  go_enter Tryd.func53, Tryd.ntmps53
  go_wp2_with fail
  refine (KN.out _).mono ?_; rintro e1 w1 ⟨rfl, rfl⟩
  go_wp2_with fail
  refine (NO.out _).mono ?_; rintro e5 w5 ⟨rfl, hb5⟩
  go_wp2
  go_ret3
  exact ⟨rfl, (by repeat (first | with_reducible exact Within.refl _ | with_reducible assumption | with_reducible refine Within.alloc ?_ _ | with_reducible refine Within.drew ?_ | with_reducible refine Within.setCell ?_ (by first | (simp; done) | (simp; omega)) _ | with_reducible refine Within.trans ?_ (by assumption)))⟩

set_option maxRecDepth 100000 in
set_option maxHeartbeats 600000 in
theorem div_zero (x y a b : Nat) (mode : Int) (KN : Hid (∀ w, Calls Tryd.prog 66 #[.int .i64 mode] w fun e' w' => e' = .returned (.bool true) ∧ w = w')) (nx : (FloatKind.f32.format.order x x != some .eq) = false) (ny : (FloatKind.f32.format.order y y != some .eq) = false) (hx : floatToFloatBits .f32 x .f64 = some a) (hy : floatToFloatBits .f32 y .f64 = some b) (p : Nat) (hm : Ieee.double.div a b = some p) (np : (FloatKind.f64.format.order p p != some .eq) = false) (y0 : (FloatKind.f32.format.order y 0 == some .eq) = true) (FI : Hid (∀ w, Calls Tryd.prog 89 #[.float .f64 a] w fun e' w' => e' = .returned (.bool true) ∧ w = w')) (r : Nat) (hc : floatToFloatBits .f64 p .f32 = some r) (w : World) : Calls Tryd.prog 53 #[.float .f32 x, .float .f32 y, .int .i64 mode] w fun e' w' => e' = .returned (.tuple #[.float .f32 r, .int .i64 16, .int .i64 0]) ∧ Within w w' := by
  have cx := fun (w : World) => run_convert_float_float (P := Tryd.prog) w 31 40 .f32 .f64 x a (by kernel_rfl) (by kernel_rfl) hx
  have cy := fun (w : World) => run_convert_float_float (P := Tryd.prog) w 31 40 .f32 .f64 y b (by kernel_rfl) (by kernel_rfl) hy
  clear hx hy
  have hmul := fun t P w => run_float_arith (P := P) w .quo t .f64 _ _ _ hm
  clear hm
  have hcv := fun (w : World) => run_convert_float_float (P := Tryd.prog) w 40 31 .f64 .f32 p r (by kernel_rfl) (by kernel_rfl) hc
  clear hc
  go_enter Tryd.func53, Tryd.ntmps53
  go_wp2_with fail
  refine (KN.out _).mono ?_; rintro e1 w1 ⟨rfl, rfl⟩
  go_wp2_with fail
  refine (FI.out _).mono ?_; rintro e2 w2 ⟨rfl, rfl⟩
  go_wp2
  go_ret3
  exact ⟨rfl, (by repeat (first | with_reducible exact Within.refl _ | with_reducible assumption | with_reducible refine Within.alloc ?_ _ | with_reducible refine Within.drew ?_ | with_reducible refine Within.setCell ?_ (by first | (simp; done) | (simp; omega)) _ | with_reducible refine Within.trans ?_ (by assumption)))⟩

set_option maxRecDepth 100000 in
set_option maxHeartbeats 600000 in
theorem div_infz (x y a b : Nat) (mode : Int) (KN : Hid (∀ w, Calls Tryd.prog 66 #[.int .i64 mode] w fun e' w' => e' = .returned (.bool true) ∧ w = w')) (nx : (FloatKind.f32.format.order x x != some .eq) = false) (ny : (FloatKind.f32.format.order y y != some .eq) = false) (hx : floatToFloatBits .f32 x .f64 = some a) (hy : floatToFloatBits .f32 y .f64 = some b) (p : Nat) (hm : Ieee.double.div a b = some p) (np : (FloatKind.f64.format.order p p != some .eq) = false) (y0 : (FloatKind.f32.format.order y 0 == some .eq) = true) (FI : Hid (∀ w, Calls Tryd.prog 89 #[.float .f64 a] w fun e' w' => e' = .returned (.bool false) ∧ Within w w')) (PL : Hid (∀ w, Calls Tryd.prog 68 #[.float .f64 p] w fun e' w' => e' = .returned (.bool true) ∧ w = w')) (r : Nat) (hc : floatToFloatBits .f64 p .f32 = some r) (w : World) : Calls Tryd.prog 53 #[.float .f32 x, .float .f32 y, .int .i64 mode] w fun e' w' => e' = .returned (.tuple #[.float .f32 r, .int .i64 0, .int .i64 0]) ∧ Within w w' := by
  have cx := fun (w : World) => run_convert_float_float (P := Tryd.prog) w 31 40 .f32 .f64 x a (by kernel_rfl) (by kernel_rfl) hx
  have cy := fun (w : World) => run_convert_float_float (P := Tryd.prog) w 31 40 .f32 .f64 y b (by kernel_rfl) (by kernel_rfl) hy
  clear hx hy
  have hmul := fun t P w => run_float_arith (P := P) w .quo t .f64 _ _ _ hm
  clear hm
  have hcv := fun (w : World) => run_convert_float_float (P := Tryd.prog) w 40 31 .f64 .f32 p r (by kernel_rfl) (by kernel_rfl) hc
  clear hc
  go_enter Tryd.func53, Tryd.ntmps53
  go_wp2_with fail
  refine (KN.out _).mono ?_; rintro e1 w1 ⟨rfl, rfl⟩
  go_wp2_with fail
  refine (FI.out _).mono ?_; rintro e2 w2 ⟨rfl, hb2⟩
  go_wp2_with fail
  refine (PL.out _).mono ?_; rintro e3 w3 ⟨rfl, rfl⟩
  go_wp2
  go_ret3
  exact ⟨rfl, (by repeat (first | with_reducible exact Within.refl _ | with_reducible assumption | with_reducible refine Within.alloc ?_ _ | with_reducible refine Within.drew ?_ | with_reducible refine Within.setCell ?_ (by first | (simp; done) | (simp; omega)) _ | with_reducible refine Within.trans ?_ (by assumption)))⟩

set_option maxRecDepth 100000 in
set_option maxHeartbeats 600000 in
theorem div_plain (x y a b : Nat) (mode : Int) (KN : Hid (∀ w, Calls Tryd.prog 66 #[.int .i64 mode] w fun e' w' => e' = .returned (.bool true) ∧ w = w')) (nx : (FloatKind.f32.format.order x x != some .eq) = false) (ny : (FloatKind.f32.format.order y y != some .eq) = false) (hx : floatToFloatBits .f32 x .f64 = some a) (hy : floatToFloatBits .f32 y .f64 = some b) (p : Nat) (hm : Ieee.double.div a b = some p) (np : (FloatKind.f64.format.order p p != some .eq) = false) (y0 : (FloatKind.f32.format.order y 0 == some .eq) = false) (PL : Hid (∀ w, Calls Tryd.prog 68 #[.float .f64 p] w fun e' w' => e' = .returned (.bool true) ∧ w = w')) (r : Nat) (hc : floatToFloatBits .f64 p .f32 = some r) (w : World) : Calls Tryd.prog 53 #[.float .f32 x, .float .f32 y, .int .i64 mode] w fun e' w' => e' = .returned (.tuple #[.float .f32 r, .int .i64 0, .int .i64 0]) ∧ Within w w' := by
  have cx := fun (w : World) => run_convert_float_float (P := Tryd.prog) w 31 40 .f32 .f64 x a (by kernel_rfl) (by kernel_rfl) hx
  have cy := fun (w : World) => run_convert_float_float (P := Tryd.prog) w 31 40 .f32 .f64 y b (by kernel_rfl) (by kernel_rfl) hy
  clear hx hy
  have hmul := fun t P w => run_float_arith (P := P) w .quo t .f64 _ _ _ hm
  clear hm
  have hcv := fun (w : World) => run_convert_float_float (P := Tryd.prog) w 40 31 .f64 .f32 p r (by kernel_rfl) (by kernel_rfl) hc
  clear hc
  go_enter Tryd.func53, Tryd.ntmps53
  go_wp2_with fail
  refine (KN.out _).mono ?_; rintro e1 w1 ⟨rfl, rfl⟩
  go_wp2_with fail
  refine (PL.out _).mono ?_; rintro e3 w3 ⟨rfl, rfl⟩
  go_wp2
  go_ret3
  exact ⟨rfl, (by repeat (first | with_reducible exact Within.refl _ | with_reducible assumption | with_reducible refine Within.alloc ?_ _ | with_reducible refine Within.drew ?_ | with_reducible refine Within.setCell ?_ (by first | (simp; done) | (simp; omega)) _ | with_reducible refine Within.trans ?_ (by assumption)))⟩

set_option maxRecDepth 100000 in
set_option maxHeartbeats 600000 in
theorem div_main_pos (x y a b : Nat) (mode : Int) (KN : Hid (∀ w, Calls Tryd.prog 66 #[.int .i64 mode] w fun e' w' => e' = .returned (.bool true) ∧ w = w')) (nx : (FloatKind.f32.format.order x x != some .eq) = false) (ny : (FloatKind.f32.format.order y y != some .eq) = false) (hx : floatToFloatBits .f32 x .f64 = some a) (hy : floatToFloatBits .f32 y .f64 = some b) (p : Nat) (hm : Ieee.double.div a b = some p) (np : (FloatKind.f64.format.order p p != some .eq) = false) (y0 : (FloatKind.f32.format.order y 0 == some .eq) = false) (PL : Hid (∀ w, Calls Tryd.prog 68 #[.float .f64 p] w fun e' w' => e' = .returned (.bool false) ∧ w = w')) (pn l : Nat) (hpn : Go.Op.negFloat .f64 p = pn) (hf : Ieee.double.fma pn b a = some l) (hb : (FloatKind.f64.format.order b 0 == some .lt) = false) (n : Bool) (m : Nat) (e : Int) (z r : Nat) (fl : Int) (NU : Hid (∀ w, Calls Tryd.prog 91 #[.float .f64 p, .float .f64 l] w fun e' w' => e' = .returned (.agg #[.bool n, .int .u64 m, .int .i64 e]) ∧ Within w w')) (RN : Hid (∀ w, Calls Tryd.prog 70 #[.agg #[.bool n, .int .u64 m, .int .i64 e], .agg #[.int .i64 24, .int .i64 (-126), .int .i64 127], .int .i64 mode] w fun e' w' => e' = .returned (.tuple #[.float .f64 z, .int .i64 fl]) ∧ Within w w')) (hc : floatToFloatBits .f64 z .f32 = some r) (w : World) (hT : FmS w) : Calls Tryd.prog 53 #[.float .f32 x, .float .f32 y, .int .i64 mode] w fun e' w' => e' = .returned (.tuple #[.float .f32 r, .int .i64 fl, .int .i64 0]) ∧ Within w w' := by
  have cx := fun (w : World) => run_convert_float_float (P := Tryd.prog) w 31 40 .f32 .f64 x a (by kernel_rfl) (by kernel_rfl) hx
  have cy := fun (w : World) => run_convert_float_float (P := Tryd.prog) w 31 40 .f32 .f64 y b (by kernel_rfl) (by kernel_rfl) hy
  clear hx hy
  have hmul := fun t P w => run_float_arith (P := P) w .quo t .f64 _ _ _ hm
  clear hm
  have hcv := fun (w : World) => run_convert_float_float (P := Tryd.prog) w 40 31 .f64 .f32 z r (by kernel_rfl) (by kernel_rfl) hc
  have hfm := fma_any pn b a l hf
  clear hc hf
  go_enter Tryd.func53, Tryd.ntmps53
  go_wp2_with fail
  refine (KN.out _).mono ?_; rintro e1 w1 ⟨rfl, rfl⟩
  go_wp2_with fail
  refine (PL.out _).mono ?_; rintro e3 w3 ⟨rfl, rfl⟩
  go_wp2
  refine wp_region_within (by kernel_rfl) (by kernel_rfl) ?_
  repeat
    apply wpq_step rfl
    · intro wq hCq
      have q0 := (hT.of hCq).1; have q1 := (hT.of hCq).2.1; have q2 := (hT.of hCq).2.2
      go_simp
      first | rfl | exact hCq.call (NU.out _) | exact hCq.call (RN.out _) | (trace_state; fail)
    simp only [Act.put, List.setIfInBounds_toArray, List.set_cons_zero, List.set_cons_succ]
  refine wpQuiet_nil ?_
  intro w3 hb3
  go_wp2
  go_ret3
  exact ⟨rfl, (by repeat (first | with_reducible exact Within.refl _ | with_reducible assumption | with_reducible refine Within.alloc ?_ _ | with_reducible refine Within.drew ?_ | with_reducible refine Within.setCell ?_ (by first | (simp; done) | (simp; omega)) _ | with_reducible refine Within.trans ?_ (by assumption)))⟩

set_option maxRecDepth 100000 in
set_option maxHeartbeats 600000 in
theorem div_main_neg (x y a b : Nat) (mode : Int) (KN : Hid (∀ w, Calls Tryd.prog 66 #[.int .i64 mode] w fun e' w' => e' = .returned (.bool true) ∧ w = w')) (nx : (FloatKind.f32.format.order x x != some .eq) = false) (ny : (FloatKind.f32.format.order y y != some .eq) = false) (hx : floatToFloatBits .f32 x .f64 = some a) (hy : floatToFloatBits .f32 y .f64 = some b) (p : Nat) (hm : Ieee.double.div a b = some p) (np : (FloatKind.f64.format.order p p != some .eq) = false) (y0 : (FloatKind.f32.format.order y 0 == some .eq) = false) (PL : Hid (∀ w, Calls Tryd.prog 68 #[.float .f64 p] w fun e' w' => e' = .returned (.bool false) ∧ w = w')) (pn l k : Nat) (hpn : Go.Op.negFloat .f64 p = pn) (hf : Ieee.double.fma pn b a = some l) (hk : Go.Op.negFloat .f64 l = k) (hb : (FloatKind.f64.format.order b 0 == some .lt) = true) (n : Bool) (m : Nat) (e : Int) (z r : Nat) (fl : Int) (NU : Hid (∀ w, Calls Tryd.prog 91 #[.float .f64 p, .float .f64 k] w fun e' w' => e' = .returned (.agg #[.bool n, .int .u64 m, .int .i64 e]) ∧ Within w w')) (RN : Hid (∀ w, Calls Tryd.prog 70 #[.agg #[.bool n, .int .u64 m, .int .i64 e], .agg #[.int .i64 24, .int .i64 (-126), .int .i64 127], .int .i64 mode] w fun e' w' => e' = .returned (.tuple #[.float .f64 z, .int .i64 fl]) ∧ Within w w')) (hc : floatToFloatBits .f64 z .f32 = some r) (w : World) (hT : FmS w) : Calls Tryd.prog 53 #[.float .f32 x, .float .f32 y, .int .i64 mode] w fun e' w' => e' = .returned (.tuple #[.float .f32 r, .int .i64 fl, .int .i64 0]) ∧ Within w w' := by
  have cx := fun (w : World) => run_convert_float_float (P := Tryd.prog) w 31 40 .f32 .f64 x a (by kernel_rfl) (by kernel_rfl) hx
  have cy := fun (w : World) => run_convert_float_float (P := Tryd.prog) w 31 40 .f32 .f64 y b (by kernel_rfl) (by kernel_rfl) hy
  clear hx hy
  have hmul := fun t P w => run_float_arith (P := P) w .quo t .f64 _ _ _ hm
  clear hm
  have hcv := fun (w : World) => run_convert_float_float (P := Tryd.prog) w 40 31 .f64 .f32 z r (by kernel_rfl) (by kernel_rfl) hc
  have hfm := fma_any pn b a l hf
  clear hc hf
  go_enter Tryd.func53, Tryd.ntmps53
  go_wp2_with fail
  refine (KN.out _).mono ?_; rintro e1 w1 ⟨rfl, rfl⟩
  go_wp2_with fail
  refine (PL.out _).mono ?_; rintro e3 w3 ⟨rfl, rfl⟩
  go_wp2
  refine wp_region_within (by kernel_rfl) (by kernel_rfl) ?_
  repeat
    apply wpq_step rfl
    · intro wq hCq
      have q0 := (hT.of hCq).1; have q1 := (hT.of hCq).2.1; have q2 := (hT.of hCq).2.2
      go_simp
      first | rfl | exact hCq.call (NU.out _) | exact hCq.call (RN.out _) | (trace_state; fail)
    simp only [Act.put, List.setIfInBounds_toArray, List.set_cons_zero, List.set_cons_succ]
  refine wpQuiet_nil ?_
  intro w3 hb3
  go_wp2
  go_ret3
  exact ⟨rfl, (by repeat (first | with_reducible exact Within.refl _ | with_reducible assumption | with_reducible refine Within.alloc ?_ _ | with_reducible refine Within.drew ?_ | with_reducible refine Within.setCell ?_ (by first | (simp; done) | (simp; omega)) _ | with_reducible refine Within.trans ?_ (by assumption)))⟩

end Go.Proofs.YtifgngmebnjfkaaDoor
