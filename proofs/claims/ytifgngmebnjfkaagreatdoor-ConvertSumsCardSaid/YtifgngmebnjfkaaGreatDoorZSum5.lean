/- What the law's walk rests on, part 5: contracts of functions and plain facts. -/
import Derived.Test.YtifgngmebnjfkaaGreatDoorRows
import Ieee.Arith
import Derived.WalkKit
import Derived.WalkSpells
import Derived.WalkLawsBesides
import Derived.BigQuiet
import Derived.Lib.Hide
import Derived.Lib.TrailingZeros
import Derived.Lib.BitFns
import Derived.Lib.Strings
import Derived.Lib.Slices
import Derived.Lib.Small
import Derived.Lib.Walk
import Derived.Deep.OwnRows
import Derived.OwnWalk
import Derived.LoopTactic
import Derived.Outline
import Derived.IntWalk
import Derived.OrdersHeld
import Derived.StillTail
import Derived.Deep.RegionHeld3
import Derived.Maps.AppendAt
import Derived.Deep.DeepCutAuto
import Derived.Deep.QuietTactic
import Derived.ProofKit
import Derived.OpenShut
import Derived.ShutString
import Derived.ChangeOld
import Derived.Below
import Derived.Deep.DeepHandedRow
import Derived.Deep.Strs
import Derived.Lib.LaidTab
import Derived.Test.YtifgngmebnjfkaaGreatDoorZSum4
set_option linter.unusedVariables false
set_option linter.unusedSimpArgs false
section
namespace Go.Proofs.YtifgngmebnjfkaaGreatDoor
open Go.RowKit
set_option maxRecDepth 100000 in
set_option maxHeartbeats 600000 in
theorem sum_nan_a (a b : Nat) (mode : Int) (hxa : (FloatKind.f64.format.order a a != some .eq) = true) (hadd : Ieee.double.add a b = none) (NO : Hid (∀ w, Calls Tryz.prog 30 #[] w fun e' w' => e' = .returned (.float .f32 2143289344) ∧ Within w w')) (w : World) : Calls Tryz.prog 31 #[.float .f64 a, .float .f64 b, .int .i64 mode] w fun e' w' => e' = .returned (.tuple #[.float .f32 2143289344, .int .i64 0]) ∧ Within w w' := by
  have hadd' := fun t w => m_float_nan .add t .f64 a b Tryz.prog w (.inr (.inl rfl)) hadd
  clear hadd
  go_enter Tryz.func31, Tryz.ntmps31
  go_wp2_with fail
  refine (NO.out _).mono ?_; rintro e5 w5 ⟨rfl, hb5⟩
  go_wp2
  go_ret2
  exact ⟨rfl, (by repeat (with_reducible first | exact Within.refl _ | assumption | refine Within.alloc ?_ _ | refine Within.drew ?_ | refine Within.setCell ?_ (by first | (simp; done) | (simp; omega)) _ | refine Within.trans ?_ (by assumption)))⟩
set_option maxRecDepth 100000 in
set_option maxHeartbeats 600000 in
theorem sum_nan_b (a b : Nat) (mode : Int) (hxa : (FloatKind.f64.format.order a a != some .eq) = false) (hxb : (FloatKind.f64.format.order b b != some .eq) = true) (hadd : Ieee.double.add a b = none) (NO : Hid (∀ w, Calls Tryz.prog 30 #[] w fun e' w' => e' = .returned (.float .f32 2143289344) ∧ Within w w')) (w : World) : Calls Tryz.prog 31 #[.float .f64 a, .float .f64 b, .int .i64 mode] w fun e' w' => e' = .returned (.tuple #[.float .f32 2143289344, .int .i64 0]) ∧ Within w w' := by
  have hadd' := fun t w => m_float_nan .add t .f64 a b Tryz.prog w (.inr (.inl rfl)) hadd
  clear hadd
  go_enter Tryz.func31, Tryz.ntmps31
  go_wp2_with fail
  refine (NO.out _).mono ?_; rintro e5 w5 ⟨rfl, hb5⟩
  go_wp2
  go_ret2
  exact ⟨rfl, (by repeat (with_reducible first | exact Within.refl _ | assumption | refine Within.alloc ?_ _ | refine Within.drew ?_ | refine Within.setCell ?_ (by first | (simp; done) | (simp; omega)) _ | refine Within.trans ?_ (by assumption)))⟩
set_option maxRecDepth 100000 in
set_option maxHeartbeats 600000 in
theorem sum_invalid (a b : Nat) (mode : Int) (hxa : (FloatKind.f64.format.order a a != some .eq) = false) (hxb : (FloatKind.f64.format.order b b != some .eq) = false) (hadd : Ieee.double.add a b = none) (hn : ∀ t, (FloatKind.f64.format.order ((Question.nanBits .f64 a b).cut t) ((Question.nanBits .f64 a b).cut t) != some .eq) = true) (NO : Hid (∀ w, Calls Tryz.prog 30 #[] w fun e' w' => e' = .returned (.float .f32 2143289344) ∧ Within w w')) (w : World) : Calls Tryz.prog 31 #[.float .f64 a, .float .f64 b, .int .i64 mode] w fun e' w' => e' = .returned (.tuple #[.float .f32 2143289344, .int .i64 8]) ∧ Within w w' := by
  have hadd' := fun t w => m_float_nan .add t .f64 a b Tryz.prog w (.inr (.inl rfl)) hadd
  clear hadd
  go_enter Tryz.func31, Tryz.ntmps31
  go_wp2_with fail
  refine (NO.out _).mono ?_; rintro e5 w5 ⟨rfl, hb5⟩
  go_wp2
  go_ret2
  exact ⟨rfl, (by repeat (with_reducible first | exact Within.refl _ | assumption | refine Within.alloc ?_ _ | refine Within.drew ?_ | refine Within.setCell ?_ (by first | (simp; done) | (simp; omega)) _ | refine Within.trans ?_ (by assumption)))⟩
set_option maxRecDepth 100000 in
set_option maxHeartbeats 600000 in
theorem sum_inf (a b : Nat) (mode : Int) (hxa : (FloatKind.f64.format.order a a != some .eq) = false) (hxb : (FloatKind.f64.format.order b b != some .eq) = false) (s : Nat) (hadd : Ieee.double.add a b = some s) (hxs : (FloatKind.f64.format.order s s != some .eq) = false) (FI : Hid (∀ w, Calls Tryz.prog 70 #[.float .f64 s] w fun e' w' => e' = .returned (.bool false) ∧ Within w w')) (r : Nat) (hc : floatToFloatBits .f64 s .f32 = some r) (w : World) : Calls Tryz.prog 31 #[.float .f64 a, .float .f64 b, .int .i64 mode] w fun e' w' => e' = .returned (.tuple #[.float .f32 r, .int .i64 0]) ∧ Within w w' := by
  have hadd' := fun t P w => run_float_arith (P := P) w .add t .f64 _ _ _ hadd
  clear hadd
  have hcv := fun (w : World) => run_convert_float_float (P := Tryz.prog) w 34 23 .f64 .f32 s r (by kernel_rfl) (by kernel_rfl) hc
  clear hc
  go_enter Tryz.func31, Tryz.ntmps31
  go_wp2_with fail
  refine (FI.out _).mono ?_; rintro e1 w1 ⟨rfl, hb1⟩
  go_wp2
  go_ret2
  exact ⟨rfl, (by repeat (with_reducible first | exact Within.refl _ | assumption | refine Within.alloc ?_ _ | refine Within.drew ?_ | refine Within.setCell ?_ (by first | (simp; done) | (simp; omega)) _ | refine Within.trans ?_ (by assumption)))⟩
set_option maxRecDepth 100000 in
set_option maxHeartbeats 600000 in
theorem sum_noughts (a b : Nat) (mode : Int) (hxa : (FloatKind.f64.format.order a a != some .eq) = false) (hxb : (FloatKind.f64.format.order b b != some .eq) = false) (s : Nat) (hadd : Ieee.double.add a b = some s) (hxs : (FloatKind.f64.format.order s s != some .eq) = false) (FI : Hid (∀ w, Calls Tryz.prog 70 #[.float .f64 s] w fun e' w' => e' = .returned (.bool true) ∧ w = w')) (hz : (FloatKind.f64.format.order s 0 == some .eq) = true) (ha0 : (FloatKind.f64.format.order a 0 != some .eq) = false) (p q : Bool) (r : Nat) (SA : Hid (∀ w, Calls Tryz.prog 79 #[.float .f64 a] w fun e' w' => e' = .returned (.bool p) ∧ w = w')) (SB : Hid (∀ w, Calls Tryz.prog 79 #[.float .f64 b] w fun e' w' => e' = .returned (.bool q) ∧ w = w')) (NT : Hid (∀ w, Calls Tryz.prog 78 #[.bool p, .bool q, .int .i64 mode] w fun e' w' => e' = .returned (.float .f32 r) ∧ w = w')) (w : World) : Calls Tryz.prog 31 #[.float .f64 a, .float .f64 b, .int .i64 mode] w fun e' w' => e' = .returned (.tuple #[.float .f32 r, .int .i64 0]) ∧ Within w w' := by
  have hadd' := fun t P w => run_float_arith (P := P) w .add t .f64 _ _ _ hadd
  clear hadd
  go_enter Tryz.func31, Tryz.ntmps31
  go_wp2_with fail
  refine (FI.out _).mono ?_; rintro e1 w1 ⟨rfl, rfl⟩
  go_wp2_with fail
  refine (SA.out _).mono ?_; rintro e2 w2 ⟨rfl, rfl⟩
  go_wp2_with fail
  refine (SB.out _).mono ?_; rintro e3 w3 ⟨rfl, rfl⟩
  go_wp2_with fail
  refine (NT.out _).mono ?_; rintro e4 w4 ⟨rfl, rfl⟩
  go_wp2
  go_ret2
  exact ⟨rfl, (by repeat (with_reducible first | exact Within.refl _ | assumption | refine Within.alloc ?_ _ | refine Within.drew ?_ | refine Within.setCell ?_ (by first | (simp; done) | (simp; omega)) _ | refine Within.trans ?_ (by assumption)))⟩
set_option maxRecDepth 100000 in
set_option maxHeartbeats 600000 in
theorem sum_main (a b : Nat) (mode : Int) (hxa : (FloatKind.f64.format.order a a != some .eq) = false) (hxb : (FloatKind.f64.format.order b b != some .eq) = false) (s : Nat) (hadd : Ieee.double.add a b = some s) (hxs : (FloatKind.f64.format.order s s != some .eq) = false) (FI : Hid (∀ w, Calls Tryz.prog 70 #[.float .f64 s] w fun e' w' => e' = .returned (.bool true) ∧ w = w')) (hz : (FloatKind.f64.format.order s 0 == some .eq) = false) (t u v x l : Nat) (k1 : Ieee.double.sub s a = some t) (k2 : Ieee.double.sub s t = some u) (k3 : Ieee.double.sub a u = some v) (k4 : Ieee.double.sub b t = some x) (k5 : Ieee.double.add v x = some l) (n : Bool) (m : Nat) (e : Int) (y r : Nat) (fl : Int) (NU : Hid (∀ w, Calls Tryz.prog 72 #[.float .f64 s, .float .f64 l] w fun e' w' => e' = .returned (.agg #[.bool n, .int .u64 m, .int .i64 e]) ∧ Within w w')) (RN : Hid (∀ w, Calls Tryz.prog 68 #[.agg #[.bool n, .int .u64 m, .int .i64 e], .agg #[.int .i64 24, .int .i64 (-126), .int .i64 127], .int .i64 mode] w fun e' w' => e' = .returned (.tuple #[.float .f64 y, .int .i64 fl]) ∧ Within w w')) (hc : floatToFloatBits .f64 y .f32 = some r) (w : World) (hT : FmS w) : Calls Tryz.prog 31 #[.float .f64 a, .float .f64 b, .int .i64 mode] w fun e' w' => e' = .returned (.tuple #[.float .f32 r, .int .i64 fl]) ∧ Within w w' := by
  have hadd' := fun t P w => run_float_arith (P := P) w .add t .f64 _ _ _ hadd
  clear hadd
  have k1' := fun t P w => run_float_arith (P := P) w .sub t .f64 _ _ _ k1
  have k2' := fun t P w => run_float_arith (P := P) w .sub t .f64 _ _ _ k2
  have k3' := fun t P w => run_float_arith (P := P) w .sub t .f64 _ _ _ k3
  have k4' := fun t P w => run_float_arith (P := P) w .sub t .f64 _ _ _ k4
  have k5' := fun t P w => run_float_arith (P := P) w .add t .f64 _ _ _ k5
  clear k1 k2 k3 k4 k5
  have hcv := fun (w : World) => run_convert_float_float (P := Tryz.prog) w 34 23 .f64 .f32 y r (by kernel_rfl) (by kernel_rfl) hc
  clear hc
  go_enter Tryz.func31, Tryz.ntmps31
  go_wp2_with fail
  refine (FI.out _).mono ?_; rintro e1 w1 ⟨rfl, rfl⟩
  go_wp2
  refine wp_region_within (by kernel_rfl) (by kernel_rfl) ?_
  repeat
    apply wpq_step rfl
    · intro wq hCq
      have q0 := (hT.of hCq).1; have q1 := (hT.of hCq).2.1; have q2 := (hT.of hCq).2.2
      go_simp
      first | rfl | exact hCq.call (NU.out _) | exact hCq.call (RN.out _) | (trace_state; fail)
    simp only [Act.put, List.setIfInBounds_toArray, List.set_cons_zero, List.set_cons_succ]
  refine wpQuiet_nil ?_
  intro w3 hb3
  go_wp2
  go_ret2
  exact ⟨rfl, (by repeat (with_reducible first | exact Within.refl _ | assumption | refine Within.alloc ?_ _ | refine Within.drew ?_ | refine Within.setCell ?_ (by first | (simp; done) | (simp; omega)) _ | refine Within.trans ?_ (by assumption)))⟩
set_option maxRecDepth 100000 in
set_option maxHeartbeats 600000 in
theorem add_bad (x y : Nat) (mode : Int) (KN : Hid (∀ w, Calls Tryz.prog 29 #[.int .i64 mode] w fun e' w' => e' = .returned (.bool false) ∧ w = w')) (w : World) : Calls Tryz.prog 19 #[.float .f32 x, .float .f32 y, .int .i64 mode] w fun e' w' => e' = .returned (.tuple #[.float .f32 0, .int .i64 0, .int .i64 20]) ∧ Within w w' := by
  go_enter Tryz.func19, Tryz.ntmps19
  go_wp2_with fail
  refine (KN.out _).mono ?_; rintro e1 w1 ⟨rfl, rfl⟩
  go_wp2
  go_ret3
  exact ⟨rfl, (by repeat (with_reducible first | exact Within.refl _ | assumption | refine Within.alloc ?_ _ | refine Within.drew ?_ | refine Within.setCell ?_ (by first | (simp; done) | (simp; omega)) _ | refine Within.trans ?_ (by assumption)))⟩
set_option maxRecDepth 100000 in
set_option maxHeartbeats 600000 in
theorem finite_inf (s : Nat) (hs : Ieee.double.sub s s = none) (hn : ∀ t, (FloatKind.f64.format.order ((Question.nanBits .f64 s s).cut t) 0 == some .eq) = false) (w : World) : Calls Tryz.prog 70 #[.float .f64 s] w fun e w' => e = .returned (.bool false) ∧ Within w w' := by
  have hf := fun t w => m_float_nan .sub t .f64 s s Tryz.prog w (.inl rfl) hs
  clear hs
  go_enter Tryz.func70, Tryz.ntmps70
  go_wp2
  go_ret
  exact ⟨rfl, (by repeat (with_reducible first | exact Within.refl _ | assumption | refine Within.alloc ?_ _ | refine Within.drew ?_ | refine Within.setCell ?_ (by first | (simp; done) | (simp; omega)) _ | refine Within.trans ?_ (by assumption)))⟩
set_option maxRecDepth 100000 in
set_option maxHeartbeats 600000 in
theorem add_nn (x y : Nat) (mode : Int) (KN : Hid (∀ w, Calls Tryz.prog 29 #[.int .i64 mode] w fun e' w' => e' = .returned (.bool true) ∧ w = w')) (gx : Bool) (ix : Nat) (hx : FloatKind.f32.decode x = .nan gx ix) (gy : Bool) (iy : Nat) (hy : FloatKind.f32.decode y = .nan gy iy) (SU : Hid (∀ tx ty w, Calls Tryz.prog 31 #[.float .f64 ((Question.nanConv .f64 x).cut tx), .float .f64 ((Question.nanConv .f64 y).cut ty), .int .i64 mode] w fun e' w' => e' = .returned (.tuple #[.float .f32 2143289344, .int .i64 0]) ∧ Within w w')) (w : World) : Calls Tryz.prog 19 #[.float .f32 x, .float .f32 y, .int .i64 mode] w fun e' w' => e' = .returned (.tuple #[.float .f32 2143289344, .int .i64 0, .int .i64 0]) ∧ Within w w' := by
  have cx := fun (w : World) => run_widen_nan 23 34 .f32 .f64 x Tryz.prog w (by decide) (by kernel_rfl) (by kernel_rfl) gx ix hx
  have cy := fun (w : World) => run_widen_nan 23 34 .f32 .f64 y Tryz.prog w (by decide) (by kernel_rfl) (by kernel_rfl) gy iy hy
  clear hx hy
  go_enter Tryz.func19, Tryz.ntmps19
  go_wp2_with fail
  refine (KN.out _).mono ?_; rintro e1 w1 ⟨rfl, rfl⟩
  go_wp2_with fail
  refine (SU.out _ _ _).mono ?_; rintro e2 w2 ⟨rfl, hb2⟩
  go_wp2
  go_ret3
  exact ⟨rfl, (by repeat (with_reducible first | exact Within.refl _ | assumption | refine Within.alloc ?_ _ | refine Within.drew ?_ | refine Within.setCell ?_ (by first | (simp; done) | (simp; omega)) _ | refine Within.trans ?_ (by assumption)))⟩
set_option maxRecDepth 100000 in
set_option maxHeartbeats 600000 in
theorem add_nf (x y b : Nat) (mode : Int) (KN : Hid (∀ w, Calls Tryz.prog 29 #[.int .i64 mode] w fun e' w' => e' = .returned (.bool true) ∧ w = w')) (gx : Bool) (ix : Nat) (hx : FloatKind.f32.decode x = .nan gx ix) (hy : floatToFloatBits .f32 y .f64 = some b) (SU : Hid (∀ tx w, Calls Tryz.prog 31 #[.float .f64 ((Question.nanConv .f64 x).cut tx), .float .f64 b, .int .i64 mode] w fun e' w' => e' = .returned (.tuple #[.float .f32 2143289344, .int .i64 0]) ∧ Within w w')) (w : World) : Calls Tryz.prog 19 #[.float .f32 x, .float .f32 y, .int .i64 mode] w fun e' w' => e' = .returned (.tuple #[.float .f32 2143289344, .int .i64 0, .int .i64 0]) ∧ Within w w' := by
  have cx := fun (w : World) => run_widen_nan 23 34 .f32 .f64 x Tryz.prog w (by decide) (by kernel_rfl) (by kernel_rfl) gx ix hx
  have cy := fun (w : World) => run_convert_float_float (P := Tryz.prog) w 23 34 .f32 .f64 y b (by kernel_rfl) (by kernel_rfl) hy
  clear hx hy
  go_enter Tryz.func19, Tryz.ntmps19
  go_wp2_with fail
  refine (KN.out _).mono ?_; rintro e1 w1 ⟨rfl, rfl⟩
  go_wp2_with fail
  refine (SU.out _ _).mono ?_; rintro e2 w2 ⟨rfl, hb2⟩
  go_wp2
  go_ret3
  exact ⟨rfl, (by repeat (with_reducible first | exact Within.refl _ | assumption | refine Within.alloc ?_ _ | refine Within.drew ?_ | refine Within.setCell ?_ (by first | (simp; done) | (simp; omega)) _ | refine Within.trans ?_ (by assumption)))⟩
set_option maxRecDepth 100000 in
set_option maxHeartbeats 600000 in
theorem add_fn (x y a : Nat) (mode : Int) (KN : Hid (∀ w, Calls Tryz.prog 29 #[.int .i64 mode] w fun e' w' => e' = .returned (.bool true) ∧ w = w')) (hx : floatToFloatBits .f32 x .f64 = some a) (gy : Bool) (iy : Nat) (hy : FloatKind.f32.decode y = .nan gy iy) (SU : Hid (∀ ty w, Calls Tryz.prog 31 #[.float .f64 a, .float .f64 ((Question.nanConv .f64 y).cut ty), .int .i64 mode] w fun e' w' => e' = .returned (.tuple #[.float .f32 2143289344, .int .i64 0]) ∧ Within w w')) (w : World) : Calls Tryz.prog 19 #[.float .f32 x, .float .f32 y, .int .i64 mode] w fun e' w' => e' = .returned (.tuple #[.float .f32 2143289344, .int .i64 0, .int .i64 0]) ∧ Within w w' := by
  have cx := fun (w : World) => run_convert_float_float (P := Tryz.prog) w 23 34 .f32 .f64 x a (by kernel_rfl) (by kernel_rfl) hx
  have cy := fun (w : World) => run_widen_nan 23 34 .f32 .f64 y Tryz.prog w (by decide) (by kernel_rfl) (by kernel_rfl) gy iy hy
  clear hx hy
  go_enter Tryz.func19, Tryz.ntmps19
  go_wp2_with fail
  refine (KN.out _).mono ?_; rintro e1 w1 ⟨rfl, rfl⟩
  go_wp2_with fail
  refine (SU.out _ _).mono ?_; rintro e2 w2 ⟨rfl, hb2⟩
  go_wp2
  go_ret3
  exact ⟨rfl, (by repeat (with_reducible first | exact Within.refl _ | assumption | refine Within.alloc ?_ _ | refine Within.drew ?_ | refine Within.setCell ?_ (by first | (simp; done) | (simp; omega)) _ | refine Within.trans ?_ (by assumption)))⟩
end Go.Proofs.YtifgngmebnjfkaaGreatDoor
end

section
namespace Go.Proofs.YtifgngmebnjfkaaGreatDoor
open Go.RowKit
/-! NaNs that are drawn -/
theorem nanb_gt (x y t : Nat) : 9218868437227405312 < (Question.nanBits .f64 x y).cut t % 9223372036854775808 := by
  have e : (Question.nanBits .f64 x y).cut t = (t % 2) * 2 ^ 63 + 0x7ff0000000000000 + 1 + (t / 2) % (2 ^ 52 - 1) := rfl
  have h1 : t / 2 % (2 ^ 52 - 1) < 4503599627370495 := Nat.mod_lt _ (by decide)
  rw [e]
  generalize t / 2 % (2 ^ 52 - 1) = r at *
  rcases Nat.mod_two_eq_zero_or_one t with h | h <;> rw [h] <;> omega
theorem nanc_gt (x t : Nat) : 9218868437227405312 < (Question.nanConv .f64 x).cut t % 9223372036854775808 := by
  have e : (Question.nanConv .f64 x).cut t = (t % 2) * 2 ^ 63 + 0x7ff0000000000000 + 1 + (t / 2) % (2 ^ 52 - 1) := rfl
  have h1 : t / 2 % (2 ^ 52 - 1) < 4503599627370495 := Nat.mod_lt _ (by decide)
  rw [e]
  generalize t / 2 % (2 ^ 52 - 1) = r at *
  rcases Nat.mod_two_eq_zero_or_one t with h | h <;> rw [h] <;> omega
theorem ne_true {a : Nat} (h : 9218868437227405312 < a % 9223372036854775808) : (FloatKind.f64.format.order a a != some .eq) = true := by rw [ne_self, decide_eq_true h]
theorem ne_false {a : Nat} (h : a % 9223372036854775808 ≤ 9218868437227405312) : (FloatKind.f64.format.order a a != some .eq) = false := by rw [ne_self, decide_eq_false (by omega)]
theorem nan_zero {a : Nat} (h : 9218868437227405312 < a % 9223372036854775808) : (FloatKind.f64.format.order a 0 == some .eq) = false := by
  show (Ieee.double.order a 0 == some .eq) = false
  rw [Fp.order64_nan a 0 (.inl (decide_eq_true h))]; rfl
theorem read_nanD {a : Nat} (h : 9218868437227405312 < a % 9223372036854775808) : ∃ s t, Ieee.double.read a = .nan s t := ⟨_, _, Fp.read_nan Ieee.double a (by rw [Fp.rg64, Fp.dI]; exact h) Fp.dBI⟩
theorem add_nan {a b : Nat} (h : 9218868437227405312 < a % 9223372036854775808 ∨ 9218868437227405312 < b % 9223372036854775808) : Ieee.double.add a b = none := by
  unfold Ieee.Format.add
  rcases h with h | h
  · obtain ⟨s, t, e⟩ := read_nanD h
    rw [e]; rfl
  · obtain ⟨s, t, e⟩ := read_nanD h
    rw [e]
    cases Ieee.double.read a <;> rfl
theorem decode_nan {x : Nat} (h : 2139095040 < x % 2147483648) : ∃ g i, FloatKind.f32.decode x = .nan g i := ⟨_, _, Fp.read_nan Ieee.single x (by rw [Fp.rg32, Fp.sI]; exact h) Fp.sBI⟩
def ngS (x : Nat) : Bool := decide (2147483648 ≤ x)
def uS (x : Nat) : Int := Fp.val (ngS x) (Fp.mag Ieee.single (x % 2147483648) * 2 ^ Fp.sgap)
theorem wide_ok {x : Nat} (hx : x < 4294967296) (hf : x % 2147483648 < 2139095040) : ∃ a, floatToFloatBits .f32 x .f64 = some a ∧ Fi a ∧ Fp.un Ieee.double a = uS x ∧ ngD a = ngS x ∧ (uS x).natAbs ≤ 2 ^ 1500 := by
  have hI := single_is hx hf
  obtain ⟨h1, h2⟩ := Fp.widen_is hI
  have hl := num_lt h2
  have J := Fp.Rep.is h2 (decide (2147483648 ≤ x))
  have e := num_sgn (decide (2147483648 ≤ x)) (Fp.mag Ieee.single (x % 2147483648) * 2 ^ Fp.sgap)
  have hF : Fi (Fp.num Ieee.double (decide (2147483648 ≤ x)) (Fp.mag Ieee.single (x % 2147483648) * 2 ^ Fp.sgap)) := by
    refine ⟨J.1, ?_⟩
    rw [e]; unfold sgnD; split <;> omega
  refine ⟨_, wbits_num hf hF.2 h1, hF, J.un, ?_, ?_⟩
  · rw [e]; unfold ngD ngS sgnD
    cases decide (2147483648 ≤ x)
    · rw [if_neg Bool.false_ne_true]; exact decide_eq_false (by omega)
    · rw [if_pos rfl]; exact decide_eq_true (by omega)
  · have hm : Fp.mag Ieee.single (x % 2147483648) ≤ Fp.mag Ieee.single Ieee.single.infRung := Fp.mag_mono Ieee.single (by rw [Fp.sI]; omega)
    obtain ⟨K, hK⟩ : ∃ K : Nat, K = 1500 := ⟨_, rfl⟩
    have hb : Fp.mag Ieee.single (x % 2147483648) * 2 ^ Fp.sgap ≤ 2 ^ K := by
      obtain ⟨J0, hJ⟩ : ∃ J0 : Nat, J0 = 253 := ⟨_, rfl⟩
      have e1 : Fp.mag Ieee.single Ieee.single.infRung = 2 ^ 24 * 2 ^ J0 := by rw [hJ]; decide +kernel
      rw [e1, ← Nat.pow_add] at hm
      refine Nat.le_trans (Nat.mul_le_mul_right _ hm) ?_
      rw [← Nat.pow_add]
      exact Nat.pow_le_pow_right (by decide) (by have := Fp.sgap_eq; omega)
    rw [← hK]
    unfold uS Fp.val
    generalize Fp.mag Ieee.single (x % 2147483648) * 2 ^ Fp.sgap = A at *
    generalize 2 ^ K = T at *
    split <;> omega
def noughtW (a b : Bool) (mode : Int) : Nat := if (a && b) || (a != b && decide (mode = 4)) then 2147483648 else 0
theorem nought_any (a b : Bool) (mode : Int) (w : World) : Calls Tryz.prog 78 #[.bool a, .bool b, .int .i64 mode] w fun e w' => e = .returned (.float .f32 (noughtW a b mode)) ∧ w = w' := by
  unfold noughtW
  cases a <;> cases b
  · exact nought_pp mode w
  · by_cases h : mode = 4
    · subst h; exact nought_false_down w
    · have : (false && true || (false != true && decide (mode = 4))) = false := by rw [decide_eq_false h]; rfl
      rw [this]; exact nought_false_other mode (by rw [beq_eq_false_iff_ne]; exact h) w
  · by_cases h : mode = 4
    · subst h; exact nought_true_down w
    · have : (true && false || (true != false && decide (mode = 4))) = false := by rw [decide_eq_false h]; rfl
      rw [this]; exact nought_true_other mode (by rw [beq_eq_false_iff_ne]; exact h) w
  · exact nought_nn mode w
/-! a number nudged -/
def nudM (S L : Int) : Nat := if L = 0 then 4 * top53 S.natAbs else if decide (0 < L) = decide (0 < S) then 4 * top53 S.natAbs + 1 else 4 * top53 S.natAbs - 1
def nudE (S : Int) : Int := (S.natAbs.log2 : Int) - 1128
theorem un_nat {s : Nat} (hs : Fi s) : magD s = (Fp.un Ieee.double s).natAbs ∧ (Fp.un Ieee.double s ≠ 0 → ngD s = decide (Fp.un Ieee.double s < 0)) := by
  have h := un_parts hs.1
  rw [h]
  refine ⟨by split <;> omega, fun h0 => ?_⟩
  cases hb : ngD s
  · rw [if_neg Bool.false_ne_true]; symm; exact decide_eq_false (by omega)
  · rw [hb, if_pos rfl] at h0
    rw [if_pos rfl]
    symm; exact decide_eq_true (by omega)
theorem eq_un0 {s : Nat} (hs : Fi s) : (FloatKind.f64.format.order s 0 == some .eq) = decide (Fp.un Ieee.double s = 0) := by
  rw [un_eq hs.le (by decide), zero_un]
theorem gt_un0 {s : Nat} (hs : Fi s) : (FloatKind.f64.format.order s 0 == some .gt) = decide (0 < Fp.un Ieee.double s) := by
  rw [un_gt hs.le (by decide), zero_un]
theorem nud_bounds {S L : Int} (h0 : S ≠ 0) (hR : Fp.Rep Ieee.double S.natAbs) : nudM S L ≠ 0 ∧ nudM S L < 18446744073709551616 ∧ -1128 ≤ nudE S ∧ nudE S ≤ 969 := by
  obtain ⟨t1, t2, t3, _⟩ := top53_bounds (n := S.natAbs) (by omega) hR
  unfold nudM nudE
  refine ⟨?_, ?_, by omega, by omega⟩
  · split
    · omega
    split <;> omega
  · split
    · omega
    split <;> omega
theorem nudge_le {s l : Nat} (hs : Fi s) (hl : l % 9223372036854775808 ≤ 9218868437227405312) (h0 : Fp.un Ieee.double s ≠ 0) (w : World) : Calls Tryz.prog 72 #[.float .f64 s, .float .f64 l] w fun e' w' => e' = .returned (.agg #[.bool (decide (Fp.un Ieee.double s < 0)), .int .u64 (nudM (Fp.un Ieee.double s) (Fp.un Ieee.double l)), .int .i64 (nudE (Fp.un Ieee.double s))]) ∧ Within w w' := by
  obtain ⟨m1, m2⟩ := un_nat hs
  have hR := magD_rep hs.2
  have hm0 : magD s ≠ 0 := by omega
  obtain ⟨t1, t2, t3, _⟩ := top53_bounds hm0 hR
  have TK := Lib.hid (fun w => take_any s (magD s) hs.1 hm0 hs.2 rfl w)
  have e1 : (decide (9223372036854775808 ≤ s)) = decide (Fp.un Ieee.double s < 0) := m2 h0
  rw [e1, m1] at TK
  rw [m1] at t1 t2 t3
  have hz : (FloatKind.f64.format.order l 0 == some .eq) = decide (Fp.un Ieee.double l = 0) := by rw [un_eq hl (by decide), zero_un]
  have hg : (FloatKind.f64.format.order l 0 == some .gt) = decide (0 < Fp.un Ieee.double l) := by rw [un_gt hl (by decide), zero_un]
  have hgs := gt_un0 hs
  unfold nudM nudE
  generalize Fp.un Ieee.double s = S at *
  generalize Fp.un Ieee.double l = L at *
  have e2 : (S.natAbs.log2 : Int) - 1128 = (S.natAbs.log2 : Int) - 1126 - 2 := by omega
  rw [e2]
  by_cases z : L = 0
  · rw [decide_eq_true z] at hz
    rw [if_pos z]
    exact nudge_zero s l (top53 S.natAbs) (4 * top53 S.natAbs - 1) _ (4 * top53 S.natAbs + 1) _ _ (by omega) rfl rfl (by omega) (by omega) (by omega) TK hz w
  rw [decide_eq_false z] at hz
  rw [if_neg z]
  by_cases g : decide (0 < L) = decide (0 < S)
  · rw [if_pos g]
    exact nudge_up s l (top53 S.natAbs) (4 * top53 S.natAbs - 1) (4 * top53 S.natAbs) _ _ _ (by omega) rfl rfl (by omega) (by omega) (by omega) TK hz _ hg (by rw [hgs, g]) w
  · rw [if_neg g]
    exact nudge_down s l (top53 S.natAbs) _ (4 * top53 S.natAbs) (4 * top53 S.natAbs + 1) _ _ (by omega) rfl rfl (by omega) (by omega) (by omega) TK hz _ hg (by rw [hgs]; revert g; cases decide (0 < L) <;> cases decide (0 < S) <;> decide) w
theorem nudge_any {s l : Nat} (hs : Fi s) (hl : Fi l) (h0 : Fp.un Ieee.double s ≠ 0) (w : World) : Calls Tryz.prog 72 #[.float .f64 s, .float .f64 l] w fun e' w' => e' = .returned (.agg #[.bool (decide (Fp.un Ieee.double s < 0)), .int .u64 (nudM (Fp.un Ieee.double s) (Fp.un Ieee.double l)), .int .i64 (nudE (Fp.un Ieee.double s))]) ∧ Within w w' := nudge_le hs hl.le h0 w
/-! what Add comes to, of numbers that are none of the NaNs and not both infinite -/
def addW (A B : Int) (na nb : Bool) (mode : Int) : Nat :=
  if sumS A B = 0 then (if A = 0 then noughtW na nb mode else noughtW false true mode)
  else sWord (decide (sumS A B < 0)) (nudM (sumS A B) (sumL A B)) (nudE (sumS A B)) mode
def addF (A B : Int) (mode : Int) : Int :=
  if sumS A B = 0 then 0 else rFlags 24 (-149) 127 (decide (sumS A B < 0)) (nudM (sumS A B) (sumL A B)) (nudE (sumS A B)) mode
theorem finite_ok {s : Nat} (hs : Fi s) (w : World) : Calls Tryz.prog 70 #[.float .f64 s] w fun e w' => e = .returned (.bool true) ∧ w = w' := by
  obtain ⟨z, z1, z2, z3⟩ := sub_ok hs hs (by rw [Int.sub_self]; exact Nat.zero_le _)
  rw [Int.sub_self, rn_zero] at z3
  exact finite_core s z true z1 (by rw [eq_un0 z2, z3]; rfl) w
theorem sum_fin {a b : Nat} {mode : Int} (ha : Fi a) (hb : Fi b) (h1 : (Fp.un Ieee.double a).natAbs ≤ 2 ^ 1500) (h2 : (Fp.un Ieee.double b).natAbs ≤ 2 ^ 1500) (hmode : 0 ≤ mode ∧ mode ≤ 4) (w : World) (hT : FmS w) : Calls Tryz.prog 31 #[.float .f64 a, .float .f64 b, .int .i64 mode] w fun e' w' => e' = .returned (.tuple #[.float .f32 (addW (Fp.un Ieee.double a) (Fp.un Ieee.double b) (decide (9223372036854775808 ≤ a)) (decide (9223372036854775808 ≤ b)) mode), .int .i64 (addF (Fp.un Ieee.double a) (Fp.un Ieee.double b) mode)]) ∧ Within w w' := by
  obtain ⟨s, t, u, v, x, l, k0, k1, k2, k3, k4, k5, hs, hl, e1, e2⟩ := sum_words ha hb h1 h2
  have FI := Lib.hid (fun w => finite_ok hs w)
  have hz := eq_un0 hs
  unfold addW addF
  rw [← e1, ← e2]
  by_cases z : Fp.un Ieee.double s = 0
  · rw [decide_eq_true z] at hz
    rw [if_pos z, if_pos z]
    have ha0 := eq_un0 ha
    by_cases a0 : Fp.un Ieee.double a = 0
    · rw [decide_eq_true a0] at ha0
      rw [if_pos a0]
      exact sum_noughts a b mode (ne_false ha.le) (ne_false hb.le) s k0 (ne_false hs.le) FI hz (by simp [bne, ha0]) _ _ _ (Lib.hid fun w => m_signbit a ha.1 w) (Lib.hid fun w => m_signbit b hb.1 w) (Lib.hid fun w => nought_any _ _ mode w) w
    · rw [decide_eq_false a0] at ha0
      rw [if_neg a0]
      exact sum_cancel a b s _ mode (ne_false ha.le) (ne_false hb.le) (ne_false hs.le) k0 FI hz (by simp [bne, ha0]) (Lib.hid fun w => nought_any false true mode w) w
  · rw [decide_eq_false z] at hz
    rw [if_neg z, if_neg z]
    have hR : Fp.Rep Ieee.double (Fp.un Ieee.double s).natAbs := by rw [← (un_nat hs).1]; exact magD_rep hs.2
    obtain ⟨b1, b2, b3, b4⟩ := nud_bounds (L := Fp.un Ieee.double l) z hR
    exact sum_main a b mode (ne_false ha.le) (ne_false hb.le) s k0 (ne_false hs.le) FI hz t u v x l k1 k2 k3 k4 k5 _ _ _ _ _ _ (Lib.hid fun w => nudge_any hs hl z w)
      (Lib.hid fun w => round_S (decide (Fp.un Ieee.double s < 0)) _ _ mode b1 b2 (by omega) (by omega) hmode w) (sWord_bits _ _ mode b1 b2) w hT
end Go.Proofs.YtifgngmebnjfkaaGreatDoor
end

section
namespace Go.Proofs.YtifgngmebnjfkaaGreatDoor
theorem log2_floor {X Y w : Nat} (h : X / 2 ^ w = Y / 2 ^ w) (h0 : X / 2 ^ w ≠ 0) : X.log2 = Y.log2 := by
  have key : ∀ X : Nat, X / 2 ^ w ≠ 0 → X.log2 = (X / 2 ^ w).log2 + w := by
    intro X h0
    have hX : X ≠ 0 := fun h => h0 (by rw [h, Nat.zero_div])
    have h1 := Nat.log2_self_le h0
    have h2 := Nat.lt_log2_self (n := X / 2 ^ w)
    have hp := Nat.two_pow_pos w
    have h3 : 2 ^ ((X / 2 ^ w).log2 + w) ≤ X := by
      rw [Nat.pow_add]
      exact (Nat.le_div_iff_mul_le hp).1 h1
    have h4 : X < 2 ^ ((X / 2 ^ w).log2 + w + 1) := by
      rw [show (X / 2 ^ w).log2 + w + 1 = ((X / 2 ^ w).log2 + 1) + w by omega, Nat.pow_add]
      exact (Nat.div_lt_iff_lt_mul hp).1 h2
    have a1 := (Nat.le_log2 hX).2 h3
    have a2 := (Nat.log2_lt hX).2 h4
    omega
  rw [key X h0, key Y (h ▸ h0), h]
theorem floor_up {X Y w d : Nat} (h : X / 2 ^ w = Y / 2 ^ w) (hx : X % 2 ^ w ≠ 0) (hy : Y % 2 ^ w ≠ 0) : X / 2 ^ (w + d) = Y / 2 ^ (w + d) ∧ (X % 2 ^ (w + d) = 0 ↔ Y % 2 ^ (w + d) = 0) := by
  rw [Nat.pow_add]
  refine ⟨by rw [← Nat.div_div_eq_div_mul, ← Nat.div_div_eq_div_mul, h], ?_⟩
  rw [Nat.mod_mul, Nat.mod_mul]
  omega
theorem rn_lost {z : Int} (h : rn z ≠ z) : ∃ c k : Nat, (rn z).natAbs = c * 2 ^ k ∧ 4503599627370496 ≤ c ∧ c < 9007199254740992 ∧ 1 ≤ k ∧ 2 * (z - rn z).natAbs ≤ 2 ^ k ∧ (rn z ≠ 0) ∧ (0 < rn z ↔ 0 < z) ∧ (rn z < 0 ↔ z < 0) := by
  obtain ⟨K, q, h1, h2, h3, h4, h5, h6⟩ := rn_spec z
  have hK : K ≠ 0 := by
    intro h0
    subst h0
    exact h (h6 (by rw [Nat.pow_zero]; exact Nat.mod_one _))
  have h4 := h4 hK
  have hp := Nat.two_pow_pos K
  have hq : (rn z).natAbs = q.natAbs * 2 ^ K := by rw [h1, natAbs_mul_pow]
  have hl : 4503599627370496 ≤ q.natAbs := by
    have a : 4503599627370495 * 2 ^ K < q.natAbs * 2 ^ K := by
      rw [← hq]
      generalize 2 ^ K = Z at *
      omega
    have := Nat.lt_of_mul_lt_mul_right a
    omega
  have hs : (rn z ≠ 0) ∧ (0 < rn z ↔ 0 < z) ∧ (rn z < 0 ↔ z < 0) := by
    generalize 2 ^ K = Z at *
    generalize rn z = S at *
    omega
  have h5' : 2 * (z - rn z).natAbs ≤ 2 ^ K := by omega
  rcases Nat.lt_or_ge q.natAbs 9007199254740992 with hc | hc
  · exact ⟨q.natAbs, K, hq, hl, hc, by omega, h5', hs⟩
  · have e : q.natAbs = 4503599627370496 * 2 := by omega
    refine ⟨4503599627370496, K + 1, ?_, Nat.le_refl _, by decide, by omega, ?_, hs⟩
    · rw [hq, e, Nat.pow_succ, Nat.mul_assoc, Nat.mul_comm 2]
    · rw [Nat.pow_succ]; omega
theorem floor_at (W q r : Nat) (h : r < W) : (q * W + r) / W = q ∧ (q * W + r) % W = r := by
  have hp : 0 < W := by omega
  refine ⟨?_, ?_⟩
  · rw [Nat.mul_comm, Nat.mul_add_div hp, Nat.div_eq_of_lt h, Nat.add_zero]
  · rw [Nat.mul_comm, Nat.mul_add_mod, Nat.mod_eq_of_lt h]
theorem nud_floor {z : Int} (hl : rn z ≠ z) : ∃ k c' : Nat, 1 ≤ k ∧ c' ≠ 0 ∧ nudE (rn z) = (k : Int) - 1076 ∧ 9007199254740992 ≤ nudM (rn z) (z - rn z) ∧ nudM (rn z) (z - rn z) < 18446744073709551616 ∧
    z.natAbs * 2 ^ 2 / 2 ^ (k + 2) = c' ∧ z.natAbs * 2 ^ 2 % 2 ^ (k + 2) ≠ 0 ∧ nudM (rn z) (z - rn z) * 2 ^ k / 2 ^ (k + 2) = c' ∧ nudM (rn z) (z - rn z) * 2 ^ k % 2 ^ (k + 2) ≠ 0 := by
  obtain ⟨c, k, h1, h2, h3, h4, h5, h6, h7, h8⟩ := rn_lost hl
  obtain ⟨t1, t2⟩ := top53_eq (n := (rn z).natAbs) (by omega) h2 h3 h1
  have hE : nudE (rn z) = (k : Int) - 1076 := by unfold nudE; rw [t2]; omega
  have hp := Nat.two_pow_pos k
  have hW : 2 ^ (k + 2) = 4 * 2 ^ k := by rw [Nat.pow_add, Nat.mul_comm]
  have hL0 : z - rn z ≠ 0 := by omega
  have hM : nudM (rn z) (z - rn z) = if decide (0 < z - rn z) = decide (0 < rn z) then 4 * c + 1 else 4 * c - 1 := by unfold nudM; rw [if_neg hL0, t1]
  obtain ⟨l, hl1⟩ : ∃ l, l = (z - rn z).natAbs := ⟨_, rfl⟩
  rw [← hl1] at h5
  have hl0 : 1 ≤ l := by omega
  rw [hM, show (2 : Nat) ^ 2 = 4 from rfl]
  by_cases hs : decide (0 < z - rn z) = decide (0 < rn z)
  · rw [if_pos hs]
    rw [decide_eq_decide] at hs
    have hz : z.natAbs = c * 2 ^ k + l := by
      rw [← h1]
      omega
    have e1 : z.natAbs * 4 = c * (4 * 2 ^ k) + 4 * l := by rw [hz, Nat.add_mul, Nat.mul_assoc, Nat.mul_comm (2 ^ k) 4, Nat.mul_comm l]
    have e2 : (4 * c + 1) * 2 ^ k = c * (4 * 2 ^ k) + 2 ^ k := by rw [Nat.add_mul, Nat.one_mul, Nat.mul_comm 4 c, Nat.mul_assoc]
    obtain ⟨f1, f2⟩ := floor_at (4 * 2 ^ k) c (4 * l) (by omega)
    obtain ⟨g1, g2⟩ := floor_at (4 * 2 ^ k) c (2 ^ k) (by omega)
    exact ⟨k, c, h4, by omega, hE, by omega, by omega, by rw [hW, e1, f1], by rw [hW, e1, f2]; omega, by rw [hW, e2, g1], by rw [hW, e2, g2]; omega⟩
  · rw [if_neg hs]
    rw [decide_eq_decide] at hs
    obtain ⟨d, rfl⟩ : ∃ d, c = d + 1 := ⟨c - 1, by omega⟩
    have hz : z.natAbs + l = (d + 1) * 2 ^ k := by
      rw [← h1]
      omega
    rw [Nat.add_mul, Nat.one_mul] at hz
    have e1 : z.natAbs * 4 = d * (4 * 2 ^ k) + (4 * 2 ^ k - 4 * l) := by
      rw [← Nat.mul_assoc, Nat.mul_comm d 4, Nat.mul_assoc]
      generalize d * 2 ^ k = Q at *
      omega
    have e2 : (4 * (d + 1) - 1) * 2 ^ k = d * (4 * 2 ^ k) + 3 * 2 ^ k := by rw [show 4 * (d + 1) - 1 = 4 * d + 3 by omega, Nat.add_mul, Nat.mul_comm 4 d, Nat.mul_assoc]
    obtain ⟨f1, f2⟩ := floor_at (4 * 2 ^ k) d (4 * 2 ^ k - 4 * l) (by omega)
    obtain ⟨g1, g2⟩ := floor_at (4 * 2 ^ k) d (3 * 2 ^ k) (by omega)
    exact ⟨k, d, h4, by omega, hE, by omega, by omega, by rw [hW, e1, f1], by rw [hW, e1, f2]; omega, by rw [hW, e2, g1], by rw [hW, e2, g2]; omega⟩
theorem nud_near {z : Int} (hl : rn z ≠ z) {D lo : Int} (hD : D ≤ 40) (ng : Bool) (mode : Int) :
    gK D lo z.natAbs (-1074) = rK D lo (nudM (rn z) (z - rn z)) (nudE (rn z)) ∧ gQ D lo ng z.natAbs (-1074) false mode = rQ D lo ng (nudM (rn z) (z - rn z)) (nudE (rn z)) mode ∧
    (decide (-2 < gc D lo z.natAbs (-1074) false) = rLost D lo (nudM (rn z) (z - rn z)) (nudE (rn z))) ∧ -1074 + (blen z.natAbs : Int) = nudE (rn z) + (Lib.bitLen (nudM (rn z) (z - rn z)) : Nat) := by
  obtain ⟨k, c, hk, hc, hE, hm1, hm2, x1, x2, y1, y2⟩ := nud_floor hl
  obtain ⟨m, hm⟩ : ∃ m, m = nudM (rn z) (z - rn z) := ⟨_, rfl⟩
  rw [← hm] at hm1 hm2 y1 y2
  rw [← hm, hE]
  have hz0 : z.natAbs ≠ 0 := fun h => x2 (by rw [h, Nat.zero_mul, Nat.zero_mod])
  have hl2 : (z.natAbs * 2 ^ 2).log2 = (m * 2 ^ k).log2 := log2_floor (x1.trans y1.symm) (by rw [x1]; exact hc)
  rw [Fp.log2_mul_pow _ _ hz0, Fp.log2_mul_pow _ _ (by omega)] at hl2
  have hbm : Lib.bitLen m = m.log2 + 1 := by rw [← blen_bitLen hm2, blen_pos (by omega)]
  have hb : -1074 + (blen z.natAbs : Int) = (k : Int) - 1076 + (Lib.bitLen m : Nat) := by
    rw [blen_pos hz0, hbm]; omega
  have hml : 53 ≤ m.log2 := (Nat.le_log2 (by omega)).2 hm1
  have hK : (k : Int) - 1076 + 14 ≤ rK D lo m ((k : Int) - 1076) := by
    have : (k : Int) - 1076 + (Lib.bitLen m : Nat) - D ≤ rK D lo m ((k : Int) - 1076) := Int.le_max_left _ _
    omega
  obtain ⟨t, ht⟩ : ∃ t : Nat, rK D lo m ((k : Int) - 1076) + ((1076 : Nat) : Int) = (t : Int) + 1 := ⟨(rK D lo m ((k : Int) - 1076) + 1075).toNat, by omega⟩
  obtain ⟨d, hd⟩ : ∃ d, t = k + 2 + d := ⟨t - (k + 2), by omega⟩
  obtain ⟨f1, f2⟩ := floor_up (d := d) (x1.trans y1.symm) x2 y2
  rw [← hd] at f1 f2
  have e1 : ((k : Int) - 1076 + ((1076 : Nat) : Int)).toNat = k := by omega
  have e2 : ((-1074 : Int) + ((1076 : Nat) : Int)).toNat = 2 := by decide
  obtain ⟨r1, r2, r3⟩ := g_near (D := D) (lo := lo) (ng := ng) (mode := mode) (m := m) (M := z.natAbs) (e := (k : Int) - 1076) (E := -1074) 1076 t (by omega) (by decide) ht hb (by rw [e1, e2]; exact f1) (by rw [e1, e2]; exact f2)
  exact ⟨r1, r2, r3, hb⟩
end Go.Proofs.YtifgngmebnjfkaaGreatDoor
end

section
namespace Go.Proofs.YtifgngmebnjfkaaGreatDoor
theorem top_value {n M : Nat} {E : Int} (J : Nat) (hJ : 1200 ≤ J) (h0 : n ≠ 0) (hr : Fp.Rep Ieee.double n) (hE : -1074 ≤ E) (h : n = M * 2 ^ (E + 1074).toNat) :
    top53 n * 2 ^ ((n.log2 : Int) - 1126 + J).toNat = M * 2 ^ (E + J).toNat := by
  obtain ⟨t1, t2, t3, t4⟩ := top53_bounds h0 hr
  have e1 : ((n.log2 : Int) - 1126 + J).toNat = n.log2 + (J - 1126) := by omega
  have e2 : (E + J).toNat = (E + 1074).toNat + (J - 1126) + 52 := by omega
  rw [e1, e2, Nat.pow_add, Nat.pow_add, Nat.pow_add, ← Nat.mul_assoc, ← Nat.mul_assoc, ← Nat.mul_assoc, ← h, t4]
  rw [Nat.mul_right_comm]
theorem narrow_word {x : Nat} {mode : Int} (hmode : 0 ≤ mode ∧ mode ≤ 4) : sWS (kD x) (nD x) (mD x) (eD x) mode = nWord x mode ∧ sFS (kD x) (nD x) (mD x) (eD x) mode = nFlags x mode := by
  have hm : ¬¬(0 ≤ mode ∧ mode ≤ 4) := fun h => h hmode
  unfold nWord nFlags
  rw [if_neg hm, if_neg hm]
  by_cases hn : 9218868437227405312 < x % 9223372036854775808
  · rw [if_pos hn, if_pos hn]
    have hk : kD x = 2 := by unfold kD tK; rw [if_pos (by omega), if_neg (by omega)]
    rw [hk, sWS_nan, sFS_nan]; exact ⟨rfl, rfl⟩
  rw [if_neg hn, if_neg hn]
  by_cases hi : x % 9223372036854775808 = 9218868437227405312
  · have hk : kD x = 1 := by unfold kD tK; rw [if_pos (by omega), if_pos (by omega)]
    have hng : nD x = ngD x := by unfold nD tN ngD; rw [if_neg (by omega)]
    have hz : ¬ x % 9223372036854775808 = 0 := by omega
    rw [if_neg hz, if_neg hz, if_pos hi, if_pos hi, hk, sWS_inf, sFS_inf, hng]; exact ⟨rfl, rfl⟩
  obtain ⟨g1, g2, g3, g4⟩ := mD_mag (x := x) (by omega)
  by_cases hz : x % 9223372036854775808 = 0
  · rw [if_pos hz, if_pos hz, g2, g3, g4.2 hz, sWS_zero, sFS_zero]; exact ⟨rfl, rfl⟩
  rw [if_neg hz, if_neg hz, if_neg hi, if_neg hi, g2, g3, sWS_main _ (fun h => hz (g4.1 h)), sFS_main _ (fun h => hz (g4.1 h))]
  have h0 : magD x ≠ 0 := fun h => hz (magD_zero.1 h)
  have hr := magD_rep (a := x) (by omega)
  obtain ⟨t1, t2, t3, t4⟩ := top53_bounds h0 hr
  have hE := eD_lo x g2
  have hv := top_value 1200 (Nat.le_refl _) h0 hr hE g1
  obtain ⟨k1, k2, k3, k4, _⟩ := g_is_r (D := 24) (lo := -149) (ng := ngD x) (mode := mode) 1200 (by omega) (by omega) (by omega) (by omega) (by omega) hv
  have hq := (rQ_le (D := 24) (lo := -149) (ngD x) (((magD x).log2 : Int) - 1126) mode (m := top53 (magD x)) (by omega) (by omega) (by decide)).1
  obtain ⟨f1, f2⟩ := gFlags_is (D := 24) (lo := -149) (most := 127) (ng := ngD x) (mode := mode) 1200 (by omega) (by omega) (by omega) (by omega) (by omega) hv (by
    have : rQ 24 (-149) (ngD x) (top53 (magD x)) (((magD x).log2 : Int) - 1126) mode ≤ 2 ^ 24 := hq
    omega)
  refine ⟨?_, f1⟩
  unfold gWord sWord
  rw [f2, topR_is, grid_of_num]
  have hfull := fun h => gQ_full (D := 24) (lo := -149) (ngD x) (M := mD x) (e := eD x) false mode (fun h => hz (g4.1 h)) (by decide) h
  have hg : Fp.grid Ieee.single (rQ 24 (-149) (ngD x) (top53 (magD x)) (((magD x).log2 : Int) - 1126) mode * 2 ^ (rK 24 (-149) (top53 (magD x)) (((magD x).log2 : Int) - 1126) + 149).toNat) 0 = (gK 24 (-149) (mD x) (eD x) - -149).toNat * 8388608 + gQ 24 (-149) (ngD x) (mD x) (eD x) false mode := by
    have hlo : (-149 : Int) ≤ gK 24 (-149) (mD x) (eD x) := Int.le_max_right _ _
    have := grid_rung Ieee.single 23 (rQ 24 (-149) (ngD x) (top53 (magD x)) (((magD x).log2 : Int) - 1126) mode) (rK 24 (-149) (top53 (magD x)) (((magD x).log2 : Int) - 1126) + 149).toNat rfl hq (by
      rcases Int.lt_or_le (-149) (gK 24 (-149) (mD x) (eD x)) with h | h
      · left; have := hfull h; rw [← k2]; exact this
      · right; rw [← k1]; omega)
    rw [this, k2, ← k1, show (gK 24 (-149) (mD x) (eD x) - -149) = (gK 24 (-149) (mD x) (eD x) + 149) by omega]
  rw [hg]
  rfl
end Go.Proofs.YtifgngmebnjfkaaGreatDoor
end

section
namespace Go.Proofs.YtifgngmebnjfkaaGreatDoor
theorem g_same {D lo : Int} {ng : Bool} {M M' : Nat} {E E' mode : Int} (J : Nat) (h1 : 0 ≤ E + J) (h2 : 0 ≤ E' + J) (h3 : 0 ≤ lo + J) (hM : M ≠ 0) (hv : M * 2 ^ (E + J).toNat = M' * 2 ^ (E' + J).toNat) :
    gK D lo M E = gK D lo M' E' ∧ gQ D lo ng M E false mode = gQ D lo ng M' E' false mode ∧ ((-2 < gc D lo M E false) ↔ (-2 < gc D lo M' E' false)) ∧ E + (blen M : Nat) = E' + (blen M' : Nat) ∧ M' ≠ 0 := by
  have hM0 : M' ≠ 0 := by
    intro h; rw [h, Nat.zero_mul] at hv
    exact Nat.mul_ne_zero hM (Nat.ne_of_gt (Nat.two_pow_pos _)) hv
  have hb : E + (blen M : Nat) = E' + (blen M' : Nat) := by
    have b1 := blen_mul M (E + J).toNat hM
    have b2 := blen_mul M' (E' + J).toNat hM0
    rw [hv, b2] at b1
    omega
  have hk : gK D lo M E = gK D lo M' E' := by unfold gK; rw [hb]
  have hk0 : 0 ≤ gK D lo M E + J := by have : lo ≤ gK D lo M E := Int.le_max_right _ _; omega
  refine ⟨hk, ?_, ?_, hb, hM0⟩
  · rw [gQ_fine D lo ng M E mode J h1 hk0, gQ_fine D lo ng M' E' mode J h2 (by omega), hk, hv]
  · rw [gc_fine D lo M E J h1 hk0, gc_fine D lo M' E' J h2 (by omega), hk, hv]
theorem gWord_same {D lo most : Int} {top inf FR SG : Nat} {ng : Bool} {M M' : Nat} {E E' mode : Int} (J : Nat) (h1 : 0 ≤ E + J) (h2 : 0 ≤ E' + J) (h3 : 0 ≤ lo + J) (hM : M ≠ 0) (hv : M * 2 ^ (E + J).toNat = M' * 2 ^ (E' + J).toNat) :
    gWord D lo most top inf FR SG ng M E false mode = gWord D lo most top inf FR SG ng M' E' false mode ∧ gFlags D lo most ng M E false mode = gFlags D lo most ng M' E' false mode := by
  obtain ⟨k1, k2, k3, k4, _⟩ := g_same (D := D) (lo := lo) (ng := ng) (mode := mode) J h1 h2 h3 hM hv
  have ho : gOver D lo most ng M E false mode = gOver D lo most ng M' E' false mode := by unfold gOver; rw [k1, k2]
  unfold gWord gFlags gFl
  rw [ho, k1, k2, k4]
  refine ⟨rfl, ?_⟩
  simp only [k3]
theorem gWordS_of {ng : Bool} {m M : Nat} {e E mode : Int} (hm0 : m ≠ 0) (hm : m < 18446744073709551616) (hM0 : M ≠ 0)
    (k1 : gK 24 (-149) M E = rK 24 (-149) m e) (k2 : gQ 24 (-149) ng M E false mode = rQ 24 (-149) ng m e mode) (k3 : decide (-2 < gc 24 (-149) M E false) = rLost 24 (-149) m e) (k4 : E + (blen M : Nat) = e + (Lib.bitLen m : Nat)) :
    gWord 24 (-149) 127 2139095039 2139095040 8388608 2147483648 ng M E false mode = sWord ng m e mode ∧ gFlags 24 (-149) 127 ng M E false mode = rFlags 24 (-149) 127 ng m e mode := by
  have hq := (rQ_le (D := 24) (lo := -149) ng e mode hm0 hm (by decide)).1
  have f2 : gOver 24 (-149) 127 ng M E false mode = rOver 24 (-149) 127 ng m e mode := by
    unfold gOver rOver; rw [k1, k2, blen_bitLen (by
      have : rQ 24 (-149) ng m e mode ≤ 2 ^ 24 := hq
      omega)]
  refine ⟨?_, ?_⟩
  · unfold gWord sWord
    rw [f2, topR_is, grid_of_num]
    have hfull := fun h => gQ_full (D := 24) (lo := -149) ng (M := M) (e := E) false mode hM0 (by decide) h
    have hg : Fp.grid Ieee.single (rQ 24 (-149) ng m e mode * 2 ^ (rK 24 (-149) m e + 149).toNat) 0 = (gK 24 (-149) M E - -149).toNat * 8388608 + gQ 24 (-149) ng M E false mode := by
      have := grid_rung Ieee.single 23 (rQ 24 (-149) ng m e mode) (rK 24 (-149) m e + 149).toNat rfl hq (by
        rcases Int.lt_or_le (-149) (gK 24 (-149) M E) with h | h
        · left; have := hfull h; rw [← k2]; exact this
        · right; rw [← k1]; omega)
      rw [this, k2, ← k1, show (gK 24 (-149) M E - -149) = (gK 24 (-149) M E + 149) by omega]
    rw [hg]; rfl
  · unfold gFlags rFlags gFl
    rw [f2, k4, ← k3]
    by_cases h : rOver 24 (-149) 127 ng m e mode = true
    · rw [if_pos h, if_pos h]
    · rw [if_neg h, if_neg h]
      by_cases h2 : -2 < gc 24 (-149) M E false
      · rw [if_pos h2, if_pos (decide_eq_true h2)]
      · rw [if_neg h2, decide_eq_false h2, if_neg Bool.false_ne_true]
theorem gWordS_of_exact {ng : Bool} {m l M : Nat} {mode : Int} (hm0 : m ≠ 0) (hm : m < 18446744073709551616) (hv : m * 2 ^ l = M * 2 ^ 54) :
    gWord 24 (-149) 127 2139095039 2139095040 8388608 2147483648 ng M (-1074) false mode = sWord ng m ((l : Int) - 1128) mode ∧ gFlags 24 (-149) 127 ng M (-1074) false mode = rFlags 24 (-149) 127 ng m ((l : Int) - 1128) mode := by
  obtain ⟨k1, k2, k3, k4, hM0⟩ := g_is_r (D := 24) (lo := -149) (ng := ng) (mode := mode) (m := m) (M := M) (e := (l : Int) - 1128) (E := -1074) 1128 (by omega) (by decide) (by decide) hm0 hm
    (by rw [show ((l : Int) - 1128 + ((1128 : Nat) : Int)).toNat = l by omega, show ((-1074 : Int) + ((1128 : Nat) : Int)).toNat = 54 by decide]; exact hv)
  exact gWordS_of hm0 hm hM0 k1 k2 k3 k4
def xWord (z : Int) (mode : Int) : Nat := gWord 24 (-149) 127 2139095039 2139095040 8388608 2147483648 (decide (z < 0)) z.natAbs (-1074) false mode
def xFlags (z : Int) (mode : Int) : Int := gFlags 24 (-149) 127 (decide (z < 0)) z.natAbs (-1074) false mode
theorem nud_word {z : Int} (hz : z ≠ 0) (hr : Fp.Rep Ieee.double (rn z).natAbs) (mode : Int) :
    rn z ≠ 0 ∧ (decide (rn z < 0) = decide (z < 0)) ∧ xWord z mode = sWord (decide (z < 0)) (nudM (rn z) (z - rn z)) (nudE (rn z)) mode ∧ xFlags z mode = rFlags 24 (-149) 127 (decide (z < 0)) (nudM (rn z) (z - rn z)) (nudE (rn z)) mode := by
  unfold xWord xFlags
  by_cases h : rn z = z
  · have h0 : z.natAbs ≠ 0 := by omega
    rw [h] at hr ⊢
    refine ⟨hz, rfl, ?_⟩
    obtain ⟨t1, t2, t3, t4⟩ := top53_bounds h0 hr
    have hM : nudM z (z - z) = 4 * top53 z.natAbs := by unfold nudM; rw [if_pos (Int.sub_self z)]
    have hE : nudE z = (z.natAbs.log2 : Int) - 1128 := rfl
    rw [hM, hE]
    refine gWordS_of_exact (by omega) (by omega) ?_
    rw [show 4 * top53 z.natAbs * 2 ^ z.natAbs.log2 = 4 * (top53 z.natAbs * 2 ^ z.natAbs.log2) from Nat.mul_assoc _ _ _, t4, show (2 : Nat) ^ 54 = 4 * 2 ^ 52 from rfl]
    exact Nat.mul_left_comm _ _ _
  · obtain ⟨c, k, h1, h2, h3, h4, h5, h6, h7, h8⟩ := rn_lost h
    obtain ⟨k', c', _, _, _, hm1, hm2, _⟩ := nud_floor h
    obtain ⟨g1, g2, g3, g4⟩ := nud_near h (D := 24) (lo := -149) (by decide) (decide (z < 0)) mode
    exact ⟨h6, decide_eq_decide.2 h8, gWordS_of (by omega) hm2 (by omega) g1 g2 g3 g4⟩
def eSumW (z A : Int) (na nb : Bool) (mode : Int) : Nat := if z = 0 then (if A = 0 then noughtW na nb mode else noughtW false true mode) else xWord z mode
def eSumF (z mode : Int) : Int := if z = 0 then 0 else xFlags z mode
theorem add_is {A B : Int} (hA : RepZ A) (hB : RepZ B) (hr : Fp.Rep Ieee.double (rn (A + B)).natAbs) (na nb : Bool) (mode : Int) : addW A B na nb mode = eSumW (A + B) A na nb mode ∧ addF A B mode = eSumF (A + B) mode := by
  have hL := two_sum hA hB
  unfold addW addF eSumW eSumF
  rw [hL]
  unfold sumS
  by_cases h : A + B = 0
  · rw [h, rn_zero, if_pos rfl, if_pos rfl, if_pos rfl, if_pos rfl]; exact ⟨rfl, rfl⟩
  · obtain ⟨h1, h2, h3, h4⟩ := nud_word h hr mode
    rw [if_neg h1, if_neg h1, if_neg h, if_neg h, h2, h3, h4]; exact ⟨rfl, rfl⟩
end Go.Proofs.YtifgngmebnjfkaaGreatDoor
end

section
namespace Go.Proofs.YtifgngmebnjfkaaGreatDoor
def Like (t X Y : Nat) : Prop := X / 2 ^ t = Y / 2 ^ t ∧ (X % 2 ^ t = 0 ↔ Y % 2 ^ t = 0)
theorem Like.refl (t X : Nat) : Like t X X := ⟨rfl, Iff.rfl⟩
theorem Like.symm {t X Y : Nat} (h : Like t X Y) : Like t Y X := ⟨h.1.symm, h.2.symm⟩
theorem Like.up {t X Y : Nat} (h : Like t X Y) (d : Nat) : Like (t + d) X Y := by
  obtain ⟨h1, h2⟩ := h
  unfold Like
  rw [Nat.pow_add]
  refine ⟨by rw [← Nat.div_div_eq_div_mul, ← Nat.div_div_eq_div_mul, h1], ?_⟩
  rw [Nat.mod_mul, Nat.mod_mul, h1]
  omega
theorem Like.to {t u X Y : Nat} (h : Like t X Y) (hu : t ≤ u) : Like u X Y := by
  obtain ⟨d, rfl⟩ : ∃ d, u = t + d := ⟨u - t, by omega⟩
  exact h.up d
theorem Like.scale {t X Y : Nat} (h : Like t X Y) (a : Nat) : Like (t + a) (X * 2 ^ a) (Y * 2 ^ a) := by
  obtain ⟨h1, h2⟩ := h
  have hp := Nat.two_pow_pos a
  unfold Like
  rw [Nat.pow_add, Nat.mul_div_mul_right _ _ hp, Nat.mul_div_mul_right _ _ hp, Nat.mul_mod_mul_right, Nat.mul_mod_mul_right]
  refine ⟨h1, ?_⟩
  rw [Nat.mul_eq_zero, Nat.mul_eq_zero]
  omega
theorem Like.log2 {t X Y : Nat} (h : Like t X Y) (h0 : X / 2 ^ t ≠ 0) : X.log2 = Y.log2 := log2_floor h.1 h0
theorem floor_ne {t X : Nat} (hX : X ≠ 0) (h : t ≤ X.log2) : X / 2 ^ t ≠ 0 := by
  have h1 : 2 ^ t ≤ X := (Nat.le_log2 hX).1 h
  have := (Nat.le_div_iff_mul_le (Nat.two_pow_pos t)).2 (by rw [Nat.one_mul]; exact h1)
  omega
theorem div_mod_eq {X Z c : Nat} (hZ : 0 < Z) : c * Z = X ↔ X / Z = c ∧ X % Z = 0 := by
  constructor
  · rintro rfl
    exact ⟨Nat.mul_div_cancel _ hZ, Nat.mul_mod_left _ _⟩
  · rintro ⟨h1, h2⟩
    have := Nat.div_add_mod X Z
    rw [h1, h2, Nat.mul_comm] at this
    exact this
theorem Like.cmp {t X Y : Nat} (h : Like t X Y) (c : Nat) : (X < c * 2 ^ t ↔ Y < c * 2 ^ t) ∧ (c * 2 ^ t = X ↔ c * 2 ^ t = Y) := by
  have hp := Nat.two_pow_pos t
  refine ⟨?_, ?_⟩
  · rw [← Nat.div_lt_iff_lt_mul hp, ← Nat.div_lt_iff_lt_mul hp, h.1]
  · rw [div_mod_eq hp, div_mod_eq hp, h.1, h.2]
theorem rne_cut (m s : Nat) : Fp.rne m (2 ^ s) = cutQ m s false 0 := by
  have hp := Nat.two_pow_pos s
  unfold Fp.rne cutQ goes
  congr 1
  by_cases h : m % 2 ^ s = 0
  · rw [if_pos h, if_neg (by rw [h]; omega)]; rfl
  · rw [if_neg h, if_pos rfl]
    by_cases h2 : 2 ^ s < 2 * (m % 2 ^ s) ∨ (2 ^ s = 2 * (m % 2 ^ s) ∧ m / 2 ^ s % 2 = 1)
    · rw [if_pos h2]
      rcases h2 with h2 | ⟨h2, h3⟩
      · rw [decide_eq_true h2]; rfl
      · rw [decide_eq_true h2, decide_eq_true h3]; simp
    · rw [if_neg h2]
      rw [decide_eq_false (fun k => h2 (.inl k))]
      by_cases h3 : 2 ^ s = 2 * (m % 2 ^ s)
      · rw [decide_eq_false (fun k => h2 (.inr ⟨h3, k⟩))]; simp
      · rw [decide_eq_false h3]; rfl
def rnN (m : Nat) : Nat := Fp.mag Ieee.double (Fp.grid Ieee.double m 0)
theorem rn_val (s : Bool) (m : Nat) : rn (Fp.val s m) = Fp.val s (rnN m) := by
  unfold rn Fp.val rnN
  cases s
  · rw [if_neg Bool.false_ne_true, if_neg Bool.false_ne_true, if_neg (by omega), Int.natAbs_natCast]
  · rw [if_pos rfl, if_pos rfl, Int.natAbs_neg, Int.natAbs_natCast]
    split
    · rfl
    · have : m = 0 := by omega
      subst this
      rw [Fp.grid_zero, Fp.mag_zero]; rfl
theorem Like.grid {t X Y : Nat} (h : Like t X Y) (hX : X ≠ 0) (ht : t + 53 ≤ X.log2) : Fp.grid Ieee.double X 0 = Fp.grid Ieee.double Y 0 := by
  have hl := h.log2 (floor_ne hX (by omega))
  have h2 := h.to (u := X.log2 - 53) (by omega)
  obtain ⟨c1, _⟩ := cut_same h2.1 h2.2 false 0
  unfold Fp.grid
  have e : max (X.log2 - Ieee.double.fractionBits) 0 = X.log2 - 53 + 1 := by
    show max (X.log2 - 52) 0 = _
    omega
  rw [← hl, e, rne_cut, rne_cut, c1]
theorem Like.rn {t X Y : Nat} (h : Like t X Y) (hX : X ≠ 0) (ht : t + 53 ≤ X.log2) : rnN X = rnN Y := by unfold rnN; rw [h.grid hX ht]
theorem rn_grid {t X : Nat} (hX : X ≠ 0) (ht : t + 53 ≤ X.log2) : ∃ c, rnN X = c * 2 ^ t := by
  obtain ⟨K, q, h1, h2, _⟩ := rn_nat X
  have hK : t ≤ K := by
    rcases Nat.lt_or_ge K t with h | h
    · exfalso
      have a1 : 2 ^ (t + 53) ≤ X := (Nat.le_log2 hX).1 ht
      have a2 : 9007199254740992 * 2 ^ K ≤ 2 ^ (t + 53) := by
        rw [show (9007199254740992 : Nat) = 2 ^ 53 from rfl, ← Nat.pow_add]
        exact Nat.pow_le_pow_right (by decide) (by omega)
      omega
    · exact h
  refine ⟨q * 2 ^ (K - t), ?_⟩
  rw [Nat.mul_assoc, ← Nat.pow_add, show K - t + t = K by omega]
  exact h1
theorem nudM_sign {S L L' : Int} (h0 : L = 0 ↔ L' = 0) (h1 : 0 < L ↔ 0 < L') : nudM S L = nudM S L' := by
  unfold nudM
  by_cases h : L = 0
  · rw [if_pos h, if_pos (h0.1 h)]
  · rw [if_neg h, if_neg (fun k => h (h0.2 k)), show decide (0 < L) = decide (0 < L') from decide_eq_decide.2 h1]
theorem val_natAbs (s : Bool) (n : Nat) : (Fp.val s n).natAbs = n := by unfold Fp.val; split <;> omega
theorem val_zero_iff {s : Bool} {n : Nat} : Fp.val s n = 0 ↔ n = 0 := by unfold Fp.val; split <;> omega
theorem val_neg_dec {s : Bool} {n : Nat} (h : n ≠ 0) : decide (Fp.val s n < 0) = s := by
  unfold Fp.val
  cases s
  · rw [if_neg Bool.false_ne_true]; exact decide_eq_false (by omega)
  · rw [if_pos rfl]; exact decide_eq_true (by omega)
theorem rest_sign {s : Bool} {X P : Nat} {L : Int} (h0 : L = 0 ↔ P = X) (h1 : 0 < L ↔ (if s then X < P else P < X)) : (L = 0 ↔ Fp.val s X - Fp.val s P = 0) ∧ (0 < L ↔ 0 < Fp.val s X - Fp.val s P) := by
  unfold Fp.val
  cases s
  · simp only [if_neg Bool.false_ne_true] at *; omega
  · simp only [if_true] at *; omega
theorem stk_word {t X Y : Nat} {s : Bool} {L : Int} (h : Like t X Y) (hX : X ≠ 0) (ht : t + 53 ≤ X.log2) (hr : Fp.Rep Ieee.double (rnN X)) (h0 : L = 0 ↔ rnN X = X) (h1 : 0 < L ↔ (if s then X < rnN X else rnN X < X)) (mode : Int) :
    xWord (Fp.val s Y) mode = sWord s (nudM (Fp.val s (rnN X)) L) (nudE (Fp.val s (rnN X))) mode ∧ xFlags (Fp.val s Y) mode = rFlags 24 (-149) 127 s (nudM (Fp.val s (rnN X)) L) (nudE (Fp.val s (rnN X))) mode := by
  have hl := h.log2 (floor_ne hX (by omega))
  have hY : Y ≠ 0 := by
    rintro rfl
    rw [Nat.log2_zero] at hl; omega
  have hn := h.rn hX ht
  obtain ⟨c, hc⟩ := rn_grid hX ht
  obtain ⟨k1, k2⟩ := h.cmp c
  rw [← hc] at k1 k2
  have g0 : L = 0 ↔ rnN X = Y := h0.trans k2
  have g1 : 0 < L ↔ (if s then Y < rnN X else rnN X < Y) := by
    rw [h1]
    cases s
    · simp only [if_neg Bool.false_ne_true]; omega
    · simp only [if_true]; exact k1
  obtain ⟨r1, r2⟩ := rest_sign g0 g1
  have hM := nudM_sign (S := Fp.val s (rnN X)) r1 r2
  obtain ⟨_, _, w3, w4⟩ := nud_word (z := Fp.val s Y) (by rw [ne_eq, val_zero_iff]; exact hY) (by rw [rn_val, val_natAbs, ← hn]; exact hr) mode
  rw [rn_val, ← hn, val_neg_dec hY] at w3 w4
  rw [hM]
  exact ⟨w3, w4⟩
/-! a last bit for what is left over -/
def stk (q : Nat) (b : Bool) : Nat := 2 * q + b.toNat
theorem stk_div (q : Nat) (b : Bool) : stk q b / 2 = q := by unfold stk; cases b <;> simp <;> omega
theorem stk_mod (q : Nat) (b : Bool) : stk q b % 2 = 0 ↔ b = false := by unfold stk; cases b <;> simp <;> omega
theorem stk_like {r2 r d : Nat} {b2 b : Bool} (e1 : r2 / 2 ^ d = r) (main : (b2 = false ∧ r2 % 2 ^ d = 0) ↔ b = false) : Like (d + 1) (stk r2 b2) (stk r b * 2 ^ d) := by
  have hp := Nat.two_pow_pos d
  unfold Like
  rw [Nat.pow_succ, Nat.mul_comm (2 ^ d) 2, ← Nat.div_div_eq_div_mul, stk_div, e1, Nat.mul_div_mul_right _ _ hp, stk_div, Nat.mul_mod_mul_right, Nat.mul_eq_zero, Nat.mod_mul, stk_div]
  refine ⟨rfl, ?_⟩
  have k1 := stk_mod r2 b2
  have k2 := stk_mod r b
  have hz : ∀ r q : Nat, r + 2 * q = 0 ↔ r = 0 ∧ q = 0 := by omega
  rw [hz, k1, main, k2]
  exact ⟨.inl, fun h => h.resolve_right (by omega)⟩
theorem quo_like (X Y d : Nat) (hY : 0 < Y) : Like (d + 1) (stk (X * 2 ^ d / Y) (X * 2 ^ d % Y != 0)) (stk (X / Y) (X % Y != 0) * 2 ^ d) := by
  have hp := Nat.two_pow_pos d
  have e1 : X * 2 ^ d / Y / 2 ^ d = X / Y := by
    rw [Nat.div_div_eq_div_mul, Nat.mul_div_mul_right _ _ hp]
  refine stk_like e1 ?_
  rw [bne_eq_false_iff_eq, bne_eq_false_iff_eq]
  constructor
  · rintro ⟨h1, h2⟩
    obtain ⟨u, hu⟩ : ∃ u, X * 2 ^ d = Y * u := ⟨_, (by have := Nat.div_add_mod (X * 2 ^ d) Y; rw [h1, Nat.add_zero] at this; exact this.symm)⟩
    rw [hu, Nat.mul_div_cancel_left _ hY] at h2
    obtain ⟨v, hv⟩ : ∃ v, u = v * 2 ^ d := ⟨u / 2 ^ d, by have := Nat.div_add_mod u (2 ^ d); rw [h2, Nat.add_zero, Nat.mul_comm] at this; exact this.symm⟩
    rw [hv, ← Nat.mul_assoc] at hu
    have := Nat.eq_of_mul_eq_mul_right hp hu
    rw [this, Nat.mul_mod_right]
  · intro h
    obtain ⟨u, hu⟩ : ∃ u, X = Y * u := ⟨_, (by have := Nat.div_add_mod X Y; rw [h, Nat.add_zero] at this; exact this.symm)⟩
    rw [hu, Nat.mul_assoc, Nat.mul_mod_right, Nat.mul_div_cancel_left _ hY, Nat.mul_mod_left]
    exact ⟨rfl, rfl⟩
theorem quo_cmp (X Y c : Nat) (hY : 0 < Y) : (stk (X / Y) (X % Y != 0) < c * 2 ↔ X < c * Y) ∧ (c * 2 = stk (X / Y) (X % Y != 0) ↔ c * Y = X) := by
  have h1 : stk (X / Y) (X % Y != 0) < c * 2 ↔ X / Y < c := by unfold stk; cases (X % Y != 0) <;> simp <;> omega
  refine ⟨by rw [h1, Nat.div_lt_iff_lt_mul hY], ?_⟩
  rw [div_mod_eq hY]
  have h2 : (X % Y != 0) = false ↔ X % Y = 0 := by rw [bne_eq_false_iff_eq]
  rw [← h2]
  unfold stk
  cases (X % Y != 0) <;> simp <;> omega
/-! the reference's: what is cut off and 'more' -/
theorem cutC_more (M s : Nat) (b : Bool) (hs : 1 ≤ s) : cutC M s b = cutC (stk M b) (s + 1) false := by
  obtain ⟨h, rfl⟩ : ∃ h, s = h + 1 := ⟨s - 1, by omega⟩
  have e : stk M b % 2 ^ (h + 1 + 1) = 2 * (M % 2 ^ (h + 1)) + b.toNat := by
    rw [Nat.pow_succ, Nat.mul_comm _ 2, Nat.mod_mul, stk_div]
    unfold stk
    cases b <;> simp <;> omega
  have hH : 2 ^ (h + 1) = 2 * 2 ^ h := by rw [Nat.pow_succ, Nat.mul_comm]
  unfold cutC
  rw [e, show h + 1 - 1 = h from rfl, show h + 1 + 1 - 1 = h + 1 from rfl, hH]
  generalize M % (2 * 2 ^ h) = r
  have hp := Nat.two_pow_pos h
  generalize 2 ^ h = H at *
  unfold cmpN
  cases b
  · simp only [Bool.toNat_false, Nat.add_zero, and_true, Bool.false_eq_true, and_false, if_false]
    by_cases h1 : r = 0
    · rw [if_pos h1, if_pos (show 2 * r = 0 by omega)]
    · rw [if_neg h1, if_neg (show ¬ 2 * r = 0 by omega)]
      rcases Nat.lt_trichotomy r H with h2 | h2 | h2
      · rw [if_pos h2, if_pos (show 2 * r < 2 * H by omega)]
      · rw [if_neg (show ¬ r < H by omega), if_neg (show ¬ H < r by omega), if_neg (show ¬ 2 * r < 2 * H by omega), if_neg (show ¬ 2 * H < 2 * r by omega)]
      · rw [if_neg (show ¬ r < H by omega), if_pos h2, if_neg (show ¬ 2 * r < 2 * H by omega), if_pos (show 2 * H < 2 * r by omega)]
  · simp only [Bool.toNat_true, Bool.true_eq_false, and_false, and_true, if_false]
    rw [if_neg (show ¬ (2 * r + 1 = 0) by omega)]
    rcases Nat.lt_trichotomy r H with h2 | h2 | h2
    · rw [if_pos h2, if_pos (show 2 * r + 1 < 2 * H by omega)]; rfl
    · rw [if_neg (show ¬ r < H by omega), if_neg (show ¬ H < r by omega), if_neg (show ¬ 2 * r + 1 < 2 * H by omega), if_pos (show 2 * H < 2 * r + 1 by omega)]; rfl
    · rw [if_neg (show ¬ r < H by omega), if_pos h2, if_neg (show ¬ 2 * r + 1 < 2 * H by omega), if_pos (show 2 * H < 2 * r + 1 by omega)]; rfl
theorem blen_stk {M : Nat} (b : Bool) (h : M ≠ 0) : blen (stk M b) = blen M + 1 := by
  have h2 : stk M b ≠ 0 := by unfold stk; omega
  have h3 : stk M b / 2 ^ 1 ≠ 0 := by rw [Nat.pow_one, stk_div]; exact h
  have := log2_floor (X := stk M b) (Y := M * 2 ^ 1) (w := 1) (by rw [Nat.pow_one, stk_div, Nat.mul_div_cancel _ (by decide)]) h3
  rw [blen_pos h2, blen_pos h, this, Fp.log2_mul_pow _ _ h]
theorem g_more {D lo most : Int} {top inf FR SG : Nat} {ng : Bool} {M : Nat} {e mode : Int} (b : Bool) (hM : M ≠ 0) (h : e < gK D lo M e) :
    gWord D lo most top inf FR SG ng M e b mode = gWord D lo most top inf FR SG ng (stk M b) (e - 1) false mode ∧ gFlags D lo most ng M e b mode = gFlags D lo most ng (stk M b) (e - 1) false mode := by
  have hb := blen_stk b hM
  have hk : gK D lo (stk M b) (e - 1) = gK D lo M e := by unfold gK; rw [hb]; congr 1; omega
  obtain ⟨s, hs⟩ : ∃ s : Nat, (gK D lo M e - e).toNat = s + 1 := ⟨(gK D lo M e - e).toNat - 1, by omega⟩
  have hs2 : (gK D lo M e - (e - 1)).toNat = s + 1 + 1 := by omega
  have hq : gq D lo (stk M b) (e - 1) = gq D lo M e := by
    unfold gq
    rw [hk, if_neg (by omega), if_neg (by omega), hs, hs2, Nat.pow_succ 2 (s + 1), Nat.mul_comm _ 2, ← Nat.div_div_eq_div_mul, stk_div]
  have hc : gc D lo (stk M b) (e - 1) false = gc D lo M e b := by
    unfold gc
    rw [hk, if_neg (by omega), if_neg (by omega), hs, hs2, cutC_more M (s + 1) b (by omega)]
  have hQ : gQ D lo ng (stk M b) (e - 1) false mode = gQ D lo ng M e b mode := by unfold gQ; rw [hq, hc]
  have ho : gOver D lo most ng (stk M b) (e - 1) false mode = gOver D lo most ng M e b mode := by unfold gOver; rw [hk, hQ]
  have hf : gFl D lo (stk M b) (e - 1) false = gFl D lo M e b := by
    unfold gFl
    rw [hc, hb, show e - 1 + ((blen M + 1 : Nat) : Int) - 1 = e + (blen M : Nat) - 1 by omega]
  unfold gWord gFlags
  rw [ho, hk, hQ, hf]
  exact ⟨rfl, rfl⟩
end Go.Proofs.YtifgngmebnjfkaaGreatDoor
end

section
namespace Go.Proofs.YtifgngmebnjfkaaGreatDoor
/-! the guess of a digit: T stands for three words ahead, V for the divisor's two, both over P -/
theorem kn_le {P V T D S q : Nat} (hD : V * P ≤ D) (hS : S < (T + 1) * P) (hq : q * D ≤ S) : q * V ≤ T := by
  have h1 : q * V * P ≤ q * D := by rw [Nat.mul_assoc]; exact Nat.mul_le_mul_left _ hD
  have h2 : q * V * P < (T + 1) * P := Nat.lt_of_le_of_lt (Nat.le_trans h1 hq) hS
  have := Nat.lt_of_mul_lt_mul_right h2
  omega
theorem kn_first {top d2 t u2 q : Nat} (ht : 0 < top) (hu : u2 < 4294967296) (h : q * (top * 4294967296 + d2) ≤ t * 4294967296 + u2) : q ≤ t / top := by
  rw [Nat.le_div_iff_mul_le ht]
  have h1 : q * top * 4294967296 ≤ q * (top * 4294967296 + d2) := by rw [Nat.mul_assoc]; exact Nat.mul_le_mul_left _ (Nat.le_add_right _ _)
  have h2 : q * top * 4294967296 < (t + 1) * 4294967296 := by omega
  have := Nat.lt_of_mul_lt_mul_right h2
  omega
theorem kn_end {P V T D S g : Nat} (hD : D ≤ (V + 1) * P) (hS : T * P ≤ S) (hg : g ≤ V + 1) (h : g * V ≤ T) : (g - 1) * D ≤ S := by
  rcases g with _ | g
  · simp
  · have h1 : g * (V + 1) ≤ T := by
      rw [Nat.mul_succ]; rw [Nat.add_mul] at h; omega
    have a1 : g * D ≤ g * ((V + 1) * P) := Nat.mul_le_mul_left _ hD
    have a2 : g * ((V + 1) * P) ≤ T * P := by rw [← Nat.mul_assoc]; exact Nat.mul_le_mul_right _ h1
    exact Nat.le_trans a1 (Nat.le_trans a2 hS)
def KnG (top t Q : Nat) (g r : Nat) : Prop := g * top + r = t ∧ Q ≤ g ∧ g ≤ 4294967297
def KnE (top d2 t u2 Q : Nat) (g : Nat) : Prop := Q ≤ g ∧ g < 4294967296 ∧ g * (top * 4294967296 + d2) ≤ t * 4294967296 + u2
theorem kn_start {top t u2 d2 Q : Nat} (ht : 2147483648 ≤ top) (hu : u2 < 4294967296) (hQ : Q * (top * 4294967296 + d2) ≤ t * 4294967296 + u2) (hT : t < top * 4294967296 + 4294967296) : KnG top t Q (t / top) (t % top) := by
  refine ⟨by rw [Nat.mul_comm]; exact Nat.div_add_mod t top, kn_first (by omega) hu hQ, ?_⟩
  have : t < 4294967298 * top := by omega
  have := (Nat.div_lt_iff_lt_mul (show 0 < top by omega)).2 this
  omega
theorem kn_test {top d2 t u2 g r : Nat} (h : g * top + r = t) : (r * 4294967296 + u2 < g * d2 ↔ t * 4294967296 + u2 < g * (top * 4294967296 + d2)) := by
  subst h
  rw [Nat.mul_add, Nat.add_mul, ← Nat.mul_assoc]
  omega
theorem kn_down {top t Q g r : Nat} (h : KnG top t Q g r) (hQ : Q < g) : KnG top t Q (g - 1) (r + top) := by
  obtain ⟨h1, h2, h3⟩ := h
  obtain ⟨k, rfl⟩ : ∃ k, g = k + 1 := ⟨g - 1, by omega⟩
  refine ⟨?_, by omega, by omega⟩
  rw [Nat.add_mul, Nat.one_mul] at h1
  rw [Nat.add_sub_cancel]; omega
theorem kn_true {top d2 t u2 Q g r : Nat} (h : KnG top t Q g r) (hQ : Q * (top * 4294967296 + d2) ≤ t * 4294967296 + u2) (hQ2 : Q < 4294967296) (ht : 4294967296 ≤ g ∨ r * 4294967296 + u2 < g * d2) : Q < g := by
  rcases ht with ht | ht
  · omega
  · exact Nat.lt_of_mul_lt_mul_right (Nat.lt_of_le_of_lt hQ ((kn_test h.1).1 ht))
theorem kn_false {top d2 t u2 Q g r : Nat} (h : KnG top t Q g r) (h1 : g < 4294967296) (h2 : g * d2 ≤ r * 4294967296 + u2) : KnE top d2 t u2 Q g := by
  refine ⟨h.2.1, h1, ?_⟩
  have := (kn_test (d2 := d2) (u2 := u2) h.1)
  rcases Nat.lt_or_ge (t * 4294967296 + u2) (g * (top * 4294967296 + d2)) with h3 | h3
  · have := this.2 h3; omega
  · exact h3
theorem kn_break {top d2 t u2 Q g r : Nat} (h : KnG top t Q g r) (hd : d2 < 4294967296) (hr : 4294967296 ≤ r) (hT : t < top * 4294967296 + 4294967296) (ht : 0 < top) : KnE top d2 t u2 Q g := by
  have h1 := h.1
  have hg : g < 4294967296 := by
    have : g * top < 4294967296 * top := by rw [Nat.mul_comm 4294967296]; omega
    exact Nat.lt_of_mul_lt_mul_right this
  refine kn_false h hg ?_
  have : g * d2 ≤ 4294967296 * 4294967296 := Nat.mul_le_mul (by omega) (by omega)
  omega
theorem kn_digit {P top d2 t u2 D S g : Nat} (hP : 0 < P) (h1 : (top * 4294967296 + d2) * P ≤ D) (h2 : D ≤ (top * 4294967296 + d2 + 1) * P) (h3 : (t * 4294967296 + u2) * P ≤ S) (hE : KnE top d2 t u2 (S / D) g) (ht : 2147483648 ≤ top) : S / D ≤ g ∧ g ≤ S / D + 1 := by
  obtain ⟨e1, e2, e3⟩ := hE
  refine ⟨e1, ?_⟩
  have h4 := kn_end h2 h3 (g := g) (by omega) e3
  have hD : 0 < D := Nat.lt_of_lt_of_le (Nat.mul_pos (by omega) hP) h1
  have := (Nat.le_div_iff_mul_le hD).2 h4
  omega
theorem kn_right {S D g L M : Nat} (hS : S < M) (h1 : S / D ≤ g) (h2 : g ≤ S / D + 1) (hD : 0 < D) (hL : L < M) (he : L + g * D = S) : g = S / D ∧ L = S % D := by
  have hm := Nat.mod_lt S hD
  have hd := Nat.div_add_mod S D
  rw [Nat.mul_comm] at hd
  have : g = S / D := by
    rcases Nat.lt_or_ge (S / D) g with h | h
    · exfalso
      have e : g = S / D + 1 := by omega
      rw [e, Nat.add_mul, Nat.one_mul] at he
      omega
    · omega
  refine ⟨this, ?_⟩
  rw [this] at he
  omega
theorem kn_wrong {S D g L M : Nat} (hS : S < M) (h1 : S / D ≤ g) (h2 : g ≤ S / D + 1) (hD : 0 < D) (hL : L < M) (he : L + g * D = S + M) {L2 c : Nat} (hL2 : L2 < M) (hc : c ≤ 1) (h3 : L2 + M * c = L + D) : g - 1 = S / D ∧ L2 = S % D := by
  have hm := Nat.mod_lt S hD
  have hd := Nat.div_add_mod S D
  rw [Nat.mul_comm] at hd
  have e : g = S / D + 1 := by
    rcases Nat.lt_or_ge (S / D) g with h | h
    · omega
    · exfalso
      have e : g = S / D := by omega
      rw [e] at he
      omega
  rw [e, Nat.add_mul, Nat.one_mul] at he
  refine ⟨by rw [e]; exact Nat.add_sub_cancel _ _, ?_⟩
  clear e h1 h2
  generalize S / D * D = X at *
  generalize S % D = Y at *
  obtain rfl | rfl : c = 0 ∨ c = 1 := by omega
  · omega
  · omega
/-! rounds of the multiplied difference and of the sum -/
theorem less_step {Q l l0 m x y g c br z b : Nat} (h : l + m = l0 + Q * (c + br)) (hz : z + ((g * y + c) % 4294967296 + br) = x + 4294967296 * b) : (l + Q * z) + (m + Q * (g * y)) = (l0 + Q * x) + Q * 4294967296 * ((g * y + c) / 4294967296 + b) := by
  have e1 := Nat.mod_add_div (g * y + c) 4294967296
  have e2 : Q * ((g * y + c) % 4294967296) + Q * (4294967296 * ((g * y + c) / 4294967296)) = Q * (g * y) + Q * c := by rw [← Nat.mul_add, e1, Nat.mul_add]
  have e3 : Q * z + (Q * ((g * y + c) % 4294967296) + Q * br) = Q * x + Q * (4294967296 * b) := by rw [← Nat.mul_add, ← Nat.mul_add, hz, Nat.mul_add]
  rw [Nat.mul_add] at h
  rw [Nat.mul_assoc Q, Nat.mul_add 4294967296, Nat.mul_add Q]
  omega
theorem less_end {Q l l0 m x y z b : Nat} (h : l + m = l0 + Q * y) (hz : z + y = x + 4294967296 * b) : (l + Q * z) + m = (l0 + Q * x) + Q * 4294967296 * b := by
  have e3 : Q * z + Q * y = Q * x + Q * (4294967296 * b) := by rw [← Nat.mul_add, hz, Nat.mul_add]
  rw [Nat.mul_assoc Q]
  omega
theorem wval_set (l : List Nat) (k x : Nat) (h : k < l.length) : wval (l.set k x) + 4294967296 ^ k * l.getD k 0 = wval l + 4294967296 ^ k * x := by
  have e : (l.set k x).length = l.length := List.length_set
  have hd : (l.set k x).drop (k + 1) = l.drop (k + 1) := by rw [List.drop_set_of_lt (by omega)]
  rw [wval_split (l.set k x) (k + 1), wval_split l (k + 1), hd, lo_set_succ _ _ _ h, lo_succ]
  omega
/-! a magnitude over one word -/
theorem short_step {d q v P r t : Nat} (h : v = q * d + r * (P * 4294967296)) (x : Nat) (ht : t = r * 4294967296 + x) : v + P * x = (q + P * (t / d)) * d + (t % d) * P := by
  have e := Nat.div_add_mod t d
  have e1 : P * (t / d) * d + t % d * P = P * t := by
    rw [Nat.mul_assoc, Nat.mul_comm (t / d), Nat.mul_comm (t % d), ← Nat.mul_add, e]
  have e2 : P * t = r * (P * 4294967296) + P * x := by
    rw [ht, Nat.mul_add, Nat.mul_left_comm P r]
  rw [Nat.add_mul, h]
  omega
/-! square roots -/
def IsRt (n r : Nat) : Prop := r * r ≤ n ∧ n < (r + 1) * (r + 1)
theorem IsRt.le {n r s : Nat} (h : IsRt n r) (hs : s * s ≤ n) : s ≤ r := by
  rcases Nat.lt_or_ge r s with h1 | h1
  · have := Nat.mul_le_mul h1 h1
    have := h.2
    simp only [Nat.succ_eq_add_one] at *
    omega
  · exact h1
theorem IsRt.uniq {n r s : Nat} (h : IsRt n r) (g : IsRt n s) : r = s := Nat.le_antisymm (g.le h.1) (h.le g.1)
theorem newton_ge {n s r : Nat} (hs : s * s ≤ n) (hr : 0 < r) : s ≤ (r + n / r) / 2 := by
  rw [Nat.le_div_iff_mul_le (by decide)]
  rcases Nat.lt_or_ge r (2 * s) with h | h
  · obtain ⟨d, hd⟩ : ∃ d, 2 * s = r + d := ⟨2 * s - r, by omega⟩
    have key : d * r ≤ s * s := by
      rcases Nat.le_total r s with h1 | h1
      · obtain ⟨j, rfl⟩ : ∃ j, s = r + j := ⟨s - r, by omega⟩
        obtain rfl : d = r + 2 * j := by omega
        have e1 : (r + 2 * j) * r = r * r + 2 * (j * r) := by rw [Nat.add_mul, Nat.mul_assoc]
        have e2 : (r + j) * (r + j) = r * r + j * r + (j * r + j * j) := by rw [Nat.add_mul, Nat.mul_add, Nat.mul_add, Nat.mul_comm r j]
        omega
      · obtain ⟨j, rfl⟩ : ∃ j, r = s + j := ⟨r - s, by omega⟩
        obtain rfl : s = j + d := by omega
        have e1 : d * (j + d + j) = 2 * (j * d) + d * d := by rw [Nat.mul_add, Nat.mul_add, Nat.mul_comm d j]; omega
        have e2 : (j + d) * (j + d) = j * j + j * d + (j * d + d * d) := by rw [Nat.add_mul, Nat.mul_add, Nat.mul_add, Nat.mul_comm d j]
        omega
    have := (Nat.le_div_iff_mul_le hr).2 (Nat.le_trans key hs)
    omega
  · have := Nat.zero_le (n / r)
    omega
theorem newton_stop {n r s : Nat} (hr : 0 < r) (hs : IsRt n s) (h : s ≤ r) (hn : r ≤ (r + n / r) / 2) : IsRt n r := by
  have h1 := (Nat.le_div_iff_mul_le (by decide)).1 hn
  have h2 : r * r ≤ n := (Nat.le_div_iff_mul_le hr).1 (by omega)
  have := hs.le h2
  have e : r = s := by omega
  rw [e]; exact hs
theorem isRt_ex (n : Nat) : ∃ r, IsRt n r := by
  induction n with
  | zero => exact ⟨0, by decide, by decide⟩
  | succ n ih =>
    obtain ⟨r, h1, h2⟩ := ih
    rcases Nat.lt_or_ge (n + 1) ((r + 1) * (r + 1)) with h | h
    · exact ⟨r, by omega, h⟩
    · refine ⟨r + 1, h, ?_⟩
      have e2 : (r + 1 + 1) * (r + 1 + 1) = (r + 1) * (r + 1) + (r + 1) + ((r + 1) + 1) := by rw [Nat.add_mul (r + 1) 1, Nat.mul_add (r + 1) (r + 1) 1, Nat.mul_one, Nat.one_mul]
      omega
theorem root_from {n s k : Nat} (hs : s * s ≤ n) (h : n < 2 ^ (k + k)) : s ≤ 2 ^ k := by
  rcases Nat.lt_or_ge (2 ^ k) s with h1 | h1
  · have := Nat.mul_le_mul (Nat.le_of_lt h1) (Nat.le_of_lt h1)
    rw [← Nat.pow_add] at this
    omega
  · exact h1
end Go.Proofs.YtifgngmebnjfkaaGreatDoor
end

section
namespace Go.Proofs.YtifgngmebnjfkaaGreatDoor
theorem rootFrom_is (n : Nat) : ∀ todo root, root * root ≤ n → n < (root + 2 ^ todo) * (root + 2 ^ todo) → IsRt n (Ieee.Datum.rootFrom n todo root) := by
  intro todo
  induction todo with
  | zero => intro root h1 h2; exact ⟨h1, h2⟩
  | succ k ih =>
    intro root h1 h2
    have e : 1 <<< k = 2 ^ k := by rw [Nat.shiftLeft_eq, Nat.one_mul]
    show IsRt n (Ieee.Datum.rootFrom n k (if (root + 1 <<< k) * (root + 1 <<< k) ≤ n then root + 1 <<< k else root))
    rw [e]
    by_cases h : (root + 2 ^ k) * (root + 2 ^ k) ≤ n
    · rw [if_pos h]
      refine ih _ h ?_
      rw [show root + 2 ^ k + 2 ^ k = root + 2 ^ (k + 1) by rw [Nat.pow_succ]; omega]
      exact h2
    · rw [if_neg h]
      exact ih _ h1 (by omega)
def isq (n : Nat) : Nat := Ieee.Datum.rootFrom n (n.log2 / 2 + 1) 0
theorem isq_is (n : Nat) : IsRt n (isq n) := by
  refine rootFrom_is n _ 0 (by omega) ?_
  rw [Nat.zero_add, ← Nat.pow_add]
  rcases Nat.eq_zero_or_pos n with h | h
  · subst h; exact Nat.two_pow_pos _
  · exact Nat.lt_of_lt_of_le (Nat.lt_log2_self) (Nat.pow_le_pow_right (by decide) (by omega))
theorem sq_mul (a b : Nat) : (a * b) * (a * b) = a * a * (b * b) := by
  rw [Nat.mul_assoc, Nat.mul_left_comm b a b, ← Nat.mul_assoc]
theorem root_like (N d : Nat) : Like (d + 1) (stk (isq (N * (2 ^ d * 2 ^ d))) (isq (N * (2 ^ d * 2 ^ d)) * isq (N * (2 ^ d * 2 ^ d)) != N * (2 ^ d * 2 ^ d))) (stk (isq N) (isq N * isq N != N) * 2 ^ d) := by
  have hp := Nat.two_pow_pos d
  have h1 := isq_is N
  have h2 := isq_is (N * (2 ^ d * 2 ^ d))
  generalize isq N = r at *
  generalize isq (N * (2 ^ d * 2 ^ d)) = r2 at *
  have hDD : 0 < 2 ^ d * 2 ^ d := Nat.mul_pos hp hp
  have a1 : r * 2 ^ d ≤ r2 := h2.le (by rw [sq_mul]; exact Nat.mul_le_mul_right _ h1.1)
  have a2 : r2 < (r + 1) * 2 ^ d := by
    rcases Nat.lt_or_ge r2 ((r + 1) * 2 ^ d) with h | h
    · exact h
    · exfalso
      have k1 := Nat.mul_le_mul h h
      rw [sq_mul] at k1
      have k2 := Nat.mul_lt_mul_of_pos_right h1.2 hDD
      have := h2.1
      omega
  have e1 : r2 / 2 ^ d = r := Nat.div_eq_of_lt_le a1 a2
  refine stk_like e1 ?_
  rw [bne_eq_false_iff_eq, bne_eq_false_iff_eq]
  constructor
  · rintro ⟨k1, k2⟩
    have : r * 2 ^ d = r2 := (div_mod_eq hp).2 ⟨e1, k2⟩
    rw [← this, sq_mul] at k1
    exact Nat.eq_of_mul_eq_mul_right hDD k1
  · intro k
    have k1 : (r * 2 ^ d) * (r * 2 ^ d) = N * (2 ^ d * 2 ^ d) := by rw [sq_mul, k]
    have k2 : r2 ≤ r * 2 ^ d := by
      rcases Nat.lt_or_ge (r * 2 ^ d) r2 with h | h
      · exfalso
        have := Nat.mul_self_lt_mul_self h
        have := h2.1
        omega
      · exact h
    obtain rfl : r2 = r * 2 ^ d := by omega
    exact ⟨k1, Nat.mul_mod_left _ _⟩
theorem root_cmp (N c : Nat) : (stk (isq N) (isq N * isq N != N) < c * 2 ↔ N < c * c) ∧ (c * 2 = stk (isq N) (isq N * isq N != N) ↔ c * c = N) := by
  have h := isq_is N
  generalize isq N = r at *
  have h1 : stk r (r * r != N) < c * 2 ↔ r < c := by unfold stk; cases (r * r != N) <;> simp <;> omega
  have h2 : r < c ↔ N < c * c := by
    constructor
    · intro k
      have := Nat.mul_le_mul k k
      have := h.2
      simp only [Nat.succ_eq_add_one] at *
      omega
    · intro k
      rcases Nat.lt_or_ge r c with h3 | h3
      · exact h3
      · have := Nat.mul_le_mul h3 h3
        have := h.1
        omega
  refine ⟨h1.trans h2, ?_⟩
  have h3 : c * 2 = stk r (r * r != N) ↔ c = r ∧ (r * r != N) = false := by unfold stk; cases (r * r != N) <;> simp <;> omega
  rw [h3, bne_eq_false_iff_eq]
  constructor
  · rintro ⟨rfl, k⟩; exact k
  · intro k
    have : c = r := h.uniq ⟨by omega, by
      rw [← k]
      have := Nat.mul_self_lt_mul_self (Nat.lt_succ_self c)
      simpa using this⟩ |>.symm
    subst this
    exact ⟨rfl, k⟩
end Go.Proofs.YtifgngmebnjfkaaGreatDoor
end

section
namespace Go.Proofs.YtifgngmebnjfkaaGreatDoor
open Go.RowKit
def isN (x : Nat) : Bool := decide (2139095040 < x % 2147483648)
def isI (x : Nat) : Bool := decide (x % 2147483648 = 2139095040)
def infD (s : Bool) : Nat := 9218868437227405312 + sgnD s
def infS (s : Bool) : Nat := 2139095040 + sgnS s
theorem inf_word {x : Nat} (hx : x < 4294967296) (h : isI x = true) : x = infS (ngS x) := by
  have h1 := of_decide_eq_true h
  unfold infS ngS sgnS
  by_cases g : 2147483648 ≤ x
  · rw [decide_eq_true g, if_pos rfl]; omega
  · rw [decide_eq_false g, if_neg Bool.false_ne_true]; omega
theorem infD_le (s : Bool) : infD s % 9223372036854775808 ≤ 9218868437227405312 := by cases s <;> decide
theorem infD_lt (s : Bool) : infD s < 18446744073709551616 := by cases s <;> decide
theorem wide_inf {x : Nat} (hx : x < 4294967296) (h : isI x = true) : floatToFloatBits .f32 x .f64 = some (infD (ngS x)) := by
  have e := wbits_inf (ngS x)
  have g := inf_word hx h
  unfold infS at g
  rw [← g] at e
  exact e
theorem read_fi {a : Nat} (h : Fi a) : ∃ s m e, Ieee.double.read a = .number s m e := by
  obtain ⟨m, e, r, _⟩ := Fp.read_fin Ieee.double a h.rg
  exact ⟨_, m, e, r⟩
theorem read_infD (s : Bool) : Ieee.double.read (infD s) = .infinity s := by cases s <;> rfl
theorem write_infD (s : Bool) : Ieee.double.write (.infinity s) = infD s := by cases s <;> decide +kernel
theorem add_inf_l (s : Bool) {b : Nat} (h : Fi b) : Ieee.double.add (infD s) b = some (infD s) := by
  obtain ⟨g, m, e, r⟩ := read_fi h
  unfold Ieee.Format.add
  rw [read_infD, r, ← write_infD s]
  rfl
theorem add_inf_r (s : Bool) {b : Nat} (h : Fi b) : Ieee.double.add b (infD s) = some (infD s) := by
  obtain ⟨g, m, e, r⟩ := read_fi h
  unfold Ieee.Format.add
  rw [read_infD, r, ← write_infD s]
  rfl
theorem add_inf_same (s : Bool) : Ieee.double.add (infD s) (infD s) = some (infD s) := by cases s <;> decide +kernel
theorem add_inf_diff {s t : Bool} (h : s ≠ t) : Ieee.double.add (infD s) (infD t) = none := by
  revert h; cases s <;> cases t <;> decide +kernel
theorem sub_inf_self (s : Bool) : Ieee.double.sub (infD s) (infD s) = none := by cases s <;> decide +kernel
theorem finite_inf_any (s : Bool) (w : World) : Calls Tryz.prog 70 #[.float .f64 (infD s)] w fun e w' => e = .returned (.bool false) ∧ Within w w' :=
  finite_inf (infD s) (sub_inf_self s) (fun t => nan_zero (nanb_gt _ _ t)) w
def addWd (x y : Nat) (mode : Int) : Nat :=
  if isN x || isN y then 2143289344
  else if isI x then (if isI y && ngS x != ngS y then 2143289344 else infS (ngS x))
  else if isI y then infS (ngS y)
  else addW (uS x) (uS y) (ngS x) (ngS y) mode
def addFl (x y : Nat) (mode : Int) : Int :=
  if isN x || isN y then 0
  else if isI x then (if isI y && ngS x != ngS y then 8 else 0)
  else if isI y then 0
  else addF (uS x) (uS y) mode
theorem isN_nan {x : Nat} (h : isN x = true) : ∃ g i, FloatKind.f32.decode x = .nan g i := decode_nan (of_decide_eq_true h)
theorem fin_of {x : Nat} (h1 : isN x = false) (h2 : isI x = false) : x % 2147483648 < 2139095040 := by
  have g1 := of_decide_eq_false h1
  have g2 := of_decide_eq_false h2
  omega
theorem wide_le {x : Nat} (hx : x < 4294967296) (h : isN x = false) : ∃ a, floatToFloatBits .f32 x .f64 = some a ∧ a % 9223372036854775808 ≤ 9218868437227405312 := by
  cases hi : isI x
  · obtain ⟨a, h1, h2, _⟩ := wide_ok hx (fin_of h hi)
    exact ⟨a, h1, h2.le⟩
  · exact ⟨_, wide_inf hx hi, infD_le _⟩
theorem Add_known (x y : Nat) (mode : Int) (hx : x < 4294967296) (hy : y < 4294967296) (hmode : 0 ≤ mode ∧ mode ≤ 4) (w : World) (hT : FmS w) : Calls Tryz.prog 19 #[.float .f32 x, .float .f32 y, .int .i64 mode] w fun e' w' => e' = .returned (.tuple #[.float .f32 (addWd x y mode), .int .i64 (addFl x y mode), .int .i64 0]) ∧ Within w w' := by
  have KN : Hid (∀ w, Calls Tryz.prog 29 #[.int .i64 mode] w fun e' w' => e' = .returned (.bool true) ∧ w = w') := Lib.hid (fun w => by have := known_any mode w; rw [decide_eq_true hmode] at this; exact this)
  have NO := Lib.hid none_any
  unfold addWd addFl
  cases nx : isN x
  · obtain ⟨a, ha, la⟩ := wide_le hx nx
    cases ny : isN y
    · obtain ⟨b, hb, lb⟩ := wide_le hy ny
      have hff : ¬ ((false || false) = true) := Bool.false_ne_true
      rw [if_neg hff, if_neg hff]
      refine add_core x y a b _ mode _ KN ha hb (Lib.hid fun w hT => ?_) w hT
      cases ix : isI x
      · rw [if_neg Bool.false_ne_true, if_neg Bool.false_ne_true]
        obtain ⟨a', a1, a2, a3, a4, a5⟩ := wide_ok hx (fin_of nx ix)
        obtain rfl : a' = a := Option.some.inj (a1.symm.trans ha)
        cases iy : isI y
        · rw [if_neg Bool.false_ne_true, if_neg Bool.false_ne_true]
          obtain ⟨b', b1, b2, b3, b4, b5⟩ := wide_ok hy (fin_of ny iy)
          obtain rfl : b' = b := Option.some.inj (b1.symm.trans hb)
          have := sum_fin a2 b2 (by rw [a3]; exact a5) (by rw [b3]; exact b5) hmode w hT
          rw [a3, b3] at this
          have e1 : decide (9223372036854775808 ≤ a') = ngS x := a4
          have e2 : decide (9223372036854775808 ≤ b') = ngS y := b4
          rw [e1, e2] at this
          exact this
        · rw [if_pos rfl, if_pos rfl]
          obtain rfl : infD (ngS y) = b := Option.some.inj ((wide_inf hy iy).symm.trans hb)
          exact sum_inf a' _ mode (ne_false la) (ne_false lb) _ (add_inf_r _ a2) (ne_false (infD_le _)) (Lib.hid fun w => finite_inf_any _ w) _ (nbits_inf _) w
      · rw [if_pos rfl, if_pos rfl]
        obtain rfl : infD (ngS x) = a := Option.some.inj ((wide_inf hx ix).symm.trans ha)
        cases iy : isI y
        · have hfg : ¬ ((false && ngS x != ngS y) = true) := Bool.false_ne_true
          rw [if_neg hfg, if_neg hfg]
          obtain ⟨b', b1, b2, b3, b4, b5⟩ := wide_ok hy (fin_of ny iy)
          obtain rfl : b' = b := Option.some.inj (b1.symm.trans hb)
          exact sum_inf _ b' mode (ne_false la) (ne_false lb) _ (add_inf_l _ b2) (ne_false (infD_le _)) (Lib.hid fun w => finite_inf_any _ w) _ (nbits_inf _) w
        · obtain rfl : infD (ngS y) = b := Option.some.inj ((wide_inf hy iy).symm.trans hb)
          by_cases g : ngS x = ngS y
          · rw [← g] at lb ⊢
            have hsm : ¬ ((true && ngS x != ngS x) = true) := by rw [bne_self_eq_false]; decide
            rw [if_neg hsm, if_neg hsm]
            exact sum_inf _ _ mode (ne_false la) (ne_false la) _ (add_inf_same _) (ne_false (infD_le _)) (Lib.hid fun w => finite_inf_any _ w) _ (nbits_inf _) w
          · have e : (true && ngS x != ngS y) = true := by rw [Bool.true_and, bne_iff_ne]; exact g
            rw [if_pos e, if_pos e]
            exact sum_invalid _ _ mode (ne_false la) (ne_false lb) (add_inf_diff g) (fun t => ne_true (nanb_gt _ _ t)) NO w
    · obtain ⟨gy, iy, dy⟩ := isN_nan ny
      have hft : (false || true) = true := rfl
      rw [if_pos hft, if_pos hft]
      exact add_fn x y a mode KN ha gy iy dy (Lib.hid fun ty w => sum_nan_b a _ mode (ne_false la) (ne_true (nanc_gt _ ty)) (add_nan (.inr (nanc_gt _ ty))) NO w) w
  · obtain ⟨gx, ix, dx⟩ := isN_nan nx
    have htt : ∀ q, (true || q) = true := fun q => rfl
    rw [if_pos (htt _), if_pos (htt _)]
    cases ny : isN y
    · obtain ⟨b, hb, lb⟩ := wide_le hy ny
      exact add_nf x y b mode KN gx ix dx hb (Lib.hid fun tx w => sum_nan_a _ b mode (ne_true (nanc_gt _ tx)) (add_nan (.inl (nanc_gt _ tx))) NO w) w
    · obtain ⟨gy, iy, dy⟩ := isN_nan ny
      exact add_nn x y mode KN gx ix dx gy iy dy (Lib.hid fun tx ty w => sum_nan_a _ _ mode (ne_true (nanc_gt _ tx)) (add_nan (.inl (nanc_gt _ tx))) NO w) w
end Go.Proofs.YtifgngmebnjfkaaGreatDoor
end

section
namespace Go.Proofs.YtifgngmebnjfkaaGreatDoor
open Go.RowKit
theorem fma_ext (x y z r : Nat) (h : FloatKind.f64.format.fma x y z = some r) : Go.Extern.MathFMA.fma #[.float .f64 x, .float .f64 y, .float .f64 z] = pure (.float .f64 r) := by
  conv => lhs; whnf
  rw [h]
theorem fma_run (w : World) (x y z : Nat) : (callFunc 71 #[.float .f64 x, .float .f64 y, .float .f64 z]).run Tryz.prog w = (Go.Extern.MathFMA.fma #[.float .f64 x, .float .f64 y, .float .f64 z] >>= fun v => pure (Next.value v)).run Tryz.prog w := by kernel_rfl
theorem fma_any (x y z r : Nat) (h : Ieee.double.fma x y z = some r) (w : World) : (callFunc 71 #[.float .f64 x, .float .f64 y, .float .f64 z]).run Tryz.prog w = .ok (.value (.float .f64 r)) w := by
  rw [fma_run, fma_ext x y z r h]; rfl
set_option maxRecDepth 100000 in
set_option maxHeartbeats 600000 in
theorem mul_bad (x y : Nat) (mode : Int) (KN : Hid (∀ w, Calls Tryz.prog 29 #[.int .i64 mode] w fun e' w' => e' = .returned (.bool false) ∧ w = w')) (w : World) : Calls Tryz.prog 23 #[.float .f32 x, .float .f32 y, .int .i64 mode] w fun e' w' => e' = .returned (.tuple #[.float .f32 0, .int .i64 0, .int .i64 20]) ∧ Within w w' := by
  go_enter Tryz.func23, Tryz.ntmps23
  go_wp2_with fail
  refine (KN.out _).mono ?_; rintro e1 w1 ⟨rfl, rfl⟩
  go_wp2
  go_ret3
  exact ⟨rfl, (by repeat (with_reducible first | exact Within.refl _ | assumption | refine Within.alloc ?_ _ | refine Within.drew ?_ | refine Within.setCell ?_ (by first | (simp; done) | (simp; omega)) _ | refine Within.trans ?_ (by assumption)))⟩
set_option maxRecDepth 100000 in
set_option maxHeartbeats 600000 in
theorem mul_nn (x y : Nat) (mode : Int) (KN : Hid (∀ w, Calls Tryz.prog 29 #[.int .i64 mode] w fun e' w' => e' = .returned (.bool true) ∧ w = w')) (nx : (FloatKind.f32.format.order x x != some .eq) = true) (gx : Bool) (ix : Nat) (hx : FloatKind.f32.decode x = .nan gx ix) (gy : Bool) (iy : Nat) (hy : FloatKind.f32.decode y = .nan gy iy) (hm : ∀ tx ty, Ieee.double.mul ((Question.nanConv .f64 x).cut tx) ((Question.nanConv .f64 y).cut ty) = none) (NO : Hid (∀ w, Calls Tryz.prog 30 #[] w fun e' w' => e' = .returned (.float .f32 2143289344) ∧ Within w w')) (w : World) : Calls Tryz.prog 23 #[.float .f32 x, .float .f32 y, .int .i64 mode] w fun e' w' => e' = .returned (.tuple #[.float .f32 2143289344, .int .i64 0, .int .i64 0]) ∧ Within w w' := by
  have cx := fun (w : World) => run_widen_nan 23 34 .f32 .f64 x Tryz.prog w (by decide) (by kernel_rfl) (by kernel_rfl) gx ix hx
  have cy := fun (w : World) => run_widen_nan 23 34 .f32 .f64 y Tryz.prog w (by decide) (by kernel_rfl) (by kernel_rfl) gy iy hy
  have hmul := fun tx ty t w => m_float_nan .mul t .f64 ((Question.nanConv .f64 x).cut tx) ((Question.nanConv .f64 y).cut ty) Tryz.prog w (by first | exact .inr (.inr (.inl rfl)) | exact .inr (.inr (.inr rfl))) (hm tx ty)
  clear hm hx hy
  go_enter Tryz.func23, Tryz.ntmps23
  go_wp2_with fail
  refine (KN.out _).mono ?_; rintro e1 w1 ⟨rfl, rfl⟩
  go_wp2_with fail
  refine (NO.out _).mono ?_; rintro e5 w5 ⟨rfl, hb5⟩
  go_wp2
  go_ret3
  exact ⟨rfl, (by repeat (with_reducible first | exact Within.refl _ | assumption | refine Within.alloc ?_ _ | refine Within.drew ?_ | refine Within.setCell ?_ (by first | (simp; done) | (simp; omega)) _ | refine Within.trans ?_ (by assumption)))⟩
set_option maxRecDepth 100000 in
set_option maxHeartbeats 600000 in
theorem mul_nf (x y b : Nat) (mode : Int) (KN : Hid (∀ w, Calls Tryz.prog 29 #[.int .i64 mode] w fun e' w' => e' = .returned (.bool true) ∧ w = w')) (nx : (FloatKind.f32.format.order x x != some .eq) = true) (gx : Bool) (ix : Nat) (hx : FloatKind.f32.decode x = .nan gx ix) (hy : floatToFloatBits .f32 y .f64 = some b) (hm : ∀ tx, Ieee.double.mul ((Question.nanConv .f64 x).cut tx) b = none) (NO : Hid (∀ w, Calls Tryz.prog 30 #[] w fun e' w' => e' = .returned (.float .f32 2143289344) ∧ Within w w')) (w : World) : Calls Tryz.prog 23 #[.float .f32 x, .float .f32 y, .int .i64 mode] w fun e' w' => e' = .returned (.tuple #[.float .f32 2143289344, .int .i64 0, .int .i64 0]) ∧ Within w w' := by
  have cx := fun (w : World) => run_widen_nan 23 34 .f32 .f64 x Tryz.prog w (by decide) (by kernel_rfl) (by kernel_rfl) gx ix hx
  have cy := fun (w : World) => run_convert_float_float (P := Tryz.prog) w 23 34 .f32 .f64 y b (by kernel_rfl) (by kernel_rfl) hy
  have hmul := fun tx t w => m_float_nan .mul t .f64 ((Question.nanConv .f64 x).cut tx) b Tryz.prog w (by first | exact .inr (.inr (.inl rfl)) | exact .inr (.inr (.inr rfl))) (hm tx)
  clear hm hx hy
  go_enter Tryz.func23, Tryz.ntmps23
  go_wp2_with fail
  refine (KN.out _).mono ?_; rintro e1 w1 ⟨rfl, rfl⟩
  go_wp2_with fail
  refine (NO.out _).mono ?_; rintro e5 w5 ⟨rfl, hb5⟩
  go_wp2
  go_ret3
  exact ⟨rfl, (by repeat (with_reducible first | exact Within.refl _ | assumption | refine Within.alloc ?_ _ | refine Within.drew ?_ | refine Within.setCell ?_ (by first | (simp; done) | (simp; omega)) _ | refine Within.trans ?_ (by assumption)))⟩
set_option maxRecDepth 100000 in
set_option maxHeartbeats 600000 in
theorem mul_fn (x y a : Nat) (mode : Int) (KN : Hid (∀ w, Calls Tryz.prog 29 #[.int .i64 mode] w fun e' w' => e' = .returned (.bool true) ∧ w = w')) (nx : (FloatKind.f32.format.order x x != some .eq) = false) (ny : (FloatKind.f32.format.order y y != some .eq) = true) (hx : floatToFloatBits .f32 x .f64 = some a) (gy : Bool) (iy : Nat) (hy : FloatKind.f32.decode y = .nan gy iy) (hm : ∀ ty, Ieee.double.mul a ((Question.nanConv .f64 y).cut ty) = none) (NO : Hid (∀ w, Calls Tryz.prog 30 #[] w fun e' w' => e' = .returned (.float .f32 2143289344) ∧ Within w w')) (w : World) : Calls Tryz.prog 23 #[.float .f32 x, .float .f32 y, .int .i64 mode] w fun e' w' => e' = .returned (.tuple #[.float .f32 2143289344, .int .i64 0, .int .i64 0]) ∧ Within w w' := by
  have cx := fun (w : World) => run_convert_float_float (P := Tryz.prog) w 23 34 .f32 .f64 x a (by kernel_rfl) (by kernel_rfl) hx
  have cy := fun (w : World) => run_widen_nan 23 34 .f32 .f64 y Tryz.prog w (by decide) (by kernel_rfl) (by kernel_rfl) gy iy hy
  have hmul := fun ty t w => m_float_nan .mul t .f64 a ((Question.nanConv .f64 y).cut ty) Tryz.prog w (by first | exact .inr (.inr (.inl rfl)) | exact .inr (.inr (.inr rfl))) (hm ty)
  clear hm hx hy
  go_enter Tryz.func23, Tryz.ntmps23
  go_wp2_with fail
  refine (KN.out _).mono ?_; rintro e1 w1 ⟨rfl, rfl⟩
  go_wp2_with fail
  refine (NO.out _).mono ?_; rintro e5 w5 ⟨rfl, hb5⟩
  go_wp2
  go_ret3
  exact ⟨rfl, (by repeat (with_reducible first | exact Within.refl _ | assumption | refine Within.alloc ?_ _ | refine Within.drew ?_ | refine Within.setCell ?_ (by first | (simp; done) | (simp; omega)) _ | refine Within.trans ?_ (by assumption)))⟩
set_option maxRecDepth 100000 in
set_option maxHeartbeats 600000 in
theorem mul_invalid (x y a b : Nat) (mode : Int) (KN : Hid (∀ w, Calls Tryz.prog 29 #[.int .i64 mode] w fun e' w' => e' = .returned (.bool true) ∧ w = w')) (nx : (FloatKind.f32.format.order x x != some .eq) = false) (ny : (FloatKind.f32.format.order y y != some .eq) = false) (hx : floatToFloatBits .f32 x .f64 = some a) (hy : floatToFloatBits .f32 y .f64 = some b) (hm : Ieee.double.mul a b = none) (hn : ∀ t, (FloatKind.f64.format.order ((Question.nanBits .f64 a b).cut t) ((Question.nanBits .f64 a b).cut t) != some .eq) = true) (NO : Hid (∀ w, Calls Tryz.prog 30 #[] w fun e' w' => e' = .returned (.float .f32 2143289344) ∧ Within w w')) (w : World) : Calls Tryz.prog 23 #[.float .f32 x, .float .f32 y, .int .i64 mode] w fun e' w' => e' = .returned (.tuple #[.float .f32 2143289344, .int .i64 8, .int .i64 0]) ∧ Within w w' := by
  have cx := fun (w : World) => run_convert_float_float (P := Tryz.prog) w 23 34 .f32 .f64 x a (by kernel_rfl) (by kernel_rfl) hx
  have cy := fun (w : World) => run_convert_float_float (P := Tryz.prog) w 23 34 .f32 .f64 y b (by kernel_rfl) (by kernel_rfl) hy
  clear hx hy
  have hmul := fun t w => m_float_nan .mul t .f64 a b Tryz.prog w (by first | exact .inr (.inr (.inl rfl)) | exact .inr (.inr (.inr rfl))) hm
  clear hm
  go_enter Tryz.func23, Tryz.ntmps23
  go_wp2_with fail
  refine (KN.out _).mono ?_; rintro e1 w1 ⟨rfl, rfl⟩
  go_wp2_with fail
  refine (NO.out _).mono ?_; rintro e5 w5 ⟨rfl, hb5⟩
  go_wp2
  go_ret3
  exact ⟨rfl, (by repeat (with_reducible first | exact Within.refl _ | assumption | refine Within.alloc ?_ _ | refine Within.drew ?_ | refine Within.setCell ?_ (by first | (simp; done) | (simp; omega)) _ | refine Within.trans ?_ (by assumption)))⟩
set_option maxRecDepth 100000 in
set_option maxHeartbeats 600000 in
theorem mul_plain (x y a b : Nat) (mode : Int) (KN : Hid (∀ w, Calls Tryz.prog 29 #[.int .i64 mode] w fun e' w' => e' = .returned (.bool true) ∧ w = w')) (nx : (FloatKind.f32.format.order x x != some .eq) = false) (ny : (FloatKind.f32.format.order y y != some .eq) = false) (hx : floatToFloatBits .f32 x .f64 = some a) (hy : floatToFloatBits .f32 y .f64 = some b) (p : Nat) (hm : Ieee.double.mul a b = some p) (np : (FloatKind.f64.format.order p p != some .eq) = false) (PL : Hid (∀ w, Calls Tryz.prog 42 #[.float .f64 p] w fun e' w' => e' = .returned (.bool true) ∧ w = w')) (r : Nat) (hc : floatToFloatBits .f64 p .f32 = some r) (w : World) : Calls Tryz.prog 23 #[.float .f32 x, .float .f32 y, .int .i64 mode] w fun e' w' => e' = .returned (.tuple #[.float .f32 r, .int .i64 0, .int .i64 0]) ∧ Within w w' := by
  have cx := fun (w : World) => run_convert_float_float (P := Tryz.prog) w 23 34 .f32 .f64 x a (by kernel_rfl) (by kernel_rfl) hx
  have cy := fun (w : World) => run_convert_float_float (P := Tryz.prog) w 23 34 .f32 .f64 y b (by kernel_rfl) (by kernel_rfl) hy
  clear hx hy
  have hmul := fun t P w => run_float_arith (P := P) w .mul t .f64 _ _ _ hm
  clear hm
  have hcv := fun (w : World) => run_convert_float_float (P := Tryz.prog) w 34 23 .f64 .f32 p r (by kernel_rfl) (by kernel_rfl) hc
  clear hc
  go_enter Tryz.func23, Tryz.ntmps23
  go_wp2_with fail
  refine (KN.out _).mono ?_; rintro e1 w1 ⟨rfl, rfl⟩
  go_wp2_with fail
  refine (PL.out _).mono ?_; rintro e2 w2 ⟨rfl, rfl⟩
  go_wp2
  go_ret3
  exact ⟨rfl, (by repeat (with_reducible first | exact Within.refl _ | assumption | refine Within.alloc ?_ _ | refine Within.drew ?_ | refine Within.setCell ?_ (by first | (simp; done) | (simp; omega)) _ | refine Within.trans ?_ (by assumption)))⟩
set_option maxRecDepth 100000 in
set_option maxHeartbeats 600000 in
theorem mul_main (x y a b : Nat) (mode : Int) (KN : Hid (∀ w, Calls Tryz.prog 29 #[.int .i64 mode] w fun e' w' => e' = .returned (.bool true) ∧ w = w')) (nx : (FloatKind.f32.format.order x x != some .eq) = false) (ny : (FloatKind.f32.format.order y y != some .eq) = false) (hx : floatToFloatBits .f32 x .f64 = some a) (hy : floatToFloatBits .f32 y .f64 = some b) (p : Nat) (hm : Ieee.double.mul a b = some p) (np : (FloatKind.f64.format.order p p != some .eq) = false) (PL : Hid (∀ w, Calls Tryz.prog 42 #[.float .f64 p] w fun e' w' => e' = .returned (.bool false) ∧ w = w')) (n : Bool) (m : Nat) (e : Int) (z r : Nat) (fl : Int) (TK : Hid (∀ w, Calls Tryz.prog 43 #[.float .f64 p] w fun e' w' => e' = .returned (.agg #[.bool n, .int .u64 m, .int .i64 e]) ∧ Within w w')) (RN : Hid (∀ w, Calls Tryz.prog 68 #[.agg #[.bool n, .int .u64 m, .int .i64 e], .agg #[.int .i64 24, .int .i64 (-126), .int .i64 127], .int .i64 mode] w fun e' w' => e' = .returned (.tuple #[.float .f64 z, .int .i64 fl]) ∧ Within w w')) (hc : floatToFloatBits .f64 z .f32 = some r) (w : World) (hT : FmS w) : Calls Tryz.prog 23 #[.float .f32 x, .float .f32 y, .int .i64 mode] w fun e' w' => e' = .returned (.tuple #[.float .f32 r, .int .i64 fl, .int .i64 0]) ∧ Within w w' := by
  have cx := fun (w : World) => run_convert_float_float (P := Tryz.prog) w 23 34 .f32 .f64 x a (by kernel_rfl) (by kernel_rfl) hx
  have cy := fun (w : World) => run_convert_float_float (P := Tryz.prog) w 23 34 .f32 .f64 y b (by kernel_rfl) (by kernel_rfl) hy
  clear hx hy
  have hmul := fun t P w => run_float_arith (P := P) w .mul t .f64 _ _ _ hm
  clear hm
  have hcv := fun (w : World) => run_convert_float_float (P := Tryz.prog) w 34 23 .f64 .f32 z r (by kernel_rfl) (by kernel_rfl) hc
  clear hc
  go_enter Tryz.func23, Tryz.ntmps23
  go_wp2_with fail
  refine (KN.out _).mono ?_; rintro e1 w1 ⟨rfl, rfl⟩
  go_wp2_with fail
  refine (PL.out _).mono ?_; rintro e2 w2 ⟨rfl, rfl⟩
  go_wp2
  refine wp_region_within (by kernel_rfl) (by kernel_rfl) ?_
  repeat
    apply wpq_step rfl
    · intro wq hCq
      have q0 := (hT.of hCq).1; have q1 := (hT.of hCq).2.1; have q2 := (hT.of hCq).2.2
      go_simp
      first | rfl | exact hCq.call (TK.out _) | exact hCq.call (RN.out _) | (trace_state; fail)
    simp only [Act.put, List.setIfInBounds_toArray, List.set_cons_zero, List.set_cons_succ]
  refine wpQuiet_nil ?_
  intro w3 hb3
  go_wp2
  go_ret3
  exact ⟨rfl, (by repeat (with_reducible first | exact Within.refl _ | assumption | refine Within.alloc ?_ _ | refine Within.drew ?_ | refine Within.setCell ?_ (by first | (simp; done) | (simp; omega)) _ | refine Within.trans ?_ (by assumption)))⟩
set_option maxRecDepth 100000 in
set_option maxHeartbeats 600000 in
theorem div_bad (x y : Nat) (mode : Int) (KN : Hid (∀ w, Calls Tryz.prog 29 #[.int .i64 mode] w fun e' w' => e' = .returned (.bool false) ∧ w = w')) (w : World) : Calls Tryz.prog 25 #[.float .f32 x, .float .f32 y, .int .i64 mode] w fun e' w' => e' = .returned (.tuple #[.float .f32 0, .int .i64 0, .int .i64 20]) ∧ Within w w' := by
  go_enter Tryz.func25, Tryz.ntmps25
  go_wp2_with fail
  refine (KN.out _).mono ?_; rintro e1 w1 ⟨rfl, rfl⟩
  go_wp2
  go_ret3
  exact ⟨rfl, (by repeat (with_reducible first | exact Within.refl _ | assumption | refine Within.alloc ?_ _ | refine Within.drew ?_ | refine Within.setCell ?_ (by first | (simp; done) | (simp; omega)) _ | refine Within.trans ?_ (by assumption)))⟩
set_option maxRecDepth 100000 in
set_option maxHeartbeats 600000 in
theorem div_nn (x y : Nat) (mode : Int) (KN : Hid (∀ w, Calls Tryz.prog 29 #[.int .i64 mode] w fun e' w' => e' = .returned (.bool true) ∧ w = w')) (nx : (FloatKind.f32.format.order x x != some .eq) = true) (gx : Bool) (ix : Nat) (hx : FloatKind.f32.decode x = .nan gx ix) (gy : Bool) (iy : Nat) (hy : FloatKind.f32.decode y = .nan gy iy) (hm : ∀ tx ty, Ieee.double.div ((Question.nanConv .f64 x).cut tx) ((Question.nanConv .f64 y).cut ty) = none) (NO : Hid (∀ w, Calls Tryz.prog 30 #[] w fun e' w' => e' = .returned (.float .f32 2143289344) ∧ Within w w')) (w : World) : Calls Tryz.prog 25 #[.float .f32 x, .float .f32 y, .int .i64 mode] w fun e' w' => e' = .returned (.tuple #[.float .f32 2143289344, .int .i64 0, .int .i64 0]) ∧ Within w w' := by
  have cx := fun (w : World) => run_widen_nan 23 34 .f32 .f64 x Tryz.prog w (by decide) (by kernel_rfl) (by kernel_rfl) gx ix hx
  have cy := fun (w : World) => run_widen_nan 23 34 .f32 .f64 y Tryz.prog w (by decide) (by kernel_rfl) (by kernel_rfl) gy iy hy
  have hmul := fun tx ty t w => m_float_nan .quo t .f64 ((Question.nanConv .f64 x).cut tx) ((Question.nanConv .f64 y).cut ty) Tryz.prog w (by first | exact .inr (.inr (.inl rfl)) | exact .inr (.inr (.inr rfl))) (hm tx ty)
  clear hm hx hy
  go_enter Tryz.func25, Tryz.ntmps25
  go_wp2_with fail
  refine (KN.out _).mono ?_; rintro e1 w1 ⟨rfl, rfl⟩
  go_wp2_with fail
  refine (NO.out _).mono ?_; rintro e5 w5 ⟨rfl, hb5⟩
  go_wp2
  go_ret3
  exact ⟨rfl, (by repeat (with_reducible first | exact Within.refl _ | assumption | refine Within.alloc ?_ _ | refine Within.drew ?_ | refine Within.setCell ?_ (by first | (simp; done) | (simp; omega)) _ | refine Within.trans ?_ (by assumption)))⟩
set_option maxRecDepth 100000 in
set_option maxHeartbeats 600000 in
theorem div_nf (x y b : Nat) (mode : Int) (KN : Hid (∀ w, Calls Tryz.prog 29 #[.int .i64 mode] w fun e' w' => e' = .returned (.bool true) ∧ w = w')) (nx : (FloatKind.f32.format.order x x != some .eq) = true) (gx : Bool) (ix : Nat) (hx : FloatKind.f32.decode x = .nan gx ix) (hy : floatToFloatBits .f32 y .f64 = some b) (hm : ∀ tx, Ieee.double.div ((Question.nanConv .f64 x).cut tx) b = none) (NO : Hid (∀ w, Calls Tryz.prog 30 #[] w fun e' w' => e' = .returned (.float .f32 2143289344) ∧ Within w w')) (w : World) : Calls Tryz.prog 25 #[.float .f32 x, .float .f32 y, .int .i64 mode] w fun e' w' => e' = .returned (.tuple #[.float .f32 2143289344, .int .i64 0, .int .i64 0]) ∧ Within w w' := by
  have cx := fun (w : World) => run_widen_nan 23 34 .f32 .f64 x Tryz.prog w (by decide) (by kernel_rfl) (by kernel_rfl) gx ix hx
  have cy := fun (w : World) => run_convert_float_float (P := Tryz.prog) w 23 34 .f32 .f64 y b (by kernel_rfl) (by kernel_rfl) hy
  have hmul := fun tx t w => m_float_nan .quo t .f64 ((Question.nanConv .f64 x).cut tx) b Tryz.prog w (by first | exact .inr (.inr (.inl rfl)) | exact .inr (.inr (.inr rfl))) (hm tx)
  clear hm hx hy
  go_enter Tryz.func25, Tryz.ntmps25
  go_wp2_with fail
  refine (KN.out _).mono ?_; rintro e1 w1 ⟨rfl, rfl⟩
  go_wp2_with fail
  refine (NO.out _).mono ?_; rintro e5 w5 ⟨rfl, hb5⟩
  go_wp2
  go_ret3
  exact ⟨rfl, (by repeat (with_reducible first | exact Within.refl _ | assumption | refine Within.alloc ?_ _ | refine Within.drew ?_ | refine Within.setCell ?_ (by first | (simp; done) | (simp; omega)) _ | refine Within.trans ?_ (by assumption)))⟩
set_option maxRecDepth 100000 in
set_option maxHeartbeats 600000 in
theorem div_fn (x y a : Nat) (mode : Int) (KN : Hid (∀ w, Calls Tryz.prog 29 #[.int .i64 mode] w fun e' w' => e' = .returned (.bool true) ∧ w = w')) (nx : (FloatKind.f32.format.order x x != some .eq) = false) (ny : (FloatKind.f32.format.order y y != some .eq) = true) (hx : floatToFloatBits .f32 x .f64 = some a) (gy : Bool) (iy : Nat) (hy : FloatKind.f32.decode y = .nan gy iy) (hm : ∀ ty, Ieee.double.div a ((Question.nanConv .f64 y).cut ty) = none) (NO : Hid (∀ w, Calls Tryz.prog 30 #[] w fun e' w' => e' = .returned (.float .f32 2143289344) ∧ Within w w')) (w : World) : Calls Tryz.prog 25 #[.float .f32 x, .float .f32 y, .int .i64 mode] w fun e' w' => e' = .returned (.tuple #[.float .f32 2143289344, .int .i64 0, .int .i64 0]) ∧ Within w w' := by
  have cx := fun (w : World) => run_convert_float_float (P := Tryz.prog) w 23 34 .f32 .f64 x a (by kernel_rfl) (by kernel_rfl) hx
  have cy := fun (w : World) => run_widen_nan 23 34 .f32 .f64 y Tryz.prog w (by decide) (by kernel_rfl) (by kernel_rfl) gy iy hy
  have hmul := fun ty t w => m_float_nan .quo t .f64 a ((Question.nanConv .f64 y).cut ty) Tryz.prog w (by first | exact .inr (.inr (.inl rfl)) | exact .inr (.inr (.inr rfl))) (hm ty)
  clear hm hx hy
  go_enter Tryz.func25, Tryz.ntmps25
  go_wp2_with fail
  refine (KN.out _).mono ?_; rintro e1 w1 ⟨rfl, rfl⟩
  go_wp2_with fail
  refine (NO.out _).mono ?_; rintro e5 w5 ⟨rfl, hb5⟩
  go_wp2
  go_ret3
  exact ⟨rfl, (by repeat (with_reducible first | exact Within.refl _ | assumption | refine Within.alloc ?_ _ | refine Within.drew ?_ | refine Within.setCell ?_ (by first | (simp; done) | (simp; omega)) _ | refine Within.trans ?_ (by assumption)))⟩
set_option maxRecDepth 100000 in
set_option maxHeartbeats 600000 in
theorem div_invalid (x y a b : Nat) (mode : Int) (KN : Hid (∀ w, Calls Tryz.prog 29 #[.int .i64 mode] w fun e' w' => e' = .returned (.bool true) ∧ w = w')) (nx : (FloatKind.f32.format.order x x != some .eq) = false) (ny : (FloatKind.f32.format.order y y != some .eq) = false) (hx : floatToFloatBits .f32 x .f64 = some a) (hy : floatToFloatBits .f32 y .f64 = some b) (hm : Ieee.double.div a b = none) (hn : ∀ t, (FloatKind.f64.format.order ((Question.nanBits .f64 a b).cut t) ((Question.nanBits .f64 a b).cut t) != some .eq) = true) (NO : Hid (∀ w, Calls Tryz.prog 30 #[] w fun e' w' => e' = .returned (.float .f32 2143289344) ∧ Within w w')) (w : World) : Calls Tryz.prog 25 #[.float .f32 x, .float .f32 y, .int .i64 mode] w fun e' w' => e' = .returned (.tuple #[.float .f32 2143289344, .int .i64 8, .int .i64 0]) ∧ Within w w' := by
  have cx := fun (w : World) => run_convert_float_float (P := Tryz.prog) w 23 34 .f32 .f64 x a (by kernel_rfl) (by kernel_rfl) hx
  have cy := fun (w : World) => run_convert_float_float (P := Tryz.prog) w 23 34 .f32 .f64 y b (by kernel_rfl) (by kernel_rfl) hy
  clear hx hy
  have hmul := fun t w => m_float_nan .quo t .f64 a b Tryz.prog w (by first | exact .inr (.inr (.inl rfl)) | exact .inr (.inr (.inr rfl))) hm
  clear hm
  go_enter Tryz.func25, Tryz.ntmps25
  go_wp2_with fail
  refine (KN.out _).mono ?_; rintro e1 w1 ⟨rfl, rfl⟩
  go_wp2_with fail
  refine (NO.out _).mono ?_; rintro e5 w5 ⟨rfl, hb5⟩
  go_wp2
  go_ret3
  exact ⟨rfl, (by repeat (with_reducible first | exact Within.refl _ | assumption | refine Within.alloc ?_ _ | refine Within.drew ?_ | refine Within.setCell ?_ (by first | (simp; done) | (simp; omega)) _ | refine Within.trans ?_ (by assumption)))⟩
set_option maxRecDepth 100000 in
set_option maxHeartbeats 600000 in
theorem div_zero (x y a b : Nat) (mode : Int) (KN : Hid (∀ w, Calls Tryz.prog 29 #[.int .i64 mode] w fun e' w' => e' = .returned (.bool true) ∧ w = w')) (nx : (FloatKind.f32.format.order x x != some .eq) = false) (ny : (FloatKind.f32.format.order y y != some .eq) = false) (hx : floatToFloatBits .f32 x .f64 = some a) (hy : floatToFloatBits .f32 y .f64 = some b) (p : Nat) (hm : Ieee.double.div a b = some p) (np : (FloatKind.f64.format.order p p != some .eq) = false) (y0 : (FloatKind.f32.format.order y 0 == some .eq) = true) (FI : Hid (∀ w, Calls Tryz.prog 70 #[.float .f64 a] w fun e' w' => e' = .returned (.bool true) ∧ w = w')) (r : Nat) (hc : floatToFloatBits .f64 p .f32 = some r) (w : World) : Calls Tryz.prog 25 #[.float .f32 x, .float .f32 y, .int .i64 mode] w fun e' w' => e' = .returned (.tuple #[.float .f32 r, .int .i64 16, .int .i64 0]) ∧ Within w w' := by
  have cx := fun (w : World) => run_convert_float_float (P := Tryz.prog) w 23 34 .f32 .f64 x a (by kernel_rfl) (by kernel_rfl) hx
  have cy := fun (w : World) => run_convert_float_float (P := Tryz.prog) w 23 34 .f32 .f64 y b (by kernel_rfl) (by kernel_rfl) hy
  clear hx hy
  have hmul := fun t P w => run_float_arith (P := P) w .quo t .f64 _ _ _ hm
  clear hm
  have hcv := fun (w : World) => run_convert_float_float (P := Tryz.prog) w 34 23 .f64 .f32 p r (by kernel_rfl) (by kernel_rfl) hc
  clear hc
  go_enter Tryz.func25, Tryz.ntmps25
  go_wp2_with fail
  refine (KN.out _).mono ?_; rintro e1 w1 ⟨rfl, rfl⟩
  go_wp2_with fail
  refine (FI.out _).mono ?_; rintro e2 w2 ⟨rfl, rfl⟩
  go_wp2
  go_ret3
  exact ⟨rfl, (by repeat (with_reducible first | exact Within.refl _ | assumption | refine Within.alloc ?_ _ | refine Within.drew ?_ | refine Within.setCell ?_ (by first | (simp; done) | (simp; omega)) _ | refine Within.trans ?_ (by assumption)))⟩
set_option maxRecDepth 100000 in
set_option maxHeartbeats 600000 in
theorem div_infz (x y a b : Nat) (mode : Int) (KN : Hid (∀ w, Calls Tryz.prog 29 #[.int .i64 mode] w fun e' w' => e' = .returned (.bool true) ∧ w = w')) (nx : (FloatKind.f32.format.order x x != some .eq) = false) (ny : (FloatKind.f32.format.order y y != some .eq) = false) (hx : floatToFloatBits .f32 x .f64 = some a) (hy : floatToFloatBits .f32 y .f64 = some b) (p : Nat) (hm : Ieee.double.div a b = some p) (np : (FloatKind.f64.format.order p p != some .eq) = false) (y0 : (FloatKind.f32.format.order y 0 == some .eq) = true) (FI : Hid (∀ w, Calls Tryz.prog 70 #[.float .f64 a] w fun e' w' => e' = .returned (.bool false) ∧ Within w w')) (PL : Hid (∀ w, Calls Tryz.prog 42 #[.float .f64 p] w fun e' w' => e' = .returned (.bool true) ∧ w = w')) (r : Nat) (hc : floatToFloatBits .f64 p .f32 = some r) (w : World) : Calls Tryz.prog 25 #[.float .f32 x, .float .f32 y, .int .i64 mode] w fun e' w' => e' = .returned (.tuple #[.float .f32 r, .int .i64 0, .int .i64 0]) ∧ Within w w' := by
  have cx := fun (w : World) => run_convert_float_float (P := Tryz.prog) w 23 34 .f32 .f64 x a (by kernel_rfl) (by kernel_rfl) hx
  have cy := fun (w : World) => run_convert_float_float (P := Tryz.prog) w 23 34 .f32 .f64 y b (by kernel_rfl) (by kernel_rfl) hy
  clear hx hy
  have hmul := fun t P w => run_float_arith (P := P) w .quo t .f64 _ _ _ hm
  clear hm
  have hcv := fun (w : World) => run_convert_float_float (P := Tryz.prog) w 34 23 .f64 .f32 p r (by kernel_rfl) (by kernel_rfl) hc
  clear hc
  go_enter Tryz.func25, Tryz.ntmps25
  go_wp2_with fail
  refine (KN.out _).mono ?_; rintro e1 w1 ⟨rfl, rfl⟩
  go_wp2_with fail
  refine (FI.out _).mono ?_; rintro e2 w2 ⟨rfl, hb2⟩
  go_wp2_with fail
  refine (PL.out _).mono ?_; rintro e3 w3 ⟨rfl, rfl⟩
  go_wp2
  go_ret3
  exact ⟨rfl, (by repeat (with_reducible first | exact Within.refl _ | assumption | refine Within.alloc ?_ _ | refine Within.drew ?_ | refine Within.setCell ?_ (by first | (simp; done) | (simp; omega)) _ | refine Within.trans ?_ (by assumption)))⟩
set_option maxRecDepth 100000 in
set_option maxHeartbeats 600000 in
theorem div_plain (x y a b : Nat) (mode : Int) (KN : Hid (∀ w, Calls Tryz.prog 29 #[.int .i64 mode] w fun e' w' => e' = .returned (.bool true) ∧ w = w')) (nx : (FloatKind.f32.format.order x x != some .eq) = false) (ny : (FloatKind.f32.format.order y y != some .eq) = false) (hx : floatToFloatBits .f32 x .f64 = some a) (hy : floatToFloatBits .f32 y .f64 = some b) (p : Nat) (hm : Ieee.double.div a b = some p) (np : (FloatKind.f64.format.order p p != some .eq) = false) (y0 : (FloatKind.f32.format.order y 0 == some .eq) = false) (PL : Hid (∀ w, Calls Tryz.prog 42 #[.float .f64 p] w fun e' w' => e' = .returned (.bool true) ∧ w = w')) (r : Nat) (hc : floatToFloatBits .f64 p .f32 = some r) (w : World) : Calls Tryz.prog 25 #[.float .f32 x, .float .f32 y, .int .i64 mode] w fun e' w' => e' = .returned (.tuple #[.float .f32 r, .int .i64 0, .int .i64 0]) ∧ Within w w' := by
  have cx := fun (w : World) => run_convert_float_float (P := Tryz.prog) w 23 34 .f32 .f64 x a (by kernel_rfl) (by kernel_rfl) hx
  have cy := fun (w : World) => run_convert_float_float (P := Tryz.prog) w 23 34 .f32 .f64 y b (by kernel_rfl) (by kernel_rfl) hy
  clear hx hy
  have hmul := fun t P w => run_float_arith (P := P) w .quo t .f64 _ _ _ hm
  clear hm
  have hcv := fun (w : World) => run_convert_float_float (P := Tryz.prog) w 34 23 .f64 .f32 p r (by kernel_rfl) (by kernel_rfl) hc
  clear hc
  go_enter Tryz.func25, Tryz.ntmps25
  go_wp2_with fail
  refine (KN.out _).mono ?_; rintro e1 w1 ⟨rfl, rfl⟩
  go_wp2_with fail
  refine (PL.out _).mono ?_; rintro e3 w3 ⟨rfl, rfl⟩
  go_wp2
  go_ret3
  exact ⟨rfl, (by repeat (with_reducible first | exact Within.refl _ | assumption | refine Within.alloc ?_ _ | refine Within.drew ?_ | refine Within.setCell ?_ (by first | (simp; done) | (simp; omega)) _ | refine Within.trans ?_ (by assumption)))⟩
set_option maxRecDepth 100000 in
set_option maxHeartbeats 600000 in
theorem div_main_pos (x y a b : Nat) (mode : Int) (KN : Hid (∀ w, Calls Tryz.prog 29 #[.int .i64 mode] w fun e' w' => e' = .returned (.bool true) ∧ w = w')) (nx : (FloatKind.f32.format.order x x != some .eq) = false) (ny : (FloatKind.f32.format.order y y != some .eq) = false) (hx : floatToFloatBits .f32 x .f64 = some a) (hy : floatToFloatBits .f32 y .f64 = some b) (p : Nat) (hm : Ieee.double.div a b = some p) (np : (FloatKind.f64.format.order p p != some .eq) = false) (y0 : (FloatKind.f32.format.order y 0 == some .eq) = false) (PL : Hid (∀ w, Calls Tryz.prog 42 #[.float .f64 p] w fun e' w' => e' = .returned (.bool false) ∧ w = w')) (pn l : Nat) (hpn : Go.Op.negFloat .f64 p = pn) (hf : Ieee.double.fma pn b a = some l) (hb : (FloatKind.f64.format.order b 0 == some .lt) = false) (n : Bool) (m : Nat) (e : Int) (z r : Nat) (fl : Int) (NU : Hid (∀ w, Calls Tryz.prog 72 #[.float .f64 p, .float .f64 l] w fun e' w' => e' = .returned (.agg #[.bool n, .int .u64 m, .int .i64 e]) ∧ Within w w')) (RN : Hid (∀ w, Calls Tryz.prog 68 #[.agg #[.bool n, .int .u64 m, .int .i64 e], .agg #[.int .i64 24, .int .i64 (-126), .int .i64 127], .int .i64 mode] w fun e' w' => e' = .returned (.tuple #[.float .f64 z, .int .i64 fl]) ∧ Within w w')) (hc : floatToFloatBits .f64 z .f32 = some r) (w : World) (hT : FmS w) : Calls Tryz.prog 25 #[.float .f32 x, .float .f32 y, .int .i64 mode] w fun e' w' => e' = .returned (.tuple #[.float .f32 r, .int .i64 fl, .int .i64 0]) ∧ Within w w' := by
  have cx := fun (w : World) => run_convert_float_float (P := Tryz.prog) w 23 34 .f32 .f64 x a (by kernel_rfl) (by kernel_rfl) hx
  have cy := fun (w : World) => run_convert_float_float (P := Tryz.prog) w 23 34 .f32 .f64 y b (by kernel_rfl) (by kernel_rfl) hy
  clear hx hy
  have hmul := fun t P w => run_float_arith (P := P) w .quo t .f64 _ _ _ hm
  clear hm
  have hcv := fun (w : World) => run_convert_float_float (P := Tryz.prog) w 34 23 .f64 .f32 z r (by kernel_rfl) (by kernel_rfl) hc
  have hfm := fma_any pn b a l hf
  clear hc hf
  go_enter Tryz.func25, Tryz.ntmps25
  go_wp2_with fail
  refine (KN.out _).mono ?_; rintro e1 w1 ⟨rfl, rfl⟩
  go_wp2_with fail
  refine (PL.out _).mono ?_; rintro e3 w3 ⟨rfl, rfl⟩
  go_wp2
  refine wp_region_within (by kernel_rfl) (by kernel_rfl) ?_
  repeat
    apply wpq_step rfl
    · intro wq hCq
      have q0 := (hT.of hCq).1; have q1 := (hT.of hCq).2.1; have q2 := (hT.of hCq).2.2
      go_simp
      first | rfl | exact hCq.call (NU.out _) | exact hCq.call (RN.out _) | (trace_state; fail)
    simp only [Act.put, List.setIfInBounds_toArray, List.set_cons_zero, List.set_cons_succ]
  refine wpQuiet_nil ?_
  intro w3 hb3
  go_wp2
  go_ret3
  exact ⟨rfl, (by repeat (with_reducible first | exact Within.refl _ | assumption | refine Within.alloc ?_ _ | refine Within.drew ?_ | refine Within.setCell ?_ (by first | (simp; done) | (simp; omega)) _ | refine Within.trans ?_ (by assumption)))⟩
set_option maxRecDepth 100000 in
set_option maxHeartbeats 600000 in
theorem div_main_neg (x y a b : Nat) (mode : Int) (KN : Hid (∀ w, Calls Tryz.prog 29 #[.int .i64 mode] w fun e' w' => e' = .returned (.bool true) ∧ w = w')) (nx : (FloatKind.f32.format.order x x != some .eq) = false) (ny : (FloatKind.f32.format.order y y != some .eq) = false) (hx : floatToFloatBits .f32 x .f64 = some a) (hy : floatToFloatBits .f32 y .f64 = some b) (p : Nat) (hm : Ieee.double.div a b = some p) (np : (FloatKind.f64.format.order p p != some .eq) = false) (y0 : (FloatKind.f32.format.order y 0 == some .eq) = false) (PL : Hid (∀ w, Calls Tryz.prog 42 #[.float .f64 p] w fun e' w' => e' = .returned (.bool false) ∧ w = w')) (pn l k : Nat) (hpn : Go.Op.negFloat .f64 p = pn) (hf : Ieee.double.fma pn b a = some l) (hk : Go.Op.negFloat .f64 l = k) (hb : (FloatKind.f64.format.order b 0 == some .lt) = true) (n : Bool) (m : Nat) (e : Int) (z r : Nat) (fl : Int) (NU : Hid (∀ w, Calls Tryz.prog 72 #[.float .f64 p, .float .f64 k] w fun e' w' => e' = .returned (.agg #[.bool n, .int .u64 m, .int .i64 e]) ∧ Within w w')) (RN : Hid (∀ w, Calls Tryz.prog 68 #[.agg #[.bool n, .int .u64 m, .int .i64 e], .agg #[.int .i64 24, .int .i64 (-126), .int .i64 127], .int .i64 mode] w fun e' w' => e' = .returned (.tuple #[.float .f64 z, .int .i64 fl]) ∧ Within w w')) (hc : floatToFloatBits .f64 z .f32 = some r) (w : World) (hT : FmS w) : Calls Tryz.prog 25 #[.float .f32 x, .float .f32 y, .int .i64 mode] w fun e' w' => e' = .returned (.tuple #[.float .f32 r, .int .i64 fl, .int .i64 0]) ∧ Within w w' := by
  have cx := fun (w : World) => run_convert_float_float (P := Tryz.prog) w 23 34 .f32 .f64 x a (by kernel_rfl) (by kernel_rfl) hx
  have cy := fun (w : World) => run_convert_float_float (P := Tryz.prog) w 23 34 .f32 .f64 y b (by kernel_rfl) (by kernel_rfl) hy
  clear hx hy
  have hmul := fun t P w => run_float_arith (P := P) w .quo t .f64 _ _ _ hm
  clear hm
  have hcv := fun (w : World) => run_convert_float_float (P := Tryz.prog) w 34 23 .f64 .f32 z r (by kernel_rfl) (by kernel_rfl) hc
  have hfm := fma_any pn b a l hf
  clear hc hf
  go_enter Tryz.func25, Tryz.ntmps25
  go_wp2_with fail
  refine (KN.out _).mono ?_; rintro e1 w1 ⟨rfl, rfl⟩
  go_wp2_with fail
  refine (PL.out _).mono ?_; rintro e3 w3 ⟨rfl, rfl⟩
  go_wp2
  refine wp_region_within (by kernel_rfl) (by kernel_rfl) ?_
  repeat
    apply wpq_step rfl
    · intro wq hCq
      have q0 := (hT.of hCq).1; have q1 := (hT.of hCq).2.1; have q2 := (hT.of hCq).2.2
      go_simp
      first | rfl | exact hCq.call (NU.out _) | exact hCq.call (RN.out _) | (trace_state; fail)
    simp only [Act.put, List.setIfInBounds_toArray, List.set_cons_zero, List.set_cons_succ]
  refine wpQuiet_nil ?_
  intro w3 hb3
  go_wp2
  go_ret3
  exact ⟨rfl, (by repeat (with_reducible first | exact Within.refl _ | assumption | refine Within.alloc ?_ _ | refine Within.drew ?_ | refine Within.setCell ?_ (by first | (simp; done) | (simp; omega)) _ | refine Within.trans ?_ (by assumption)))⟩
end Go.Proofs.YtifgngmebnjfkaaGreatDoor
end

section
namespace Go.Proofs.YtifgngmebnjfkaaGreatDoor
open Go.RowKit
def tuD (a : Nat) : Nat := if a < 9223372036854775808 then a + 9223372036854775808 else a - 9223372036854775808
def tuS (a : Nat) : Nat := if a < 2147483648 then a + 2147483648 else a - 2147483648
theorem tuD_lt {a : Nat} (h : a < 18446744073709551616) : tuD a < 18446744073709551616 := by unfold tuD; split <;> omega
theorem tuS_lt {a : Nat} (h : a < 4294967296) : tuS a < 4294967296 := by unfold tuS; split <;> omega
theorem tuD_mod {a : Nat} (h : a < 18446744073709551616) : tuD a % 9223372036854775808 = a % 9223372036854775808 := by unfold tuD; split <;> omega
theorem tuD_ng {a : Nat} (h : a < 18446744073709551616) : ngD (tuD a) = !ngD a := by
  unfold ngD tuD
  split
  · rw [decide_eq_true (by omega), decide_eq_false (by omega)]; rfl
  · rw [decide_eq_false (by omega), decide_eq_true (by omega)]; rfl
theorem neg_tuD {a : Nat} (ha : a < 18446744073709551616) : Go.Op.negFloat .f64 a = tuD a := by
  unfold tuD
  by_cases h : a < 9223372036854775808
  · rw [if_pos h]; exact neg_pos h
  · rw [if_neg h]
    have g := neg_pos (a := a - 9223372036854775808) (by omega)
    rw [show a - 9223372036854775808 + 9223372036854775808 = a by omega] at g
    have g' : (a - 9223372036854775808) ^^^ 2 ^ 63 = a := g
    show a ^^^ 2 ^ 63 = _
    rw [← g', Nat.xor_assoc, Nat.xor_self, Nat.xor_zero, g']
theorem negS_pos {a : Nat} (ha : a < 2147483648) : a ^^^ 2 ^ 31 = a + 2147483648 := by
  have := Nat.two_pow_add_eq_or_of_lt (i := 31) (b := a) ha 1
  rw [Nat.mul_one] at this
  rw [show a + 2147483648 = 2 ^ 31 + a by omega, this, Nat.xor_comm]
  apply Nat.eq_of_testBit_eq
  intro i
  rw [Nat.testBit_xor, Nat.testBit_or, Nat.testBit_two_pow]
  by_cases hi : 31 = i
  · subst hi
    rw [Nat.testBit_lt_two_pow ha]; simp
  · simp [hi]
theorem xor_tuS {a : Nat} (ha : a < 4294967296) : a ^^^ 2 ^ 31 = tuS a := by
  unfold tuS
  by_cases h : a < 2147483648
  · rw [if_pos h]; exact negS_pos h
  · rw [if_neg h]
    have g := negS_pos (a := a - 2147483648) (by omega)
    rw [show a - 2147483648 + 2147483648 = a by omega] at g
    conv => lhs; rw [← g]
    rw [Nat.xor_assoc, Nat.xor_self, Nat.xor_zero]
theorem neg_tuS {a : Nat} (ha : a < 4294967296) : Go.Op.negFloat .f32 a = tuS a := xor_tuS ha
/-! data -/
theorem near_any (f : Ieee.Format) (m : Nat) (p : Int) : ∃ R, R ≤ f.infRung ∧ ∀ s, f.nearest s m p = f.word s R := by
  unfold Ieee.Format.nearest
  by_cases h : m = 0
  · exact ⟨0, Nat.zero_le _, fun s => by rw [if_pos h]⟩
  · refine ⟨min ((max (p + m.log2 - f.fractionBits) f.leastPlace - f.leastPlace).toNat * f.binade + Ieee.Toward.even.cut false (m <<< (p - max (p + m.log2 - f.fractionBits) f.leastPlace).toNat) (max (p + m.log2 - f.fractionBits) f.leastPlace - p).toNat) f.infRung, Nat.min_le_right _ _, fun s => ?_⟩
    rw [if_neg h]
    cases s <;> rfl
theorem near_split (m : Nat) (p : Int) : ∃ R, R ≤ 9218868437227405312 ∧ ∀ s, Ieee.double.nearest s m p = Ieee.double.word s R := by
  rw [← Fp.dI]; exact near_any _ m p
theorem write_good {d : Ieee.Datum} (h : d.isNaN = false) : Ieee.double.write d < 18446744073709551616 ∧ Ieee.double.write d % 9223372036854775808 ≤ 9218868437227405312 := by
  cases d with
  | number s m p =>
    obtain ⟨R, h1, h2⟩ := near_split m p
    show Ieee.double.nearest s m p < _ ∧ Ieee.double.nearest s m p % _ ≤ _
    rw [h2]
    unfold Ieee.Format.word
    rw [Fp.dS]
    split <;> omega
  | infinity s => cases s <;> decide +kernel
  | nan s t => cases h
theorem prod_nn {d e r : Ieee.Datum} (h : d.product e = some r) : r.isNaN = false := by
  cases d <;> cases e <;> simp only [Ieee.Datum.product] at h
  all_goals first | (cases h; done) | (obtain rfl := Option.some.inj h; rfl) | (split at h <;> first | (cases h; done) | (obtain rfl := Option.some.inj h; rfl))
theorem quot_nn {n : Nat} {d e r : Ieee.Datum} (h : d.quotient n e = some r) : r.isNaN = false := by
  cases d <;> cases e <;> simp only [Ieee.Datum.quotient] at h
  all_goals first | (cases h; done) | (obtain rfl := Option.some.inj h; rfl) | skip
  split at h
  · split at h
    · cases h
    · obtain rfl := Option.some.inj h; rfl
  · obtain rfl := Option.some.inj h; rfl
theorem sum_nn {d e r : Ieee.Datum} (h : d.sum e = some r) : r.isNaN = false := by
  cases d <;> cases e <;> simp only [Ieee.Datum.sum] at h
  all_goals first | (cases h; done) | (obtain rfl := Option.some.inj h; rfl) | (split at h <;> first | (cases h; done) | (obtain rfl := Option.some.inj h; rfl))
theorem mul_good {a b p : Nat} (h : Ieee.double.mul a b = some p) : p < 18446744073709551616 ∧ p % 9223372036854775808 ≤ 9218868437227405312 := by
  unfold Ieee.Format.mul at h
  obtain ⟨r, h1, rfl⟩ := Option.map_eq_some_iff.1 h
  exact write_good (prod_nn h1)
theorem div_good {a b p : Nat} (h : Ieee.double.div a b = some p) : p < 18446744073709551616 ∧ p % 9223372036854775808 ≤ 9218868437227405312 := by
  unfold Ieee.Format.div at h
  obtain ⟨r, h1, rfl⟩ := Option.map_eq_some_iff.1 h
  exact write_good (quot_nn h1)
theorem fma_good {a b c p : Nat} (h : Ieee.double.fma a b c = some p) : p < 18446744073709551616 ∧ p % 9223372036854775808 ≤ 9218868437227405312 := by
  unfold Ieee.Format.fma at h
  obtain ⟨r, h1, rfl⟩ := Option.map_eq_some_iff.1 h
  obtain ⟨s, _, h2⟩ := Option.bind_eq_some_iff.1 h1
  exact write_good (sum_nn h2)
/-! the mode of the other side -/
def tm (mode : Int) : Int := if mode = 3 then 4 else if mode = 4 then 3 else mode
end Go.Proofs.YtifgngmebnjfkaaGreatDoor
end

section
namespace Go.Proofs.YtifgngmebnjfkaaGreatDoor
open Go.RowKit
def wD (x : Nat) : Nat := (floatToFloatBits .f32 x .f64).getD 0
theorem wD_eq {x : Nat} (hx : x < 4294967296) (h : isN x = false) : floatToFloatBits .f32 x .f64 = some (wD x) ∧ wD x < 18446744073709551616 ∧ wD x % 9223372036854775808 ≤ 9218868437227405312 := by
  unfold wD
  cases hi : isI x
  · obtain ⟨a, h1, h2, _⟩ := wide_ok hx (fin_of h hi)
    rw [h1]; exact ⟨rfl, h2.1, h2.le⟩
  · rw [wide_inf hx hi]; exact ⟨rfl, infD_lt _, infD_le _⟩
theorem wD_fin {x : Nat} (hx : x < 4294967296) (h : isN x = false) (hi : isI x = false) : Fi (wD x) ∧ Fp.un Ieee.double (wD x) = uS x ∧ ngD (wD x) = ngS x := by
  obtain ⟨a, h1, h2, h3, h4, _⟩ := wide_ok hx (fin_of h hi)
  unfold wD; rw [h1]; exact ⟨h2, h3, h4⟩
theorem wD_inf {x : Nat} (hx : x < 4294967296) (hi : isI x = true) : wD x = infD (ngS x) := by
  unfold wD; rw [wide_inf hx hi]; rfl
theorem ne32 (x : Nat) : (FloatKind.f32.format.order x x != some .eq) = isN x := by
  show (!(Ieee.single.order x x == some .eq)) = _
  rw [Fp.order32_self, Bool.not_not]; rfl
theorem mul_nan {a b : Nat} (h : 9218868437227405312 < a % 9223372036854775808 ∨ 9218868437227405312 < b % 9223372036854775808) : Ieee.double.mul a b = none := by
  unfold Ieee.Format.mul
  rcases h with h | h
  · obtain ⟨s, t, e⟩ := read_nanD h
    rw [e]; rfl
  · obtain ⟨s, t, e⟩ := read_nanD h
    rw [e]
    cases Ieee.double.read a <;> rfl
theorem div_nan {a b : Nat} (h : 9218868437227405312 < a % 9223372036854775808 ∨ 9218868437227405312 < b % 9223372036854775808) : Ieee.double.div a b = none := by
  unfold Ieee.Format.div
  rcases h with h | h
  · obtain ⟨s, t, e⟩ := read_nanD h
    rw [e]; rfl
  · obtain ⟨s, t, e⟩ := read_nanD h
    rw [e]
    cases Ieee.double.read a <;> rfl
def mulWd (x y : Nat) (mode : Int) : Nat :=
  if isN x || isN y then 2143289344 else match Ieee.double.mul (wD x) (wD y) with
  | none => 2143289344
  | some p => nWord p mode
def mulFl (x y : Nat) (mode : Int) : Int :=
  if isN x || isN y then 0 else match Ieee.double.mul (wD x) (wD y) with
  | none => 8
  | some p => nFlags p mode
theorem Mul_known (x y : Nat) (mode : Int) (hx : x < 4294967296) (hy : y < 4294967296) (hmode : 0 ≤ mode ∧ mode ≤ 4) (w : World) (hT : FmS w) : Calls Tryz.prog 23 #[.float .f32 x, .float .f32 y, .int .i64 mode] w fun e' w' => e' = .returned (.tuple #[.float .f32 (mulWd x y mode), .int .i64 (mulFl x y mode), .int .i64 0]) ∧ Within w w' := by
  have KN : Hid (∀ w, Calls Tryz.prog 29 #[.int .i64 mode] w fun e' w' => e' = .returned (.bool true) ∧ w = w') := Lib.hid (fun w => by have := known_any mode w; rw [decide_eq_true hmode] at this; exact this)
  have NO := Lib.hid none_any
  have e1 := ne32 x
  have e2 := ne32 y
  unfold mulWd mulFl
  cases nx : isN x
  · rw [nx] at e1
    obtain ⟨ha, la0, la⟩ := wD_eq hx nx
    cases ny : isN y
    · rw [ny] at e2
      obtain ⟨hb, lb0, lb⟩ := wD_eq hy ny
      have hff : ¬ ((false || false) = true) := Bool.false_ne_true
      rw [if_neg hff, if_neg hff]
      cases hm : Ieee.double.mul (wD x) (wD y) with
      | none => exact mul_invalid x y _ _ mode KN e1 e2 ha hb hm (fun t => ne_true (nanb_gt _ _ t)) NO w
      | some p =>
        obtain ⟨p1, p2⟩ := mul_good hm
        have np := ne_false p2
        have PL := Lib.hid (fun w => plain_any p p1 p2 w)
        have hsp := sgn_split p1
        have hm' : ¬¬(0 ≤ mode ∧ mode ≤ 4) := fun h => h hmode
        have hn : ¬ 9218868437227405312 < p % 9223372036854775808 := by omega
        show Calls _ _ _ _ fun e' w' => e' = .returned (.tuple #[.float .f32 (nWord p mode), .int .i64 (nFlags p mode), .int .i64 0]) ∧ Within w w'
        unfold nWord nFlags
        rw [if_neg hm', if_neg hm', if_neg hn, if_neg hn]
        by_cases hz : p % 9223372036854775808 = 0
        · rw [decide_eq_true (.inl hz)] at PL
          rw [if_pos hz, if_pos hz]
          refine mul_plain x y _ _ mode KN e1 e2 ha hb p hm np PL _ ?_ w
          rw [hz, Nat.zero_add] at hsp
          conv => lhs; rw [hsp]
          exact nbits_zero _
        rw [if_neg hz, if_neg hz]
        by_cases hi : p % 9223372036854775808 = 9218868437227405312
        · rw [decide_eq_true (.inr hi)] at PL
          rw [if_pos hi, if_pos hi]
          refine mul_plain x y _ _ mode KN e1 e2 ha hb p hm np PL _ ?_ w
          rw [hi] at hsp
          conv => lhs; rw [hsp]
          exact nbits_inf _
        rw [if_neg hi, if_neg hi]
        rw [decide_eq_false (show ¬ (p % 9223372036854775808 = 0 ∨ p % 9223372036854775808 = 9218868437227405312) by omega)] at PL
        have h0 : magD p ≠ 0 := fun h => hz (magD_zero.1 h)
        obtain ⟨t1, t2, t3, _⟩ := top53_bounds h0 (magD_rep (by omega))
        have TK := Lib.hid (fun w => take_any p (magD p) p1 h0 (by omega) rfl w)
        have RN := Lib.hid (fun w => round_S (ngD p) (top53 (magD p)) (((magD p).log2 : Int) - 1126) mode (by omega) (by omega) (by omega) (by omega) hmode w)
        exact mul_main x y _ _ mode KN e1 e2 ha hb p hm np PL _ _ _ _ _ _ TK RN (sWord_bits (ngD p) _ mode (by omega) (by omega)) w hT
    · rw [ny] at e2
      obtain ⟨gy, iy, dy⟩ := isN_nan ny
      have hft : (false || true) = true := rfl
      rw [if_pos hft, if_pos hft]
      exact mul_fn x y _ mode KN e1 e2 ha gy iy dy (fun ty => mul_nan (.inr (nanc_gt _ ty))) NO w
  · rw [nx] at e1
    obtain ⟨gx, ix, dx⟩ := isN_nan nx
    have htt : ∀ q, (true || q) = true := fun q => rfl
    rw [if_pos (htt _), if_pos (htt _)]
    cases ny : isN y
    · obtain ⟨hb, lb0, lb⟩ := wD_eq hy ny
      exact mul_nf x y _ mode KN e1 gx ix dx hb (fun tx => mul_nan (.inl (nanc_gt _ tx))) NO w
    · obtain ⟨gy, iy, dy⟩ := isN_nan ny
      exact mul_nn x y mode KN e1 gx ix dx gy iy dy (fun tx ty => mul_nan (.inl (nanc_gt _ tx))) NO w
end Go.Proofs.YtifgngmebnjfkaaGreatDoor
end

section
namespace Go.Proofs.YtifgngmebnjfkaaGreatDoor
open Go.RowKit
theorem wD_is {x : Nat} (hx : x < 4294967296) (hf : x % 2147483648 < 2139095040) : Fp.Is Ieee.double (wD x) (ngS x) (Fp.mag Ieee.single (x % 2147483648) * 2 ^ Fp.sgap) := by
  obtain ⟨h1, h2⟩ := Fp.widen_is (single_is hx hf)
  have hl := num_lt h2
  have J := Fp.Rep.is h2 (decide (2147483648 ≤ x))
  have e := num_sgn (decide (2147483648 ≤ x)) (Fp.mag Ieee.single (x % 2147483648) * 2 ^ Fp.sgap)
  have hF : Fp.num Ieee.double (decide (2147483648 ≤ x)) (Fp.mag Ieee.single (x % 2147483648) * 2 ^ Fp.sgap) % 9223372036854775808 < 9218868437227405312 := by
    rw [e]; unfold sgnD; split <;> omega
  unfold wD
  rw [wbits_num hf hF h1]
  exact J
theorem mul_pows (m n a b S c P : Nat) (h : S + S = c + P) : (m * 2 ^ a * 2 ^ S) * (n * 2 ^ b * 2 ^ S) = m * n * 2 ^ (a + b + c) * 2 ^ P := by
  have e : 2 ^ S * 2 ^ S = 2 ^ c * 2 ^ P := by rw [← Nat.pow_add, ← Nat.pow_add, h]
  have e1 : (m * 2 ^ a * 2 ^ S) * (n * 2 ^ b * 2 ^ S) = m * n * (2 ^ a * 2 ^ b) * (2 ^ S * 2 ^ S) := by ac_rfl
  rw [e1, e, Nat.pow_add, Nat.pow_add]
  ac_rfl
def prodN (x y : Nat) : Nat := mS x * mS y * 2 ^ (eS x + eS y + 1074).toNat
theorem eS_hi (x : Nat) : eS x ≤ 106 := by unfold eS tE; split <;> (try split) <;> omega
def pTop : Nat := 1300
theorem pTop_is : pTop = 1300 := rfl
theorem prod_lt (x y : Nat) : prodN x y < 2 ^ (48 + pTop) := by
  have h1 := mS_lt x
  have h2 := mS_lt y
  have e1 := eS_hi x
  have e2 := eS_hi y
  have h3 : mS x * mS y ≤ 16777215 * 16777215 := Nat.mul_le_mul (by omega) (by omega)
  unfold prodN
  have h4 : 2 ^ (eS x + eS y + 1074).toNat ≤ 2 ^ pTop := Nat.pow_le_pow_right (by decide) (by have := pTop_is; omega)
  rw [Nat.pow_add]
  refine Nat.lt_of_le_of_lt (Nat.mul_le_mul h3 h4) ?_
  exact Nat.mul_lt_mul_of_pos_right (by decide) (Nat.pow_pos (by decide))
theorem prod_fin {x y : Nat} (hx : x < 4294967296) (hy : y < 4294967296) (fx : x % 2147483648 < 2139095040) (fy : y % 2147483648 < 2139095040) : ∃ p, Ieee.double.mul (wD x) (wD y) = some p ∧ Fp.Is Ieee.double p (ngS x ^^ ngS y) (prodN x y) := by
  have hq : mS x * mS y < 2 ^ (Ieee.double.fractionBits + 1) := by
    have h1 := mS_lt x
    have h2 := mS_lt y
    have h3 : mS x * mS y ≤ 16777215 * 16777215 := Nat.mul_le_mul (by omega) (by omega)
    have h4 : (2 : Nat) ^ (Ieee.double.fractionBits + 1) = 9007199254740992 := by decide
    omega
  have hl := prod_lt x y
  have hR : Fp.Rep Ieee.double (prodN x y) := Fp.rep_of Ieee.double _ _ rfl hq (Nat.lt_of_lt_of_le hl (by rw [Fp.mag_infD]; exact Nat.pow_le_pow_right (by decide) (by have := pTop_is; unfold Fp.dtop; omega)))
  have h1 := wD_is hx fx
  have h2 := wD_is hy fy
  obtain ⟨a1, a2, a3, _⟩ := mS_mag fx
  obtain ⟨b1, b2, b3, _⟩ := mS_mag fy
  rw [a1] at h1
  rw [b1] at h2
  have ex := eS_lo x a2
  have ey := eS_lo y b2
  have key := mul_pows (mS x) (mS y) (eS x + 149).toNat (eS y + 149).toNat Fp.sgap 776 (Fp.deep Ieee.double) (by have := Fp.sgap_eq; have := Fp.dD; omega)
  rw [show (eS x + 149).toNat + (eS y + 149).toNat + 776 = (eS x + eS y + 1074).toNat by omega] at key
  exact ⟨_, Fp.mul_is Ieee.double Fp.dL0 h1 h2 key hR, Fp.Rep.is hR _⟩
theorem read_is {b n : Nat} {s : Bool} (h : Fp.Is Ieee.double b s n) : ∃ m e, Ieee.double.read b = .number s m e ∧ (m = 0 ↔ n = 0) := by
  obtain ⟨m, e, h1, _, h3⟩ := h.read
  refine ⟨m, e, h1, ⟨fun h0 => ?_, fun h0 => ?_⟩⟩
  · rw [← h3, h0, Nat.zero_mul]
  · rw [h0] at h3; exact (Nat.mul_eq_zero.1 h3).resolve_right (Nat.ne_of_gt (Nat.pow_pos (by decide)))
theorem mul_inf_l (s : Bool) {b n : Nat} {t : Bool} (h : Fp.Is Ieee.double b t n) : Ieee.double.mul (infD s) b = if n = 0 then none else some (infD (s ^^ t)) := by
  obtain ⟨m, e, h1, h2⟩ := read_is h
  unfold Ieee.Format.mul
  rw [read_infD, h1]
  show (if m = 0 then none else some (Ieee.Datum.infinity (s ^^ t))).map Ieee.double.write = _
  by_cases h0 : n = 0
  · rw [if_pos h0, if_pos (h2.2 h0)]; rfl
  · rw [if_neg h0, if_neg (fun h => h0 (h2.1 h)), ← write_infD]; rfl
theorem mul_inf_r (s : Bool) {b n : Nat} {t : Bool} (h : Fp.Is Ieee.double b t n) : Ieee.double.mul b (infD s) = if n = 0 then none else some (infD (t ^^ s)) := by
  obtain ⟨m, e, h1, h2⟩ := read_is h
  unfold Ieee.Format.mul
  rw [read_infD, h1]
  show (if m = 0 then none else some (Ieee.Datum.infinity (s ^^ t))).map Ieee.double.write = _
  by_cases h0 : n = 0
  · rw [if_pos h0, if_pos (h2.2 h0)]; rfl
  · rw [if_neg h0, if_neg (fun h => h0 (h2.1 h)), Bool.xor_comm t s, ← write_infD]; rfl
theorem mul_inf_inf (s t : Bool) : Ieee.double.mul (infD s) (infD t) = some (infD (s ^^ t)) := by cases s <;> cases t <;> decide +kernel
theorem isN_k (x : Nat) : isN x = decide (kS x = 2) := by
  unfold isN kS tK
  refine decide_eq_decide.2 ?_
  split <;> (try split) <;> omega
theorem isI_k (x : Nat) : isI x = decide (kS x = 1) := by
  unfold isI kS tK
  refine decide_eq_decide.2 ?_
  split <;> (try split) <;> omega
theorem nS_ng {x : Nat} (h : kS x ≠ 2) : nS x = ngS x := by
  unfold nS tN ngS
  unfold kS tK at h
  split
  · rename_i h1
    rw [if_pos h1.1, if_neg h1.2] at h
    exact absurd rfl h
  · rfl
theorem uS_sg {x : Nat} (fx : x % 2147483648 < 2139095040) : uS x = sgI (ngS x) (mS x) (eS x + 1074).toNat := by
  obtain ⟨a1, a2, a3, _⟩ := mS_mag fx
  have ex := eS_lo x a2
  have e : mS x * 2 ^ (eS x + 149).toNat * 2 ^ Fp.sgap = mS x * 2 ^ (eS x + 1074).toNat := by
    rw [Nat.mul_assoc, ← Nat.pow_add]; congr 2; have := Fp.sgap_eq; omega
  unfold uS sgI Fp.val
  rw [a1, e]
  split <;> simp
def addRW (ka : Int) (na : Bool) (ma : Nat) (ea kb : Int) (nb : Bool) (mb : Nat) (eb mode : Int) : Nat :=
  if ka = 2 ∨ kb = 2 then 2143289344
  else if ka = 1 ∧ kb = 1 ∧ na ≠ nb then 2143289344
  else if ka = 1 then infS na
  else if kb = 1 then infS nb
  else if sgI na ma (ea - min ea eb).toNat + sgI nb mb (eb - min ea eb).toNat = 0 then (if ma = 0 ∧ mb = 0 ∧ na = nb then sgnS na else sgnS (decide (mode = 4)))
  else gWord 24 (-149) 127 2139095039 2139095040 8388608 2147483648 (decide (sgI na ma (ea - min ea eb).toNat + sgI nb mb (eb - min ea eb).toNat < 0)) (sgI na ma (ea - min ea eb).toNat + sgI nb mb (eb - min ea eb).toNat).natAbs (min ea eb) false mode
def addRF (ka : Int) (na : Bool) (ma : Nat) (ea kb : Int) (nb : Bool) (mb : Nat) (eb mode : Int) : Int :=
  if ka = 2 ∨ kb = 2 then 0
  else if ka = 1 ∧ kb = 1 ∧ na ≠ nb then 8
  else if ka = 1 then 0
  else if kb = 1 then 0
  else if sgI na ma (ea - min ea eb).toNat + sgI nb mb (eb - min ea eb).toNat = 0 then 0
  else gFlags 24 (-149) 127 (decide (sgI na ma (ea - min ea eb).toNat + sgI nb mb (eb - min ea eb).toNat < 0)) (sgI na ma (ea - min ea eb).toNat + sgI nb mb (eb - min ea eb).toNat).natAbs (min ea eb) false mode
theorem add_units {na nb : Bool} {ma mb : Nat} {ea eb : Int} (h1 : -1074 ≤ ea) (h2 : -1074 ≤ eb) (mode : Int) :
    addRW 0 na ma ea 0 nb mb eb mode = eSumW (sgI na ma (ea + 1074).toNat + sgI nb mb (eb + 1074).toNat) (sgI na ma (ea + 1074).toNat) na nb mode ∧ addRF 0 na ma ea 0 nb mb eb mode = eSumF (sgI na ma (ea + 1074).toNat + sgI nb mb (eb + 1074).toNat) mode := by
  unfold addRW addRF eSumW eSumF
  have n0 : ¬ ((0 : Int) = 2 ∨ (0 : Int) = 2) := by decide
  have n1 : ¬ ((0 : Int) = 1 ∧ (0 : Int) = 1 ∧ na ≠ nb) := fun h => absurd h.1 (by decide)
  have n2 : ¬ ((0 : Int) = 1) := by decide
  rw [if_neg n0, if_neg n1, if_neg n2, if_neg n2, if_neg n0, if_neg n1, if_neg n2, if_neg n2]
  obtain ⟨e, he⟩ : ∃ e, min ea eb = e := ⟨_, rfl⟩
  have q1 := sgI_min (J := 1074) (E := ea) (e := e) na ma (by omega) (by omega)
  have q2 := sgI_min (J := 1074) (E := eb) (e := e) nb mb (by omega) (by omega)
  have hc : ((1074 : Nat) : Int) = 1074 := rfl
  rw [hc] at q1 q2
  have za : sgI na ma (ea + 1074).toNat = 0 ↔ ma = 0 := by
    unfold sgI
    have hp : (2 : Int) ^ (ea + 1074).toNat ≠ 0 := Int.pow_ne_zero (by decide)
    split
    · rw [Int.neg_eq_zero, Int.mul_eq_zero]; constructor
      · rintro (h | h); exact Int.natCast_eq_zero.1 h; exact absurd h hp
      · intro h; exact .inl (by rw [h]; rfl)
    · rw [Int.mul_eq_zero]; constructor
      · rintro (h | h); exact Int.natCast_eq_zero.1 h; exact absurd h hp
      · intro h; exact .inl (by rw [h]; rfl)
  have zb : sgI nb mb (eb + 1074).toNat = 0 ↔ mb = 0 := by
    unfold sgI
    have hp : (2 : Int) ^ (eb + 1074).toNat ≠ 0 := Int.pow_ne_zero (by decide)
    split
    · rw [Int.neg_eq_zero, Int.mul_eq_zero]; constructor
      · rintro (h | h); exact Int.natCast_eq_zero.1 h; exact absurd h hp
      · intro h; exact .inl (by rw [h]; rfl)
    · rw [Int.mul_eq_zero]; constructor
      · rintro (h | h); exact Int.natCast_eq_zero.1 h; exact absurd h hp
      · intro h; exact .inl (by rw [h]; rfl)
  rw [he]
  obtain ⟨v, hv⟩ : ∃ v, sgI na ma (ea - e).toNat + sgI nb mb (eb - e).toNat = v := ⟨_, rfl⟩
  have hz : sgI na ma (ea + 1074).toNat + sgI nb mb (eb + 1074).toNat = v * 2 ^ (e + 1074).toNat := by rw [q1, q2, ← Int.add_mul, hv]
  rw [hv]
  have hP : (0 : Int) < 2 ^ (e + 1074).toNat := Int.pow_pos (by decide)
  have hz0 : sgI na ma (ea + 1074).toNat + sgI nb mb (eb + 1074).toNat = 0 ↔ v = 0 := by
    rw [hz, Int.mul_eq_zero]
    exact ⟨fun h => h.resolve_right (Int.ne_of_gt hP), fun h => .inl h⟩
  by_cases h0 : v = 0
  · rw [if_pos h0, if_pos h0, if_pos (hz0.2 h0), if_pos (hz0.2 h0)]
    refine ⟨?_, rfl⟩
    have hs := hz0.2 h0
    by_cases ha : ma = 0
    · have hA := za.2 ha
      have hb : mb = 0 := zb.1 (by rw [hA, Int.zero_add] at hs; exact hs)
      rw [if_pos hA]
      by_cases hn : na = nb
      · subst hn
        rw [if_pos ⟨ha, hb, rfl⟩]
        unfold noughtW sgnS
        cases na <;> simp
      · rw [if_neg (fun h => hn h.2.2)]
        unfold noughtW sgnS
        cases na <;> cases nb <;> simp_all
    · rw [if_neg (fun h => ha h.1), if_neg (fun h => ha (za.1 h))]
      unfold noughtW sgnS
      simp
  · rw [if_neg h0, if_neg h0, if_neg (fun h => h0 (hz0.1 h)), if_neg (fun h => h0 (hz0.1 h))]
    unfold xWord xFlags
    rw [hz]
    have hneg : decide (v * 2 ^ (e + 1074).toNat < 0) = decide (v < 0) := by
      refine decide_eq_decide.2 ⟨fun h => ?_, fun h => Int.mul_neg_of_neg_of_pos h hP⟩
      by_cases hn : v < 0
      · exact hn
      · have h9 := Int.mul_nonneg (show 0 ≤ v by omega) (Int.le_of_lt hP)
        exact absurd h (Int.not_lt.2 h9)
    have habs : (v * 2 ^ (e + 1074).toNat).natAbs = v.natAbs * 2 ^ (e + 1074).toNat := by rw [Int.natAbs_mul, Int.natAbs_pow]; rfl
    rw [hneg, habs]
    have h := gWord_same (D := 24) (lo := -149) (most := 127) (top := 2139095039) (inf := 2139095040) (FR := 8388608) (SG := 2147483648) (ng := decide (v < 0)) (M := v.natAbs) (M' := v.natAbs * 2 ^ (e + 1074).toNat) (E := e) (E' := -1074) (mode := mode) 1074 (by omega) (by decide) (by decide) (by omega) (by
      rw [show ((-1074 : Int) + ((1074 : Nat) : Int)).toNat = 0 by decide, Nat.pow_zero, Nat.mul_one]; rfl)
    exact h
theorem ng_inf (s : Bool) : ngD (infD s) = s := by cases s <;> decide
theorem k_fin {z : Nat} (h1 : kS z ≠ 2) (h2 : kS z ≠ 1) : z % 2147483648 < 2139095040 := fin_of (by rw [isN_k, decide_eq_false h1]) (by rw [isI_k, decide_eq_false h2])
theorem k_zero {z : Nat} (h1 : kS z ≠ 2) (h2 : kS z ≠ 1) : kS z = 0 := by rcases kS_range z with h | h | h; exact h; exact absurd h h2; exact absurd h h1
theorem repz_sg {b : Bool} {M d : Nat} (h : M ≤ 9007199254740992) : RepZ (sgI b M d) := by
  unfold sgI
  split
  · exact ⟨-(M : Int), d, by rw [Int.neg_mul], by rw [Int.natAbs_neg]; exact h⟩
  · exact ⟨(M : Int), d, rfl, h⟩
theorem sgI_abs' (b : Bool) (M d : Nat) : (sgI b M d).natAbs = M * 2 ^ d := by
  have h2 : (M : Int) * 2 ^ d = ((M * 2 ^ d : Nat) : Int) := by simp
  unfold sgI
  rw [h2]
  split <;> omega
theorem uS_small {z : Nat} (hz : z < 4294967296) (fz : z % 2147483648 < 2139095040) : (uS z).natAbs ≤ 2 ^ 1500 := by
  obtain ⟨_, _, _, _, _, a5⟩ := wide_ok hz fz
  exact a5
theorem rep_rn {z : Int} (h : z.natAbs ≤ 2 ^ flim) : Fp.Rep Ieee.double (rn z).natAbs := by
  obtain ⟨_, h2⟩ := rung_small h
  have R := Fp.rep_mag Ieee.double Fp.dF (r := Fp.grid Ieee.double z.natAbs 0) (by rw [Fp.dI]; exact h2)
  have e : (rn z).natAbs = Fp.mag Ieee.double (Fp.grid Ieee.double z.natAbs 0) := by unfold rn; split <;> omega
  rw [e]; exact R
theorem bne_xor (a b : Bool) : (a != b) = (a ^^ b) := by cases a <;> cases b <;> rfl
theorem mag_zero {y : Nat} (fy : y % 2147483648 < 2139095040) : Fp.mag Ieee.single (y % 2147483648) * 2 ^ Fp.sgap = 0 ↔ mS y = 0 := by
  obtain ⟨b1, _⟩ := mS_mag fy
  rw [b1, Nat.mul_eq_zero, Nat.mul_eq_zero]
  have p1 : ∀ n : Nat, 2 ^ n ≠ 0 := fun n => Nat.ne_of_gt (Nat.pow_pos (by decide))
  exact ⟨fun h => (h.resolve_right (p1 _)).resolve_right (p1 _), fun h => .inl (.inl h)⟩
theorem fin_two {x : Nat} (hx : x < 4294967296) (h2 : kS x ≠ 2) (h1 : kS x ≠ 1) : kS x = 0 ∧ x % 2147483648 < 2139095040 ∧ Fp.Is Ieee.double (wD x) (nS x) (Fp.mag Ieee.single (x % 2147483648) * 2 ^ Fp.sgap) := by
  have fx := k_fin h2 h1
  exact ⟨k_zero h2 h1, fx, by rw [nS_ng h2]; exact wD_is hx fx⟩
theorem inf_two {x : Nat} (hx : x < 4294967296) (h1 : kS x = 1) : wD x = infD (nS x) := by
  rw [nS_ng (by omega)]
  exact wD_inf hx (by rw [isI_k, decide_eq_true h1])
theorem mul_cases {x y : Nat} (hx : x < 4294967296) (hy : y < 4294967296) (nx : kS x ≠ 2) (ny : kS y ≠ 2) :
    (Ieee.double.mul (wD x) (wD y) = none ∧ ((kS x = 1 ∧ kS y = 0 ∧ mS y = 0) ∨ (kS y = 1 ∧ kS x = 0 ∧ mS x = 0))) ∨
    (Ieee.double.mul (wD x) (wD y) = some (infD (nS x != nS y)) ∧ (kS x = 1 ∨ kS y = 1) ∧ ¬ ((kS x = 1 ∧ kS y = 0 ∧ mS y = 0) ∨ (kS y = 1 ∧ kS x = 0 ∧ mS x = 0))) ∨
    (∃ p, Ieee.double.mul (wD x) (wD y) = some p ∧ Fp.Is Ieee.double p (nS x != nS y) (prodN x y) ∧ kS x = 0 ∧ kS y = 0) := by
  rw [bne_xor]
  by_cases ix : kS x = 1
  · by_cases iy : kS y = 1
    · refine .inr (.inl ⟨?_, .inl ix, fun h => by omega⟩)
      rw [inf_two hx ix, inf_two hy iy, mul_inf_inf]
    · obtain ⟨ky, fy, hI⟩ := fin_two hy ny iy
      have h := mul_inf_l (nS x) hI
      rw [← inf_two hx ix] at h
      by_cases h0 : mS y = 0
      · rw [if_pos ((mag_zero fy).2 h0)] at h
        exact .inl ⟨h, .inl ⟨ix, ky, h0⟩⟩
      · rw [if_neg (fun h => h0 ((mag_zero fy).1 h))] at h
        exact .inr (.inl ⟨h, .inl ix, fun h => by rcases h with h | h; exact h0 h.2.2; omega⟩)
  · obtain ⟨kx, fx, hI⟩ := fin_two hx nx ix
    by_cases iy : kS y = 1
    · have h := mul_inf_r (nS y) hI
      rw [← inf_two hy iy] at h
      by_cases h0 : mS x = 0
      · rw [if_pos ((mag_zero fx).2 h0)] at h
        exact .inl ⟨h, .inr ⟨iy, kx, h0⟩⟩
      · rw [if_neg (fun h => h0 ((mag_zero fx).1 h))] at h
        exact .inr (.inl ⟨h, .inr iy, fun h => by rcases h with h | h; omega; exact h0 h.2.2⟩)
    · obtain ⟨ky, fy, _⟩ := fin_two hy ny iy
      obtain ⟨p, h1, h2⟩ := prod_fin hx hy fx fy
      rw [← nS_ng nx, ← nS_ng ny] at h2
      exact .inr (.inr ⟨p, h1, h2, kx, ky⟩)
theorem k0_fin {x : Nat} (h : kS x = 0) : x % 2147483648 < 2139095040 := k_fin (by omega) (by omega)
end Go.Proofs.YtifgngmebnjfkaaGreatDoor
end

section
namespace Go.Proofs.YtifgngmebnjfkaaGreatDoor
open Go.RowKit
theorem un_tuD {a : Nat} (h : a < 18446744073709551616) : Fp.un Ieee.double (tuD a) = -Fp.un Ieee.double a := by
  have e : magD (tuD a) = magD a := by unfold magD; rw [tuD_mod h]
  rw [un_parts h, un_parts (tuD_lt h), tuD_ng h, e]
  cases ngD a <;> simp
theorem zeroS {y : Nat} (h : isN y = false) : (FloatKind.f32.format.order y 0 == some .eq) = decide (y % 2147483648 = 0) := by
  show (Ieee.single.order y 0 == some .eq) = _
  rw [Fp.eq32 y 0 h (by decide), Bool.eq_iff_iff, decide_eq_true_iff, decide_eq_true_iff]
  unfold Fp.key32; split <;> split <;> omega
theorem uS_zero {y : Nat} : uS y = 0 ↔ y % 2147483648 = 0 := by
  unfold uS Fp.val
  have hm : Fp.mag Ieee.single (y % 2147483648) = 0 ↔ y % 2147483648 = 0 := by
    have := Fp.le_mag Ieee.single (y % 2147483648)
    constructor
    · intro h; omega
    · intro h; rw [h]; exact Fp.mag_zero _
  have h2 : Fp.mag Ieee.single (y % 2147483648) * 2 ^ Fp.sgap = 0 ↔ y % 2147483648 = 0 := by
    rw [Nat.mul_eq_zero, hm]
    constructor
    · rintro (h | h)
      · exact h
      · exact absurd h (Nat.ne_of_gt (Nat.two_pow_pos _))
    · exact .inl
  generalize Fp.mag Ieee.single (y % 2147483648) * 2 ^ Fp.sgap = M at *
  rw [← h2]
  split <;> omega
theorem read_mag {a : Nat} (h : Fi a) : ∃ m e, Ieee.double.read a = .number (Fp.sg Ieee.double a) m e ∧ (m = 0 ↔ a % 9223372036854775808 = 0) := by
  obtain ⟨m, e, r, _, h2⟩ := Fp.read_fin Ieee.double a h.rg
  refine ⟨m, e, r, ?_⟩
  rw [Fp.rg64] at h2
  have g := magD_zero (a := a)
  unfold magD at g
  rw [← g, ← h2, Nat.mul_eq_zero]
  constructor
  · exact .inl
  · rintro (h | h)
    · exact h
    · exact absurd h (Nat.ne_of_gt (Nat.two_pow_pos _))
theorem inf_mod (s : Bool) : infD s % 9223372036854775808 = 9218868437227405312 := by cases s <;> decide
theorem word0 (s : Bool) : Ieee.double.write (.number s 0 0) % 9223372036854775808 = 0 := by cases s <;> decide +kernel
theorem div_by_zero {a b p : Nat} (ha : Fi a ∨ ∃ s, a = infD s) (hb : Fi b) (h0 : b % 9223372036854775808 = 0) (h : Ieee.double.div a b = some p) : p % 9223372036854775808 = 9218868437227405312 := by
  obtain ⟨n, j, rb, hn⟩ := read_mag hb
  unfold Ieee.Format.div at h
  rw [rb, hn.2 h0] at h
  rcases ha with ha | ⟨s, rfl⟩
  · obtain ⟨m, i, ra, hm⟩ := read_mag ha
    rw [ra] at h
    simp only [Ieee.Datum.quotient, if_true] at h
    split at h
    · cases h
    · obtain rfl := Option.some.inj h
      rw [write_infD]; exact inf_mod _
  · rw [read_infD] at h
    obtain rfl := Option.some.inj h
    show Ieee.double.write (.infinity _) % _ = _
    rw [write_infD]; exact inf_mod _
theorem div_numbers {a b p : Nat} (ha : Fi a ∨ ∃ s, a = infD s) (hb : Fi b ∨ ∃ s, b = infD s) (h : Ieee.double.div a b = some p) (h1 : p % 9223372036854775808 ≠ 0) (h2 : p % 9223372036854775808 ≠ 9218868437227405312) : Fi a ∧ Fi b := by
  unfold Ieee.Format.div at h
  rcases ha with ha | ⟨s, rfl⟩
  · rcases hb with hb | ⟨t, rfl⟩
    · exact ⟨ha, hb⟩
    · obtain ⟨m, i, ra, hm⟩ := read_mag ha
      rw [ra, read_infD] at h
      obtain rfl := Option.some.inj h
      exact absurd (word0 _) h1
  · rcases hb with hb | ⟨t, rfl⟩
    · obtain ⟨n, j, rb, hn⟩ := read_mag hb
      rw [rb, read_infD] at h
      obtain rfl := Option.some.inj h
      refine absurd ?_ h2
      show Ieee.double.write (.infinity _) % _ = _
      rw [write_infD]; exact inf_mod _
    · rw [read_infD, read_infD] at h
      cases h
theorem fma_ok {p b a : Nat} (hp : Fi p) (hb : Fi b) (ha : Fi a) : ∃ l, Ieee.double.fma p b a = some l := by
  obtain ⟨s, m, e, r⟩ := read_fi hp
  obtain ⟨s', m', e', r'⟩ := read_fi hb
  obtain ⟨s'', m'', e'', r''⟩ := read_fi ha
  unfold Ieee.Format.fma
  rw [r, r', r'']
  exact ⟨_, rfl⟩
def restU (x y p : Nat) : Int := if uS y < 0 then -Fp.un Ieee.double ((Ieee.double.fma (tuD p) (wD y) (wD x)).getD 0) else Fp.un Ieee.double ((Ieee.double.fma (tuD p) (wD y) (wD x)).getD 0)
def divWd (x y : Nat) (mode : Int) : Nat :=
  if isN x || isN y then 2143289344 else match Ieee.double.div (wD x) (wD y) with
  | none => 2143289344
  | some p => if p % 9223372036854775808 = 0 then sgnS (ngD p) else if p % 9223372036854775808 = 9218868437227405312 then infS (ngD p)
    else sWord (decide (Fp.un Ieee.double p < 0)) (nudM (Fp.un Ieee.double p) (restU x y p)) (nudE (Fp.un Ieee.double p)) mode
def divFl (x y : Nat) (mode : Int) : Int :=
  if isN x || isN y then 0 else match Ieee.double.div (wD x) (wD y) with
  | none => 8
  | some p => if y % 2147483648 = 0 then (if isI x then 0 else 16)
    else if p % 9223372036854775808 = 0 then 0 else if p % 9223372036854775808 = 9218868437227405312 then 0
    else rFlags 24 (-149) 127 (decide (Fp.un Ieee.double p < 0)) (nudM (Fp.un Ieee.double p) (restU x y p)) (nudE (Fp.un Ieee.double p)) mode
theorem wD_or {x : Nat} (hx : x < 4294967296) (h : isN x = false) : Fi (wD x) ∨ ∃ s, wD x = infD s := by
  cases hi : isI x
  · exact .inl (wD_fin hx h hi).1
  · exact .inr ⟨_, wD_inf hx hi⟩
theorem Div_known (x y : Nat) (mode : Int) (hx : x < 4294967296) (hy : y < 4294967296) (hmode : 0 ≤ mode ∧ mode ≤ 4) (w : World) (hT : FmS w) : Calls Tryz.prog 25 #[.float .f32 x, .float .f32 y, .int .i64 mode] w fun e' w' => e' = .returned (.tuple #[.float .f32 (divWd x y mode), .int .i64 (divFl x y mode), .int .i64 0]) ∧ Within w w' := by
  have KN : Hid (∀ w, Calls Tryz.prog 29 #[.int .i64 mode] w fun e' w' => e' = .returned (.bool true) ∧ w = w') := Lib.hid (fun w => by have := known_any mode w; rw [decide_eq_true hmode] at this; exact this)
  have NO := Lib.hid none_any
  have e1 := ne32 x
  have e2 := ne32 y
  unfold divWd divFl
  cases nx : isN x
  · rw [nx] at e1
    obtain ⟨ha, la0, la⟩ := wD_eq hx nx
    cases ny : isN y
    · rw [ny] at e2
      obtain ⟨hb, lb0, lb⟩ := wD_eq hy ny
      have hff : ¬ ((false || false) = true) := Bool.false_ne_true
      rw [if_neg hff, if_neg hff]
      cases hm : Ieee.double.div (wD x) (wD y) with
      | none => exact div_invalid x y _ _ mode KN e1 e2 ha hb hm (fun t => ne_true (nanb_gt _ _ t)) NO w
      | some p =>
        obtain ⟨p1, p2⟩ := div_good hm
        have np := ne_false p2
        have PL := Lib.hid (fun w => plain_any p p1 p2 w)
        have hsp := sgn_split p1
        have y0 := zeroS ny
        show Calls _ _ _ _ fun e' w' => e' = .returned (.tuple #[.float .f32 (if p % 9223372036854775808 = 0 then sgnS (ngD p) else if p % 9223372036854775808 = 9218868437227405312 then infS (ngD p) else sWord (decide (Fp.un Ieee.double p < 0)) (nudM (Fp.un Ieee.double p) (restU x y p)) (nudE (Fp.un Ieee.double p)) mode), .int .i64 (if y % 2147483648 = 0 then (if isI x then 0 else 16) else if p % 9223372036854775808 = 0 then 0 else if p % 9223372036854775808 = 9218868437227405312 then 0 else rFlags 24 (-149) 127 (decide (Fp.un Ieee.double p < 0)) (nudM (Fp.un Ieee.double p) (restU x y p)) (nudE (Fp.un Ieee.double p)) mode), .int .i64 0]) ∧ Within w w'
        by_cases yz : y % 2147483648 = 0
        · rw [decide_eq_true yz] at y0
          have iy : isI y = false := decide_eq_false (by omega)
          obtain ⟨fy, uy, _⟩ := wD_fin hy ny iy
          have y1 : wD y % 9223372036854775808 = 0 := by
            have g := (un_nat fy).1
            rw [uy, uS_zero.2 yz] at g
            exact magD_zero.1 g
          have pi := div_by_zero (wD_or hx nx) fy y1 hm
          rw [if_neg (show ¬ p % 9223372036854775808 = 0 by omega), if_pos pi, if_pos yz]
          have hc : floatToFloatBits .f64 p .f32 = some (infS (ngD p)) := by
            rw [pi] at hsp
            conv => lhs; rw [hsp]
            exact nbits_inf _
          rw [decide_eq_true (.inr pi)] at PL
          cases ix : isI x
          · rw [if_neg Bool.false_ne_true]
            exact div_zero x y _ _ mode KN e1 e2 ha hb p hm np y0 (Lib.hid fun w => finite_ok (wD_fin hx nx ix).1 w) _ hc w
          · rw [if_pos rfl]
            exact div_infz x y _ _ mode KN e1 e2 ha hb p hm np y0 (Lib.hid fun w => by rw [wD_inf hx ix]; exact finite_inf_any _ w) PL _ hc w
        rw [decide_eq_false yz] at y0
        rw [if_neg yz]
        by_cases hz : p % 9223372036854775808 = 0
        · rw [decide_eq_true (.inl hz)] at PL
          rw [if_pos hz, if_pos hz]
          refine div_plain x y _ _ mode KN e1 e2 ha hb p hm np y0 PL _ ?_ w
          rw [hz, Nat.zero_add] at hsp
          conv => lhs; rw [hsp]
          exact nbits_zero _
        rw [if_neg hz, if_neg hz]
        by_cases hi : p % 9223372036854775808 = 9218868437227405312
        · rw [decide_eq_true (.inr hi)] at PL
          rw [if_pos hi, if_pos hi]
          refine div_plain x y _ _ mode KN e1 e2 ha hb p hm np y0 PL _ ?_ w
          rw [hi] at hsp
          conv => lhs; rw [hsp]
          exact nbits_inf _
        rw [if_neg hi, if_neg hi]
        rw [decide_eq_false (show ¬ (p % 9223372036854775808 = 0 ∨ p % 9223372036854775808 = 9218868437227405312) by omega)] at PL
        obtain ⟨fa, fb⟩ := div_numbers (wD_or hx nx) (wD_or hy ny) hm hz hi
        have iy : isI y = false := by
          cases g : isI y
          · rfl
          · have := wD_inf hy g
            have fb2 := fb.2
            rw [this, inf_mod] at fb2; omega
        have uy := (wD_fin hy ny iy).2.1
        have fp : Fi p := ⟨p1, by omega⟩
        have ftp : Fi (tuD p) := ⟨tuD_lt p1, by rw [tuD_mod p1]; omega⟩
        have S0 : Fp.un Ieee.double p ≠ 0 := fun h => by
          have g := (un_nat fp).1
          rw [h] at g
          exact hz (magD_zero.1 g)
        obtain ⟨l, hl⟩ := fma_ok ftp fb fa
        obtain ⟨l1, l2⟩ := fma_good hl
        have hR : Fp.Rep Ieee.double (Fp.un Ieee.double p).natAbs := by rw [← (un_nat fp).1]; exact magD_rep fp.2
        have hbs : (FloatKind.f64.format.order (wD y) 0 == some .lt) = decide (uS y < 0) := by rw [un_lt fb.le (by decide), zero_un, uy]
        unfold restU
        rw [hl]
        show Calls _ _ _ _ fun e' w' => e' = .returned (.tuple #[.float .f32 (sWord _ (nudM _ (if uS y < 0 then -Fp.un Ieee.double l else Fp.un Ieee.double l)) _ mode), .int .i64 (rFlags 24 (-149) 127 _ (nudM _ (if uS y < 0 then -Fp.un Ieee.double l else Fp.un Ieee.double l)) _ mode), .int .i64 0]) ∧ Within w w'
        by_cases ys : uS y < 0
        · rw [decide_eq_true ys] at hbs
          rw [if_pos ys]
          have e3 := un_tuD l1
          obtain ⟨b1, b2, b3, b4⟩ := nud_bounds (L := Fp.un Ieee.double (tuD l)) S0 hR
          have NU := Lib.hid (fun w => nudge_le fp (l := tuD l) (by rw [tuD_mod l1]; exact l2) S0 w)
          rw [e3] at NU b1 b2
          exact div_main_neg x y _ _ mode KN e1 e2 ha hb p hm np y0 PL (tuD p) l (tuD l) (neg_tuD p1) hl (neg_tuD l1) hbs _ _ _ _ _ _ NU
            (Lib.hid fun w => round_S (decide (Fp.un Ieee.double p < 0)) _ _ mode b1 b2 (by omega) (by omega) hmode w) (sWord_bits _ _ mode b1 b2) w hT
        · rw [decide_eq_false ys] at hbs
          rw [if_neg ys]
          obtain ⟨b1, b2, b3, b4⟩ := nud_bounds (L := Fp.un Ieee.double l) S0 hR
          have NU := Lib.hid (fun w => nudge_le fp l2 S0 w)
          exact div_main_pos x y _ _ mode KN e1 e2 ha hb p hm np y0 PL (tuD p) l (neg_tuD p1) hl hbs _ _ _ _ _ _ NU
            (Lib.hid fun w => round_S (decide (Fp.un Ieee.double p < 0)) _ _ mode b1 b2 (by omega) (by omega) hmode w) (sWord_bits _ _ mode b1 b2) w hT
    · rw [ny] at e2
      obtain ⟨gy, iy, dy⟩ := isN_nan ny
      have hft : (false || true) = true := rfl
      rw [if_pos hft, if_pos hft]
      exact div_fn x y _ mode KN e1 e2 ha gy iy dy (fun ty => div_nan (.inr (nanc_gt _ ty))) NO w
  · rw [nx] at e1
    obtain ⟨gx, ix, dx⟩ := isN_nan nx
    have htt : ∀ q, (true || q) = true := fun q => rfl
    rw [if_pos (htt _), if_pos (htt _)]
    cases ny : isN y
    · obtain ⟨hb, lb0, lb⟩ := wD_eq hy ny
      exact div_nf x y _ mode KN e1 gx ix dx hb (fun tx => div_nan (.inl (nanc_gt _ tx))) NO w
    · obtain ⟨gy, iy, dy⟩ := isN_nan ny
      exact div_nn x y mode KN e1 gx ix dx gy iy dy (fun tx ty => div_nan (.inl (nanc_gt _ tx))) NO w
end Go.Proofs.YtifgngmebnjfkaaGreatDoor
end

section
namespace Go.Proofs.YtifgngmebnjfkaaGreatDoor
def qT : Nat := 1073
theorem qT_is : qT = 1073 := rfl
def qLo : Nat := 925
theorem qLo_is : qLo = 925 := rfl
def qHi : Nat := 1204
theorem qHi_is : qHi = 1204 := rfl
def qMid : Nat := 500
theorem qMid_is : qMid = 500 := rfl
theorem xWord_like {t X Y : Nat} (s : Bool) (h : Like t X Y) (hX : X ≠ 0) (ht : t + 53 ≤ X.log2) (hr : Fp.Rep Ieee.double (rnN X)) (mode : Int) : xWord (Fp.val s X) mode = xWord (Fp.val s Y) mode ∧ xFlags (Fp.val s X) mode = xFlags (Fp.val s Y) mode := by
  have h0 : Fp.val s X - Fp.val s (rnN X) = 0 ↔ rnN X = X := by unfold Fp.val; split <;> omega
  have h1 : 0 < Fp.val s X - Fp.val s (rnN X) ↔ (if s then X < rnN X else rnN X < X) := by
    unfold Fp.val; cases s
    · simp only [Bool.false_eq_true, if_false]; omega
    · simp only [if_true]; omega
  obtain ⟨a1, a2⟩ := stk_word h hX ht hr h0 h1 mode
  obtain ⟨b1, b2⟩ := stk_word (Like.refl t X) hX ht hr h0 h1 mode
  exact ⟨b1.trans a1.symm, b2.trans a2.symm⟩
theorem rep_rnN {n : Nat} (h : n ≤ 2 ^ flim) : Fp.Rep Ieee.double (rnN n) := by
  have := rep_rn (z := (n : Int)) (by rw [Int.natAbs_natCast]; exact h)
  rw [rn_abs, Int.natAbs_natCast] at this
  exact this
theorem is_parts {a n : Nat} {s : Bool} (h : Fp.Is Ieee.double a s n) : ∃ m e, Ieee.double.read a = .number s m e ∧ -1074 ≤ e ∧ m < 9007199254740992 ∧ m * 2 ^ (e + 1074).toNat = n := by
  obtain ⟨_, h2, h3, h4⟩ := h
  have e0 : a % Ieee.double.signWeight = Fp.rg Ieee.double a := rfl
  have e1 : (a / Ieee.double.signWeight % 2 == 1) = s := h3
  subst h4
  rw [Fp.dI] at h2
  unfold Ieee.Format.read
  dsimp only
  rw [e0, e1, Fp.dB, Fp.dI, Fp.dL]
  by_cases h1 : Fp.rg Ieee.double a < 4503599627370496
  · rw [if_pos h1]
    exact ⟨_, _, rfl, Int.le_refl _, by omega, by rw [Fp.mag_lt Ieee.double _ (by rw [Fp.dB]; exact h1)]; simp⟩
  · rw [if_neg h1, if_pos h2]
    refine ⟨_, _, rfl, by omega, by omega, ?_⟩
    unfold Fp.mag
    rw [Fp.dB, if_neg h1]
    congr 2
    omega
theorem pow_le_iff {a b : Nat} : 2 ^ a ≤ 2 ^ b ↔ a ≤ b := Nat.pow_le_pow_iff_right (by decide)
theorem parts_bounds {m k n lo hi : Nat} (h : m * 2 ^ k = n) (hm : m < 9007199254740992) (h1 : 2 ^ lo ≤ n) (h2 : n < 2 ^ hi) : lo < k + 53 ∧ k < hi ∧ m ≠ 0 ∧ m.log2 ≤ 52 ∧ m.log2 + k < hi := by
  have hp := Nat.two_pow_pos k
  have hp2 := Nat.two_pow_pos lo
  have h0 : m ≠ 0 := by rintro rfl; rw [Nat.zero_mul] at h; omega
  have hl := Nat.log2_self_le h0
  have a1 : lo < k + 53 := by
    rcases Nat.lt_or_ge lo (k + 53) with h3 | h3
    · exact h3
    · exfalso
      have a : 2 ^ (k + 53) ≤ 2 ^ lo := pow_le_iff.2 h3
      have b : m * 2 ^ k < 9007199254740992 * 2 ^ k := Nat.mul_lt_mul_of_pos_right hm hp
      rw [Nat.pow_add, Nat.mul_comm] at a
      have : (2 : Nat) ^ 53 = 9007199254740992 := by decide
      rw [this] at a
      omega
  have a4 : m.log2 + k < hi := by
    rcases Nat.lt_or_ge (m.log2 + k) hi with h3 | h3
    · exact h3
    · exfalso
      have a : 2 ^ hi ≤ 2 ^ (m.log2 + k) := pow_le_iff.2 h3
      rw [Nat.pow_add] at a
      have := Nat.mul_le_mul_right (2 ^ k) hl
      omega
  refine ⟨a1, by omega, h0, ?_, a4⟩
  have := (Nat.log2_lt h0 (k := 53)).2 (by exact hm)
  omega
theorem near_is {s : Bool} {M : Nat} {e : Int} (he : -1074 ≤ e) (hM : M * 2 ^ (e + 1074).toNat ≤ 2 ^ flim) : Fi (Ieee.double.nearest s M e) ∧ Fp.Is Ieee.double (Ieee.double.nearest s M e) s (rnN (M * 2 ^ (e + 1074).toNat)) := by
  have hu := Fp.nearest_units Ieee.double s M e (by rw [Fp.dL]; exact he)
  rw [Fp.dL, show e - -1074 = e + 1074 by omega] at hu
  generalize M * 2 ^ (e + 1074).toNat = n at *
  obtain ⟨r1, r2⟩ := rung_small (z := (n : Int)) (by rw [Int.natAbs_natCast]; exact hM)
  rw [Int.natAbs_natCast] at r1 r2
  rw [hu, r1]
  obtain ⟨f1, f2⟩ := word_fi s r2
  refine ⟨f1, f1.1, by rw [Fp.rg64, Fp.dI]; exact f1.2, Fp.sg_word _ _ _ (by rw [Fp.dS]; omega), ?_⟩
  rw [Fp.rg_word _ _ _ (by rw [Fp.dS]; omega)]
  rfl
theorem grid_one : Fp.grid Ieee.double 1 0 = 1 := by decide +kernel
theorem near_sign {s : Bool} {M : Nat} {e : Int} (he : -1074 ≤ e) : (Fp.un Ieee.double (Ieee.double.nearest s M e) = 0 ↔ M = 0) ∧ (0 < Fp.un Ieee.double (Ieee.double.nearest s M e) ↔ M ≠ 0 ∧ s = false) := by
  have hu := Fp.nearest_units Ieee.double s M e (by rw [Fp.dL]; exact he)
  rw [hu]
  have hp := Nat.two_pow_pos (e - Ieee.double.leastPlace).toNat
  have hn : M * 2 ^ (e - Ieee.double.leastPlace).toNat = 0 ↔ M = 0 := by rw [Nat.mul_eq_zero]; omega
  rw [ne_eq, ← hn]
  clear hu hn
  generalize M * 2 ^ (e - Ieee.double.leastPlace).toNat = n
  have hr : Fp.rung Ieee.double n ≤ 9218868437227405312 := by unfold Fp.rung; rw [Fp.dI]; omega
  have h0 : Fp.rung Ieee.double n = 0 ↔ n = 0 := by
    constructor
    · intro h
      rcases Nat.eq_zero_or_pos n with h1 | h1
      · exact h1
      · have := Fp.grid_mono Ieee.double Fp.dF 0 h1
        rw [grid_one] at this
        unfold Fp.rung at h
        rw [Fp.dI] at h
        omega
    · rintro rfl
      unfold Fp.rung
      rw [Fp.grid_zero]; omega
  have hs : Fp.rung Ieee.double n < Ieee.double.signWeight := by rw [Fp.dS]; omega
  have hm : Fp.mag Ieee.double (Fp.rung Ieee.double n) = 0 ↔ n = 0 := by
    rw [← h0]
    have := Fp.le_mag Ieee.double (Fp.rung Ieee.double n)
    constructor
    · intro h; omega
    · intro h; rw [h]; exact Fp.mag_zero _
  unfold Fp.un
  rw [Fp.rg_word _ _ _ hs, Fp.sg_word _ _ _ hs]
  generalize Fp.mag Ieee.double (Fp.rung Ieee.double n) = g at *
  cases s
  · rw [if_neg Bool.false_ne_true]
    exact ⟨by omega, ⟨fun h => ⟨by omega, rfl⟩, fun h => by have := h.1; omega⟩⟩
  · rw [if_pos rfl]
    exact ⟨by omega, ⟨fun h => by omega, fun h => absurd h.2 (by decide)⟩⟩
theorem fma_sign {p b a P Y X : Nat} {sp t s : Bool} (hp : Fp.Is Ieee.double p sp P) (hb : Fp.Is Ieee.double b t Y) (ha : Fp.Is Ieee.double a s X) {k1 k2 hi1 hi2 : Nat} (h1 : 2 ^ k1 ≤ P) (h1' : P < 2 ^ hi1) (h2 : 2 ^ k2 ≤ Y) (h2' : Y < 2 ^ hi2) (hk : 1180 ≤ k1 + k2) {l : Nat} (hl : Ieee.double.fma p b a = some l) :
    (Fp.un Ieee.double l = 0 ↔ Fp.val (sp ^^ t) (P * Y) + Fp.val s (X * 2 ^ (qT + 1)) = 0) ∧ (0 < Fp.un Ieee.double l ↔ 0 < Fp.val (sp ^^ t) (P * Y) + Fp.val s (X * 2 ^ (qT + 1))) := by
  obtain ⟨mp, ip, rp, ep, lp, vp⟩ := is_parts hp
  obtain ⟨n, j, rb, eb, lb, vb⟩ := is_parts hb
  obtain ⟨m, e, ra, ea, la, va⟩ := is_parts ha
  have bp := parts_bounds vp lp h1 h1'
  have bb := parts_bounds vb lb h2 h2'
  unfold Ieee.Format.fma at hl
  rw [rp, rb, ra] at hl
  simp only [Ieee.Datum.product, Option.bind_some, Ieee.Datum.sum, Option.map_some, Option.some.injEq] at hl
  have u1 := Fp.signed_units (sp ^^ t) (mp * n) (ip + j) (min (ip + j) e) (-2148) (by omega) (by omega)
  have u2 := Fp.signed_units s m e (min (ip + j) e) (-2148) (by omega) (by omega)
  have v1 : mp * n * 2 ^ (ip + j - -2148).toNat = P * Y := by
    rw [← vp, ← vb, show (ip + j - -2148).toNat = (ip + 1074).toNat + (j + 1074).toNat by omega, Nat.pow_add]
    ac_rfl
  have v2 : m * 2 ^ (e - -2148).toNat = X * 2 ^ (qT + 1) := by
    rw [← va, Nat.mul_assoc, ← Nat.pow_add, show (e + 1074).toNat + (qT + 1) = (e - -2148).toNat by have := qT_is; omega]
  rw [v1] at u1
  rw [v2] at u2
  have hc : ∃ c : Nat, 0 < c ∧ ((2 : Int) ^ (min (ip + j) e - -2148).toNat) = (c : Int) := ⟨2 ^ (min (ip + j) e - -2148).toNat, Nat.two_pow_pos _, by simp⟩
  obtain ⟨c, hc0, hc1⟩ := hc
  rw [hc1] at u1 u2
  have hmin : -1074 ≤ min (ip + j) e := by omega
  generalize Ieee.signed (sp ^^ t) (mp * n) (ip + j - min (ip + j) e).toNat = T1 at *
  generalize Ieee.signed s m (e - min (ip + j) e).toNat = T2 at *
  have hT : (T1 + T2) * (c : Int) = Fp.val (sp ^^ t) (P * Y) + Fp.val s (X * 2 ^ (qT + 1)) := by
    rw [Int.add_mul, u1, u2]; rfl
  rw [← hT, ← hl]
  obtain ⟨n1, n2⟩ := near_sign (s := if T1 + T2 = 0 then (sp ^^ t) && s else decide (T1 + T2 < 0)) (M := (T1 + T2).natAbs) hmin
  have hw : ∀ b M i, Ieee.double.write (.number b M i) = Ieee.double.nearest b M i := fun _ _ _ => rfl
  rw [hw, n1, n2]
  have c1 : (T1 + T2) * (c : Int) = 0 ↔ T1 + T2 = 0 := by rw [Int.mul_eq_zero]; omega
  have c2 : 0 < (T1 + T2) * (c : Int) ↔ 0 < T1 + T2 := ⟨fun h => by
    rcases Int.lt_or_le 0 (T1 + T2) with h1 | h1
    · exact h1
    · have := Int.mul_nonpos_of_nonpos_of_nonneg h1 (show (0 : Int) ≤ c by omega); omega, fun h => Int.mul_pos h (by omega)⟩
  rw [c1, c2]
  refine ⟨by omega, ?_⟩
  by_cases h0 : T1 + T2 = 0
  · omega
  · rw [if_neg h0, decide_eq_false_iff_not]; omega
/-! the quotient -/
def Zex (X Y : Nat) : Nat := stk (X * 2 ^ qT / Y) (X * 2 ^ qT % Y != 0)
theorem stk_common (A n c : Nat) (hc : 0 < c) : stk (A * c / (n * c)) (A * c % (n * c) != 0) = stk (A / n) (A % n != 0) := by
  rw [Nat.mul_div_mul_right _ _ hc, Nat.mul_mod_mul_right]
  congr 1
  have : (A % n * c = 0) ↔ (A % n = 0) := by rw [Nat.mul_eq_zero]; omega
  rw [Bool.eq_iff_iff, bne_iff_ne, bne_iff_ne, ne_eq, ne_eq, this]
theorem zex_like {X Y A n c d : Nat} (hn : 0 < n) (hc : 0 < c) (hX : X * 2 ^ qT = A * 2 ^ d * c) (hY : Y = n * c) : Like (d + 1) (Zex X Y) (stk (A / n) (A % n != 0) * 2 ^ d) := by
  unfold Zex
  rw [hX, hY, stk_common _ _ _ hc]
  exact quo_like A n d hn
theorem quo_big {A n k : Nat} (hn : 0 < n) (h : 2 ^ k * n ≤ A) (b : Bool) : stk (A / n) b ≠ 0 ∧ k + 1 ≤ (stk (A / n) b).log2 := by
  have h1 := (Nat.le_div_iff_mul_le hn).2 h
  have hp := Nat.two_pow_pos k
  have h2 : 2 ^ (k + 1) ≤ stk (A / n) b := by unfold stk; rw [Nat.pow_succ]; omega
  have h0 : stk (A / n) b ≠ 0 := by have := Nat.two_pow_pos (k + 1); omega
  exact ⟨h0, (Nat.le_log2 h0).2 h2⟩
theorem quo_small {A n k : Nat} (hn : 0 < n) (h : A < 2 ^ k * n) (b : Bool) : stk (A / n) b < 2 ^ (k + 1) := by
  have h1 := (Nat.div_lt_iff_lt_mul hn).2 h
  unfold stk; rw [Nat.pow_succ]; cases b <;> simp <;> omega
theorem div_read {a b m n : Nat} {s t : Bool} {e j : Int} (ha : Ieee.double.read a = .number s m e) (hb : Ieee.double.read b = .number t n j) (hn : n ≠ 0) :
    Ieee.double.div a b = some (Ieee.double.nearest (s ^^ t) (stk (m * 2 ^ (54 + n.log2 - m.log2) / n) (m * 2 ^ (54 + n.log2 - m.log2) % n != 0)) (e - j - (54 + n.log2 - m.log2 : Nat) - 1)) := by
  unfold Ieee.Format.div
  rw [ha, hb]
  show (if n = 0 then if m = 0 then none else some (Ieee.Datum.infinity (s ^^ t)) else some (Ieee.Datum.number (s ^^ t) (2 * (m <<< (54 + n.log2 - m.log2) / n) + (m <<< (54 + n.log2 - m.log2) % n != 0).toNat) (e - j - (54 + n.log2 - m.log2 : Nat) - 1))).map Ieee.double.write = _
  rw [if_neg hn, Nat.shiftLeft_eq]
  rfl
theorem rn_near {Z : Nat} (h : Z ≠ 0) : Z ≤ 2 * rnN Z ∧ rnN Z ≤ 2 * Z := by
  obtain ⟨K, q, h1, h2, h3, h4, h5, h6, _⟩ := rn_nat Z
  have e : rnN Z = q * 2 ^ K := h1
  rw [← e] at h5 h6
  rcases Nat.eq_zero_or_pos K with hK | hK
  · subst hK
    rw [Nat.pow_zero] at h5 h6
    omega
  · have := h4 (by omega)
    omega
theorem quo_main {a b X Y : Nat} {s t : Bool} (ha : Fp.Is Ieee.double a s X) (hb : Fp.Is Ieee.double b t Y) (x1 : 2 ^ qLo ≤ X) (x2 : X < 2 ^ qHi) (y1 : 2 ^ qLo ≤ Y) (y2 : Y < 2 ^ qHi) :
    ∃ p Z u, Ieee.double.div a b = some p ∧ Fi p ∧ Fp.Is Ieee.double p (s ^^ t) (rnN Z) ∧ Like u (Zex X Y) Z ∧ Z ≠ 0 ∧ u + 53 ≤ Z.log2 ∧ Fp.Rep Ieee.double (rnN Z) ∧ rnN Z ≠ 0 ∧
      (X * 2 ^ (qT + 1) < rnN Z * Y ↔ Z < rnN Z) ∧ (rnN Z * Y = X * 2 ^ (qT + 1) ↔ rnN Z = Z) ∧ 2 ^ qMid ≤ rnN Z ∧ rnN Z < 2 ^ (flim + 2) := by
  obtain ⟨m, e, ra, ea, la, va⟩ := is_parts ha
  obtain ⟨n, j, rb, eb, lb, vb⟩ := is_parts hb
  obtain ⟨a1, a2, a3, a4, a5⟩ := parts_bounds va la x1 x2
  obtain ⟨b1, b2, b3, b4, b5⟩ := parts_bounds vb lb y1 y2
  have q0 := qT_is; have q1 := qLo_is; have q2 := qHi_is
  have hn : 0 < n := by omega
  have hd := div_read ra rb b3
  obtain ⟨k, hk⟩ : ∃ k, k = 54 + n.log2 - m.log2 := ⟨_, rfl⟩
  rw [← hk] at hd
  obtain ⟨d, hd1⟩ : ∃ d : Nat, (d : Int) = e - j - (k : Nat) + 1073 := ⟨(e - j - (k : Nat) + 1073).toNat, by omega⟩
  have m1 := Nat.log2_self_le a3; have m2 := Nat.lt_log2_self (n := m)
  have n1 := Nat.log2_self_le b3; have n2 := Nat.lt_log2_self (n := n)
  have hA1 : 2 ^ (53 : Nat) * n ≤ m * 2 ^ k := by
    have h1 : 2 ^ 53 * n ≤ 2 ^ 53 * 2 ^ (n.log2 + 1) := Nat.mul_le_mul_left _ (Nat.le_of_lt n2)
    have h2 : 2 ^ m.log2 * 2 ^ k ≤ m * 2 ^ k := Nat.mul_le_mul_right _ m1
    rw [← Nat.pow_add] at h1 h2
    rw [show 53 + (n.log2 + 1) = m.log2 + k by omega] at h1
    exact Nat.le_trans h1 h2
  have hA2 : m * 2 ^ k < 2 ^ (55 : Nat) * n := by
    have h1 : m * 2 ^ k < 2 ^ (m.log2 + 1) * 2 ^ k := Nat.mul_lt_mul_of_pos_right m2 (Nat.two_pow_pos k)
    have h2 : 2 ^ 55 * 2 ^ n.log2 ≤ 2 ^ 55 * n := Nat.mul_le_mul_left _ n1
    rw [← Nat.pow_add] at h1 h2
    rw [show m.log2 + 1 + k = 55 + n.log2 by omega] at h1
    exact Nat.lt_of_lt_of_le h1 h2
  obtain ⟨z0, z1⟩ := quo_big hn hA1 (m * 2 ^ k % n != 0)
  have z2 := quo_small hn hA2 (m * 2 ^ k % n != 0)
  have q3 := qMid_is
  have z3 : stk (m * 2 ^ k / n) (m * 2 ^ k % n != 0) * 2 ^ d ≤ 2 ^ flim := by
    have h1 := Nat.mul_le_mul_right (2 ^ d) (Nat.le_of_lt z2)
    rw [← Nat.pow_add] at h1
    exact Nat.le_trans h1 (pow_le_iff.2 (by unfold flim; omega))
  obtain ⟨f1, f2⟩ := near_is (s := s ^^ t) (M := stk (m * 2 ^ k / n) (m * 2 ^ k % n != 0)) (e := e - j - (k : Nat) - 1) (by omega) (by rw [show (e - j - (k : Nat) - 1 + 1074).toNat = d by omega]; exact z3)
  rw [show (e - j - (k : Nat) - 1 + 1074).toNat = d by omega] at f2
  have hlike : Like (d + 1) (Zex X Y) (stk (m * 2 ^ k / n) (m * 2 ^ k % n != 0) * 2 ^ d) := by
    refine zex_like (c := 2 ^ (j + 1074).toNat) hn (Nat.two_pow_pos _) ?_ vb.symm
    rw [← va, Nat.mul_assoc m, Nat.mul_assoc m, Nat.mul_assoc m, ← Nat.pow_add, ← Nat.pow_add, ← Nat.pow_add]
    congr 2
    omega
  have hcmp := fun c => quo_cmp (m * 2 ^ k) n c hn
  have hX : X * 2 ^ (qT + 1) = m * 2 ^ k * 2 ^ (d + 1 + (j + 1074).toNat) := by
    rw [← va, Nat.mul_assoc m, Nat.mul_assoc m, ← Nat.pow_add, ← Nat.pow_add]
    congr 2
    omega
  generalize stk (m * 2 ^ k / n) (m * 2 ^ k % n != 0) = Zr at *
  have hZ0 : Zr * 2 ^ d ≠ 0 := Nat.mul_ne_zero z0 (Nat.ne_of_gt (Nat.two_pow_pos d))
  have hZl : (Zr * 2 ^ d).log2 = Zr.log2 + d := Fp.log2_mul_pow _ _ z0
  have hZ1 : d + 1 + 53 ≤ (Zr * 2 ^ d).log2 := by rw [hZl]; omega
  obtain ⟨c, hc⟩ := rn_grid hZ0 hZ1
  obtain ⟨g1, g2⟩ := hcmp c
  have hp := Nat.two_pow_pos d
  have hpW := Nat.two_pow_pos (d + 1 + (j + 1074).toNat)
  have hPY : rnN (Zr * 2 ^ d) * Y = c * n * 2 ^ (d + 1 + (j + 1074).toNat) := by
    rw [hc, ← vb, Nat.pow_add 2 (d + 1)]
    ac_rfl
  have hP2 : rnN (Zr * 2 ^ d) = c * 2 * 2 ^ d := by rw [hc, Nat.pow_succ, Nat.mul_assoc, Nat.mul_comm (2 ^ d) 2]
  obtain ⟨r1, r2⟩ := rn_near hZ0
  have hlow : 2 ^ (d + 54) ≤ Zr * 2 ^ d := by
    rw [Nat.add_comm d, Nat.pow_add]
    exact Nat.mul_le_mul_right _ ((Nat.le_log2 z0).1 z1)
  have hmid : 2 ^ qMid ≤ rnN (Zr * 2 ^ d) := by
    have h1 : 2 * 2 ^ qMid ≤ 2 ^ (d + 54) := by rw [← Nat.pow_succ']; exact pow_le_iff.2 (by omega)
    omega
  have hup : rnN (Zr * 2 ^ d) < 2 ^ (flim + 2) := by
    have h1 : 2 ^ (flim + 2) = 4 * 2 ^ flim := by rw [Nat.pow_add, Nat.mul_comm]
    have := Nat.two_pow_pos flim
    omega
  refine ⟨_, Zr * 2 ^ d, d + 1, hd, f1, f2, hlike, hZ0, hZ1, rep_rnN z3, by have := Nat.two_pow_pos qMid; omega, ?_, ?_, hmid, hup⟩
  · rw [hX, hPY, Nat.mul_lt_mul_right hpW, ← g1]
    conv => rhs; rw [hP2]
    rw [Nat.mul_lt_mul_right hp]
  · rw [hX, hPY, Nat.mul_left_inj (Nat.ne_of_gt hpW), ← g2]
    conv => rhs; rw [hP2]
    rw [Nat.mul_left_inj (Nat.ne_of_gt hp)]
end Go.Proofs.YtifgngmebnjfkaaGreatDoor
end

section
namespace Go.Proofs.YtifgngmebnjfkaaGreatDoor
theorem is_tuD {p P : Nat} {s : Bool} (h : Fp.Is Ieee.double p s P) : Fp.Is Ieee.double (tuD p) (!s) P := by
  obtain ⟨h1, h2, h3, h4⟩ := h
  have h1' : p < 18446744073709551616 := h1
  rw [Fp.rg64, Fp.dI] at h2
  rw [Fp.rg64] at h4
  refine ⟨tuD_lt h1', by rw [Fp.rg64, Fp.dI, tuD_mod h1']; exact h2, ?_, by rw [Fp.rg64, tuD_mod h1']; exact h4⟩
  rw [Fp.sg64] at h3 ⊢
  rw [← h3]
  unfold tuD
  split
  · rw [show (p + 9223372036854775808) / 9223372036854775808 = 1 by omega, show p / 9223372036854775808 = 0 by omega]; rfl
  · rw [show (p - 9223372036854775808) / 9223372036854775808 = 0 by omega, show p / 9223372036854775808 = 1 by omega]; rfl
theorem wD_parts {x : Nat} (hx : x < 4294967296) (kx : kS x = 0) (mx : mS x ≠ 0) : Fp.Is Ieee.double (wD x) (nS x) (mS x * 2 ^ (eS x + 1074).toNat) ∧ 2 ^ qLo ≤ mS x * 2 ^ (eS x + 1074).toNat ∧ mS x * 2 ^ (eS x + 1074).toNat < 2 ^ qHi ∧ -149 ≤ eS x ∧ eS x ≤ 106 := by
  have fx := k0_fin kx
  have h := wD_is hx fx
  obtain ⟨a1, a2, a3, _⟩ := mS_mag fx
  have e1 := eS_lo x a2
  have e2 := eS_hi x
  have hm := mS_lt x
  rw [a1, Nat.mul_assoc, ← Nat.pow_add, show (eS x + 149).toNat + Fp.sgap = (eS x + 1074).toNat by have := Fp.sgap_eq; omega, ← nS_ng (by rw [kx]; decide)] at h
  have q1 := qLo_is; have q2 := qHi_is
  have b1 : 2 ^ qLo ≤ 2 ^ (eS x + 1074).toNat := pow_le_iff.2 (by omega)
  have b2 : 2 ^ (24 : Nat) * 2 ^ (eS x + 1074).toNat ≤ 2 ^ qHi := by rw [← Nat.pow_add]; exact pow_le_iff.2 (by omega)
  have hp := Nat.two_pow_pos (eS x + 1074).toNat
  refine ⟨h, Nat.le_trans b1 (Nat.le_mul_of_pos_left _ (by omega)), Nat.lt_of_lt_of_le (Nat.mul_lt_mul_of_pos_right (show mS x < 2 ^ (24 : Nat) from hm) hp) b2, e1, e2⟩
theorem uS_neg {y : Nat} (ky : kS y = 0) (my : mS y ≠ 0) : uS y < 0 ↔ nS y = true := by
  have fy := k0_fin ky
  rw [nS_ng (by rw [ky]; decide)]
  have h0 : Fp.mag Ieee.single (y % 2147483648) * 2 ^ Fp.sgap ≠ 0 := fun h => my ((mag_zero fy).1 h)
  unfold uS Fp.val
  cases ngS y
  · simp only [Bool.false_eq_true, if_false, iff_false]; omega
  · simp only [if_true, iff_true]; omega
theorem ref_word {q : Nat} {b ng : Bool} {E mode : Int} (hq : q ≠ 0) (hb : 116 ≤ q.log2) (hE : -1073 ≤ E) :
    gWord 24 (-149) 127 2139095039 2139095040 8388608 2147483648 ng q E b mode = xWord (Fp.val ng (stk q b * 2 ^ (E + 1073).toNat)) mode ∧ gFlags 24 (-149) 127 ng q E b mode = xFlags (Fp.val ng (stk q b * 2 ^ (E + 1073).toNat)) mode := by
  have hk : E < gK 24 (-149) q E := by
    have : E + (blen q : Nat) - 24 ≤ gK 24 (-149) q E := Int.le_max_left _ _
    rw [blen_pos hq] at this
    omega
  obtain ⟨g1, g2⟩ := g_more (D := 24) (lo := -149) (most := 127) (top := 2139095039) (inf := 2139095040) (FR := 8388608) (SG := 2147483648) (ng := ng) (mode := mode) b hq hk
  have hs0 : stk q b ≠ 0 := by unfold stk; omega
  have hM0 : stk q b * 2 ^ (E + 1073).toNat ≠ 0 := Nat.mul_ne_zero hs0 (Nat.ne_of_gt (Nat.two_pow_pos _))
  obtain ⟨k1, k2⟩ := gWord_same (D := 24) (lo := -149) (most := 127) (top := 2139095039) (inf := 2139095040) (FR := 8388608) (SG := 2147483648) (ng := ng) (M := stk q b) (M' := stk q b * 2 ^ (E + 1073).toNat) (E := E - 1) (E' := -1074) (mode := mode) 1074 (by omega) (by decide) (by decide) hs0 (by
    rw [show ((-1074 : Int) + ((1074 : Nat) : Int)).toNat = 0 by decide, Nat.pow_zero, Nat.mul_one, show (E - 1 + ((1074 : Nat) : Int)).toNat = (E + 1073).toNat by omega])
  unfold xWord xFlags
  rw [g1, g2, val_natAbs, val_neg_dec hM0]
  exact ⟨k1, k2⟩
theorem rest_key {s t : Bool} {U : Int} {PY XX : Nat} (f1 : U = 0 ↔ Fp.val (!s) PY + Fp.val s XX = 0) (f2 : 0 < U ↔ 0 < Fp.val (!s) PY + Fp.val s XX) : ((if t then -U else U) = 0 ↔ PY = XX) ∧ (0 < (if t then -U else U) ↔ if (s ^^ t) then XX < PY else XX > PY) := by
  have v1 : ∀ n : Nat, Fp.val true n = -(n : Int) := fun _ => rfl
  have v0 : ∀ n : Nat, Fp.val false n = (n : Int) := fun _ => rfl
  cases s
  · rw [Bool.not_false, v1, v0] at f1 f2
    cases t
    · rw [if_neg Bool.false_ne_true]
      show (U = 0 ↔ PY = XX) ∧ (0 < U ↔ XX > PY)
      omega
    · rw [if_pos rfl]
      show (-U = 0 ↔ PY = XX) ∧ (0 < -U ↔ XX < PY)
      omega
  · rw [Bool.not_true, v1, v0] at f1 f2
    cases t
    · rw [if_neg Bool.false_ne_true]
      show (U = 0 ↔ PY = XX) ∧ (0 < U ↔ XX < PY)
      omega
    · rw [if_pos rfl]
      show (-U = 0 ↔ PY = XX) ∧ (0 < -U ↔ XX > PY)
      omega
theorem div_word {x y : Nat} (hx : x < 4294967296) (hy : y < 4294967296) (kx : kS x = 0) (ky : kS y = 0) (mx : mS x ≠ 0) (my : mS y ≠ 0) (mode : Int) :
    divWd x y mode = gWord 24 (-149) 127 2139095039 2139095040 8388608 2147483648 (nS x != nS y) (mS x * 2 ^ (140 : Nat) / mS y) (eS x - eS y - 140) (mS x * 2 ^ (140 : Nat) % mS y != 0) mode ∧
    divFl x y mode = gFlags 24 (-149) 127 (nS x != nS y) (mS x * 2 ^ (140 : Nat) / mS y) (eS x - eS y - 140) (mS x * 2 ^ (140 : Nat) % mS y != 0) mode := by
  obtain ⟨ha, x1, x2, x3, x4⟩ := wD_parts hx kx mx
  obtain ⟨hb, y1, y2, y3, y4⟩ := wD_parts hy ky my
  obtain ⟨p, Z, u, hd, hfp, hIp, hlk, hZ0, hZ1, hR, hP0, c1, c2, hmid, hup⟩ := quo_main ha hb x1 x2 y1 y2
  have q0 := qT_is
  have my2 := mS_lt y
  have mx2 := mS_lt x
  have hn : 0 < mS y := by omega
  -- the reference's side
  obtain ⟨d, hd1⟩ : ∃ d : Nat, (d : Int) = eS x - eS y - 140 + 1073 := ⟨(eS x - eS y - 140 + 1073).toNat, by omega⟩
  have hA : 2 ^ (116 : Nat) * mS y ≤ mS x * 2 ^ (140 : Nat) := by
    have a1 : 2 ^ 116 * mS y ≤ 2 ^ 116 * 2 ^ 24 := Nat.mul_le_mul_left _ (Nat.le_of_lt my2)
    have a2 : 1 * 2 ^ 140 ≤ mS x * 2 ^ 140 := Nat.mul_le_mul_right _ (by omega)
    rw [← Nat.pow_add] at a1
    exact Nat.le_trans a1 (by rw [Nat.one_mul] at a2; exact a2)
  have hA2 : mS x * 2 ^ (140 : Nat) < 2 ^ (164 : Nat) * mS y := by
    have a1 : mS x * 2 ^ 140 < 2 ^ 24 * 2 ^ 140 := Nat.mul_lt_mul_of_pos_right mx2 (Nat.two_pow_pos _)
    rw [← Nat.pow_add] at a1
    exact Nat.lt_of_lt_of_le a1 (Nat.le_mul_of_pos_right _ hn)
  have hq1 : 2 ^ (116 : Nat) ≤ mS x * 2 ^ (140 : Nat) / mS y := (Nat.le_div_iff_mul_le hn).2 hA
  have hq0 : mS x * 2 ^ (140 : Nat) / mS y ≠ 0 := by have := Nat.two_pow_pos 116; omega
  obtain ⟨r1, r2⟩ := ref_word (ng := nS x != nS y) (b := mS x * 2 ^ (140 : Nat) % mS y != 0) (E := eS x - eS y - 140) (mode := mode) hq0 ((Nat.le_log2 hq0).2 hq1) (by omega)
  rw [r1, r2, show (eS x - eS y - 140 + 1073).toNat = d by omega]
  have hlk2 : Like (d + 1) (Zex (mS x * 2 ^ (eS x + 1074).toNat) (mS y * 2 ^ (eS y + 1074).toNat)) (stk (mS x * 2 ^ (140 : Nat) / mS y) (mS x * 2 ^ (140 : Nat) % mS y != 0) * 2 ^ d) := by
    refine zex_like (c := 2 ^ (eS y + 1074).toNat) hn (Nat.two_pow_pos _) ?_ rfl
    rw [Nat.mul_assoc (mS x), Nat.mul_assoc (mS x), Nat.mul_assoc (mS x), ← Nat.pow_add, ← Nat.pow_add, ← Nat.pow_add]
    congr 2
    omega
  obtain ⟨s0, s1⟩ := quo_big hn hA (mS x * 2 ^ (140 : Nat) % mS y != 0)
  have s2 := quo_small hn hA2 (mS x * 2 ^ (140 : Nat) % mS y != 0)
  generalize stk (mS x * 2 ^ (140 : Nat) / mS y) (mS x * 2 ^ (140 : Nat) % mS y != 0) = Zr at *
  have hZr0 : Zr * 2 ^ d ≠ 0 := Nat.mul_ne_zero s0 (Nat.ne_of_gt (Nat.two_pow_pos d))
  have hZrl : (Zr * 2 ^ d).log2 = Zr.log2 + d := Fp.log2_mul_pow _ _ s0
  have s3 : Zr * 2 ^ d ≤ 2 ^ flim := by
    have h1 := Nat.mul_le_mul_right (2 ^ d) (Nat.le_of_lt s2)
    rw [← Nat.pow_add] at h1
    exact Nat.le_trans h1 (pow_le_iff.2 (by unfold flim; omega))
  obtain ⟨w1, w2⟩ := xWord_like (nS x != nS y) hlk2.symm hZr0 (by rw [hZrl]; omega) (rep_rnN s3) mode
  rw [w1, w2]
  -- the program's side
  have t1 := is_tuD hIp
  obtain ⟨l, hl⟩ := fma_ok (p := tuD p) (b := wD y) (a := wD x) ⟨t1.1, by have := t1.2.1; rw [Fp.rg64, Fp.dI] at this; exact this⟩ ⟨hb.1, by have := hb.2.1; rw [Fp.rg64, Fp.dI] at this; exact this⟩ ⟨ha.1, by have := ha.2.1; rw [Fp.rg64, Fp.dI] at this; exact this⟩
  obtain ⟨f1, f2⟩ := fma_sign t1 hb ha hmid hup y1 y2 (by have := qMid_is; have := qLo_is; omega) hl
  have hu : Fp.un Ieee.double p = Fp.val (nS x ^^ nS y) (rnN Z) := hIp.un
  have hrest : restU x y p = if nS y then -Fp.un Ieee.double l else Fp.un Ieee.double l := by
    unfold restU
    rw [hl]
    by_cases h : nS y = true
    · rw [if_pos ((uS_neg ky my).2 h), if_pos h]; rfl
    · rw [if_neg (fun k => h ((uS_neg ky my).1 k)), if_neg h]; rfl
  have hxs : ((!(nS x ^^ nS y)) ^^ nS y) = !nS x := by cases nS x <;> cases nS y <;> rfl
  rw [hxs] at f1 f2
  have key : (restU x y p = 0 ↔ rnN Z = Z) ∧ (0 < restU x y p ↔ (if (nS x ^^ nS y) then Z < rnN Z else rnN Z < Z)) := by
    rw [hrest, ← c2]
    have c3 : rnN Z < Z ↔ mS x * 2 ^ (eS x + 1074).toNat * 2 ^ (qT + 1) > rnN Z * (mS y * 2 ^ (eS y + 1074).toNat) := by
      constructor
      · intro h
        rcases Nat.lt_trichotomy (mS x * 2 ^ (eS x + 1074).toNat * 2 ^ (qT + 1)) (rnN Z * (mS y * 2 ^ (eS y + 1074).toNat)) with k | k | k
        · have := c1.1 k; omega
        · have := c2.1 k.symm; omega
        · exact k
      · intro h
        rcases Nat.lt_trichotomy (rnN Z) Z with k | k | k
        · exact k
        · have := c2.2 k; omega
        · have := c1.2 k; omega
    rw [← c1, c3]
    exact rest_key f1 f2
  obtain ⟨v1, v2⟩ := stk_word hlk.symm hZ0 hZ1 hR key.1 key.2 mode
  have hne : p % 9223372036854775808 ≠ 0 := by
    intro h
    have h4 := hIp.2.2.2
    rw [Fp.rg64, h, Fp.mag_zero] at h4
    exact hP0 h4.symm
  have hni : p % 9223372036854775808 ≠ 9218868437227405312 := Nat.ne_of_lt hfp.2
  have hN : ¬ (isN x || isN y) = true := by rw [isN_k, isN_k, kx, ky]; decide
  have hyz : ¬ y % 2147483648 = 0 := fun h => my ((mS_mag (k0_fin ky)).2.2.2.2 h)
  unfold divWd divFl
  rw [if_neg hN, if_neg hN, hd]
  show (if p % 9223372036854775808 = 0 then sgnS (ngD p) else if p % 9223372036854775808 = 9218868437227405312 then infS (ngD p) else sWord (decide (Fp.un Ieee.double p < 0)) (nudM (Fp.un Ieee.double p) (restU x y p)) (nudE (Fp.un Ieee.double p)) mode) = _ ∧ (if y % 2147483648 = 0 then (if isI x then 0 else 16) else if p % 9223372036854775808 = 0 then 0 else if p % 9223372036854775808 = 9218868437227405312 then 0 else rFlags 24 (-149) 127 (decide (Fp.un Ieee.double p < 0)) (nudM (Fp.un Ieee.double p) (restU x y p)) (nudE (Fp.un Ieee.double p)) mode) = _
  rw [if_neg hne, if_neg hni, if_neg hyz, if_neg hne, if_neg hni, hu, val_neg_dec hP0, bne_xor]
  exact ⟨v1.symm, v2.symm⟩
end Go.Proofs.YtifgngmebnjfkaaGreatDoor
end

section
namespace Go.Proofs.YtifgngmebnjfkaaGreatDoor
open Go.RowKit
theorem sqrt_run (w : World) (x : Nat) : (callFunc 112 #[.float .f64 x]).run Tryz.prog w = (Go.Extern.MathSqrt.sqrt #[.float .f64 x] >>= fun v => pure (Next.value v)).run Tryz.prog w := by kernel_rfl
theorem sqrt_ext (x r : Nat) (h : FloatKind.f64.format.sqrt x = some r) : Go.Extern.MathSqrt.sqrt #[.float .f64 x] = pure (.float .f64 r) := by
  conv => lhs; whnf
  rw [h]
theorem sqrt_ext0 (x : Nat) (h : FloatKind.f64.format.sqrt x = none) : Go.Extern.MathSqrt.sqrt #[.float .f64 x] = (do pure (.float .f64 (← choose (.nanBits .f64 x x)))) := by
  conv => lhs; whnf
  rw [h]
theorem sqrt_any (x r : Nat) (h : Ieee.double.sqrt x = some r) (w : World) : (callFunc 112 #[.float .f64 x]).run Tryz.prog w = .ok (.value (.float .f64 r)) w := by
  rw [sqrt_run, sqrt_ext x r h]; rfl
theorem sqrt_none (x : Nat) (h : Ieee.double.sqrt x = none) (w : World) : (callFunc 112 #[.float .f64 x]).run Tryz.prog w = .ok (.value (.float .f64 ((Question.nanBits .f64 x x).cut (w.tape w.drawn (.nanBits .f64 x x))))) w.drew := by
  rw [sqrt_run, sqrt_ext0 x h]
  simp [run_choose_drew, Question.forced]
set_option maxRecDepth 100000 in
set_option maxHeartbeats 600000 in
theorem msqrt_some (x r : Nat) (h : Ieee.double.sqrt x = some r) (w : World) : Calls Tryz.prog 74 #[.float .f64 x] w fun e' w' => e' = .returned (.float .f64 r) ∧ w = w' := by
  have hs := fun w => sqrt_any x r h w
  clear h
  go_enter Tryz.func74, Tryz.ntmps74
  go_wp2
  go_ret
  exact ⟨rfl, rfl⟩
set_option maxRecDepth 100000 in
set_option maxHeartbeats 600000 in
theorem msqrt_none (x : Nat) (h : Ieee.double.sqrt x = none) (w : World) : Calls Tryz.prog 74 #[.float .f64 x] w fun e' w' => (∃ t, e' = .returned (.float .f64 ((Question.nanBits .f64 x x).cut t))) ∧ Within w w' := by
  have hs := fun w => sqrt_none x h w
  clear h
  go_enter Tryz.func74, Tryz.ntmps74
  go_wp2
  go_ret
  exact ⟨⟨_, rfl⟩, (by repeat (with_reducible first | exact Within.refl _ | assumption | refine Within.alloc ?_ _ | refine Within.drew ?_ | refine Within.setCell ?_ (by first | (simp; done) | (simp; omega)) _ | refine Within.trans ?_ (by assumption)))⟩
set_option maxRecDepth 100000 in
set_option maxHeartbeats 600000 in
theorem root_bad (x : Nat) (mode : Int) (KN : Hid (∀ w, Calls Tryz.prog 29 #[.int .i64 mode] w fun e' w' => e' = .returned (.bool false) ∧ w = w')) (w : World) : Calls Tryz.prog 27 #[.float .f32 x, .int .i64 mode] w fun e' w' => e' = .returned (.tuple #[.float .f32 0, .int .i64 0, .int .i64 20]) ∧ Within w w' := by
  go_enter Tryz.func27, Tryz.ntmps27
  go_wp2_with fail
  refine (KN.out _).mono ?_; rintro e1 w1 ⟨rfl, rfl⟩
  go_wp2
  go_ret3
  exact ⟨rfl, (by repeat (with_reducible first | exact Within.refl _ | assumption | refine Within.alloc ?_ _ | refine Within.drew ?_ | refine Within.setCell ?_ (by first | (simp; done) | (simp; omega)) _ | refine Within.trans ?_ (by assumption)))⟩
set_option maxRecDepth 100000 in
set_option maxHeartbeats 600000 in
theorem root_nan (x : Nat) (mode : Int) (KN : Hid (∀ w, Calls Tryz.prog 29 #[.int .i64 mode] w fun e' w' => e' = .returned (.bool true) ∧ w = w')) (nx : (FloatKind.f32.format.order x x != some .eq) = true)  (gx : Bool) (ix : Nat) (hx : FloatKind.f32.decode x = .nan gx ix) (SQ : Hid (∀ tx w, Calls Tryz.prog 74 #[.float .f64 ((Question.nanConv .f64 x).cut tx)] w fun e' w' => (∃ t, e' = .returned (.float .f64 ((Question.nanBits .f64 ((Question.nanConv .f64 x).cut tx) ((Question.nanConv .f64 x).cut tx)).cut t))) ∧ Within w w')) (NO : Hid (∀ w, Calls Tryz.prog 30 #[] w fun e' w' => e' = .returned (.float .f32 2143289344) ∧ Within w w')) (w : World) : Calls Tryz.prog 27 #[.float .f32 x, .int .i64 mode] w fun e' w' => e' = .returned (.tuple #[.float .f32 2143289344, .int .i64 0, .int .i64 0]) ∧ Within w w' := by
  have cx := fun (w : World) => run_widen_nan 23 34 .f32 .f64 x Tryz.prog w (by decide) (by kernel_rfl) (by kernel_rfl) gx ix hx
  clear hx
  go_enter Tryz.func27, Tryz.ntmps27
  go_wp2_with fail
  refine (KN.out _).mono ?_; rintro e1 w1 ⟨rfl, rfl⟩
  go_wp2_with fail
  refine (SQ.out _ _).mono ?_; rintro e2 w2 ⟨⟨t2, rfl⟩, hb2⟩
  go_wp2_with fail
  refine (NO.out _).mono ?_; rintro e5 w5 ⟨rfl, hb5⟩
  go_wp2
  go_ret3
  exact ⟨rfl, (by repeat (with_reducible first | exact Within.refl _ | assumption | refine Within.alloc ?_ _ | refine Within.drew ?_ | refine Within.setCell ?_ (by first | (simp; done) | (simp; omega)) _ | refine Within.trans ?_ (by assumption)))⟩
set_option maxRecDepth 100000 in
set_option maxHeartbeats 600000 in
theorem root_invalid (x a : Nat) (mode : Int) (KN : Hid (∀ w, Calls Tryz.prog 29 #[.int .i64 mode] w fun e' w' => e' = .returned (.bool true) ∧ w = w')) (nx : (FloatKind.f32.format.order x x != some .eq) = false) (hx : floatToFloatBits .f32 x .f64 = some a) (SQ : Hid (∀ w, Calls Tryz.prog 74 #[.float .f64 a] w fun e' w' => (∃ t, e' = .returned (.float .f64 ((Question.nanBits .f64 a a).cut t))) ∧ Within w w')) (hn : ∀ t, (FloatKind.f64.format.order ((Question.nanBits .f64 a a).cut t) ((Question.nanBits .f64 a a).cut t) != some .eq) = true) (NO : Hid (∀ w, Calls Tryz.prog 30 #[] w fun e' w' => e' = .returned (.float .f32 2143289344) ∧ Within w w')) (w : World) : Calls Tryz.prog 27 #[.float .f32 x, .int .i64 mode] w fun e' w' => e' = .returned (.tuple #[.float .f32 2143289344, .int .i64 8, .int .i64 0]) ∧ Within w w' := by
  have cx := fun (w : World) => run_convert_float_float (P := Tryz.prog) w 23 34 .f32 .f64 x a (by kernel_rfl) (by kernel_rfl) hx
  clear hx
  go_enter Tryz.func27, Tryz.ntmps27
  go_wp2_with fail
  refine (KN.out _).mono ?_; rintro e1 w1 ⟨rfl, rfl⟩
  go_wp2_with fail
  refine (SQ.out _).mono ?_; rintro e2 w2 ⟨⟨t2, rfl⟩, hb2⟩
  have hn2 := hn t2
  generalize (Question.nanBits .f64 a a).cut t2 = qq at *
  go_wp2_with fail
  refine (NO.out _).mono ?_; rintro e5 w5 ⟨rfl, hb5⟩
  go_wp2
  go_ret3
  exact ⟨rfl, (by repeat (with_reducible first | exact Within.refl _ | assumption | refine Within.alloc ?_ _ | refine Within.drew ?_ | refine Within.setCell ?_ (by first | (simp; done) | (simp; omega)) _ | refine Within.trans ?_ (by assumption)))⟩
set_option maxRecDepth 100000 in
set_option maxHeartbeats 600000 in
theorem root_plain (x a : Nat) (mode : Int) (KN : Hid (∀ w, Calls Tryz.prog 29 #[.int .i64 mode] w fun e' w' => e' = .returned (.bool true) ∧ w = w')) (nx : (FloatKind.f32.format.order x x != some .eq) = false) (hx : floatToFloatBits .f32 x .f64 = some a) (p : Nat) (SQ : Hid (∀ w, Calls Tryz.prog 74 #[.float .f64 a] w fun e' w' => e' = .returned (.float .f64 p) ∧ w = w')) (np : (FloatKind.f64.format.order p p != some .eq) = false) (PL : Hid (∀ w, Calls Tryz.prog 42 #[.float .f64 p] w fun e' w' => e' = .returned (.bool true) ∧ w = w')) (r : Nat) (hc : floatToFloatBits .f64 p .f32 = some r) (w : World) : Calls Tryz.prog 27 #[.float .f32 x, .int .i64 mode] w fun e' w' => e' = .returned (.tuple #[.float .f32 r, .int .i64 0, .int .i64 0]) ∧ Within w w' := by
  have cx := fun (w : World) => run_convert_float_float (P := Tryz.prog) w 23 34 .f32 .f64 x a (by kernel_rfl) (by kernel_rfl) hx
  clear hx
  have hcv := fun (w : World) => run_convert_float_float (P := Tryz.prog) w 34 23 .f64 .f32 p r (by kernel_rfl) (by kernel_rfl) hc
  clear hc
  go_enter Tryz.func27, Tryz.ntmps27
  go_wp2_with fail
  refine (KN.out _).mono ?_; rintro e1 w1 ⟨rfl, rfl⟩
  go_wp2_with fail
  refine (SQ.out _).mono ?_; rintro e2 w2 ⟨rfl, rfl⟩
  go_wp2_with fail
  refine (PL.out _).mono ?_; rintro e3 w3 ⟨rfl, rfl⟩
  go_wp2
  go_ret3
  exact ⟨rfl, (by repeat (with_reducible first | exact Within.refl _ | assumption | refine Within.alloc ?_ _ | refine Within.drew ?_ | refine Within.setCell ?_ (by first | (simp; done) | (simp; omega)) _ | refine Within.trans ?_ (by assumption)))⟩
set_option maxRecDepth 100000 in
set_option maxHeartbeats 600000 in
theorem root_main (x a : Nat) (mode : Int) (KN : Hid (∀ w, Calls Tryz.prog 29 #[.int .i64 mode] w fun e' w' => e' = .returned (.bool true) ∧ w = w')) (nx : (FloatKind.f32.format.order x x != some .eq) = false) (hx : floatToFloatBits .f32 x .f64 = some a) (p : Nat) (SQ : Hid (∀ w, Calls Tryz.prog 74 #[.float .f64 a] w fun e' w' => e' = .returned (.float .f64 p) ∧ w = w')) (np : (FloatKind.f64.format.order p p != some .eq) = false) (PL : Hid (∀ w, Calls Tryz.prog 42 #[.float .f64 p] w fun e' w' => e' = .returned (.bool false) ∧ w = w')) (pn l : Nat) (hpn : Go.Op.negFloat .f64 p = pn) (hf : Ieee.double.fma pn p a = some l) (n : Bool) (m : Nat) (e : Int) (z r : Nat) (fl : Int) (NU : Hid (∀ w, Calls Tryz.prog 72 #[.float .f64 p, .float .f64 l] w fun e' w' => e' = .returned (.agg #[.bool n, .int .u64 m, .int .i64 e]) ∧ Within w w')) (RN : Hid (∀ w, Calls Tryz.prog 68 #[.agg #[.bool n, .int .u64 m, .int .i64 e], .agg #[.int .i64 24, .int .i64 (-126), .int .i64 127], .int .i64 mode] w fun e' w' => e' = .returned (.tuple #[.float .f64 z, .int .i64 fl]) ∧ Within w w')) (hc : floatToFloatBits .f64 z .f32 = some r) (w : World) (hT : FmS w) : Calls Tryz.prog 27 #[.float .f32 x, .int .i64 mode] w fun e' w' => e' = .returned (.tuple #[.float .f32 r, .int .i64 fl, .int .i64 0]) ∧ Within w w' := by
  have cx := fun (w : World) => run_convert_float_float (P := Tryz.prog) w 23 34 .f32 .f64 x a (by kernel_rfl) (by kernel_rfl) hx
  clear hx
  have hcv := fun (w : World) => run_convert_float_float (P := Tryz.prog) w 34 23 .f64 .f32 z r (by kernel_rfl) (by kernel_rfl) hc
  have hfm := fma_any pn p a l hf
  clear hc hf
  go_enter Tryz.func27, Tryz.ntmps27
  go_wp2_with fail
  refine (KN.out _).mono ?_; rintro e1 w1 ⟨rfl, rfl⟩
  go_wp2_with fail
  refine (SQ.out _).mono ?_; rintro e2 w2 ⟨rfl, rfl⟩
  go_wp2_with fail
  refine (PL.out _).mono ?_; rintro e3 w3 ⟨rfl, rfl⟩
  go_wp2
  refine wp_region_within (by kernel_rfl) (by kernel_rfl) ?_
  repeat
    apply wpq_step rfl
    · intro wq hCq
      have q0 := (hT.of hCq).1; have q1 := (hT.of hCq).2.1; have q2 := (hT.of hCq).2.2
      go_simp
      first | rfl | exact hCq.call (NU.out _) | exact hCq.call (RN.out _) | (trace_state; fail)
    simp only [Act.put, List.setIfInBounds_toArray, List.set_cons_zero, List.set_cons_succ]
  refine wpQuiet_nil ?_
  intro w3 hb3
  go_wp2
  go_ret3
  exact ⟨rfl, (by repeat (with_reducible first | exact Within.refl _ | assumption | refine Within.alloc ?_ _ | refine Within.drew ?_ | refine Within.setCell ?_ (by first | (simp; done) | (simp; omega)) _ | refine Within.trans ?_ (by assumption)))⟩
theorem run_neg_S (P : Program) (w : World) (a : Nat) : (Op.unary UnOp.neg (.float .f32 a)).run P w = .ok (.float .f32 (Go.Op.negFloat .f32 a)) w := rfl
set_option maxRecDepth 100000 in
set_option maxHeartbeats 600000 in
theorem sub_of (x y yn r : Nat) (mode fl er : Int) (hyn : Go.Op.negFloat .f32 y = yn) (AD : Hid (∀ w, FmS w → Calls Tryz.prog 19 #[.float .f32 x, .float .f32 yn, .int .i64 mode] w fun e' w' => e' = .returned (.tuple #[.float .f32 r, .int .i64 fl, .int .i64 er]) ∧ Within w w')) (w : World) (hT : FmS w) : Calls Tryz.prog 21 #[.float .f32 x, .float .f32 y, .int .i64 mode] w fun e' w' => e' = .returned (.tuple #[.float .f32 r, .int .i64 fl, .int .i64 er]) ∧ Within w w' := by
  have hng := fun (P : Program) (w : World) => run_neg_S P w y
  rw [hyn] at hng
  go_enter Tryz.func21, Tryz.ntmps21
  go_wp2_with fail
  refine (AD.out _ hT).mono ?_; rintro e1 w1 ⟨rfl, hb1⟩
  go_wp2
  go_ret3
  exact ⟨rfl, (by repeat (with_reducible first | exact Within.refl _ | assumption | refine Within.alloc ?_ _ | refine Within.drew ?_ | refine Within.setCell ?_ (by first | (simp; done) | (simp; omega)) _ | refine Within.trans ?_ (by assumption)))⟩
end Go.Proofs.YtifgngmebnjfkaaGreatDoor
end

section
namespace Go.Proofs.YtifgngmebnjfkaaGreatDoor
open Go.RowKit
theorem root_nn {n : Nat} {d r : Ieee.Datum} (h : d.root n = some r) : r.isNaN = false := by
  cases d with
  | nan => cases h
  | infinity s =>
    cases s
    · obtain rfl := Option.some.inj h; rfl
    · cases h
  | number s m i =>
    unfold Ieee.Datum.root at h
    dsimp only at h
    split at h
    · obtain rfl := Option.some.inj h; rfl
    · split at h
      · cases h
      · obtain rfl := Option.some.inj h; rfl
theorem sqrt_good {a p : Nat} (h : Ieee.double.sqrt a = some p) : p < 18446744073709551616 ∧ p % 9223372036854775808 ≤ 9218868437227405312 := by
  unfold Ieee.Format.sqrt at h
  cases hr : (Ieee.double.read a).root (Ieee.double.fractionBits + 2) with
  | none => rw [hr] at h; cases h
  | some d =>
    rw [hr] at h
    obtain rfl := Option.some.inj h
    exact write_good (root_nn hr)
theorem sqrt_nan {a : Nat} (h : 9218868437227405312 < a % 9223372036854775808) : Ieee.double.sqrt a = none := by
  obtain ⟨s, t, e⟩ := read_nanD h
  unfold Ieee.Format.sqrt
  rw [e]; rfl
theorem sqrt_inf (s : Bool) : Ieee.double.sqrt (infD s) = if s then none else some (infD false) := by
  unfold Ieee.Format.sqrt
  rw [read_infD]
  cases s
  · show some (Ieee.double.write (.infinity false)) = _
    rw [write_infD]; rfl
  · rfl
def rootL (x p : Nat) : Int := Fp.un Ieee.double ((Ieee.double.fma (tuD p) p (wD x)).getD 0)
def rootWd (x : Nat) (mode : Int) : Nat :=
  if isN x then 2143289344 else match Ieee.double.sqrt (wD x) with
  | none => 2143289344
  | some p => if p % 9223372036854775808 = 0 then sgnS (ngD p) else if p % 9223372036854775808 = 9218868437227405312 then infS (ngD p)
    else sWord (decide (Fp.un Ieee.double p < 0)) (nudM (Fp.un Ieee.double p) (rootL x p)) (nudE (Fp.un Ieee.double p)) mode
def rootFl (x : Nat) (mode : Int) : Int :=
  if isN x then 0 else match Ieee.double.sqrt (wD x) with
  | none => 8
  | some p => if p % 9223372036854775808 = 0 then 0 else if p % 9223372036854775808 = 9218868437227405312 then 0
    else rFlags 24 (-149) 127 (decide (Fp.un Ieee.double p < 0)) (nudM (Fp.un Ieee.double p) (rootL x p)) (nudE (Fp.un Ieee.double p)) mode
theorem Root_known (x : Nat) (mode : Int) (hx : x < 4294967296) (hmode : 0 ≤ mode ∧ mode ≤ 4) (w : World) (hT : FmS w) : Calls Tryz.prog 27 #[.float .f32 x, .int .i64 mode] w fun e' w' => e' = .returned (.tuple #[.float .f32 (rootWd x mode), .int .i64 (rootFl x mode), .int .i64 0]) ∧ Within w w' := by
  have KN : Hid (∀ w, Calls Tryz.prog 29 #[.int .i64 mode] w fun e' w' => e' = .returned (.bool true) ∧ w = w') := Lib.hid (fun w => by have := known_any mode w; rw [decide_eq_true hmode] at this; exact this)
  have NO := Lib.hid none_any
  have e1 := ne32 x
  unfold rootWd rootFl
  cases nx : isN x
  · rw [nx] at e1
    obtain ⟨ha, la0, la⟩ := wD_eq hx nx
    rw [if_neg Bool.false_ne_true, if_neg Bool.false_ne_true]
    cases hm : Ieee.double.sqrt (wD x) with
    | none => exact root_invalid x _ mode KN e1 ha (Lib.hid fun w => msqrt_none _ hm w) (fun t => ne_true (nanb_gt _ _ t)) NO w
    | some p =>
      obtain ⟨p1, p2⟩ := sqrt_good hm
      have np := ne_false p2
      have PL := Lib.hid (fun w => plain_any p p1 p2 w)
      have hsp := sgn_split p1
      have SQ := Lib.hid (fun w => msqrt_some _ p hm w)
      show Calls _ _ _ _ fun e' w' => e' = .returned (.tuple #[.float .f32 (if p % 9223372036854775808 = 0 then sgnS (ngD p) else if p % 9223372036854775808 = 9218868437227405312 then infS (ngD p) else sWord (decide (Fp.un Ieee.double p < 0)) (nudM (Fp.un Ieee.double p) (rootL x p)) (nudE (Fp.un Ieee.double p)) mode), .int .i64 (if p % 9223372036854775808 = 0 then 0 else if p % 9223372036854775808 = 9218868437227405312 then 0 else rFlags 24 (-149) 127 (decide (Fp.un Ieee.double p < 0)) (nudM (Fp.un Ieee.double p) (rootL x p)) (nudE (Fp.un Ieee.double p)) mode), .int .i64 0]) ∧ Within w w'
      by_cases hz : p % 9223372036854775808 = 0
      · rw [decide_eq_true (.inl hz)] at PL
        rw [if_pos hz, if_pos hz]
        refine root_plain x _ mode KN e1 ha p SQ np PL _ ?_ w
        rw [hz, Nat.zero_add] at hsp
        conv => lhs; rw [hsp]
        exact nbits_zero _
      rw [if_neg hz, if_neg hz]
      by_cases hi : p % 9223372036854775808 = 9218868437227405312
      · rw [decide_eq_true (.inr hi)] at PL
        rw [if_pos hi, if_pos hi]
        refine root_plain x _ mode KN e1 ha p SQ np PL _ ?_ w
        rw [hi] at hsp
        conv => lhs; rw [hsp]
        exact nbits_inf _
      rw [if_neg hi, if_neg hi]
      rw [decide_eq_false (show ¬ (p % 9223372036854775808 = 0 ∨ p % 9223372036854775808 = 9218868437227405312) by omega)] at PL
      have ix : isI x = false := by
        cases g : isI x
        · rfl
        · rw [wD_inf hx g, sqrt_inf] at hm
          split at hm
          · cases hm
          · obtain rfl := Option.some.inj hm
            exact absurd (inf_mod _) hi
      have fa := (wD_fin hx nx ix).1
      have fp : Fi p := ⟨p1, by omega⟩
      have ftp : Fi (tuD p) := ⟨tuD_lt p1, by rw [tuD_mod p1]; omega⟩
      have S0 : Fp.un Ieee.double p ≠ 0 := fun h => by
        have g := (un_nat fp).1
        rw [h] at g
        exact hz (magD_zero.1 g)
      obtain ⟨l, hl⟩ := fma_ok ftp fp fa
      obtain ⟨l1, l2⟩ := fma_good hl
      have hR : Fp.Rep Ieee.double (Fp.un Ieee.double p).natAbs := by rw [← (un_nat fp).1]; exact magD_rep fp.2
      have hL : rootL x p = Fp.un Ieee.double l := by unfold rootL; rw [hl]; rfl
      rw [hL]
      obtain ⟨b1, b2, b3, b4⟩ := nud_bounds (L := Fp.un Ieee.double l) S0 hR
      have NU := Lib.hid (fun w => nudge_le fp (l := l) l2 S0 w)
      exact root_main x _ mode KN e1 ha p SQ np PL (tuD p) l (neg_tuD p1) hl _ _ _ _ _ _ NU
        (Lib.hid fun w => round_S (decide (Fp.un Ieee.double p < 0)) _ _ mode b1 b2 (by omega) (by omega) hmode w) (sWord_bits _ _ mode b1 b2) w hT
  · rw [nx] at e1
    rw [if_pos rfl, if_pos rfl]
    obtain ⟨gx, ix, hd⟩ := isN_nan nx
    exact root_nan x mode KN e1 gx ix hd (Lib.hid fun tx w => msqrt_none _ (sqrt_nan (nanc_gt _ _)) w) NO w
theorem known_no {mode : Int} (h : ¬ (0 ≤ mode ∧ mode ≤ 4)) : Hid (∀ w, Calls Tryz.prog 29 #[.int .i64 mode] w fun e' w' => e' = .returned (.bool false) ∧ w = w') := Lib.hid fun w => by have := known_any mode w; rw [decide_eq_false h] at this; exact this
def nW (mode : Int) (a : Nat) : Nat := if 0 ≤ mode ∧ mode ≤ 4 then a else 0
def nF (mode k : Int) : Int := if 0 ≤ mode ∧ mode ≤ 4 then k else 0
theorem Add_any (x y : Nat) (mode : Int) (hx : x < 4294967296) (hy : y < 4294967296) (w : World) (hT : FmS w) : Calls Tryz.prog 19 #[.float .f32 x, .float .f32 y, .int .i64 mode] w fun e' w' => e' = .returned (.tuple #[.float .f32 (nW mode (addWd x y mode)), .int .i64 (nF mode (addFl x y mode)), .int .i64 (nErr mode)]) ∧ Within w w' := by
  unfold nErr nW nF
  by_cases hmode : 0 ≤ mode ∧ mode ≤ 4
  · rw [if_pos hmode, if_pos hmode, if_pos hmode]; exact Add_known x y mode hx hy hmode w hT
  · rw [if_neg hmode, if_neg hmode, if_neg hmode]; exact add_bad x y mode (known_no hmode) w
theorem Sub_any (x y : Nat) (mode : Int) (hx : x < 4294967296) (hy : y < 4294967296) (w : World) (hT : FmS w) : Calls Tryz.prog 21 #[.float .f32 x, .float .f32 y, .int .i64 mode] w fun e' w' => e' = .returned (.tuple #[.float .f32 (nW mode (addWd x (tuS y) mode)), .int .i64 (nF mode (addFl x (tuS y) mode)), .int .i64 (nErr mode)]) ∧ Within w w' :=
  sub_of x y (tuS y) _ mode _ _ (neg_tuS hy) (Lib.hid fun w hT => Add_any x (tuS y) mode hx (tuS_lt hy) w hT) w hT
theorem Mul_any (x y : Nat) (mode : Int) (hx : x < 4294967296) (hy : y < 4294967296) (w : World) (hT : FmS w) : Calls Tryz.prog 23 #[.float .f32 x, .float .f32 y, .int .i64 mode] w fun e' w' => e' = .returned (.tuple #[.float .f32 (nW mode (mulWd x y mode)), .int .i64 (nF mode (mulFl x y mode)), .int .i64 (nErr mode)]) ∧ Within w w' := by
  unfold nErr nW nF
  by_cases hmode : 0 ≤ mode ∧ mode ≤ 4
  · rw [if_pos hmode, if_pos hmode, if_pos hmode]; exact Mul_known x y mode hx hy hmode w hT
  · rw [if_neg hmode, if_neg hmode, if_neg hmode]; exact mul_bad x y mode (known_no hmode) w
theorem Div_any (x y : Nat) (mode : Int) (hx : x < 4294967296) (hy : y < 4294967296) (w : World) (hT : FmS w) : Calls Tryz.prog 25 #[.float .f32 x, .float .f32 y, .int .i64 mode] w fun e' w' => e' = .returned (.tuple #[.float .f32 (nW mode (divWd x y mode)), .int .i64 (nF mode (divFl x y mode)), .int .i64 (nErr mode)]) ∧ Within w w' := by
  unfold nErr nW nF
  by_cases hmode : 0 ≤ mode ∧ mode ≤ 4
  · rw [if_pos hmode, if_pos hmode, if_pos hmode]; exact Div_known x y mode hx hy hmode w hT
  · rw [if_neg hmode, if_neg hmode, if_neg hmode]; exact div_bad x y mode (known_no hmode) w
theorem Root_any (x : Nat) (mode : Int) (hx : x < 4294967296) (w : World) (hT : FmS w) : Calls Tryz.prog 27 #[.float .f32 x, .int .i64 mode] w fun e' w' => e' = .returned (.tuple #[.float .f32 (nW mode (rootWd x mode)), .int .i64 (nF mode (rootFl x mode)), .int .i64 (nErr mode)]) ∧ Within w w' := by
  unfold nErr nW nF
  by_cases hmode : 0 ≤ mode ∧ mode ≤ 4
  · rw [if_pos hmode, if_pos hmode, if_pos hmode]; exact Root_known x mode hx hmode w hT
  · rw [if_neg hmode, if_neg hmode, if_neg hmode]; exact root_bad x mode (known_no hmode) w
end Go.Proofs.YtifgngmebnjfkaaGreatDoor
end

section
namespace Go.Proofs.YtifgngmebnjfkaaGreatDoor
def qR : Nat := 1072
theorem qR_is : qR = 1072 := rfl
def qRt : Nat := 600
theorem qRt_is : qRt = 600 := rfl
def qH : Nat := 140
theorem qH_is : qH = 140 := rfl
def qH2 : Nat := 153
theorem qH2_is : qH2 = 153 := rfl
def rtk (N : Nat) : Nat := stk (isq N) (isq N * isq N != N)
theorem rt_like (N d : Nat) : Like (d + 1) (rtk (N * (2 ^ d * 2 ^ d))) (rtk N * 2 ^ d) := root_like N d
theorem rt_big {N k : Nat} (h : 2 ^ (k + k) ≤ N) : rtk N ≠ 0 ∧ k + 1 ≤ (rtk N).log2 ∧ isq N ≠ 0 ∧ k ≤ (isq N).log2 := by
  have h1 : 2 ^ k ≤ isq N := (isq_is N).le (by rw [← Nat.pow_add]; exact h)
  have hp := Nat.two_pow_pos k
  have h2 : 2 ^ (k + 1) ≤ rtk N := by unfold rtk stk; rw [Nat.pow_succ]; omega
  have h0 : rtk N ≠ 0 := by have := Nat.two_pow_pos (k + 1); omega
  exact ⟨h0, (Nat.le_log2 h0).2 h2, by omega, (Nat.le_log2 (by omega)).2 h1⟩
theorem rt_small {N k : Nat} (h : N < 2 ^ (k + k)) : rtk N ≤ 2 ^ (k + 2) := by
  have h1 : isq N ≤ 2 ^ k := root_from (isq_is N).1 h
  have hp := Nat.two_pow_pos k
  have h2 : 2 ^ (k + 2) = 4 * 2 ^ k := by rw [Nat.pow_add, Nat.mul_comm]
  unfold rtk stk
  rw [h2]
  cases (isq N * isq N != N) <;> simp <;> omega
theorem sqrt_read {a m : Nat} {i : Int} (ha : Ieee.double.read a = .number false m i) (hm : m ≠ 0) (k : Nat) (hk : k = 108 - m.log2 + ((i - (108 - m.log2 : Nat)) % 2).toNat) :
    Ieee.double.sqrt a = some (Ieee.double.nearest false (rtk (m * 2 ^ k)) ((i - (k : Nat)) / 2 - 1)) := by
  unfold Ieee.Format.sqrt
  rw [ha]
  subst hk
  show (if m = 0 then some (Ieee.Datum.number false m i) else if false = true then none else some (Ieee.Datum.number false (2 * isq (m <<< (108 - m.log2 + ((i - (108 - m.log2 : Nat)) % 2).toNat)) + (isq (m <<< (108 - m.log2 + ((i - (108 - m.log2 : Nat)) % 2).toNat)) * isq (m <<< (108 - m.log2 + ((i - (108 - m.log2 : Nat)) % 2).toNat)) != m <<< (108 - m.log2 + ((i - (108 - m.log2 : Nat)) % 2).toNat)).toNat) ((i - (108 - m.log2 + ((i - (108 - m.log2 : Nat)) % 2).toNat : Nat)) / 2 - 1))).map Ieee.double.write = _
  rw [if_neg hm, if_neg Bool.false_ne_true, Nat.shiftLeft_eq]
  rfl
theorem root_main' {a X : Nat} (ha : Fp.Is Ieee.double a false X) (x1 : 2 ^ qLo ≤ X) (x2 : X < 2 ^ qHi) :
    ∃ p Z u, Ieee.double.sqrt a = some p ∧ Fi p ∧ Fp.Is Ieee.double p false (rnN Z) ∧ Like u (rtk (X * 2 ^ qR)) Z ∧ Z ≠ 0 ∧ u + 53 ≤ Z.log2 ∧ Fp.Rep Ieee.double (rnN Z) ∧ rnN Z ≠ 0 ∧
      (X * 2 ^ (qT + 1) < rnN Z * rnN Z ↔ Z < rnN Z) ∧ (rnN Z * rnN Z = X * 2 ^ (qT + 1) ↔ rnN Z = Z) ∧ 2 ^ (qRt) ≤ rnN Z ∧ rnN Z < 2 ^ (flim + 2) := by
  obtain ⟨m, i, ra, ea, la, va⟩ := is_parts ha
  obtain ⟨a1, a2, a3, a4, a5⟩ := parts_bounds va la x1 x2
  have q0 := qT_is; have q1 := qLo_is; have q2 := qHi_is; have q3 := qRt_is; have q4 := qR_is
  obtain ⟨k, hk⟩ : ∃ k, k = 108 - m.log2 + ((i - (108 - m.log2 : Nat)) % 2).toNat := ⟨_, rfl⟩
  have hd := sqrt_read ra a3 k hk
  obtain ⟨h, hh⟩ : ∃ h : Int, i - (k : Nat) = 2 * h := ⟨(i - (k : Nat)) / 2, by omega⟩
  have hk1 : 56 ≤ k ∧ k ≤ 109 ∧ 108 ≤ m.log2 + k ∧ m.log2 + k ≤ 109 := by omega
  rw [hh, show 2 * h / 2 - 1 = h - 1 by omega] at hd
  obtain ⟨d, hd1⟩ : ∃ d : Nat, (d : Int) = h + 1073 := ⟨(h + 1073).toNat, by omega⟩
  have m1 := Nat.log2_self_le a3; have m2 := Nat.lt_log2_self (n := m)
  have hN1 : 2 ^ (54 + 54) ≤ m * 2 ^ k := by
    have h2 : 2 ^ m.log2 * 2 ^ k ≤ m * 2 ^ k := Nat.mul_le_mul_right _ m1
    rw [← Nat.pow_add] at h2
    exact Nat.le_trans (pow_le_iff.2 (by omega)) h2
  have hN2 : m * 2 ^ k < 2 ^ (55 + 55) := by
    have h1 : m * 2 ^ k < 2 ^ (m.log2 + 1) * 2 ^ k := Nat.mul_lt_mul_of_pos_right m2 (Nat.two_pow_pos k)
    rw [← Nat.pow_add] at h1
    exact Nat.lt_of_lt_of_le h1 (pow_le_iff.2 (by omega))
  obtain ⟨z0, z1, _, _⟩ := rt_big hN1
  have z2 := rt_small hN2
  have z3 : rtk (m * 2 ^ k) * 2 ^ d ≤ 2 ^ flim := by
    have h1 := Nat.mul_le_mul_right (2 ^ d) z2
    rw [← Nat.pow_add] at h1
    exact Nat.le_trans h1 (pow_le_iff.2 (by unfold flim; omega))
  obtain ⟨f1, f2⟩ := near_is (s := false) (M := rtk (m * 2 ^ k)) (e := h - 1) (by omega) (by rw [show (h - 1 + 1074).toNat = d by omega]; exact z3)
  rw [show (h - 1 + 1074).toNat = d by omega] at f2
  have hXN : X * 2 ^ qR = m * 2 ^ k * (2 ^ d * 2 ^ d) := by
    have e : (i + 1074).toNat + qR = k + (d + d) := by omega
    rw [← va, ← Nat.pow_add 2 d, Nat.mul_assoc m, Nat.mul_assoc m, ← Nat.pow_add, ← Nat.pow_add, e]
  have hlike : Like (d + 1) (rtk (X * 2 ^ qR)) (rtk (m * 2 ^ k) * 2 ^ d) := by rw [hXN]; exact rt_like _ d
  have hcmp := fun c => root_cmp (m * 2 ^ k) c
  have hX : X * 2 ^ (qT + 1) = m * 2 ^ k * (2 ^ (d + 1) * 2 ^ (d + 1)) := by
    have e : (i + 1074).toNat + (qT + 1) = k + (d + 1 + (d + 1)) := by omega
    rw [← va, ← Nat.pow_add 2 (d + 1), Nat.mul_assoc m, Nat.mul_assoc m, ← Nat.pow_add, ← Nat.pow_add, e]
  have hrt : ∀ c, (rtk (m * 2 ^ k) < c * 2 ↔ m * 2 ^ k < c * c) ∧ (c * 2 = rtk (m * 2 ^ k) ↔ c * c = m * 2 ^ k) := hcmp
  generalize rtk (m * 2 ^ k) = Zr at *
  have hZ0 : Zr * 2 ^ d ≠ 0 := Nat.mul_ne_zero z0 (Nat.ne_of_gt (Nat.two_pow_pos d))
  have hZl : (Zr * 2 ^ d).log2 = Zr.log2 + d := Fp.log2_mul_pow _ _ z0
  have hZ1 : d + 1 + 53 ≤ (Zr * 2 ^ d).log2 := by rw [hZl]; omega
  obtain ⟨c, hc⟩ := rn_grid hZ0 hZ1
  obtain ⟨g1, g2⟩ := hrt c
  have hp := Nat.two_pow_pos d
  have hpW : 0 < 2 ^ (d + 1) * 2 ^ (d + 1) := Nat.mul_pos (Nat.two_pow_pos _) (Nat.two_pow_pos _)
  have hPY : rnN (Zr * 2 ^ d) * rnN (Zr * 2 ^ d) = c * c * (2 ^ (d + 1) * 2 ^ (d + 1)) := by rw [hc, sq_mul]
  have hP2 : rnN (Zr * 2 ^ d) = c * 2 * 2 ^ d := by rw [hc, Nat.pow_succ, Nat.mul_assoc, Nat.mul_comm (2 ^ d) 2]
  obtain ⟨r1, r2⟩ := rn_near hZ0
  have hlow : 2 ^ (d + 55) ≤ Zr * 2 ^ d := by
    rw [Nat.add_comm d, Nat.pow_add]
    exact Nat.mul_le_mul_right _ ((Nat.le_log2 z0).1 z1)
  have hmid : 2 ^ (qRt) ≤ rnN (Zr * 2 ^ d) := by
    have h1 : 2 * 2 ^ (qRt) ≤ 2 ^ (d + 55) := by rw [← Nat.pow_succ']; exact pow_le_iff.2 (by omega)
    omega
  have hup : rnN (Zr * 2 ^ d) < 2 ^ (flim + 2) := by
    have h1 : 2 ^ (flim + 2) = 4 * 2 ^ flim := by rw [Nat.pow_add, Nat.mul_comm]
    have := Nat.two_pow_pos flim
    omega
  refine ⟨_, Zr * 2 ^ d, d + 1, hd, f1, f2, hlike, hZ0, hZ1, rep_rnN z3, by have := Nat.two_pow_pos (qRt); omega, ?_, ?_, hmid, hup⟩
  · rw [hX, hPY, Nat.mul_lt_mul_right hpW, ← g1]
    conv => rhs; rw [hP2]
    rw [Nat.mul_lt_mul_right hp]
  · rw [hX, hPY, Nat.mul_left_inj (Nat.ne_of_gt hpW), ← g2]
    conv => rhs; rw [hP2]
    rw [Nat.mul_left_inj (Nat.ne_of_gt hp)]
def rtS (E : Int) : Nat := if (E - 280) % 2 = 0 then 280 else 281
theorem rtS_even (E : Int) : ∃ h : Int, E - (rtS E : Nat) = 2 * h ∧ (E - (rtS E : Nat)) / 2 = h ∧ 280 ≤ rtS E ∧ rtS E ≤ 281 := by
  unfold rtS
  split
  · exact ⟨(E - 280) / 2, by omega, by omega, by omega, by omega⟩
  · exact ⟨(E - 281) / 2, by omega, by omega, by omega, by omega⟩
theorem root_word {x : Nat} (hx : x < 4294967296) (kx : kS x = 0) (mx : mS x ≠ 0) (nx : nS x = false) (mode : Int) :
    rootWd x mode = gWord 24 (-149) 127 2139095039 2139095040 8388608 2147483648 false (isq (mS x * 2 ^ rtS (eS x))) ((eS x - (rtS (eS x) : Nat)) / 2) (isq (mS x * 2 ^ rtS (eS x)) * isq (mS x * 2 ^ rtS (eS x)) != mS x * 2 ^ rtS (eS x)) mode ∧
    rootFl x mode = gFlags 24 (-149) 127 false (isq (mS x * 2 ^ rtS (eS x))) ((eS x - (rtS (eS x) : Nat)) / 2) (isq (mS x * 2 ^ rtS (eS x)) * isq (mS x * 2 ^ rtS (eS x)) != mS x * 2 ^ rtS (eS x)) mode := by
  obtain ⟨ha, x1, x2, x3, x4⟩ := wD_parts hx kx mx
  rw [nx] at ha
  obtain ⟨p, Z, u, hd, hfp, hIp, hlk, hZ0, hZ1, hR, hP0, c1, c2, hmid, hup⟩ := root_main' ha x1 x2
  have q0 := qT_is; have q4 := qR_is; have q5 := qH_is; have q6 := qH2_is
  have mx2 := mS_lt x
  obtain ⟨h, hh, hh2, hr1, hr2⟩ := rtS_even (eS x)
  rw [hh2]
  obtain ⟨d, hd1⟩ : ∃ d : Nat, (d : Int) = h + 1073 := ⟨(h + 1073).toNat, by omega⟩
  obtain ⟨k, hk⟩ : ∃ k, k = rtS (eS x) := ⟨_, rfl⟩
  rw [← hk] at hh hr1 hr2 ⊢
  have hA : 2 ^ (qH + qH) ≤ mS x * 2 ^ k := by
    have a1 : 2 ^ (qH + qH) ≤ 2 ^ k := pow_le_iff.2 (by omega)
    exact Nat.le_trans a1 (Nat.le_mul_of_pos_left _ (by omega))
  have hA2 : mS x * 2 ^ k < 2 ^ (qH2 + qH2) := by
    have a1 : mS x * 2 ^ k < 2 ^ 24 * 2 ^ k := Nat.mul_lt_mul_of_pos_right mx2 (Nat.two_pow_pos _)
    rw [← Nat.pow_add] at a1
    exact Nat.lt_of_lt_of_le a1 (pow_le_iff.2 (by omega))
  obtain ⟨s0, s1, s3, s4⟩ := rt_big hA
  have s2 := rt_small hA2
  obtain ⟨r1, r2⟩ := ref_word (ng := false) (b := isq (mS x * 2 ^ k) * isq (mS x * 2 ^ k) != mS x * 2 ^ k) (E := h) (mode := mode) s3 (by omega) (by omega)
  rw [r1, r2, show (h + 1073).toNat = d by omega]
  have hlk2 : Like (d + 1) (rtk (mS x * 2 ^ (eS x + 1074).toNat * 2 ^ qR)) (rtk (mS x * 2 ^ k) * 2 ^ d) := by
    have e : mS x * 2 ^ (eS x + 1074).toNat * 2 ^ qR = mS x * 2 ^ k * (2 ^ d * 2 ^ d) := by
      have e0 : (eS x + 1074).toNat + qR = k + (d + d) := by omega
      rw [← Nat.pow_add 2 d, Nat.mul_assoc (mS x), Nat.mul_assoc (mS x), ← Nat.pow_add, ← Nat.pow_add, e0]
    rw [e]; exact rt_like _ d
  have er : stk (isq (mS x * 2 ^ k)) (isq (mS x * 2 ^ k) * isq (mS x * 2 ^ k) != mS x * 2 ^ k) = rtk (mS x * 2 ^ k) := rfl
  rw [er]
  generalize rtk (mS x * 2 ^ k) = Zr at *
  have hZr0 : Zr * 2 ^ d ≠ 0 := Nat.mul_ne_zero s0 (Nat.ne_of_gt (Nat.two_pow_pos d))
  have hZrl : (Zr * 2 ^ d).log2 = Zr.log2 + d := Fp.log2_mul_pow _ _ s0
  have s5 : Zr * 2 ^ d ≤ 2 ^ flim := by
    have h1 := Nat.mul_le_mul_right (2 ^ d) s2
    rw [← Nat.pow_add] at h1
    exact Nat.le_trans h1 (pow_le_iff.2 (by unfold flim; omega))
  obtain ⟨w1, w2⟩ := xWord_like false hlk2.symm hZr0 (by rw [hZrl]; omega) (rep_rnN s5) mode
  rw [w1, w2]
  have t1 := is_tuD hIp
  have fpi : ∀ {q P : Nat} {s : Bool}, Fp.Is Ieee.double q s P → Fi q := fun h => ⟨h.1, by have := h.2.1; rw [Fp.rg64, Fp.dI] at this; exact this⟩
  obtain ⟨l, hl⟩ := fma_ok (fpi t1) (fpi hIp) (fpi ha)
  obtain ⟨f1, f2⟩ := fma_sign t1 hIp ha hmid hup hmid hup (by have := qRt_is; omega) hl
  have hu : Fp.un Ieee.double p = Fp.val false (rnN Z) := hIp.un
  have hrest : rootL x p = Fp.un Ieee.double l := by unfold rootL; rw [hl]; rfl
  have hxs : ((!false) ^^ false) = !false := rfl
  rw [hxs] at f1 f2
  have key0 := rest_key (s := false) (t := false) f1 f2
  rw [if_neg Bool.false_ne_true, show (false ^^ false) = false from rfl, if_neg Bool.false_ne_true] at key0
  have key : (rootL x p = 0 ↔ rnN Z = Z) ∧ (0 < rootL x p ↔ (if false then Z < rnN Z else rnN Z < Z)) := by
    rw [hrest, ← c2]
    have c3 : rnN Z < Z ↔ mS x * 2 ^ (eS x + 1074).toNat * 2 ^ (qT + 1) > rnN Z * rnN Z := by
      constructor
      · intro h
        rcases Nat.lt_trichotomy (mS x * 2 ^ (eS x + 1074).toNat * 2 ^ (qT + 1)) (rnN Z * rnN Z) with k | k | k
        · have := c1.1 k; omega
        · have := c2.1 k.symm; omega
        · exact k
      · intro h
        rcases Nat.lt_trichotomy (rnN Z) Z with k | k | k
        · exact k
        · have := c2.2 k; omega
        · have := c1.2 k; omega
    rw [if_neg Bool.false_ne_true, c3]
    exact key0
  obtain ⟨v1, v2⟩ := stk_word hlk.symm hZ0 hZ1 hR key.1 key.2 mode
  have hne : p % 9223372036854775808 ≠ 0 := by
    intro h
    have h4 := hIp.2.2.2
    rw [Fp.rg64, h, Fp.mag_zero] at h4
    exact hP0 h4.symm
  have hni : p % 9223372036854775808 ≠ 9218868437227405312 := Nat.ne_of_lt hfp.2
  have hN : ¬ isN x = true := by rw [isN_k, kx]; decide
  unfold rootWd rootFl
  rw [if_neg hN, if_neg hN, hd]
  show (if p % 9223372036854775808 = 0 then sgnS (ngD p) else if p % 9223372036854775808 = 9218868437227405312 then infS (ngD p) else sWord (decide (Fp.un Ieee.double p < 0)) (nudM (Fp.un Ieee.double p) (rootL x p)) (nudE (Fp.un Ieee.double p)) mode) = _ ∧ (if p % 9223372036854775808 = 0 then 0 else if p % 9223372036854775808 = 9218868437227405312 then 0 else rFlags 24 (-149) 127 (decide (Fp.un Ieee.double p < 0)) (nudM (Fp.un Ieee.double p) (rootL x p)) (nudE (Fp.un Ieee.double p)) mode) = _
  rw [if_neg hne, if_neg hni, if_neg hne, if_neg hni, hu, val_neg_dec hP0]
  exact ⟨v1.symm, v2.symm⟩
end Go.Proofs.YtifgngmebnjfkaaGreatDoor
end

section
namespace Go.Proofs.YtifgngmebnjfkaaGreatDoor
theorem add_ref {x y : Nat} (hx : x < 4294967296) (hy : y < 4294967296) (mode : Int) : addWd x y mode = addRW (kS x) (nS x) (mS x) (eS x) (kS y) (nS y) (mS y) (eS y) mode ∧ addFl x y mode = addRF (kS x) (nS x) (mS x) (eS x) (kS y) (nS y) (mS y) (eS y) mode := by
  unfold addWd addFl
  rw [isN_k, isN_k, isI_k, isI_k]
  by_cases nx : kS x = 2
  · unfold addRW addRF
    rw [decide_eq_true nx, Bool.true_or, if_pos rfl, if_pos rfl, if_pos (Or.inl nx), if_pos (Or.inl nx)]; exact ⟨rfl, rfl⟩
  by_cases ny : kS y = 2
  · unfold addRW addRF
    rw [decide_eq_true ny, Bool.or_true, if_pos rfl, if_pos rfl, if_pos (Or.inr ny), if_pos (Or.inr ny)]; exact ⟨rfl, rfl⟩
  have n0 : ¬ (decide (kS x = 2) || decide (kS y = 2)) = true := by simp [nx, ny]
  have n0' : ¬ (kS x = 2 ∨ kS y = 2) := by omega
  rw [if_neg n0, if_neg n0]
  by_cases ix : kS x = 1
  · unfold addRW addRF
    rw [decide_eq_true ix, if_pos rfl, if_pos rfl, if_neg n0', if_neg n0', nS_ng nx, nS_ng ny]
    by_cases h : kS y = 1 ∧ ngS x ≠ ngS y
    · have e : (decide (kS y = 1) && ngS x != ngS y) = true := by simp [h.1, h.2]
      rw [if_pos e, if_pos e, if_pos ⟨ix, h⟩, if_pos ⟨ix, h⟩]; exact ⟨rfl, rfl⟩
    · have e : ¬ (decide (kS y = 1) && ngS x != ngS y) = true := by
        intro k; apply h; simpa using k
      rw [if_neg e, if_neg e, if_neg (show ¬ (kS x = 1 ∧ kS y = 1 ∧ ngS x ≠ ngS y) from fun k => h k.2), if_neg (show ¬ (kS x = 1 ∧ kS y = 1 ∧ ngS x ≠ ngS y) from fun k => h k.2), if_pos ix, if_pos ix]; exact ⟨rfl, rfl⟩
  rw [decide_eq_false ix, if_neg Bool.false_ne_true, if_neg Bool.false_ne_true]
  have n1 : ∀ Q, ¬ (kS x = 1 ∧ Q) := fun Q h => ix h.1
  by_cases iy : kS y = 1
  · unfold addRW addRF
    rw [decide_eq_true iy, if_pos rfl, if_pos rfl, if_neg n0', if_neg n0', if_neg (n1 _), if_neg (n1 _), if_neg ix, if_neg ix, if_pos iy, if_pos iy, nS_ng ny]; exact ⟨rfl, rfl⟩
  rw [decide_eq_false iy, if_neg Bool.false_ne_true, if_neg Bool.false_ne_true]
  have fx := k_fin nx ix
  have fy := k_fin ny iy
  have kx := k_zero nx ix
  have ky := k_zero ny iy
  have ex := eS_lo x kx
  have ey := eS_lo y ky
  obtain ⟨a1, a2⟩ := add_units (na := nS x) (nb := nS y) (ma := mS x) (mb := mS y) (ea := eS x) (eb := eS y) (by omega) (by omega) mode
  rw [kx, ky, a1, a2, nS_ng nx, nS_ng ny, ← uS_sg fx, ← uS_sg fy]
  have hb : (uS x + uS y).natAbs ≤ 2 ^ flim := pow_le_flim (small_add (uS_small hx fx) (uS_small hy fy)).1 (by decide)
  have r1 : RepZ (uS x) := by rw [uS_sg fx]; exact repz_sg (by have := mS_lt x; omega)
  have r2 : RepZ (uS y) := by rw [uS_sg fy]; exact repz_sg (by have := mS_lt y; omega)
  exact add_is r1 r2 (rep_rn hb) (ngS x) (ngS y) mode
def refMW (x y : Nat) (mode : Int) : Nat :=
  if kS x = 2 ∨ kS y = 2 then 2143289344
  else if (kS x = 1 ∧ kS y = 0 ∧ mS y = 0) ∨ (kS y = 1 ∧ kS x = 0 ∧ mS x = 0) then 2143289344
  else if kS x = 1 ∨ kS y = 1 then infS (nS x != nS y)
  else sWS 0 (nS x != nS y) (mS x * mS y) (eS x + eS y) mode
def refMF (x y : Nat) (mode : Int) : Int :=
  if kS x = 2 ∨ kS y = 2 then 0
  else if (kS x = 1 ∧ kS y = 0 ∧ mS y = 0) ∨ (kS y = 1 ∧ kS x = 0 ∧ mS x = 0) then 8
  else if kS x = 1 ∨ kS y = 1 then 0
  else sFS 0 (nS x != nS y) (mS x * mS y) (eS x + eS y) mode
theorem sWS_same {ng : Bool} {M M' : Nat} {E E' mode : Int} (h1 : 0 ≤ E + 1074) (h2 : 0 ≤ E' + 1074) (hv : M * 2 ^ (E + 1074).toNat = M' * 2 ^ (E' + 1074).toNat) : sWS 0 ng M E mode = sWS 0 ng M' E' mode ∧ sFS 0 ng M E mode = sFS 0 ng M' E' mode := by
  have hp := Nat.two_pow_pos (E + 1074).toNat
  have hp' := Nat.two_pow_pos (E' + 1074).toNat
  have h0 : M = 0 ↔ M' = 0 := by
    constructor
    · rintro rfl; rw [Nat.zero_mul] at hv; exact (Nat.mul_eq_zero.1 hv.symm).resolve_right (by omega)
    · rintro rfl; rw [Nat.zero_mul] at hv; exact (Nat.mul_eq_zero.1 hv).resolve_right (by omega)
  have n2 : ¬ (0 : Int) = 2 := by decide
  have n1 : ¬ (0 : Int) = 1 := by decide
  unfold sWS sFS
  rw [if_neg n2, if_neg n1, if_neg n2, if_neg n1, if_neg n2, if_neg n1, if_neg n2, if_neg n1]
  by_cases h : M = 0
  · rw [if_pos h, if_pos (h0.1 h), if_pos h, if_pos (h0.1 h)]; exact ⟨rfl, rfl⟩
  · rw [if_neg h, if_neg (fun k => h (h0.2 k)), if_neg h, if_neg (fun k => h (h0.2 k))]
    exact gWord_same (D := 24) (lo := -149) (E := E) (E' := E') 1074 h1 h2 (by decide) h hv
theorem mul_ref {x y : Nat} (hx : x < 4294967296) (hy : y < 4294967296) {mode : Int} (hmode : 0 ≤ mode ∧ mode ≤ 4) : mulWd x y mode = refMW x y mode ∧ mulFl x y mode = refMF x y mode := by
  unfold mulWd mulFl refMW refMF
  rw [isN_k, isN_k]
  by_cases nx : kS x = 2
  · rw [decide_eq_true nx, Bool.true_or, if_pos rfl, if_pos rfl, if_pos (Or.inl nx), if_pos (Or.inl nx)]; exact ⟨rfl, rfl⟩
  by_cases ny : kS y = 2
  · rw [decide_eq_true ny, Bool.or_true, if_pos rfl, if_pos rfl, if_pos (Or.inr ny), if_pos (Or.inr ny)]; exact ⟨rfl, rfl⟩
  have n0 : ¬ (decide (kS x = 2) || decide (kS y = 2)) = true := by simp [nx, ny]
  have n0' : ¬ (kS x = 2 ∨ kS y = 2) := by omega
  rw [if_neg n0, if_neg n0, if_neg n0', if_neg n0']
  rcases mul_cases hx hy nx ny with ⟨h, hz⟩ | ⟨h, hi, hz⟩ | ⟨p, h, hp, kx, ky⟩
  · rw [h, if_pos hz, if_pos hz]; exact ⟨rfl, rfl⟩
  · rw [h, if_neg hz, if_neg hz, if_pos hi, if_pos hi]
    show nWord (infD _) mode = _ ∧ nFlags (infD _) mode = _
    have hm : ¬¬(0 ≤ mode ∧ mode ≤ 4) := fun h => h hmode
    unfold nWord nFlags
    have d1 : ¬ (9218868437227405312 : Nat) < 9218868437227405312 := by decide
    have d2 : ¬ (9218868437227405312 : Nat) = 0 := by decide
    rw [if_neg hm, if_neg hm, inf_mod, if_neg d1, if_neg d1, if_neg d2, if_neg d2, if_pos rfl, if_pos rfl, ng_inf]
    exact ⟨rfl, rfl⟩
  · have g1 : ¬ ((kS x = 1 ∧ kS y = 0 ∧ mS y = 0) ∨ (kS y = 1 ∧ kS x = 0 ∧ mS x = 0)) := by omega
    have g2 : ¬ (kS x = 1 ∨ kS y = 1) := by omega
    rw [h, if_neg g1, if_neg g1, if_neg g2, if_neg g2]
    show nWord p mode = _ ∧ nFlags p mode = _
    obtain ⟨w1, w2⟩ := narrow_word (x := p) hmode
    have hfp : Fi p := ⟨hp.1, by have := hp.2.1; rw [Fp.rg64, Fp.dI] at this; exact this⟩
    obtain ⟨a1, a2, a3, a4⟩ := mD_mag hfp.2
    have hmg : magD p = prodN x y := by
      have h4 := hp.2.2.2
      rw [Fp.rg64] at h4
      exact h4
    have hng : ngD p = (nS x != nS y) := by
      have h3 := hp.2.2.1
      rw [Fp.sg64] at h3
      have h1 := hfp.1
      unfold ngD
      rw [← h3, Bool.eq_iff_iff, decide_eq_true_iff, beq_iff_eq]
      omega
    rw [hmg] at a1
    rw [a2, a3, hng] at w1 w2
    rw [← w1, ← w2]
    have e1 := eS_lo x kx
    have e2 := eS_lo y ky
    exact sWS_same (by have := eD_lo p a2; omega) (by omega) a1.symm
def refDW (x y : Nat) (mode : Int) : Nat :=
  if kS x = 2 ∨ kS y = 2 then 2143289344
  else if (kS x = 1 ∧ kS y = 1) ∨ ((kS x = 0 ∧ mS x = 0) ∧ (kS y = 0 ∧ mS y = 0)) then 2143289344
  else if kS x = 1 then infS (nS x != nS y)
  else if kS y = 0 ∧ mS y = 0 then infS (nS x != nS y)
  else if kS y = 1 ∨ (kS x = 0 ∧ mS x = 0) then sgnS (nS x != nS y)
  else gWord 24 (-149) 127 2139095039 2139095040 8388608 2147483648 (nS x != nS y) (mS x * 2 ^ (140 : Nat) / mS y) (eS x - eS y - 140) (mS x * 2 ^ (140 : Nat) % mS y != 0) mode
def refDF (x y : Nat) (mode : Int) : Int :=
  if kS x = 2 ∨ kS y = 2 then 0
  else if (kS x = 1 ∧ kS y = 1) ∨ ((kS x = 0 ∧ mS x = 0) ∧ (kS y = 0 ∧ mS y = 0)) then 8
  else if kS x = 1 then 0
  else if kS y = 0 ∧ mS y = 0 then 16
  else if kS y = 1 ∨ (kS x = 0 ∧ mS x = 0) then 0
  else gFlags 24 (-149) 127 (nS x != nS y) (mS x * 2 ^ (140 : Nat) / mS y) (eS x - eS y - 140) (mS x * 2 ^ (140 : Nat) % mS y != 0) mode
theorem div_zero_like {x y p : Nat} {mode : Int} (hN : ¬ (isN x || isN y) = true) (hd : Ieee.double.div (wD x) (wD y) = some p) (hy : y % 2147483648 ≠ 0) :
    (p % 9223372036854775808 = 0 → divWd x y mode = sgnS (ngD p) ∧ divFl x y mode = 0) ∧ (p % 9223372036854775808 = 9218868437227405312 → divWd x y mode = infS (ngD p) ∧ divFl x y mode = 0) := by
  unfold divWd divFl
  rw [if_neg hN, if_neg hN, hd]
  refine ⟨fun h => ?_, fun h => ?_⟩
  · show (if p % 9223372036854775808 = 0 then sgnS (ngD p) else _) = _ ∧ (if y % 2147483648 = 0 then _ else if p % 9223372036854775808 = 0 then (0 : Int) else _) = _
    rw [if_pos h, if_neg hy, if_pos h]; exact ⟨rfl, rfl⟩
  · show (if p % 9223372036854775808 = 0 then sgnS (ngD p) else if p % 9223372036854775808 = 9218868437227405312 then infS (ngD p) else _) = _ ∧ (if y % 2147483648 = 0 then _ else if p % 9223372036854775808 = 0 then (0 : Int) else if p % 9223372036854775808 = 9218868437227405312 then (0 : Int) else _) = _
    rw [if_neg (by omega), if_pos h, if_neg hy, if_neg (by omega), if_pos h]; exact ⟨rfl, rfl⟩
theorem num_parts (s : Bool) : Ieee.double.write (.number s 0 0) % 9223372036854775808 = 0 ∧ ngD (Ieee.double.write (.number s 0 0)) = s := by cases s <;> decide +kernel
theorem ng_infD (s : Bool) : ngD (infD s) = s := ng_inf s
theorem div_ref {x y : Nat} (hx : x < 4294967296) (hy : y < 4294967296) (mode : Int) : divWd x y mode = refDW x y mode ∧ divFl x y mode = refDF x y mode := by
  by_cases nx : kS x = 2
  · unfold divWd divFl refDW refDF
    rw [isN_k, isN_k, decide_eq_true nx, Bool.true_or, if_pos rfl, if_pos rfl, if_pos (Or.inl nx), if_pos (Or.inl nx)]; exact ⟨rfl, rfl⟩
  by_cases ny : kS y = 2
  · unfold divWd divFl refDW refDF
    rw [isN_k, isN_k, decide_eq_true ny, Bool.or_true, if_pos rfl, if_pos rfl, if_pos (Or.inr ny), if_pos (Or.inr ny)]; exact ⟨rfl, rfl⟩
  have n0 : ¬ (isN x || isN y) = true := by rw [isN_k, isN_k]; simp [nx, ny]
  have n0' : ¬ (kS x = 2 ∨ kS y = 2) := by omega
  unfold refDW refDF
  rw [if_neg n0', if_neg n0', bne_xor]
  by_cases ix : kS x = 1
  · by_cases iy : kS y = 1
    · have hd : Ieee.double.div (wD x) (wD y) = none := by
        rw [inf_two hx ix, inf_two hy iy]; unfold Ieee.Format.div; rw [read_infD, read_infD]; rfl
      rw [if_pos (.inl ⟨ix, iy⟩), if_pos (.inl ⟨ix, iy⟩)]
      unfold divWd divFl
      rw [if_neg n0, if_neg n0, hd]; exact ⟨rfl, rfl⟩
    · obtain ⟨ky, fy, hI⟩ := fin_two hy ny iy
      have g1 : ¬ ((kS x = 1 ∧ kS y = 1) ∨ ((kS x = 0 ∧ mS x = 0) ∧ (kS y = 0 ∧ mS y = 0))) := by omega
      rw [if_neg g1, if_neg g1, if_pos ix, if_pos ix]
      obtain ⟨m, e, rb, _⟩ := read_is hI
      have hd : Ieee.double.div (wD x) (wD y) = some (infD (nS x ^^ nS y)) := by
        rw [inf_two hx ix]; unfold Ieee.Format.div; rw [read_infD, rb, ← write_infD]; rfl
      by_cases hz : y % 2147483648 = 0
      · unfold divWd divFl
        rw [if_neg n0, if_neg n0, hd]
        show (if infD _ % 9223372036854775808 = 0 then sgnS (ngD _) else if infD _ % 9223372036854775808 = 9218868437227405312 then infS (ngD (infD _)) else _) = _ ∧ (if y % 2147483648 = 0 then (if isI x then 0 else 16) else _) = _
        rw [inf_mod, if_neg (by decide), if_pos rfl, if_pos hz, isI_k, decide_eq_true ix, if_pos rfl, ng_infD]
        exact ⟨rfl, rfl⟩
      · have := (div_zero_like (mode := mode) n0 hd hz).2 (inf_mod _)
        rw [ng_infD] at this
        exact this
  · obtain ⟨kx, fx, hIx⟩ := fin_two hx nx ix
    obtain ⟨mx, ex, rx, hmx⟩ := read_is hIx
    rw [mag_zero fx] at hmx
    by_cases iy : kS y = 1
    · have g1 : ¬ ((kS x = 1 ∧ kS y = 1) ∨ ((kS x = 0 ∧ mS x = 0) ∧ (kS y = 0 ∧ mS y = 0))) := by omega
      have g2 : ¬ (kS y = 0 ∧ mS y = 0) := by omega
      rw [if_neg g1, if_neg g1, if_neg ix, if_neg ix, if_neg g2, if_neg g2, if_pos (.inl iy), if_pos (.inl iy)]
      have hd : Ieee.double.div (wD x) (wD y) = some (Ieee.double.write (.number (nS x ^^ nS y) 0 0)) := by
        rw [inf_two hy iy]; unfold Ieee.Format.div; rw [read_infD, rx]; rfl
      have hz : y % 2147483648 ≠ 0 := by
        intro h
        have : isI y = true := by rw [isI_k, decide_eq_true iy]
        unfold isI at this
        rw [h] at this
        exact absurd this (by decide)
      have h2 := (div_zero_like (mode := mode) n0 hd hz).1 (num_parts _).1
      rw [(num_parts _).2] at h2
      exact h2
    · obtain ⟨ky, fy, hIy⟩ := fin_two hy ny iy
      obtain ⟨my, ey, ry, hmy⟩ := read_is hIy
      rw [mag_zero fy] at hmy
      have hzy := (mS_mag fy).2.2.2
      by_cases zy : mS y = 0
      · by_cases zx : mS x = 0
        · have g1 : (kS x = 1 ∧ kS y = 1) ∨ ((kS x = 0 ∧ mS x = 0) ∧ (kS y = 0 ∧ mS y = 0)) := .inr ⟨⟨kx, zx⟩, ky, zy⟩
          have hd : Ieee.double.div (wD x) (wD y) = none := by
            unfold Ieee.Format.div
            rw [rx, ry, hmx.2 zx, hmy.2 zy]; rfl
          rw [if_pos g1, if_pos g1]
          unfold divWd divFl
          rw [if_neg n0, if_neg n0, hd]; exact ⟨rfl, rfl⟩
        · have g1 : ¬ ((kS x = 1 ∧ kS y = 1) ∨ ((kS x = 0 ∧ mS x = 0) ∧ (kS y = 0 ∧ mS y = 0))) := by omega
          rw [if_neg g1, if_neg g1, if_neg ix, if_neg ix, if_pos ⟨ky, zy⟩, if_pos ⟨ky, zy⟩]
          have hd : Ieee.double.div (wD x) (wD y) = some (infD (nS x ^^ nS y)) := by
            have hm0 : mx ≠ 0 := fun h => zx (hmx.1 h)
            have e : Ieee.Datum.quotient (Ieee.double.fractionBits + 2) (.number (nS x) mx ex) (.number (nS y) 0 ey) = some (.infinity (nS x ^^ nS y)) := by simp [Ieee.Datum.quotient, hm0]
            unfold Ieee.Format.div
            rw [rx, ry, hmy.2 zy, e, ← write_infD]; rfl
          unfold divWd divFl
          rw [if_neg n0, if_neg n0, hd]
          show (if infD _ % 9223372036854775808 = 0 then sgnS (ngD _) else if infD _ % 9223372036854775808 = 9218868437227405312 then infS (ngD (infD _)) else _) = _ ∧ (if y % 2147483648 = 0 then (if isI x then 0 else 16) else _) = _
          rw [inf_mod, if_neg (by decide), if_pos rfl, if_pos (hzy.1 zy), isI_k, decide_eq_false ix, if_neg Bool.false_ne_true, ng_infD]
          exact ⟨rfl, rfl⟩
      · by_cases zx : mS x = 0
        · have g1 : ¬ ((kS x = 1 ∧ kS y = 1) ∨ ((kS x = 0 ∧ mS x = 0) ∧ (kS y = 0 ∧ mS y = 0))) := by omega
          have g2 : ¬ (kS y = 0 ∧ mS y = 0) := by omega
          rw [if_neg g1, if_neg g1, if_neg ix, if_neg ix, if_neg g2, if_neg g2, if_pos (.inr ⟨kx, zx⟩), if_pos (.inr ⟨kx, zx⟩)]
          have hm0 := hmx.2 zx
          have hd : ∃ i, Ieee.double.div (wD x) (wD y) = some (Ieee.double.nearest (nS x ^^ nS y) 0 i) := by
            have h := div_read rx ry (fun h => zy (hmy.1 h))
            rw [hm0] at h
            have e : stk (0 * 2 ^ (54 + my.log2 - Nat.log2 0) / my) (0 * 2 ^ (54 + my.log2 - Nat.log2 0) % my != 0) = 0 := by
              rw [Nat.zero_mul, Nat.zero_div, Nat.zero_mod]; rfl
            rw [e] at h
            exact ⟨_, h⟩
          obtain ⟨i, hd⟩ := hd
          have hn : Ieee.double.nearest (nS x ^^ nS y) 0 i = Ieee.double.write (.number (nS x ^^ nS y) 0 0) := by
            show Ieee.double.nearest (nS x ^^ nS y) 0 i = Ieee.double.nearest (nS x ^^ nS y) 0 0
            unfold Ieee.Format.nearest
            rw [if_pos rfl, if_pos rfl]
          rw [hn] at hd
          have h2 := (div_zero_like (mode := mode) n0 hd (fun h => zy (hzy.2 h))).1 (num_parts _).1
          rw [(num_parts _).2] at h2
          exact h2
        · have g1 : ¬ ((kS x = 1 ∧ kS y = 1) ∨ ((kS x = 0 ∧ mS x = 0) ∧ (kS y = 0 ∧ mS y = 0))) := by omega
          have g2 : ¬ (kS y = 0 ∧ mS y = 0) := by omega
          have g3 : ¬ (kS y = 1 ∨ (kS x = 0 ∧ mS x = 0)) := by omega
          rw [if_neg g1, if_neg g1, if_neg ix, if_neg ix, if_neg g2, if_neg g2, if_neg g3, if_neg g3, ← bne_xor]
          exact div_word hx hy kx ky zx zy mode
def refRW (x : Nat) (mode : Int) : Nat :=
  if kS x = 2 then 2143289344
  else if kS x = 0 ∧ mS x = 0 then sgnS (nS x)
  else if nS x then 2143289344
  else if kS x = 1 then infS false
  else gWord 24 (-149) 127 2139095039 2139095040 8388608 2147483648 false (isq (mS x * 2 ^ rtS (eS x))) ((eS x - (rtS (eS x) : Nat)) / 2) (isq (mS x * 2 ^ rtS (eS x)) * isq (mS x * 2 ^ rtS (eS x)) != mS x * 2 ^ rtS (eS x)) mode
def refRF (x : Nat) (mode : Int) : Int :=
  if kS x = 2 then 0
  else if kS x = 0 ∧ mS x = 0 then 0
  else if nS x then 8
  else if kS x = 1 then 0
  else gFlags 24 (-149) 127 false (isq (mS x * 2 ^ rtS (eS x))) ((eS x - (rtS (eS x) : Nat)) / 2) (isq (mS x * 2 ^ rtS (eS x)) * isq (mS x * 2 ^ rtS (eS x)) != mS x * 2 ^ rtS (eS x)) mode
theorem root_ref {x : Nat} (hx : x < 4294967296) (mode : Int) : rootWd x mode = refRW x mode ∧ rootFl x mode = refRF x mode := by
  by_cases nx : kS x = 2
  · unfold rootWd rootFl refRW refRF
    rw [isN_k, decide_eq_true nx, if_pos rfl, if_pos rfl, if_pos nx, if_pos nx]; exact ⟨rfl, rfl⟩
  have n0 : ¬ isN x = true := by rw [isN_k]; simp [nx]
  unfold refRW refRF
  rw [if_neg nx, if_neg nx]
  by_cases ix : kS x = 1
  · have g : ¬ (kS x = 0 ∧ mS x = 0) := by omega
    rw [if_neg g, if_neg g]
    have hd := sqrt_inf (nS x)
    rw [← inf_two hx ix] at hd
    cases hn : nS x
    · rw [hn, if_neg Bool.false_ne_true] at hd
      rw [if_neg Bool.false_ne_true, if_neg Bool.false_ne_true, if_pos ix, if_pos ix]
      unfold rootWd rootFl
      rw [if_neg n0, if_neg n0, hd]
      show (if infD _ % 9223372036854775808 = 0 then sgnS (ngD _) else if infD _ % 9223372036854775808 = 9218868437227405312 then infS (ngD (infD _)) else _) = _ ∧ (if infD _ % 9223372036854775808 = 0 then (0 : Int) else if infD _ % 9223372036854775808 = 9218868437227405312 then (0 : Int) else _) = _
      rw [inf_mod, if_neg (by decide), if_pos rfl, if_neg (by decide), if_pos rfl, ng_infD]
      exact ⟨rfl, rfl⟩
    · rw [hn, if_pos rfl] at hd
      rw [if_pos rfl, if_pos rfl]
      unfold rootWd rootFl
      rw [if_neg n0, if_neg n0, hd]; exact ⟨rfl, rfl⟩
  · obtain ⟨kx, fx, hIx⟩ := fin_two hx nx ix
    obtain ⟨m, i, rx, hmx⟩ := read_is hIx
    rw [mag_zero fx] at hmx
    by_cases zx : mS x = 0
    · have g : kS x = 0 ∧ mS x = 0 := ⟨kx, zx⟩
      rw [if_pos g, if_pos g]
      have hd : Ieee.double.sqrt (wD x) = some (Ieee.double.write (.number (nS x) 0 0)) := by
        unfold Ieee.Format.sqrt
        rw [rx, hmx.2 zx]
        show some (Ieee.double.nearest (nS x) 0 i) = some (Ieee.double.nearest (nS x) 0 0)
        unfold Ieee.Format.nearest
        rw [if_pos rfl, if_pos rfl]
      unfold rootWd rootFl
      rw [if_neg n0, if_neg n0, hd]
      show (if Ieee.double.write (.number (nS x) 0 0) % 9223372036854775808 = 0 then sgnS (ngD (Ieee.double.write (.number (nS x) 0 0))) else _) = _ ∧ (if Ieee.double.write (.number (nS x) 0 0) % 9223372036854775808 = 0 then (0 : Int) else _) = _
      rw [if_pos (num_parts _).1, if_pos (num_parts _).1, (num_parts _).2]
      exact ⟨rfl, rfl⟩
    · have g : ¬ (kS x = 0 ∧ mS x = 0) := by omega
      rw [if_neg g, if_neg g]
      cases hn : nS x
      · rw [if_neg Bool.false_ne_true, if_neg Bool.false_ne_true, if_neg ix, if_neg ix]
        exact root_word hx kx zx hn mode
      · rw [if_pos rfl, if_pos rfl]
        have hd : Ieee.double.sqrt (wD x) = none := by
          unfold Ieee.Format.sqrt
          rw [rx, hn]
          have hm0 : m ≠ 0 := fun h => zx (hmx.1 h)
          show (if m = 0 then some (Ieee.Datum.number true m i) else if true = true then none else _).map Ieee.double.write = none
          rw [if_neg hm0, if_pos rfl]; rfl
        unfold rootWd rootFl
        rw [if_neg n0, if_neg n0, hd]; exact ⟨rfl, rfl⟩
end Go.Proofs.YtifgngmebnjfkaaGreatDoor
end
