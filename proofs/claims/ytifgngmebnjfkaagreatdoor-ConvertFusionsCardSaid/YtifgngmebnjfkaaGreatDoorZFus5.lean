/- What the law's walk rests on, part 5: contracts of functions and plain facts. -/
import Derived.Test.YtifgngmebnjfkaaGreatDoorRows
import Ieee.Arith
import Derived.WalkKit
import Derived.WalkSpells
import Derived.WalkLawsBesides
import Derived.BigQuiet
import Derived.Lib.Hide
import Derived.Lib.TrailingZeros
import Derived.Lib.BitFns
import Derived.Lib.Strings
import Derived.Lib.Slices
import Derived.Lib.Small
import Derived.Lib.Walk
import Derived.Deep.OwnRows
import Derived.OwnWalk
import Derived.LoopTactic
import Derived.Outline
import Derived.IntWalk
import Derived.OrdersHeld
import Derived.StillTail
import Derived.Deep.RegionHeld3
import Derived.Maps.AppendAt
import Derived.Deep.DeepCutAuto
import Derived.Deep.QuietTactic
import Derived.ProofKit
import Derived.OpenShut
import Derived.ShutString
import Derived.ChangeOld
import Derived.Below
import Derived.Deep.DeepHandedRow
import Derived.Deep.Strs
import Derived.Lib.LaidTab
import Derived.Test.YtifgngmebnjfkaaGreatDoorZFus4
set_option linter.unusedVariables false
set_option linter.unusedSimpArgs false
section
namespace Go.Proofs.YtifgngmebnjfkaaGreatDoor
open Go.RowKit
set_option maxRecDepth 100000 in
set_option maxHeartbeats 600000 in
theorem fused_bad (x y z : Nat) (mode : Int) (KN : Hid (∀ w, Calls Tryz.prog 29 #[.int .i64 mode] w fun e' w' => e' = .returned (.bool false) ∧ w = w')) (w : World) : Calls Tryz.prog 6 #[.float .f32 x, .float .f32 y, .float .f32 z, .int .i64 mode] w fun e' w' => e' = .returned (.tuple #[.float .f32 0, .int .i64 0, .int .i64 20]) ∧ Within w w' := by
  go_enter Tryz.func6, Tryz.ntmps6
  go_wp2_with fail
  refine (KN.out _).mono ?_; rintro e1 w1 ⟨rfl, rfl⟩
  go_wp2
  go_ret3
  exact ⟨rfl, (by repeat (first | with_reducible exact Within.refl _ | with_reducible assumption | with_reducible refine Within.alloc ?_ _ | with_reducible refine Within.drew ?_ | with_reducible refine Within.setCell ?_ (by first | (simp; done) | (simp; omega)) _ | with_reducible refine Within.trans ?_ (by assumption)))⟩
set_option maxRecDepth 100000 in
set_option maxHeartbeats 600000 in
theorem fused_nn (x y z : Nat) (mode : Int) (KN : Hid (∀ w, Calls Tryz.prog 29 #[.int .i64 mode] w fun e' w' => e' = .returned (.bool true) ∧ w = w')) (nx : (FloatKind.f32.format.order x x != some .eq) = true) (gx : Bool) (ix : Nat) (hx : FloatKind.f32.decode x = .nan gx ix) (gy : Bool) (iy : Nat) (hy : FloatKind.f32.decode y = .nan gy iy) (hm : ∀ tx ty, Ieee.double.mul ((Question.nanConv .f64 x).cut tx) ((Question.nanConv .f64 y).cut ty) = none) (NO : Hid (∀ w, Calls Tryz.prog 30 #[] w fun e' w' => e' = .returned (.float .f32 2143289344) ∧ Within w w')) (w : World) : Calls Tryz.prog 6 #[.float .f32 x, .float .f32 y, .float .f32 z, .int .i64 mode] w fun e' w' => e' = .returned (.tuple #[.float .f32 2143289344, .int .i64 0, .int .i64 0]) ∧ Within w w' := by
  have cx := fun (w : World) => run_widen_nan 23 34 .f32 .f64 x Tryz.prog w (by decide) (by kernel_rfl) (by kernel_rfl) gx ix hx
  have cy := fun (w : World) => run_widen_nan 23 34 .f32 .f64 y Tryz.prog w (by decide) (by kernel_rfl) (by kernel_rfl) gy iy hy
  have hmul := fun tx ty t w => m_float_nan .mul t .f64 ((Question.nanConv .f64 x).cut tx) ((Question.nanConv .f64 y).cut ty) Tryz.prog w (by first | exact .inr (.inr (.inl rfl)) | exact .inr (.inr (.inr rfl))) (hm tx ty)
  clear hm hx hy
  go_enter Tryz.func6, Tryz.ntmps6
  go_wp2_with fail
  refine (KN.out _).mono ?_; rintro e1 w1 ⟨rfl, rfl⟩
  go_wp2_with fail
  refine (NO.out _).mono ?_; rintro e5 w5 ⟨rfl, hb5⟩
  go_wp2
  go_ret3
  exact ⟨rfl, (by repeat (first | with_reducible exact Within.refl _ | with_reducible assumption | with_reducible refine Within.alloc ?_ _ | with_reducible refine Within.drew ?_ | with_reducible refine Within.setCell ?_ (by first | (simp; done) | (simp; omega)) _ | with_reducible refine Within.trans ?_ (by assumption)))⟩
set_option maxRecDepth 100000 in
set_option maxHeartbeats 600000 in
theorem fused_nf (x y z b : Nat) (mode : Int) (KN : Hid (∀ w, Calls Tryz.prog 29 #[.int .i64 mode] w fun e' w' => e' = .returned (.bool true) ∧ w = w')) (nx : (FloatKind.f32.format.order x x != some .eq) = true) (gx : Bool) (ix : Nat) (hx : FloatKind.f32.decode x = .nan gx ix) (hy : floatToFloatBits .f32 y .f64 = some b) (hm : ∀ tx, Ieee.double.mul ((Question.nanConv .f64 x).cut tx) b = none) (NO : Hid (∀ w, Calls Tryz.prog 30 #[] w fun e' w' => e' = .returned (.float .f32 2143289344) ∧ Within w w')) (w : World) : Calls Tryz.prog 6 #[.float .f32 x, .float .f32 y, .float .f32 z, .int .i64 mode] w fun e' w' => e' = .returned (.tuple #[.float .f32 2143289344, .int .i64 0, .int .i64 0]) ∧ Within w w' := by
  have cx := fun (w : World) => run_widen_nan 23 34 .f32 .f64 x Tryz.prog w (by decide) (by kernel_rfl) (by kernel_rfl) gx ix hx
  have cy := fun (w : World) => run_convert_float_float (P := Tryz.prog) w 23 34 .f32 .f64 y b (by kernel_rfl) (by kernel_rfl) hy
  have hmul := fun tx t w => m_float_nan .mul t .f64 ((Question.nanConv .f64 x).cut tx) b Tryz.prog w (by first | exact .inr (.inr (.inl rfl)) | exact .inr (.inr (.inr rfl))) (hm tx)
  clear hm hx hy
  go_enter Tryz.func6, Tryz.ntmps6
  go_wp2_with fail
  refine (KN.out _).mono ?_; rintro e1 w1 ⟨rfl, rfl⟩
  go_wp2_with fail
  refine (NO.out _).mono ?_; rintro e5 w5 ⟨rfl, hb5⟩
  go_wp2
  go_ret3
  exact ⟨rfl, (by repeat (first | with_reducible exact Within.refl _ | with_reducible assumption | with_reducible refine Within.alloc ?_ _ | with_reducible refine Within.drew ?_ | with_reducible refine Within.setCell ?_ (by first | (simp; done) | (simp; omega)) _ | with_reducible refine Within.trans ?_ (by assumption)))⟩
set_option maxRecDepth 100000 in
set_option maxHeartbeats 600000 in
theorem fused_fn (x y z a : Nat) (mode : Int) (KN : Hid (∀ w, Calls Tryz.prog 29 #[.int .i64 mode] w fun e' w' => e' = .returned (.bool true) ∧ w = w')) (nx : (FloatKind.f32.format.order x x != some .eq) = false) (ny : (FloatKind.f32.format.order y y != some .eq) = true) (hx : floatToFloatBits .f32 x .f64 = some a) (gy : Bool) (iy : Nat) (hy : FloatKind.f32.decode y = .nan gy iy) (hm : ∀ ty, Ieee.double.mul a ((Question.nanConv .f64 y).cut ty) = none) (NO : Hid (∀ w, Calls Tryz.prog 30 #[] w fun e' w' => e' = .returned (.float .f32 2143289344) ∧ Within w w')) (w : World) : Calls Tryz.prog 6 #[.float .f32 x, .float .f32 y, .float .f32 z, .int .i64 mode] w fun e' w' => e' = .returned (.tuple #[.float .f32 2143289344, .int .i64 0, .int .i64 0]) ∧ Within w w' := by
  have cx := fun (w : World) => run_convert_float_float (P := Tryz.prog) w 23 34 .f32 .f64 x a (by kernel_rfl) (by kernel_rfl) hx
  have cy := fun (w : World) => run_widen_nan 23 34 .f32 .f64 y Tryz.prog w (by decide) (by kernel_rfl) (by kernel_rfl) gy iy hy
  have hmul := fun ty t w => m_float_nan .mul t .f64 a ((Question.nanConv .f64 y).cut ty) Tryz.prog w (by first | exact .inr (.inr (.inl rfl)) | exact .inr (.inr (.inr rfl))) (hm ty)
  clear hm hx hy
  go_enter Tryz.func6, Tryz.ntmps6
  go_wp2_with fail
  refine (KN.out _).mono ?_; rintro e1 w1 ⟨rfl, rfl⟩
  go_wp2_with fail
  refine (NO.out _).mono ?_; rintro e5 w5 ⟨rfl, hb5⟩
  go_wp2
  go_ret3
  exact ⟨rfl, (by repeat (first | with_reducible exact Within.refl _ | with_reducible assumption | with_reducible refine Within.alloc ?_ _ | with_reducible refine Within.drew ?_ | with_reducible refine Within.setCell ?_ (by first | (simp; done) | (simp; omega)) _ | with_reducible refine Within.trans ?_ (by assumption)))⟩
set_option maxRecDepth 100000 in
set_option maxHeartbeats 600000 in
theorem fused_z_none (x y z a b : Nat) (mode : Int) (KN : Hid (∀ w, Calls Tryz.prog 29 #[.int .i64 mode] w fun e' w' => e' = .returned (.bool true) ∧ w = w')) (nx : (FloatKind.f32.format.order x x != some .eq) = false) (ny : (FloatKind.f32.format.order y y != some .eq) = false) (nz : (FloatKind.f32.format.order z z != some .eq) = true) (hx : floatToFloatBits .f32 x .f64 = some a) (hy : floatToFloatBits .f32 y .f64 = some b) (hm : Ieee.double.mul a b = none) (NO : Hid (∀ w, Calls Tryz.prog 30 #[] w fun e' w' => e' = .returned (.float .f32 2143289344) ∧ Within w w')) (w : World) : Calls Tryz.prog 6 #[.float .f32 x, .float .f32 y, .float .f32 z, .int .i64 mode] w fun e' w' => e' = .returned (.tuple #[.float .f32 2143289344, .int .i64 0, .int .i64 0]) ∧ Within w w' := by
  have cx := fun (w : World) => run_convert_float_float (P := Tryz.prog) w 23 34 .f32 .f64 x a (by kernel_rfl) (by kernel_rfl) hx
  have cy := fun (w : World) => run_convert_float_float (P := Tryz.prog) w 23 34 .f32 .f64 y b (by kernel_rfl) (by kernel_rfl) hy
  clear hx hy
  have hmul := fun t w => m_float_nan .mul t .f64 a b Tryz.prog w (by first | exact .inr (.inr (.inl rfl)) | exact .inr (.inr (.inr rfl))) hm
  clear hm
  go_enter Tryz.func6, Tryz.ntmps6
  go_wp2_with fail
  refine (KN.out _).mono ?_; rintro e1 w1 ⟨rfl, rfl⟩
  go_wp2_with fail
  refine (NO.out _).mono ?_; rintro e5 w5 ⟨rfl, hb5⟩
  go_wp2
  go_ret3
  exact ⟨rfl, (by repeat (first | with_reducible exact Within.refl _ | with_reducible assumption | with_reducible refine Within.alloc ?_ _ | with_reducible refine Within.drew ?_ | with_reducible refine Within.setCell ?_ (by first | (simp; done) | (simp; omega)) _ | with_reducible refine Within.trans ?_ (by assumption)))⟩
set_option maxRecDepth 100000 in
set_option maxHeartbeats 600000 in
theorem fused_z_some (x y z a b : Nat) (mode : Int) (KN : Hid (∀ w, Calls Tryz.prog 29 #[.int .i64 mode] w fun e' w' => e' = .returned (.bool true) ∧ w = w')) (nx : (FloatKind.f32.format.order x x != some .eq) = false) (ny : (FloatKind.f32.format.order y y != some .eq) = false) (nz : (FloatKind.f32.format.order z z != some .eq) = true) (hx : floatToFloatBits .f32 x .f64 = some a) (hy : floatToFloatBits .f32 y .f64 = some b) (p : Nat) (hm : Ieee.double.mul a b = some p) (NO : Hid (∀ w, Calls Tryz.prog 30 #[] w fun e' w' => e' = .returned (.float .f32 2143289344) ∧ Within w w')) (w : World) : Calls Tryz.prog 6 #[.float .f32 x, .float .f32 y, .float .f32 z, .int .i64 mode] w fun e' w' => e' = .returned (.tuple #[.float .f32 2143289344, .int .i64 0, .int .i64 0]) ∧ Within w w' := by
  have cx := fun (w : World) => run_convert_float_float (P := Tryz.prog) w 23 34 .f32 .f64 x a (by kernel_rfl) (by kernel_rfl) hx
  have cy := fun (w : World) => run_convert_float_float (P := Tryz.prog) w 23 34 .f32 .f64 y b (by kernel_rfl) (by kernel_rfl) hy
  clear hx hy
  have hmul := fun t P w => run_float_arith (P := P) w .mul t .f64 _ _ _ hm
  clear hm
  go_enter Tryz.func6, Tryz.ntmps6
  go_wp2_with fail
  refine (KN.out _).mono ?_; rintro e1 w1 ⟨rfl, rfl⟩
  go_wp2_with fail
  refine (NO.out _).mono ?_; rintro e5 w5 ⟨rfl, hb5⟩
  go_wp2
  go_ret3
  exact ⟨rfl, (by repeat (first | with_reducible exact Within.refl _ | with_reducible assumption | with_reducible refine Within.alloc ?_ _ | with_reducible refine Within.drew ?_ | with_reducible refine Within.setCell ?_ (by first | (simp; done) | (simp; omega)) _ | with_reducible refine Within.trans ?_ (by assumption)))⟩
set_option maxRecDepth 100000 in
set_option maxHeartbeats 600000 in
theorem fused_invalid (x y z a b : Nat) (mode : Int) (KN : Hid (∀ w, Calls Tryz.prog 29 #[.int .i64 mode] w fun e' w' => e' = .returned (.bool true) ∧ w = w')) (nx : (FloatKind.f32.format.order x x != some .eq) = false) (ny : (FloatKind.f32.format.order y y != some .eq) = false) (nz : (FloatKind.f32.format.order z z != some .eq) = false) (hx : floatToFloatBits .f32 x .f64 = some a) (hy : floatToFloatBits .f32 y .f64 = some b) (hm : Ieee.double.mul a b = none) (hn : ∀ t, (FloatKind.f64.format.order ((Question.nanBits .f64 a b).cut t) ((Question.nanBits .f64 a b).cut t) != some .eq) = true) (NO : Hid (∀ w, Calls Tryz.prog 30 #[] w fun e' w' => e' = .returned (.float .f32 2143289344) ∧ Within w w')) (w : World) : Calls Tryz.prog 6 #[.float .f32 x, .float .f32 y, .float .f32 z, .int .i64 mode] w fun e' w' => e' = .returned (.tuple #[.float .f32 2143289344, .int .i64 8, .int .i64 0]) ∧ Within w w' := by
  have cx := fun (w : World) => run_convert_float_float (P := Tryz.prog) w 23 34 .f32 .f64 x a (by kernel_rfl) (by kernel_rfl) hx
  have cy := fun (w : World) => run_convert_float_float (P := Tryz.prog) w 23 34 .f32 .f64 y b (by kernel_rfl) (by kernel_rfl) hy
  clear hx hy
  have hmul := fun t w => m_float_nan .mul t .f64 a b Tryz.prog w (by first | exact .inr (.inr (.inl rfl)) | exact .inr (.inr (.inr rfl))) hm
  clear hm
  go_enter Tryz.func6, Tryz.ntmps6
  go_wp2_with fail
  refine (KN.out _).mono ?_; rintro e1 w1 ⟨rfl, rfl⟩
  go_wp2_with fail
  refine (NO.out _).mono ?_; rintro e5 w5 ⟨rfl, hb5⟩
  go_wp2
  go_ret3
  exact ⟨rfl, (by repeat (first | with_reducible exact Within.refl _ | with_reducible assumption | with_reducible refine Within.alloc ?_ _ | with_reducible refine Within.drew ?_ | with_reducible refine Within.setCell ?_ (by first | (simp; done) | (simp; omega)) _ | with_reducible refine Within.trans ?_ (by assumption)))⟩
set_option maxRecDepth 100000 in
set_option maxHeartbeats 600000 in
theorem fused_main (x y z a b : Nat) (mode : Int) (KN : Hid (∀ w, Calls Tryz.prog 29 #[.int .i64 mode] w fun e' w' => e' = .returned (.bool true) ∧ w = w')) (nx : (FloatKind.f32.format.order x x != some .eq) = false) (ny : (FloatKind.f32.format.order y y != some .eq) = false) (nz : (FloatKind.f32.format.order z z != some .eq) = false) (hx : floatToFloatBits .f32 x .f64 = some a) (hy : floatToFloatBits .f32 y .f64 = some b) (p : Nat) (hm : Ieee.double.mul a b = some p) (np : (FloatKind.f64.format.order p p != some .eq) = false) (c r : Nat) (fl : Int) (hz : floatToFloatBits .f32 z .f64 = some c) (SU : Hid (∀ w, FmS w → Calls Tryz.prog 31 #[.float .f64 p, .float .f64 c, .int .i64 mode] w fun e' w' => e' = .returned (.tuple #[.float .f32 r, .int .i64 fl]) ∧ Within w w')) (w : World) (hT : FmS w) : Calls Tryz.prog 6 #[.float .f32 x, .float .f32 y, .float .f32 z, .int .i64 mode] w fun e' w' => e' = .returned (.tuple #[.float .f32 r, .int .i64 fl, .int .i64 0]) ∧ Within w w' := by
  have cx := fun (w : World) => run_convert_float_float (P := Tryz.prog) w 23 34 .f32 .f64 x a (by kernel_rfl) (by kernel_rfl) hx
  have cy := fun (w : World) => run_convert_float_float (P := Tryz.prog) w 23 34 .f32 .f64 y b (by kernel_rfl) (by kernel_rfl) hy
  clear hx hy
  have hmul := fun t P w => run_float_arith (P := P) w .mul t .f64 _ _ _ hm
  clear hm
  have cz := fun (w : World) => run_convert_float_float (P := Tryz.prog) w 23 34 .f32 .f64 z c (by kernel_rfl) (by kernel_rfl) hz
  clear hz
  go_enter Tryz.func6, Tryz.ntmps6
  go_wp2_with fail
  refine (KN.out _).mono ?_; rintro e1 w1 ⟨rfl, rfl⟩
  go_wp2_with fail
  refine (SU.out _ (hT.of (by repeat (first | with_reducible exact Within.refl _ | with_reducible assumption | with_reducible refine Within.alloc ?_ _ | with_reducible refine Within.drew ?_ | with_reducible refine Within.setCell ?_ (by first | (simp; done) | (simp; omega)) _ | with_reducible refine Within.trans ?_ (by assumption))))).mono ?_; rintro e2 w2 ⟨rfl, hb2⟩
  go_wp2
  go_ret3
  exact ⟨rfl, (by repeat (first | with_reducible exact Within.refl _ | with_reducible assumption | with_reducible refine Within.alloc ?_ _ | with_reducible refine Within.drew ?_ | with_reducible refine Within.setCell ?_ (by first | (simp; done) | (simp; omega)) _ | with_reducible refine Within.trans ?_ (by assumption)))⟩
def isID (a : Nat) : Bool := decide (a % 9223372036854775808 = 9218868437227405312)
def sumWd (a b : Nat) (mode : Int) : Nat :=
  if isID a then (if isID b && ngD a != ngD b then 2143289344 else infS (ngD a))
  else if isID b then infS (ngD b)
  else addW (Fp.un Ieee.double a) (Fp.un Ieee.double b) (ngD a) (ngD b) mode
def sumFl (a b : Nat) (mode : Int) : Int :=
  if isID a then (if isID b && ngD a != ngD b then 8 else 0)
  else if isID b then 0
  else addF (Fp.un Ieee.double a) (Fp.un Ieee.double b) mode
theorem infD_word {a : Nat} (ha : a < 18446744073709551616) (h : isID a = true) : a = infD (ngD a) := by
  have h1 := of_decide_eq_true h
  have h2 := sgn_split ha
  unfold infD
  omega
theorem fi_of {a : Nat} (ha : a < 18446744073709551616) (hn : a % 9223372036854775808 ≤ 9218868437227405312) (h : isID a = false) : Fi a := by
  have h1 := of_decide_eq_false h
  exact ⟨ha, by omega⟩
theorem sum_any (a b : Nat) (mode : Int) (ha : a < 18446744073709551616) (hb : b < 18446744073709551616) (la : a % 9223372036854775808 ≤ 9218868437227405312) (lb : b % 9223372036854775808 ≤ 9218868437227405312) (h1 : isID a = false → (Fp.un Ieee.double a).natAbs ≤ 2 ^ 1500) (h2 : isID b = false → (Fp.un Ieee.double b).natAbs ≤ 2 ^ 1500) (hmode : 0 ≤ mode ∧ mode ≤ 4) (w : World) (hT : FmS w) : Calls Tryz.prog 31 #[.float .f64 a, .float .f64 b, .int .i64 mode] w fun e' w' => e' = .returned (.tuple #[.float .f32 (sumWd a b mode), .int .i64 (sumFl a b mode)]) ∧ Within w w' := by
  have NO := Lib.hid none_any
  unfold sumWd sumFl
  cases ia : isID a
  · rw [if_neg Bool.false_ne_true, if_neg Bool.false_ne_true]
    have fa := fi_of ha la ia
    cases ib : isID b
    · rw [if_neg Bool.false_ne_true, if_neg Bool.false_ne_true]
      exact sum_fin fa (fi_of hb lb ib) (h1 ia) (h2 ib) hmode w hT
    · rw [if_pos rfl, if_pos rfl]
      have e := infD_word hb ib
      generalize ngD b = s at e ⊢
      subst e
      exact sum_inf a _ mode (ne_false la) (ne_false lb) _ (add_inf_r _ fa) (ne_false (infD_le _)) (Lib.hid fun w => finite_inf_any _ w) _ (nbits_inf _) w
  · rw [if_pos rfl, if_pos rfl]
    have e := infD_word ha ia
    generalize ngD a = s at e ⊢
    subst e
    cases ib : isID b
    · have hfg : ¬ ((false && s != ngD b) = true) := Bool.false_ne_true
      rw [if_neg hfg, if_neg hfg]
      exact sum_inf _ b mode (ne_false la) (ne_false lb) _ (add_inf_l _ (fi_of hb lb ib)) (ne_false (infD_le _)) (Lib.hid fun w => finite_inf_any _ w) _ (nbits_inf _) w
    · have e := infD_word hb ib
      generalize ngD b = t at e ⊢
      subst e
      by_cases g : s = t
      · subst g
        have hsm : ¬ ((true && s != s) = true) := by rw [bne_self_eq_false]; decide
        rw [if_neg hsm, if_neg hsm]
        exact sum_inf _ _ mode (ne_false la) (ne_false la) _ (add_inf_same _) (ne_false (infD_le _)) (Lib.hid fun w => finite_inf_any _ w) _ (nbits_inf _) w
      · have e : (true && s != t) = true := by rw [Bool.true_and, bne_iff_ne]; exact g
        rw [if_pos e, if_pos e]
        exact sum_invalid _ _ mode (ne_false la) (ne_false lb) (add_inf_diff g) (fun t => ne_true (nanb_gt _ _ t)) NO w
def fusWd (x y z : Nat) (mode : Int) : Nat :=
  if isN x || isN y || isN z then 2143289344
  else match Ieee.double.mul (wD x) (wD y) with
    | none => 2143289344
    | some p => sumWd p (wD z) mode
def fusFl (x y z : Nat) (mode : Int) : Int :=
  if isN x || isN y || isN z then 0
  else match Ieee.double.mul (wD x) (wD y) with
    | none => 8
    | some p => sumFl p (wD z) mode
theorem Fused_known (x y z : Nat) (mode : Int) (hx : x < 4294967296) (hy : y < 4294967296) (hz : z < 4294967296) (hpb : isN x = false → isN y = false → ∀ p, Ieee.double.mul (wD x) (wD y) = some p → isID p = false → (Fp.un Ieee.double p).natAbs ≤ 2 ^ 1500) (hmode : 0 ≤ mode ∧ mode ≤ 4) (w : World) (hT : FmS w) : Calls Tryz.prog 6 #[.float .f32 x, .float .f32 y, .float .f32 z, .int .i64 mode] w fun e' w' => e' = .returned (.tuple #[.float .f32 (fusWd x y z mode), .int .i64 (fusFl x y z mode), .int .i64 0]) ∧ Within w w' := by
  have KN : Hid (∀ w, Calls Tryz.prog 29 #[.int .i64 mode] w fun e' w' => e' = .returned (.bool true) ∧ w = w') := Lib.hid (fun w => by have := known_any mode w; rw [decide_eq_true hmode] at this; exact this)
  have NO := Lib.hid none_any
  have e1 := ne32 x
  have e2 := ne32 y
  have e3 := ne32 z
  unfold fusWd fusFl
  cases nx : isN x
  · obtain ⟨ha, la0, la⟩ := wD_eq hx nx
    rw [nx] at e1
    cases ny : isN y
    · obtain ⟨hb, lb0, lb⟩ := wD_eq hy ny
      rw [ny] at e2
      cases nz : isN z
      · obtain ⟨hc, lc0, lc⟩ := wD_eq hz nz
        rw [nz] at e3
        have hff : ¬ ((false || false || false) = true) := Bool.false_ne_true
        rw [if_neg hff, if_neg hff]
        cases hm : Ieee.double.mul (wD x) (wD y) with
        | none => exact fused_invalid x y z _ _ mode KN e1 e2 e3 ha hb hm (fun t => ne_true (nanb_gt _ _ t)) NO w
        | some p =>
          obtain ⟨p1, p2⟩ := mul_good hm
          exact fused_main x y z _ _ mode KN e1 e2 e3 ha hb p hm (ne_false p2) _ _ _ hc (Lib.hid fun w hT => sum_any p (wD z) mode p1 lc0 p2 lc (hpb nx ny p hm) (fun h => by
            cases iz : isI z
            · obtain ⟨f1, f2, _⟩ := wD_fin hz nz iz
              rw [f2]
              obtain ⟨_, _, _, _, _, a5⟩ := wide_ok hz (fin_of nz iz)
              exact a5
            · rw [wD_inf hz iz] at h
              exact absurd h (by cases ngS z <;> decide)) hmode w hT) w hT
      · rw [nz] at e3
        have hft : (false || false || true) = true := rfl
        rw [if_pos hft, if_pos hft]
        cases hm : Ieee.double.mul (wD x) (wD y) with
        | none => exact fused_z_none x y z _ _ mode KN e1 e2 e3 ha hb hm NO w
        | some p => exact fused_z_some x y z _ _ mode KN e1 e2 e3 ha hb p hm NO w
    · rw [ny] at e2
      obtain ⟨gy, iy, dy⟩ := isN_nan ny
      have hft : (false || true || isN z) = true := rfl
      rw [if_pos hft, if_pos hft]
      exact fused_fn x y z _ mode KN e1 e2 ha gy iy dy (fun ty => mul_nan (.inr (nanc_gt _ ty))) NO w
  · rw [nx] at e1
    obtain ⟨gx, ix, dx⟩ := isN_nan nx
    have htt : ∀ q r, (true || q || r) = true := fun q r => rfl
    rw [if_pos (htt _ _), if_pos (htt _ _)]
    cases ny : isN y
    · obtain ⟨hb, lb0, lb⟩ := wD_eq hy ny
      exact fused_nf x y z _ mode KN e1 gx ix dx hb (fun tx => mul_nan (.inl (nanc_gt _ tx))) NO w
    · obtain ⟨gy, iy, dy⟩ := isN_nan ny
      exact fused_nn x y z mode KN e1 gx ix dx gy iy dy (fun tx ty => mul_nan (.inl (nanc_gt _ tx))) NO w
theorem Fused_any (x y z : Nat) (mode : Int) (hx : x < 4294967296) (hy : y < 4294967296) (hz : z < 4294967296) (hpb : isN x = false → isN y = false → ∀ p, Ieee.double.mul (wD x) (wD y) = some p → isID p = false → (Fp.un Ieee.double p).natAbs ≤ 2 ^ 1500) (w : World) (hT : FmS w) : Calls Tryz.prog 6 #[.float .f32 x, .float .f32 y, .float .f32 z, .int .i64 mode] w fun e' w' => e' = .returned (.tuple #[.float .f32 (if 0 ≤ mode ∧ mode ≤ 4 then fusWd x y z mode else 0), .int .i64 (if 0 ≤ mode ∧ mode ≤ 4 then fusFl x y z mode else 0), .int .i64 (nErr mode)]) ∧ Within w w' := by
  unfold nErr
  by_cases hmode : 0 ≤ mode ∧ mode ≤ 4
  · rw [if_pos hmode, if_pos hmode, if_pos hmode]
    exact Fused_known x y z mode hx hy hz hpb hmode w hT
  · rw [if_neg hmode, if_neg hmode, if_neg hmode]
    exact fused_bad x y z mode (Lib.hid fun w => by have := known_any mode w; rw [decide_eq_false hmode] at this; exact this) w
end Go.Proofs.YtifgngmebnjfkaaGreatDoor
end

section
namespace Go.Proofs.YtifgngmebnjfkaaGreatDoor
theorem blen_bitLen {m : Nat} (hm : m < 18446744073709551616) : blen m = Lib.bitLen m := by
  by_cases h : m = 0
  · subst h; rfl
  · rw [blen_pos h, bitLen_log2 m h hm]
theorem blen_mul (m k : Nat) (h : m ≠ 0) : blen (m * 2 ^ k) = blen m + k := by
  have h2 : m * 2 ^ k ≠ 0 := Nat.mul_ne_zero h (Nat.ne_of_gt (Nat.two_pow_pos k))
  rw [blen_pos h, blen_pos h2, Fp.log2_mul_pow m k h]; omega
theorem upB_cut (ng : Bool) (M s : Nat) (mode : Int) (hs : 1 ≤ s) : upB ng (M / 2 ^ s) (cutC M s false) mode = goes M s ng mode := by
  have hh := half_pow s hs
  unfold goes cutC
  by_cases h0 : M % 2 ^ s = 0
  · rw [if_pos h0, if_pos ⟨h0, rfl⟩]
    unfold upB
    repeat' split
    all_goals simp
  · rw [if_neg h0, if_neg (fun h => h0 h.1), if_neg (fun h => by simp at h)]
    generalize M % 2 ^ s = r at *
    generalize M / 2 ^ s = q at *
    generalize 2 ^ (s - 1) = H at *
    generalize 2 ^ s = Z at *
    subst hh
    unfold upB
    have c1 : (0 < cmpN r H) ↔ 2 * H < 2 * r := by unfold cmpN; repeat' split
                                                   all_goals omega
    have c2 : (cmpN r H = 0) ↔ 2 * H = 2 * r := by unfold cmpN; repeat' split
                                                   all_goals omega
    have c3 : (0 ≤ cmpN r H) ↔ 2 * H ≤ 2 * r := by unfold cmpN; repeat' split
                                                   all_goals omega
    have c4 : -2 < cmpN r H := by have := cmpN_range r H; omega
    by_cases m0 : mode = 0
    · rw [if_pos m0, if_pos m0, decide_eq_decide.2 c1, decide_eq_decide.2 c2]
    rw [if_neg m0, if_neg m0]
    by_cases m1 : mode = 1
    · rw [if_pos m1, if_pos m1, decide_eq_decide.2 c3]
    rw [if_neg m1, if_neg m1]
    by_cases m3 : mode = 3
    · rw [if_pos m3, if_pos m3, decide_eq_true c4, Bool.and_true]
    rw [if_neg m3, if_neg m3]
    by_cases m4 : mode = 4
    · rw [if_pos m4, if_pos m4, decide_eq_true c4, Bool.and_true]
    rw [if_neg m4, if_neg m4]
theorem upB_exact (ng : Bool) (q : Nat) (mode : Int) : upB ng q (-2) mode = false := by
  unfold upB
  repeat' split
  all_goals simp
theorem gQ_fine (D lo : Int) (ng : Bool) (M : Nat) (e mode : Int) (J : Nat) (h1 : 0 ≤ e + J) (h2 : 0 ≤ gK D lo M e + J) :
    gQ D lo ng M e false mode = cutQ (M * 2 ^ (e + J).toNat) (gK D lo M e + J).toNat ng mode := by
  unfold gQ gq gc
  generalize gK D lo M e = k at *
  by_cases h : k ≤ e
  · rw [if_pos h, if_pos h, if_neg Bool.false_ne_true, upB_exact]
    have e1 : M * 2 ^ (e + J).toNat = M * 2 ^ (e - k).toNat * 2 ^ (k + J).toNat := by
      rw [Nat.mul_assoc, ← Nat.pow_add]; congr 2; omega
    have := cutQ_scale (M * 2 ^ (e - k).toNat) 0 (k + J).toNat ng mode
    rw [Nat.zero_add, cutQ_zero] at this
    rw [e1, this]; simp
  · rw [if_neg h, if_neg h, upB_cut _ _ _ _ (by omega)]
    have := cutQ_scale M (k - e).toNat (e + J).toNat ng mode
    rw [show (k - e).toNat + (e + J).toNat = (k + J).toNat by omega] at this
    rw [this]; rfl
theorem gc_fine (D lo : Int) (M : Nat) (e : Int) (J : Nat) (h1 : 0 ≤ e + J) (h2 : 0 ≤ gK D lo M e + J) :
    (-2 < gc D lo M e false) ↔ M * 2 ^ (e + J).toNat % 2 ^ (gK D lo M e + J).toNat ≠ 0 := by
  unfold gc
  generalize gK D lo M e = k at *
  by_cases h : k ≤ e
  · rw [if_pos h, if_neg Bool.false_ne_true]
    have e1 : M * 2 ^ (e + J).toNat = M * 2 ^ (e - k).toNat * 2 ^ (k + J).toNat := by
      rw [Nat.mul_assoc, ← Nat.pow_add]; congr 2; omega
    rw [e1, Nat.mul_mod_left]; simp
  · rw [if_neg h]
    obtain ⟨s, hs⟩ : ∃ s, s = (k - e).toNat := ⟨_, rfl⟩
    rw [← hs, show (k + J).toNat = s + (e + J).toNat by omega, Nat.pow_add, Nat.mul_mod_mul_right]
    have hp := Nat.two_pow_pos (e + J).toNat
    unfold cutC
    by_cases h0 : M % 2 ^ s = 0
    · rw [if_pos ⟨h0, rfl⟩, h0]; simp
    · rw [if_neg (fun h => h0 h.1), if_neg (fun h => by simp at h)]
      have := cmpN_range (M % 2 ^ s) (2 ^ (s - 1))
      constructor
      · intro _ h
        rcases Nat.mul_eq_zero.1 h with h | h
        · exact h0 h
        · omega
      · intro _; omega
theorem rLost_fine (D lo : Int) (m : Nat) (e : Int) (J : Nat) (h1 : 0 ≤ e + J) (h2 : 0 ≤ rK D lo m e + J) :
    rLost D lo m e = decide (m * 2 ^ (e + J).toNat % 2 ^ (rK D lo m e + J).toNat ≠ 0) := by
  unfold rLost
  generalize rK D lo m e = k at *
  by_cases h : k - e ≤ 0
  · rw [if_pos h]
    have e1 : m * 2 ^ (e + J).toNat = m * 2 ^ (e - k).toNat * 2 ^ (k + J).toNat := by
      rw [Nat.mul_assoc, ← Nat.pow_add]; congr 2; omega
    rw [e1, Nat.mul_mod_left]; simp
  · rw [if_neg h]
    obtain ⟨s, hs⟩ : ∃ s, s = (k - e).toNat := ⟨_, rfl⟩
    rw [← hs, show (k + J).toNat = s + (e + J).toNat by omega, Nat.pow_add, Nat.mul_mod_mul_right, decide_eq_decide]
    have hp := Nat.two_pow_pos (e + J).toNat
    constructor
    · intro h0 h
      rcases Nat.mul_eq_zero.1 h with h | h
      · exact h0 h
      · omega
    · intro h0 h; rw [h, Nat.zero_mul] at h0; exact h0 rfl
theorem g_is_r {D lo : Int} {ng : Bool} {m M : Nat} {e E mode : Int} (J : Nat) (h1 : 0 ≤ e + J) (h2 : 0 ≤ E + J) (h3 : 0 ≤ lo + J) (hm0 : m ≠ 0) (hm : m < 18446744073709551616) (hv : m * 2 ^ (e + J).toNat = M * 2 ^ (E + J).toNat) :
    gK D lo M E = rK D lo m e ∧ gQ D lo ng M E false mode = rQ D lo ng m e mode ∧ (decide (-2 < gc D lo M E false) = rLost D lo m e) ∧ E + (blen M : Nat) = e + (Lib.bitLen m : Nat) ∧ M ≠ 0 := by
  have hM0 : M ≠ 0 := by
    intro h; rw [h, Nat.zero_mul] at hv
    exact Nat.mul_ne_zero hm0 (Nat.ne_of_gt (Nat.two_pow_pos _)) hv
  have hb : E + (blen M : Nat) = e + (Lib.bitLen m : Nat) := by
    have b1 := blen_mul m (e + J).toNat hm0
    have b2 := blen_mul M (E + J).toNat hM0
    rw [hv, b2, blen_bitLen hm] at b1
    omega
  have hk : gK D lo M E = rK D lo m e := by unfold gK rK; rw [hb]
  have hk0 : 0 ≤ rK D lo m e + J := by have : lo ≤ rK D lo m e := Int.le_max_right _ _; omega
  refine ⟨hk, ?_, ?_, hb, hM0⟩
  · rw [gQ_fine D lo ng M E mode J h2 (by omega), rQ_fine D lo ng m e mode J h1 hk0, hk, hv]
  · rw [rLost_fine D lo m e J h1 hk0, decide_eq_decide, gc_fine D lo M E J h2 (by omega), hk, hv]
theorem topR_is : topR = rTop := rfl
theorem grid_rung (f : Ieee.Format) (F q j : Nat) (hF : f.fractionBits = F) (h : q ≤ 2 ^ (F + 1)) (h2 : 2 ^ F ≤ q ∨ j = 0) : Fp.grid f (q * 2 ^ j) 0 = j * 2 ^ F + q := by
  have hb : f.binade = 2 ^ F := by show 2 ^ f.fractionBits = _; rw [hF]
  unfold Fp.grid
  rw [hb, hF]
  by_cases h0 : q = 0
  · subst h0
    rcases h2 with h2 | h2
    · have := Nat.two_pow_pos F; omega
    · subst h2; simp [Fp.rne]
  rw [Fp.log2_mul_pow q j h0]
  by_cases hq : q < 2 ^ F
  · have hj : j = 0 := by rcases h2 with h2 | h2 <;> omega
    have hl : q.log2 < F := (Nat.log2_lt h0).2 hq
    subst hj
    rw [show max (q.log2 + 0 - F) 0 = 0 by omega]
    rw [Nat.pow_zero, Nat.mul_one, Fp.rne_one]; all_goals simp
  · by_cases hq2 : q < 2 ^ (F + 1)
    · have hl : q.log2 = F := (Nat.log2_eq_iff h0).2 ⟨by omega, hq2⟩
      rw [hl, show max (F + j - F) 0 = j by omega, Fp.rne_mul q _ (Nat.two_pow_pos j)]; all_goals simp
    · have hqe : q = 2 ^ (F + 1) := by omega
      subst hqe
      rw [Nat.log2_two_pow, show max (F + 1 + j - F) 0 = j + 1 by omega]
      have e : 2 ^ (F + 1) * 2 ^ j = 2 ^ F * 2 ^ (j + 1) := by rw [← Nat.pow_add, ← Nat.pow_add]; congr 1; omega
      rw [e, Fp.rne_mul _ _ (Nat.two_pow_pos _), Nat.pow_succ]
      rw [Nat.sub_zero, Nat.add_mul]; omega
end Go.Proofs.YtifgngmebnjfkaaGreatDoor
end

section
namespace Go.Proofs.YtifgngmebnjfkaaGreatDoor
theorem cut_same {m n t : Nat} (h1 : m / 2 ^ t = n / 2 ^ t) (h2 : m % 2 ^ t = 0 ↔ n % 2 ^ t = 0) (neg : Bool) (mode : Int) : cutQ m (t + 1) neg mode = cutQ n (t + 1) neg mode ∧ (m % 2 ^ (t + 1) = 0 ↔ n % 2 ^ (t + 1) = 0) := by
  have hp : 2 ^ (t + 1) = 2 ^ t * 2 := Nat.pow_succ 2 t
  have key : ∀ m : Nat, m / 2 ^ (t + 1) = m / 2 ^ t / 2 ∧ m % 2 ^ (t + 1) = m % 2 ^ t + 2 ^ t * (m / 2 ^ t % 2) := by
    intro m
    rw [hp]
    exact ⟨(Nat.div_div_eq_div_mul m _ _).symm, Nat.mod_mul⟩
  obtain ⟨a1, a2⟩ := key m
  obtain ⟨b1, b2⟩ := key n
  have hm := Nat.mod_lt m (Nat.two_pow_pos t)
  have hn := Nat.mod_lt n (Nat.two_pow_pos t)
  unfold cutQ goes
  rw [a1, b1, a2, b2, h1, hp]
  generalize n / 2 ^ t = q at *
  generalize m % 2 ^ t = r at *
  generalize n % 2 ^ t = r' at *
  generalize 2 ^ t = Z at *
  clear key a1 a2 b1 b2 h1 hp
  rcases Nat.mod_two_eq_zero_or_one q with hq | hq
  · rw [hq, Nat.mul_zero, Nat.add_zero, Nat.add_zero]
    refine ⟨?_, h2⟩
    have e1 : (r = 0) = (r' = 0) := propext h2
    have e2 : (Z * 2 < 2 * r) = (Z * 2 < 2 * r') := propext (by omega)
    have e3 : (Z * 2 = 2 * r) = (Z * 2 = 2 * r') := propext (by omega)
    have e4 : (Z * 2 ≤ 2 * r) = (Z * 2 ≤ 2 * r') := propext (by omega)
    simp only [e1, e2, e3, e4]
  · rw [hq, Nat.mul_one]
    refine ⟨?_, by omega⟩
    have e1 : (r + Z = 0) = (r' + Z = 0) := propext (by omega)
    have e2 : (Z * 2 < 2 * (r + Z)) = (Z * 2 < 2 * (r' + Z)) := propext (by omega)
    have e3 : (Z * 2 = 2 * (r + Z)) = (Z * 2 = 2 * (r' + Z)) := propext (by omega)
    have e4 : (Z * 2 ≤ 2 * (r + Z)) = (Z * 2 ≤ 2 * (r' + Z)) := propext (by omega)
    simp only [e1, e2, e3, e4]
theorem g_near {D lo : Int} {ng : Bool} {m M : Nat} {e E mode : Int} (J t : Nat) (h1 : 0 ≤ e + J) (h2 : 0 ≤ E + J) (ht : rK D lo m e + J = (t : Int) + 1) (hb : E + (blen M : Nat) = e + (Lib.bitLen m : Nat))
    (hf : M * 2 ^ (E + J).toNat / 2 ^ t = m * 2 ^ (e + J).toNat / 2 ^ t) (hz : M * 2 ^ (E + J).toNat % 2 ^ t = 0 ↔ m * 2 ^ (e + J).toNat % 2 ^ t = 0) :
    gK D lo M E = rK D lo m e ∧ gQ D lo ng M E false mode = rQ D lo ng m e mode ∧ (decide (-2 < gc D lo M E false) = rLost D lo m e) := by
  have hk : gK D lo M E = rK D lo m e := by unfold gK rK; rw [hb]
  obtain ⟨c1, c2⟩ := cut_same hf hz ng mode
  have hN : (rK D lo m e + J).toNat = t + 1 := by omega
  refine ⟨hk, ?_, ?_⟩
  · rw [gQ_fine D lo ng M E mode J h2 (by omega), rQ_fine D lo ng m e mode J h1 (by omega), hk, hN]; exact c1
  · rw [rLost_fine D lo m e J h1 (by omega), decide_eq_decide, gc_fine D lo M E J h2 (by omega), hk, hN]
    exact ⟨fun h k => h (c2.2 k), fun h k => h (c2.1 k)⟩
end Go.Proofs.YtifgngmebnjfkaaGreatDoor
end

section
namespace Go.Proofs.YtifgngmebnjfkaaGreatDoor
def RepZ (z : Int) : Prop := ∃ (c : Int) (e : Nat), z = c * 2 ^ e ∧ c.natAbs ≤ 9007199254740992
theorem rn_nat (m : Nat) : ∃ K q, Fp.mag Ieee.double (Fp.grid Ieee.double m 0) = q * 2 ^ K ∧ m < 9007199254740992 * 2 ^ K ∧ q ≤ 9007199254740992 ∧ (K ≠ 0 → 4503599627370496 * 2 ^ K ≤ m) ∧
    2 * m ≤ 2 * (q * 2 ^ K) + 2 ^ K ∧ 2 * (q * 2 ^ K) ≤ 2 * m + 2 ^ K ∧ (m % 2 ^ K = 0 → q * 2 ^ K = m) := by
  obtain ⟨r, h1, h2⟩ := Fp.floor_exists Ieee.double m 1 (by decide)
  rw [Nat.mul_one] at h1 h2
  rw [Fp.mag_succ] at h2
  have hg := Fp.grid_between Ieee.double Fp.dF r 0 (m - Fp.mag Ieee.double r) (by rw [Nat.pow_zero, Nat.mul_one]; omega)
  rw [Nat.pow_zero, Nat.mul_one, Nat.mul_one, show Fp.mag Ieee.double r + (m - Fp.mag Ieee.double r) = m by omega] at hg
  obtain ⟨K, hK⟩ : ∃ K, K = r / 4503599627370496 - 1 := ⟨_, rfl⟩
  have hst : Fp.step Ieee.double r = 2 ^ K := by unfold Fp.step; rw [Fp.dB, ← hK]
  obtain ⟨c, hc, hc1, hc2⟩ : ∃ c, Fp.mag Ieee.double r = c * 2 ^ K ∧ c < 9007199254740992 ∧ (K ≠ 0 → 4503599627370496 ≤ c) := by
    rw [Fp.mag_eq, hst, Fp.dB]
    refine ⟨_, rfl, ?_, ?_⟩
    · split <;> omega
    · intro h; rw [if_neg (by omega)]; omega
  rw [hst] at hg h2
  have hm1 : Fp.mag Ieee.double (r + 1) = (c + 1) * 2 ^ K := by rw [Fp.mag_succ, hst, hc, Nat.add_mul, Nat.one_mul]
  rw [hc] at h1 h2 hg
  have hp := Nat.two_pow_pos K
  have hlt : m < 9007199254740992 * 2 ^ K := by
    have : (c + 1) * 2 ^ K ≤ 9007199254740992 * 2 ^ K := Nat.mul_le_mul_right _ hc1
    rw [Nat.add_mul, Nat.one_mul] at this
    omega
  have hge : K ≠ 0 → 4503599627370496 * 2 ^ K ≤ m := fun h => Nat.le_trans (Nat.mul_le_mul_right _ (hc2 h)) h1
  have hmod : m % 2 ^ K = 0 → c * 2 ^ K = m := by
    intro h
    obtain ⟨d, hd⟩ : ∃ d, m = d * 2 ^ K := ⟨m / 2 ^ K, by rw [Nat.mul_comm]; have := Nat.div_add_mod m (2 ^ K); omega⟩
    rw [hd] at h1 h2 ⊢
    have a1 : c ≤ d := Nat.le_of_mul_le_mul_right h1 hp
    have a2 : d < c + 1 := by
      refine Nat.lt_of_mul_lt_mul_right (a := 2 ^ K) ?_
      rw [Nat.add_mul, Nat.one_mul]; exact h2
    rw [show d = c by omega]
  rw [hg]
  split
  · rename_i hup
    refine ⟨K, c + 1, hm1, hlt, hc1, hge, ?_, ?_, ?_⟩
    · rw [Nat.add_mul, Nat.one_mul]; omega
    · rw [Nat.add_mul, Nat.one_mul]; omega
    · intro h
      have := hmod h
      omega
  · rename_i hup
    rw [Nat.add_zero]
    refine ⟨K, c, hc, hlt, Nat.le_of_lt hc1, hge, ?_, ?_, hmod⟩
    · omega
    · omega
theorem natAbs_mul_pow (q : Int) (K : Nat) : (q * 2 ^ K).natAbs = q.natAbs * 2 ^ K := by
  rw [Int.natAbs_mul, Int.natAbs_pow]; rfl
theorem cast_pow (K : Nat) : ((2 ^ K : Nat) : Int) = 2 ^ K := by simp
theorem rn_spec (z : Int) : ∃ (K : Nat) (q : Int), rn z = q * 2 ^ K ∧ z.natAbs < 9007199254740992 * 2 ^ K ∧ q.natAbs ≤ 9007199254740992 ∧ (K ≠ 0 → 4503599627370496 * 2 ^ K ≤ z.natAbs) ∧
    2 * (rn z - z).natAbs ≤ 2 ^ K ∧ (z.natAbs % 2 ^ K = 0 → rn z = z) := by
  obtain ⟨K, q, h1, h2, h3, h4, h5, h6, h7⟩ := rn_nat z.natAbs
  have hz : z.natAbs % 2 ^ K = 0 → rn z = z := by
    intro h
    have := h7 h
    unfold rn
    rw [h1, this]
    split <;> omega
  refine ⟨K, if z < 0 then -(q : Int) else q, ?_, h2, by split <;> omega, h4, ?_, hz⟩
  · unfold rn
    rw [h1, Int.natCast_mul, cast_pow]
    split
    · rw [Int.neg_mul]
    · rfl
  · unfold rn
    rw [h1]
    generalize q * 2 ^ K = Q at *
    generalize 2 ^ K = Z at *
    split <;> omega
theorem dvd_abs {z : Int} {K : Nat} {c : Int} (h : z = c * 2 ^ K) : z.natAbs % 2 ^ K = 0 := by
  rw [h, natAbs_mul_pow]; exact Nat.mul_mod_left _ _
theorem rn_few {z : Int} (h : RepZ z) : rn z = z := by
  obtain ⟨c, e, hz, hc⟩ := h
  obtain ⟨K, q, _, _, _, h4, _, h6⟩ := rn_spec z
  rcases Nat.lt_or_ge e K with h | h
  · have h4 := h4 (by omega)
    obtain ⟨d, rfl⟩ : ∃ d, K = e + 1 + d := ⟨K - (e + 1), by omega⟩
    have ha : z.natAbs = c.natAbs * 2 ^ e := by rw [hz, natAbs_mul_pow]
    have hp := Nat.two_pow_pos e
    have hpd := Nat.two_pow_pos d
    have e1 : 2 ^ (e + 1 + d) = 2 ^ e * (2 * 2 ^ d) := by rw [Nat.pow_add, Nat.pow_succ, Nat.mul_assoc]
    rw [e1, ha] at h4
    have h5 : 4503599627370496 * (2 * 2 ^ d) ≤ c.natAbs := by
      refine Nat.le_of_mul_le_mul_right (c := 2 ^ e) ?_ hp
      rw [Nat.mul_assoc, Nat.mul_comm (2 * 2 ^ d)]; exact h4
    have hd : 2 ^ d = 1 := by omega
    refine h6 ?_
    rw [e1, ha, hd, Nat.mul_one]
    have : c.natAbs = 4503599627370496 * 2 := by omega
    rw [this, Nat.mul_assoc, Nat.mul_comm 2]; exact Nat.mul_mod_left _ _
  · obtain ⟨d, rfl⟩ : ∃ d, e = K + d := ⟨e - K, by omega⟩
    refine h6 (dvd_abs (c := c * 2 ^ d) ?_)
    rw [hz, Int.pow_add, Int.mul_assoc, Int.mul_comm (2 ^ d)]
theorem rn_repz (z : Int) : RepZ (rn z) := by
  obtain ⟨K, q, h1, _, h3, _⟩ := rn_spec z
  exact ⟨q, K, h1, h3⟩
theorem RepZ.neg {z : Int} (h : RepZ z) : RepZ (-z) := by
  obtain ⟨c, e, h, hc⟩ := h
  exact ⟨-c, e, by rw [h, Int.neg_mul], by rw [Int.natAbs_neg]; exact hc⟩
theorem rn_nearest {z y : Int} (h : RepZ y) : (rn z - z).natAbs ≤ (y - z).natAbs := by
  obtain ⟨c, e, hy, hc⟩ := h
  obtain ⟨K, q, h1, h2, h3, h4, h5, h6⟩ := rn_spec z
  have near : ∀ d : Int, (rn z - z).natAbs ≤ (d * 2 ^ K - z).natAbs := by
    intro d
    by_cases hd : d = q
    · rw [h1, hd]; exact Nat.le_refl _
    · have e1 : (d * 2 ^ K - rn z).natAbs = (d - q).natAbs * 2 ^ K := by rw [h1, ← Int.sub_mul, natAbs_mul_pow]
      have e2 : 1 * 2 ^ K ≤ (d - q).natAbs * 2 ^ K := Nat.mul_le_mul_right _ (by omega)
      rw [← e1, Nat.one_mul] at e2
      generalize d * 2 ^ K = D at *
      generalize 2 ^ K = Z at *
      omega
  rcases Nat.lt_or_ge e K with hlt | hge
  · have h4 := h4 (by omega)
    have hp := Nat.two_pow_pos e
    have hab : y.natAbs ≤ 4503599627370496 * 2 ^ K := by
      rw [hy, natAbs_mul_pow]
      obtain ⟨d, rfl⟩ : ∃ d, K = e + 1 + d := ⟨K - (e + 1), by omega⟩
      have e1 : 2 ^ (e + 1 + d) = 2 * 2 ^ d * 2 ^ e := by rw [Nat.pow_add, Nat.pow_succ, Nat.mul_comm (2 ^ e) 2, Nat.mul_assoc, Nat.mul_assoc, Nat.mul_comm (2 ^ e)]
      rw [e1, ← Nat.mul_assoc]
      have := Nat.two_pow_pos d
      exact Nat.mul_le_mul_right _ (by omega)
    have n1 := near 4503599627370496
    have n2 := near (-4503599627370496)
    have e1 : (4503599627370496 : Int) * 2 ^ K = ((4503599627370496 * 2 ^ K : Nat) : Int) := by simp
    rw [Int.neg_mul] at n2
    rw [e1] at n1 n2
    generalize 4503599627370496 * 2 ^ K = T at *
    omega
  · obtain ⟨d, rfl⟩ : ∃ d, e = K + d := ⟨e - K, by omega⟩
    have := near (c * 2 ^ d)
    rwa [show c * 2 ^ d * 2 ^ K = y by rw [hy, Int.pow_add, Int.mul_assoc, Int.mul_comm (2 ^ d)]] at this
theorem rn_mult {z c : Int} {i : Nat} (h : z = c * 2 ^ i) : ∃ d : Int, rn z = d * 2 ^ i := by
  obtain ⟨K, q, h1, _, _, _, _, h6⟩ := rn_spec z
  rcases Nat.lt_or_ge K i with hlt | hge
  · obtain ⟨d, rfl⟩ : ∃ d, i = K + d := ⟨i - K, by omega⟩
    exact ⟨c, by rw [h6 (dvd_abs (c := c * 2 ^ d) (by rw [h, Int.pow_add, Int.mul_assoc, Int.mul_comm (2 ^ d)])), h]⟩
  · obtain ⟨d, rfl⟩ : ∃ d, K = i + d := ⟨K - i, by omega⟩
    exact ⟨q * 2 ^ d, by rw [h1, Int.pow_add, Int.mul_assoc, Int.mul_comm (2 ^ d)]⟩
theorem repz_of {z d : Int} {i n : Nat} (h : z = d * 2 ^ i) (hz : z.natAbs ≤ n * 2 ^ i) (hn : n ≤ 9007199254740992) : RepZ z := by
  refine ⟨d, i, h, ?_⟩
  rw [h, natAbs_mul_pow] at hz
  exact Nat.le_trans (Nat.le_of_mul_le_mul_right hz (Nat.two_pow_pos i)) hn
theorem err_rep {A B : Int} (hA : RepZ A) (hB : RepZ B) : RepZ (rn (A + B) - (A + B)) := by
  have key : ∀ {A B : Int} {a b : Int} {i j : Nat}, A = a * 2 ^ i → a.natAbs ≤ 9007199254740992 → B = b * 2 ^ j → RepZ B → i ≤ j → RepZ (rn (A + B) - (A + B)) := by
    intro A B a b i j hA ha hB hRB hij
    obtain ⟨e, rfl⟩ : ∃ e, j = i + e := ⟨j - i, by omega⟩
    have hz : A + B = (a + b * 2 ^ e) * 2 ^ i := by rw [hA, hB, Int.add_mul, Int.pow_add, Int.mul_assoc, Int.mul_comm (2 ^ e)]
    obtain ⟨d, hd⟩ := rn_mult hz
    have hn := rn_nearest (z := A + B) hRB
    refine repz_of (d := d - (a + b * 2 ^ e)) (i := i) (n := a.natAbs) (by rw [hd, hz, Int.sub_mul]) ?_ ha
    refine Nat.le_trans hn ?_
    rw [← natAbs_mul_pow, ← hA]
    omega
  obtain ⟨a, i, hA1, ha⟩ := hA
  obtain ⟨b, j, hB1, hb⟩ := hB
  rcases Nat.le_total i j with h | h
  · exact key hA1 ha hB1 ⟨b, j, hB1, hb⟩ h
  · rw [Int.add_comm A B]
    exact key hB1 hb hA1 ⟨a, i, hA1, ha⟩ h
theorem canon_of {A : Int} (h : RepZ A) : ∃ (k : Nat) (a : Int), A = a * 2 ^ k ∧ a.natAbs < 9007199254740992 ∧ (k ≠ 0 → 4503599627370496 * 2 ^ k ≤ A.natAbs) := by
  obtain ⟨K, q, h1, h2, _, h4, _, _⟩ := rn_spec A
  rw [rn_few h] at h1
  refine ⟨K, q, h1, ?_, h4⟩
  rw [h1, natAbs_mul_pow] at h2
  exact Nat.lt_of_mul_lt_mul_right h2
theorem fr0 {x y Z W : Nat} (h1 : 4503599627370496 * W ≤ y) (h2 : 2 * Z ≤ W) (h3 : y ≤ x) (h4 : x < 9007199254740992 * Z) : False := by omega
theorem fr1 {x y z Z V W : Nat} (h1 : x < 9007199254740992 * Z) (h2 : y ≤ x) (h3 : z ≤ x + y) (h4 : 4503599627370496 * W ≤ z) (h5 : 2 * V ≤ W) (h6 : V = Z * 2) : False := by omega
theorem fr2 {r A B : Int} {Z : Nat} (h : 2 * (r - (A + B)).natAbs ≤ Z * 2) : (r - A).natAbs ≤ B.natAbs + 1 * Z := by omega
theorem fr3 {r A B : Int} (h : (r - (A + B)).natAbs ≤ (A - (A + B)).natAbs) : (r - A).natAbs ≤ B.natAbs * 2 := by omega
theorem fast_rep {A B : Int} (hA : RepZ A) (hB : RepZ B) (hAB : B.natAbs ≤ A.natAbs) : RepZ (rn (A + B) - A) := by
  obtain ⟨ka, a, hA1, ha, hka⟩ := canon_of hA
  obtain ⟨kb, b, hB1, hb, hkb⟩ := canon_of hB
  have hlA : A.natAbs < 9007199254740992 * 2 ^ ka := by rw [hA1, natAbs_mul_pow]; exact Nat.mul_lt_mul_of_pos_right ha (Nat.two_pow_pos _)
  have hlB : B.natAbs = b.natAbs * 2 ^ kb := by rw [hB1, natAbs_mul_pow]
  have pow_up : ∀ i j : Nat, i < j → 2 * 2 ^ i ≤ 2 ^ j := fun i j h => by rw [← Nat.pow_succ']; exact Nat.pow_le_pow_right (by decide) h
  have hk : kb ≤ ka := by
    rcases Nat.lt_or_ge ka kb with h | h
    · exact (fr0 (hkb (Nat.ne_of_gt (Nat.lt_of_le_of_lt (Nat.zero_le _) h))) (pow_up _ _ h) hAB hlA).elim
    · exact h
  obtain ⟨d, rfl⟩ : ∃ d, ka = kb + d := ⟨ka - kb, by omega⟩
  have hz : A + B = (a * 2 ^ d + b) * 2 ^ kb := by rw [hA1, hB1, Int.add_mul, Int.pow_add, Int.mul_assoc, Int.mul_comm (2 ^ d)]
  obtain ⟨K, q, h1, h2, h3, h4, h5, h6⟩ := rn_spec (A + B)
  have hn := rn_nearest (z := A + B) hA
  rcases Nat.lt_or_ge kb K with hlt | hge
  · have h2p := pow_up _ _ hlt
    rcases Nat.eq_zero_or_pos d with rfl | hd
    · rw [Nat.add_zero] at hlA hA1
      have hK : K = kb + 1 := by
        rcases Nat.lt_or_ge (kb + 1) K with h | h
        · exact (fr1 hlA hAB (Int.natAbs_add_le A B) (h4 (Nat.ne_of_gt (Nat.lt_of_le_of_lt (Nat.zero_le _) h))) (pow_up _ _ h) (Nat.pow_succ _ _)).elim
        · exact Nat.le_antisymm h hlt
      subst hK
      obtain ⟨e, he⟩ := rn_mult hz
      refine repz_of (d := e - a) (i := kb) (n := b.natAbs + 1) (by rw [he, hA1, Int.sub_mul]) ?_ (by omega)
      rw [Nat.add_mul, ← hlB]
      rw [Nat.pow_succ] at h5
      exact fr2 h5
    · obtain ⟨c, rfl⟩ : ∃ c, d = c + 1 := ⟨d - 1, by omega⟩
      obtain ⟨m, rfl⟩ : ∃ m, K = kb + 1 + m := ⟨K - (kb + 1), by omega⟩
      have hAk : A = a * 2 ^ c * 2 ^ (kb + 1) := by rw [hA1, Int.mul_assoc, ← Int.pow_add]; congr 2; omega
      have hSk : rn (A + B) = q * 2 ^ m * 2 ^ (kb + 1) := by rw [h1, Int.mul_assoc, ← Int.pow_add]; congr 2; omega
      refine repz_of (d := q * 2 ^ m - a * 2 ^ c) (i := kb + 1) (n := b.natAbs) (by rw [hSk, Int.sub_mul, ← hAk]) ?_ (by omega)
      rw [Nat.pow_succ, ← Nat.mul_assoc, ← hlB]
      exact fr3 hn
  · have e : rn (A + B) = A + B := h6 (by
      obtain ⟨m, rfl⟩ : ∃ m, kb = K + m := ⟨kb - K, by omega⟩
      exact dvd_abs (c := (a * 2 ^ (m + d) + b * 2 ^ m)) (by
        rw [hz, Int.pow_add 2 K m, Int.mul_comm (2 ^ K), ← Int.mul_assoc, Int.add_mul, Int.pow_add 2 m d, Int.mul_assoc a, Int.mul_comm (2 ^ d)]))
    rw [e, show A + B - A = B by omega]
    exact hB
theorem two_fast {A B : Int} (hA : RepZ A) (hB : RepZ B) (hAB : B.natAbs ≤ A.natAbs) : sumL A B = A + B - sumS A B := by
  have e1 : sumT A B = sumS A B - A := rn_few (fast_rep hA hB hAB)
  unfold sumL
  rw [e1, show sumS A B - (sumS A B - A) = A by omega, rn_few hA, Int.sub_self, rn_zero, Int.zero_add]
  have e2 : B - (sumS A B - A) = -(rn (A + B) - (A + B)) := by unfold sumS; omega
  rw [e2, rn_few (err_rep hA hB).neg, rn_few (err_rep hA hB).neg]
  unfold sumS; omega
theorem mult_le {z c : Int} {k K : Nat} (h : z = c * 2 ^ k) (hk : K ≤ k) : ∃ d : Int, z = d * 2 ^ K := by
  obtain ⟨m, rfl⟩ : ∃ m, k = K + m := ⟨k - K, by omega⟩
  exact ⟨c * 2 ^ m, by rw [h, Int.pow_add, Int.mul_assoc, Int.mul_comm (2 ^ m)]⟩
theorem mult_add {y z : Int} {K : Nat} (h : ∃ d : Int, y = d * 2 ^ K) (g : ∃ d : Int, z = d * 2 ^ K) : (∃ d : Int, y + z = d * 2 ^ K) ∧ ∃ d : Int, y - z = d * 2 ^ K := by
  obtain ⟨a, rfl⟩ := h
  obtain ⟨b, rfl⟩ := g
  exact ⟨⟨a + b, by rw [Int.add_mul]⟩, ⟨a - b, by rw [Int.sub_mul]⟩⟩
theorem rn_mult' {z : Int} {K : Nat} (h : ∃ d : Int, z = d * 2 ^ K) : ∃ d : Int, rn z = d * 2 ^ K := by
  obtain ⟨c, hc⟩ := h; exact rn_mult hc
theorem two_back {A B : Int} (hA : RepZ A) (hB : RepZ B) (e1 : sumT A B = sumS A B - A) : sumL A B = A + B - sumS A B := by
  unfold sumL
  rw [e1, show sumS A B - (sumS A B - A) = A by omega, rn_few hA, Int.sub_self, rn_zero, Int.zero_add]
  have e2 : B - (sumS A B - A) = -(rn (A + B) - (A + B)) := by unfold sumS; omega
  rw [e2, rn_few (err_rep hA hB).neg, rn_few (err_rep hA hB).neg]
  unfold sumS; omega
theorem sl1 {a b z Z W V : Nat} (h1 : b < 9007199254740992 * Z) (h2 : a < b) (h3 : z ≤ a + b) (h4 : 4503599627370496 * W ≤ z) (h5 : 2 * V ≤ W) (h6 : V = Z * 2) : False := by omega
end Go.Proofs.YtifgngmebnjfkaaGreatDoor
end

section
namespace Go.Proofs.YtifgngmebnjfkaaGreatDoor
theorem sw1 {r s z : Int} {V W : Nat} (h : 2 * (s - z).natAbs ≤ W) (hr : r = z - s) (hW : W ≤ V * 2) : r.natAbs ≤ V := by omega
theorem sw2 {x b V : Nat} (h : x ≤ 9007199254740992 * V) (h4 : 4503599627370496 * (V * 2) ≤ x) : x = 4503599627370496 * (V * 2) := by omega
theorem sw3 {B r : Int} {V : Nat} (hB : B.natAbs + V ≤ 9007199254740992 * V) (hr : r.natAbs ≤ V) : (B - r).natAbs ≤ 9007199254740992 * V := by omega
theorem sw4 {x W V : Nat} (h : x ≤ 9007199254740992 * V) (h4 : 4503599627370496 * W ≤ x) (h5 : 2 * (V * 2) ≤ W) (hV : 0 < V) : False := by omega
theorem pow_up {i j : Nat} (h : i < j) : 2 * 2 ^ i ≤ 2 ^ j := by rw [← Nat.pow_succ']; exact Nat.pow_le_pow_right (by decide) h
theorem slow_grid {A B S : Int} {ka kb K : Nat} {a b : Int} (hA1 : A = a * 2 ^ ka) (hB1 : B = b * 2 ^ kb) (hb : b.natAbs < 9007199254740992) (hAB : A.natAbs < B.natAbs) (hS : S = rn (A + B))
    (hne : ¬ ∃ d : Int, S - A = d * 2 ^ K) (h4 : K ≠ 0 → 4503599627370496 * 2 ^ K ≤ (S - A).natAbs) : K ≤ kb ∧ ka < K ∧ (A + B - S).natAbs ≤ 2 ^ kb := by
  have hB2 : B.natAbs = b.natAbs * 2 ^ kb := by rw [hB1, natAbs_mul_pow]
  have hBl : B.natAbs + 2 ^ kb ≤ 9007199254740992 * 2 ^ kb := by
    rw [hB2]
    have := Nat.mul_le_mul_right (2 ^ kb) hb
    rw [Nat.succ_mul] at this
    exact this
  have hVp := Nat.two_pow_pos kb
  obtain ⟨Ks, qs, s1, s2, s3, s4, s5, s6⟩ := rn_spec (A + B)
  rw [← hS] at s1 s5
  have hKs : Ks ≤ kb + 1 := by
    rcases Nat.lt_or_ge (kb + 1) Ks with h | h
    · exact (sl1 (by omega) hAB (Int.natAbs_add_le A B) (s4 (by omega)) (pow_up h) (Nat.pow_succ _ _)).elim
    · exact h
  have hWs : 2 ^ Ks ≤ 2 ^ kb * 2 := by rw [← Nat.pow_succ]; exact Nat.pow_le_pow_right (by decide) hKs
  have hr := sw1 s5 (rfl : A + B - S = A + B - S) hWs
  have hx : (S - A).natAbs ≤ 9007199254740992 * 2 ^ kb := by
    have := sw3 hBl hr
    rwa [show B - (A + B - S) = S - A by omega] at this
  have hKb : K ≤ kb := by
    rcases Nat.lt_or_ge kb K with h | h
    · have g4 := h4 (by omega)
      rcases Nat.lt_or_ge (kb + 1) K with h' | h'
      · have := pow_up h'
        rw [Nat.pow_succ] at this
        exact (sw4 hx g4 this hVp).elim
      · have hK : K = kb + 1 := by omega
        subst hK
        rw [Nat.pow_succ] at g4
        have e := sw2 (b := 0) hx g4
        refine (hne ?_).elim
        rcases Int.natAbs_eq (S - A) with h | h
        · exact ⟨4503599627370496, by rw [h, e, ← Nat.pow_succ]; simp⟩
        · exact ⟨-4503599627370496, by rw [h, e, ← Nat.pow_succ, Int.neg_mul]; simp⟩
    · exact h
  refine ⟨hKb, ?_, hr⟩
  rcases Nat.lt_or_ge ka K with h | h
  · exact h
  · have mA := mult_le hA1 h
    have mB := mult_le hB1 hKb
    have mS := rn_mult' (mult_add mA mB).1
    rw [← hS] at mS
    exact (hne (mult_add mS mA).2).elim
theorem sx1 {B r e : Int} {V W : Nat} (hB : 4503599627370496 * V ≤ B.natAbs) (hx : (B - r).natAbs < 9007199254740992 * W) (hr : r.natAbs ≤ V) (he : 2 * e.natAbs ≤ W) : (r - e).natAbs ≤ 5 * W := by omega
theorem sx2 {A B : Int} {V W U X Y : Nat} (h1 : (A + B).natAbs < 9007199254740992 * U) (h2 : 2 * U ≤ W) (h3 : 4503599627370496 * V ≤ B.natAbs) (h4 : X ≤ V) (h5 : X = W * 2) (h6 : A.natAbs < 9007199254740992 * Y) : W < 2 * Y ∧ (A + B).natAbs ≤ 4503599627370496 * W := by omega
theorem sx3 {A e : Int} {W X : Nat} (h1 : A.natAbs + W ≤ 9007199254740992 * W) (h2 : 2 * e.natAbs ≤ X) (h3 : X = W * 2) : (A - e).natAbs ≤ 9007199254740992 * W := by omega
theorem two_slow {A B : Int} (hA : RepZ A) (hB : RepZ B) (hAB : A.natAbs < B.natAbs) : sumL A B = A + B - sumS A B := by
  by_cases he : sumT A B = sumS A B - A
  · exact two_back hA hB he
  obtain ⟨ka, a, hA1, ha, hka⟩ := canon_of hA
  obtain ⟨kb, b, hB1, hb, hkb⟩ := canon_of hB
  obtain ⟨S, hS⟩ : ∃ S, S = sumS A B := ⟨_, rfl⟩
  obtain ⟨T, hT⟩ : ∃ T, T = sumT A B := ⟨_, rfl⟩
  have hS' : S = rn (A + B) := hS
  have hT' : T = rn (S - A) := by rw [hT, hS]; rfl
  rw [← hS, ← hT] at he
  obtain ⟨K, q, t1, t2, t3, t4, t5, t6⟩ := rn_spec (S - A)
  rw [← hT'] at t1 t5 t6
  have hne : ¬ ∃ d : Int, S - A = d * 2 ^ K := fun ⟨d, hd⟩ => he (t6 (dvd_abs hd))
  obtain ⟨hKb, haK, hr⟩ := slow_grid hA1 hB1 hb hAB hS' hne t4
  obtain ⟨K', rfl⟩ : ∃ K', K = K' + 1 := ⟨K - 1, by omega⟩
  have mB := mult_le hB1 hKb
  have mT : ∃ d : Int, T = d * 2 ^ (K' + 1) := ⟨q, t1⟩
  have hkb' := hkb (by omega)
  have hx : RepZ (B - T) := by
    obtain ⟨d, hd⟩ := (mult_add mB mT).2
    refine repz_of hd (n := 5) ?_ (by decide)
    have := sx1 (B := B) (r := A + B - S) (e := T - (S - A)) hkb' (by rw [show B - (A + B - S) = S - A by omega]; exact t2) hr t5
    rwa [show A + B - S - (T - (S - A)) = B - T by omega] at this
  have hAl : ∀ j, ka ≤ j → A.natAbs + 2 ^ j ≤ 9007199254740992 * 2 ^ j := by
    intro j hj
    have h1 : A.natAbs = a.natAbs * 2 ^ ka := by rw [hA1, natAbs_mul_pow]
    have h2 : a.natAbs * 2 ^ ka ≤ a.natAbs * 2 ^ j := Nat.mul_le_mul_left _ (Nat.pow_le_pow_right (by decide) hj)
    have h3 := Nat.mul_le_mul_right (2 ^ j) ha
    rw [Nat.succ_mul] at h3
    rw [h1]
    exact Nat.le_trans (Nat.add_le_add_right h2 _) h3
  have hu : RepZ (S - T) := by
    obtain ⟨Ks, qs, s1, s2, s3, s4, s5, s6⟩ := rn_spec (A + B)
    rw [← hS'] at s1
    have hKs : K' ≤ Ks := by
      rcases Nat.lt_or_ge Ks K' with h | h
      · have hAk : A.natAbs < 9007199254740992 * 2 ^ ka := by
          have := hAl ka (Nat.le_refl _)
          have := Nat.two_pow_pos ka
          omega
        obtain ⟨y1, y2⟩ := sx2 s2 (pow_up h) hkb' (Nat.pow_le_pow_right (by decide) hKb) (Nat.pow_succ 2 K') hAk
        have hk : ka = K' := by
          rcases Nat.lt_or_ge ka K' with h' | h'
          · have := pow_up h'; omega
          · omega
        have hz := (mult_add (mult_le hA1 (Nat.le_of_eq hk.symm)) (mult_le hB1 (Nat.le_of_succ_le hKb))).1
        obtain ⟨d, hd⟩ := hz
        have hex : S = A + B := by rw [hS']; exact rn_few (repz_of hd y2 (by decide))
        refine (hne ?_).elim
        rw [hex, show A + B - A = B by omega]
        exact mB
      · exact h
    obtain ⟨m, hm⟩ := mT
    have mT' : ∃ d : Int, T = d * 2 ^ K' := mult_le hm (Nat.le_succ _)
    obtain ⟨d, hd⟩ := (mult_add (mult_le s1 hKs) mT').2
    refine repz_of hd (n := 9007199254740992) ?_ (Nat.le_refl _)
    have := sx3 (A := A) (e := T - (S - A)) (hAl K' (by omega)) t5 (Nat.pow_succ 2 K')
    rwa [show A - (T - (S - A)) = S - T by omega] at this
  have hRS : RepZ S := by rw [hS']; exact rn_repz _
  have hv : RepZ (A - (S - T)) := by
    have := err_rep hRS hA.neg
    rw [show S + -A = S - A by omega, ← hT', show T - (S - A) = A - (S - T) by omega] at this
    exact this
  unfold sumL
  rw [← hS, ← hT, rn_few hu, rn_few hv, rn_few hx, show A - (S - T) + (B - T) = -(S - (A + B)) by omega, hS', rn_few (err_rep hA hB).neg]
  omega
theorem two_sum {A B : Int} (hA : RepZ A) (hB : RepZ B) : sumL A B = A + B - sumS A B := by
  rcases Nat.lt_or_ge A.natAbs B.natAbs with h | h
  · exact two_slow hA hB h
  · exact two_fast hA hB h
end Go.Proofs.YtifgngmebnjfkaaGreatDoor
end

section
namespace Go.Proofs.YtifgngmebnjfkaaGreatDoor
theorem log2_floor {X Y w : Nat} (h : X / 2 ^ w = Y / 2 ^ w) (h0 : X / 2 ^ w ≠ 0) : X.log2 = Y.log2 := by
  have key : ∀ X : Nat, X / 2 ^ w ≠ 0 → X.log2 = (X / 2 ^ w).log2 + w := by
    intro X h0
    have hX : X ≠ 0 := fun h => h0 (by rw [h, Nat.zero_div])
    have h1 := Nat.log2_self_le h0
    have h2 := Nat.lt_log2_self (n := X / 2 ^ w)
    have hp := Nat.two_pow_pos w
    have h3 : 2 ^ ((X / 2 ^ w).log2 + w) ≤ X := by
      rw [Nat.pow_add]
      exact (Nat.le_div_iff_mul_le hp).1 h1
    have h4 : X < 2 ^ ((X / 2 ^ w).log2 + w + 1) := by
      rw [show (X / 2 ^ w).log2 + w + 1 = ((X / 2 ^ w).log2 + 1) + w by omega, Nat.pow_add]
      exact (Nat.div_lt_iff_lt_mul hp).1 h2
    have a1 := (Nat.le_log2 hX).2 h3
    have a2 := (Nat.log2_lt hX).2 h4
    omega
  rw [key X h0, key Y (h ▸ h0), h]
theorem floor_up {X Y w d : Nat} (h : X / 2 ^ w = Y / 2 ^ w) (hx : X % 2 ^ w ≠ 0) (hy : Y % 2 ^ w ≠ 0) : X / 2 ^ (w + d) = Y / 2 ^ (w + d) ∧ (X % 2 ^ (w + d) = 0 ↔ Y % 2 ^ (w + d) = 0) := by
  rw [Nat.pow_add]
  refine ⟨by rw [← Nat.div_div_eq_div_mul, ← Nat.div_div_eq_div_mul, h], ?_⟩
  rw [Nat.mod_mul, Nat.mod_mul]
  omega
theorem rn_lost {z : Int} (h : rn z ≠ z) : ∃ c k : Nat, (rn z).natAbs = c * 2 ^ k ∧ 4503599627370496 ≤ c ∧ c < 9007199254740992 ∧ 1 ≤ k ∧ 2 * (z - rn z).natAbs ≤ 2 ^ k ∧ (rn z ≠ 0) ∧ (0 < rn z ↔ 0 < z) ∧ (rn z < 0 ↔ z < 0) := by
  obtain ⟨K, q, h1, h2, h3, h4, h5, h6⟩ := rn_spec z
  have hK : K ≠ 0 := by
    intro h0
    subst h0
    exact h (h6 (by rw [Nat.pow_zero]; exact Nat.mod_one _))
  have h4 := h4 hK
  have hp := Nat.two_pow_pos K
  have hq : (rn z).natAbs = q.natAbs * 2 ^ K := by rw [h1, natAbs_mul_pow]
  have hl : 4503599627370496 ≤ q.natAbs := by
    have a : 4503599627370495 * 2 ^ K < q.natAbs * 2 ^ K := by
      rw [← hq]
      generalize 2 ^ K = Z at *
      omega
    have := Nat.lt_of_mul_lt_mul_right a
    omega
  have hs : (rn z ≠ 0) ∧ (0 < rn z ↔ 0 < z) ∧ (rn z < 0 ↔ z < 0) := by
    generalize 2 ^ K = Z at *
    generalize rn z = S at *
    omega
  have h5' : 2 * (z - rn z).natAbs ≤ 2 ^ K := by omega
  rcases Nat.lt_or_ge q.natAbs 9007199254740992 with hc | hc
  · exact ⟨q.natAbs, K, hq, hl, hc, by omega, h5', hs⟩
  · have e : q.natAbs = 4503599627370496 * 2 := by omega
    refine ⟨4503599627370496, K + 1, ?_, Nat.le_refl _, by decide, by omega, ?_, hs⟩
    · rw [hq, e, Nat.pow_succ, Nat.mul_assoc, Nat.mul_comm 2]
    · rw [Nat.pow_succ]; omega
theorem floor_at (W q r : Nat) (h : r < W) : (q * W + r) / W = q ∧ (q * W + r) % W = r := by
  have hp : 0 < W := by omega
  refine ⟨?_, ?_⟩
  · rw [Nat.mul_comm, Nat.mul_add_div hp, Nat.div_eq_of_lt h, Nat.add_zero]
  · rw [Nat.mul_comm, Nat.mul_add_mod, Nat.mod_eq_of_lt h]
theorem nud_floor {z : Int} (hl : rn z ≠ z) : ∃ k c' : Nat, 1 ≤ k ∧ c' ≠ 0 ∧ nudE (rn z) = (k : Int) - 1076 ∧ 9007199254740992 ≤ nudM (rn z) (z - rn z) ∧ nudM (rn z) (z - rn z) < 18446744073709551616 ∧
    z.natAbs * 2 ^ 2 / 2 ^ (k + 2) = c' ∧ z.natAbs * 2 ^ 2 % 2 ^ (k + 2) ≠ 0 ∧ nudM (rn z) (z - rn z) * 2 ^ k / 2 ^ (k + 2) = c' ∧ nudM (rn z) (z - rn z) * 2 ^ k % 2 ^ (k + 2) ≠ 0 := by
  obtain ⟨c, k, h1, h2, h3, h4, h5, h6, h7, h8⟩ := rn_lost hl
  obtain ⟨t1, t2⟩ := top53_eq (n := (rn z).natAbs) (by omega) h2 h3 h1
  have hE : nudE (rn z) = (k : Int) - 1076 := by unfold nudE; rw [t2]; omega
  have hp := Nat.two_pow_pos k
  have hW : 2 ^ (k + 2) = 4 * 2 ^ k := by rw [Nat.pow_add, Nat.mul_comm]
  have hL0 : z - rn z ≠ 0 := by omega
  have hM : nudM (rn z) (z - rn z) = if decide (0 < z - rn z) = decide (0 < rn z) then 4 * c + 1 else 4 * c - 1 := by unfold nudM; rw [if_neg hL0, t1]
  obtain ⟨l, hl1⟩ : ∃ l, l = (z - rn z).natAbs := ⟨_, rfl⟩
  rw [← hl1] at h5
  have hl0 : 1 ≤ l := by omega
  rw [hM, show (2 : Nat) ^ 2 = 4 from rfl]
  by_cases hs : decide (0 < z - rn z) = decide (0 < rn z)
  · rw [if_pos hs]
    rw [decide_eq_decide] at hs
    have hz : z.natAbs = c * 2 ^ k + l := by
      rw [← h1]
      omega
    have e1 : z.natAbs * 4 = c * (4 * 2 ^ k) + 4 * l := by rw [hz, Nat.add_mul, Nat.mul_assoc, Nat.mul_comm (2 ^ k) 4, Nat.mul_comm l]
    have e2 : (4 * c + 1) * 2 ^ k = c * (4 * 2 ^ k) + 2 ^ k := by rw [Nat.add_mul, Nat.one_mul, Nat.mul_comm 4 c, Nat.mul_assoc]
    obtain ⟨f1, f2⟩ := floor_at (4 * 2 ^ k) c (4 * l) (by omega)
    obtain ⟨g1, g2⟩ := floor_at (4 * 2 ^ k) c (2 ^ k) (by omega)
    exact ⟨k, c, h4, by omega, hE, by omega, by omega, by rw [hW, e1, f1], by rw [hW, e1, f2]; omega, by rw [hW, e2, g1], by rw [hW, e2, g2]; omega⟩
  · rw [if_neg hs]
    rw [decide_eq_decide] at hs
    obtain ⟨d, rfl⟩ : ∃ d, c = d + 1 := ⟨c - 1, by omega⟩
    have hz : z.natAbs + l = (d + 1) * 2 ^ k := by
      rw [← h1]
      omega
    rw [Nat.add_mul, Nat.one_mul] at hz
    have e1 : z.natAbs * 4 = d * (4 * 2 ^ k) + (4 * 2 ^ k - 4 * l) := by
      rw [← Nat.mul_assoc, Nat.mul_comm d 4, Nat.mul_assoc]
      generalize d * 2 ^ k = Q at *
      omega
    have e2 : (4 * (d + 1) - 1) * 2 ^ k = d * (4 * 2 ^ k) + 3 * 2 ^ k := by rw [show 4 * (d + 1) - 1 = 4 * d + 3 by omega, Nat.add_mul, Nat.mul_comm 4 d, Nat.mul_assoc]
    obtain ⟨f1, f2⟩ := floor_at (4 * 2 ^ k) d (4 * 2 ^ k - 4 * l) (by omega)
    obtain ⟨g1, g2⟩ := floor_at (4 * 2 ^ k) d (3 * 2 ^ k) (by omega)
    exact ⟨k, d, h4, by omega, hE, by omega, by omega, by rw [hW, e1, f1], by rw [hW, e1, f2]; omega, by rw [hW, e2, g1], by rw [hW, e2, g2]; omega⟩
theorem nud_near {z : Int} (hl : rn z ≠ z) {D lo : Int} (hD : D ≤ 40) (ng : Bool) (mode : Int) :
    gK D lo z.natAbs (-1074) = rK D lo (nudM (rn z) (z - rn z)) (nudE (rn z)) ∧ gQ D lo ng z.natAbs (-1074) false mode = rQ D lo ng (nudM (rn z) (z - rn z)) (nudE (rn z)) mode ∧
    (decide (-2 < gc D lo z.natAbs (-1074) false) = rLost D lo (nudM (rn z) (z - rn z)) (nudE (rn z))) ∧ -1074 + (blen z.natAbs : Int) = nudE (rn z) + (Lib.bitLen (nudM (rn z) (z - rn z)) : Nat) := by
  obtain ⟨k, c, hk, hc, hE, hm1, hm2, x1, x2, y1, y2⟩ := nud_floor hl
  obtain ⟨m, hm⟩ : ∃ m, m = nudM (rn z) (z - rn z) := ⟨_, rfl⟩
  rw [← hm] at hm1 hm2 y1 y2
  rw [← hm, hE]
  have hz0 : z.natAbs ≠ 0 := fun h => x2 (by rw [h, Nat.zero_mul, Nat.zero_mod])
  have hl2 : (z.natAbs * 2 ^ 2).log2 = (m * 2 ^ k).log2 := log2_floor (x1.trans y1.symm) (by rw [x1]; exact hc)
  rw [Fp.log2_mul_pow _ _ hz0, Fp.log2_mul_pow _ _ (by omega)] at hl2
  have hbm : Lib.bitLen m = m.log2 + 1 := by rw [← blen_bitLen hm2, blen_pos (by omega)]
  have hb : -1074 + (blen z.natAbs : Int) = (k : Int) - 1076 + (Lib.bitLen m : Nat) := by
    rw [blen_pos hz0, hbm]; omega
  have hml : 53 ≤ m.log2 := (Nat.le_log2 (by omega)).2 hm1
  have hK : (k : Int) - 1076 + 14 ≤ rK D lo m ((k : Int) - 1076) := by
    have : (k : Int) - 1076 + (Lib.bitLen m : Nat) - D ≤ rK D lo m ((k : Int) - 1076) := Int.le_max_left _ _
    omega
  obtain ⟨t, ht⟩ : ∃ t : Nat, rK D lo m ((k : Int) - 1076) + ((1076 : Nat) : Int) = (t : Int) + 1 := ⟨(rK D lo m ((k : Int) - 1076) + 1075).toNat, by omega⟩
  obtain ⟨d, hd⟩ : ∃ d, t = k + 2 + d := ⟨t - (k + 2), by omega⟩
  obtain ⟨f1, f2⟩ := floor_up (d := d) (x1.trans y1.symm) x2 y2
  rw [← hd] at f1 f2
  have e1 : ((k : Int) - 1076 + ((1076 : Nat) : Int)).toNat = k := by omega
  have e2 : ((-1074 : Int) + ((1076 : Nat) : Int)).toNat = 2 := by decide
  obtain ⟨r1, r2, r3⟩ := g_near (D := D) (lo := lo) (ng := ng) (mode := mode) (m := m) (M := z.natAbs) (e := (k : Int) - 1076) (E := -1074) 1076 t (by omega) (by decide) ht hb (by rw [e1, e2]; exact f1) (by rw [e1, e2]; exact f2)
  exact ⟨r1, r2, r3, hb⟩
end Go.Proofs.YtifgngmebnjfkaaGreatDoor
end

section
namespace Go.Proofs.YtifgngmebnjfkaaGreatDoor
theorem g_same {D lo : Int} {ng : Bool} {M M' : Nat} {E E' mode : Int} (J : Nat) (h1 : 0 ≤ E + J) (h2 : 0 ≤ E' + J) (h3 : 0 ≤ lo + J) (hM : M ≠ 0) (hv : M * 2 ^ (E + J).toNat = M' * 2 ^ (E' + J).toNat) :
    gK D lo M E = gK D lo M' E' ∧ gQ D lo ng M E false mode = gQ D lo ng M' E' false mode ∧ ((-2 < gc D lo M E false) ↔ (-2 < gc D lo M' E' false)) ∧ E + (blen M : Nat) = E' + (blen M' : Nat) ∧ M' ≠ 0 := by
  have hM0 : M' ≠ 0 := by
    intro h; rw [h, Nat.zero_mul] at hv
    exact Nat.mul_ne_zero hM (Nat.ne_of_gt (Nat.two_pow_pos _)) hv
  have hb : E + (blen M : Nat) = E' + (blen M' : Nat) := by
    have b1 := blen_mul M (E + J).toNat hM
    have b2 := blen_mul M' (E' + J).toNat hM0
    rw [hv, b2] at b1
    omega
  have hk : gK D lo M E = gK D lo M' E' := by unfold gK; rw [hb]
  have hk0 : 0 ≤ gK D lo M E + J := by have : lo ≤ gK D lo M E := Int.le_max_right _ _; omega
  refine ⟨hk, ?_, ?_, hb, hM0⟩
  · rw [gQ_fine D lo ng M E mode J h1 hk0, gQ_fine D lo ng M' E' mode J h2 (by omega), hk, hv]
  · rw [gc_fine D lo M E J h1 hk0, gc_fine D lo M' E' J h2 (by omega), hk, hv]
theorem gWord_same {D lo most : Int} {top inf FR SG : Nat} {ng : Bool} {M M' : Nat} {E E' mode : Int} (J : Nat) (h1 : 0 ≤ E + J) (h2 : 0 ≤ E' + J) (h3 : 0 ≤ lo + J) (hM : M ≠ 0) (hv : M * 2 ^ (E + J).toNat = M' * 2 ^ (E' + J).toNat) :
    gWord D lo most top inf FR SG ng M E false mode = gWord D lo most top inf FR SG ng M' E' false mode ∧ gFlags D lo most ng M E false mode = gFlags D lo most ng M' E' false mode := by
  obtain ⟨k1, k2, k3, k4, _⟩ := g_same (D := D) (lo := lo) (ng := ng) (mode := mode) J h1 h2 h3 hM hv
  have ho : gOver D lo most ng M E false mode = gOver D lo most ng M' E' false mode := by unfold gOver; rw [k1, k2]
  unfold gWord gFlags gFl
  rw [ho, k1, k2, k4]
  refine ⟨rfl, ?_⟩
  simp only [k3]
theorem gWordS_of {ng : Bool} {m M : Nat} {e E mode : Int} (hm0 : m ≠ 0) (hm : m < 18446744073709551616) (hM0 : M ≠ 0)
    (k1 : gK 24 (-149) M E = rK 24 (-149) m e) (k2 : gQ 24 (-149) ng M E false mode = rQ 24 (-149) ng m e mode) (k3 : decide (-2 < gc 24 (-149) M E false) = rLost 24 (-149) m e) (k4 : E + (blen M : Nat) = e + (Lib.bitLen m : Nat)) :
    gWord 24 (-149) 127 2139095039 2139095040 8388608 2147483648 ng M E false mode = sWord ng m e mode ∧ gFlags 24 (-149) 127 ng M E false mode = rFlags 24 (-149) 127 ng m e mode := by
  have hq := (rQ_le (D := 24) (lo := -149) ng e mode hm0 hm (by decide)).1
  have f2 : gOver 24 (-149) 127 ng M E false mode = rOver 24 (-149) 127 ng m e mode := by
    unfold gOver rOver; rw [k1, k2, blen_bitLen (by
      have : rQ 24 (-149) ng m e mode ≤ 2 ^ 24 := hq
      omega)]
  refine ⟨?_, ?_⟩
  · unfold gWord sWord
    rw [f2, topR_is, grid_of_num]
    have hfull := fun h => gQ_full (D := 24) (lo := -149) ng (M := M) (e := E) false mode hM0 (by decide) h
    have hg : Fp.grid Ieee.single (rQ 24 (-149) ng m e mode * 2 ^ (rK 24 (-149) m e + 149).toNat) 0 = (gK 24 (-149) M E - -149).toNat * 8388608 + gQ 24 (-149) ng M E false mode := by
      have := grid_rung Ieee.single 23 (rQ 24 (-149) ng m e mode) (rK 24 (-149) m e + 149).toNat rfl hq (by
        rcases Int.lt_or_le (-149) (gK 24 (-149) M E) with h | h
        · left; have := hfull h; rw [← k2]; exact this
        · right; rw [← k1]; omega)
      rw [this, k2, ← k1, show (gK 24 (-149) M E - -149) = (gK 24 (-149) M E + 149) by omega]
    rw [hg]; rfl
  · unfold gFlags rFlags gFl
    rw [f2, k4, ← k3]
    by_cases h : rOver 24 (-149) 127 ng m e mode = true
    · rw [if_pos h, if_pos h]
    · rw [if_neg h, if_neg h]
      by_cases h2 : -2 < gc 24 (-149) M E false
      · rw [if_pos h2, if_pos (decide_eq_true h2)]
      · rw [if_neg h2, decide_eq_false h2, if_neg Bool.false_ne_true]
theorem gWordS_of_exact {ng : Bool} {m l M : Nat} {mode : Int} (hm0 : m ≠ 0) (hm : m < 18446744073709551616) (hv : m * 2 ^ l = M * 2 ^ 54) :
    gWord 24 (-149) 127 2139095039 2139095040 8388608 2147483648 ng M (-1074) false mode = sWord ng m ((l : Int) - 1128) mode ∧ gFlags 24 (-149) 127 ng M (-1074) false mode = rFlags 24 (-149) 127 ng m ((l : Int) - 1128) mode := by
  obtain ⟨k1, k2, k3, k4, hM0⟩ := g_is_r (D := 24) (lo := -149) (ng := ng) (mode := mode) (m := m) (M := M) (e := (l : Int) - 1128) (E := -1074) 1128 (by omega) (by decide) (by decide) hm0 hm
    (by rw [show ((l : Int) - 1128 + ((1128 : Nat) : Int)).toNat = l by omega, show ((-1074 : Int) + ((1128 : Nat) : Int)).toNat = 54 by decide]; exact hv)
  exact gWordS_of hm0 hm hM0 k1 k2 k3 k4
def xWord (z : Int) (mode : Int) : Nat := gWord 24 (-149) 127 2139095039 2139095040 8388608 2147483648 (decide (z < 0)) z.natAbs (-1074) false mode
def xFlags (z : Int) (mode : Int) : Int := gFlags 24 (-149) 127 (decide (z < 0)) z.natAbs (-1074) false mode
theorem nud_word {z : Int} (hz : z ≠ 0) (hr : Fp.Rep Ieee.double (rn z).natAbs) (mode : Int) :
    rn z ≠ 0 ∧ (decide (rn z < 0) = decide (z < 0)) ∧ xWord z mode = sWord (decide (z < 0)) (nudM (rn z) (z - rn z)) (nudE (rn z)) mode ∧ xFlags z mode = rFlags 24 (-149) 127 (decide (z < 0)) (nudM (rn z) (z - rn z)) (nudE (rn z)) mode := by
  unfold xWord xFlags
  by_cases h : rn z = z
  · have h0 : z.natAbs ≠ 0 := by omega
    rw [h] at hr ⊢
    refine ⟨hz, rfl, ?_⟩
    obtain ⟨t1, t2, t3, t4⟩ := top53_bounds h0 hr
    have hM : nudM z (z - z) = 4 * top53 z.natAbs := by unfold nudM; rw [if_pos (Int.sub_self z)]
    have hE : nudE z = (z.natAbs.log2 : Int) - 1128 := rfl
    rw [hM, hE]
    refine gWordS_of_exact (by omega) (by omega) ?_
    rw [show 4 * top53 z.natAbs * 2 ^ z.natAbs.log2 = 4 * (top53 z.natAbs * 2 ^ z.natAbs.log2) from Nat.mul_assoc _ _ _, t4, show (2 : Nat) ^ 54 = 4 * 2 ^ 52 from rfl]
    exact Nat.mul_left_comm _ _ _
  · obtain ⟨c, k, h1, h2, h3, h4, h5, h6, h7, h8⟩ := rn_lost h
    obtain ⟨k', c', _, _, _, hm1, hm2, _⟩ := nud_floor h
    obtain ⟨g1, g2, g3, g4⟩ := nud_near h (D := 24) (lo := -149) (by decide) (decide (z < 0)) mode
    exact ⟨h6, decide_eq_decide.2 h8, gWordS_of (by omega) hm2 (by omega) g1 g2 g3 g4⟩
def eSumW (z A : Int) (na nb : Bool) (mode : Int) : Nat := if z = 0 then (if A = 0 then noughtW na nb mode else noughtW false true mode) else xWord z mode
def eSumF (z mode : Int) : Int := if z = 0 then 0 else xFlags z mode
theorem add_is {A B : Int} (hA : RepZ A) (hB : RepZ B) (hr : Fp.Rep Ieee.double (rn (A + B)).natAbs) (na nb : Bool) (mode : Int) : addW A B na nb mode = eSumW (A + B) A na nb mode ∧ addF A B mode = eSumF (A + B) mode := by
  have hL := two_sum hA hB
  unfold addW addF eSumW eSumF
  rw [hL]
  unfold sumS
  by_cases h : A + B = 0
  · rw [h, rn_zero, if_pos rfl, if_pos rfl, if_pos rfl, if_pos rfl]; exact ⟨rfl, rfl⟩
  · obtain ⟨h1, h2, h3, h4⟩ := nud_word h hr mode
    rw [if_neg h1, if_neg h1, if_neg h, if_neg h, h2, h3, h4]; exact ⟨rfl, rfl⟩
end Go.Proofs.YtifgngmebnjfkaaGreatDoor
end

section
namespace Go.Proofs.YtifgngmebnjfkaaGreatDoor
open Go.RowKit
theorem wD_is {x : Nat} (hx : x < 4294967296) (hf : x % 2147483648 < 2139095040) : Fp.Is Ieee.double (wD x) (ngS x) (Fp.mag Ieee.single (x % 2147483648) * 2 ^ Fp.sgap) := by
  obtain ⟨h1, h2⟩ := Fp.widen_is (single_is hx hf)
  have hl := num_lt h2
  have J := Fp.Rep.is h2 (decide (2147483648 ≤ x))
  have e := num_sgn (decide (2147483648 ≤ x)) (Fp.mag Ieee.single (x % 2147483648) * 2 ^ Fp.sgap)
  have hF : Fp.num Ieee.double (decide (2147483648 ≤ x)) (Fp.mag Ieee.single (x % 2147483648) * 2 ^ Fp.sgap) % 9223372036854775808 < 9218868437227405312 := by
    rw [e]; unfold sgnD; split <;> omega
  unfold wD
  rw [wbits_num hf hF h1]
  exact J
theorem mul_pows (m n a b S c P : Nat) (h : S + S = c + P) : (m * 2 ^ a * 2 ^ S) * (n * 2 ^ b * 2 ^ S) = m * n * 2 ^ (a + b + c) * 2 ^ P := by
  have e : 2 ^ S * 2 ^ S = 2 ^ c * 2 ^ P := by rw [← Nat.pow_add, ← Nat.pow_add, h]
  have e1 : (m * 2 ^ a * 2 ^ S) * (n * 2 ^ b * 2 ^ S) = m * n * (2 ^ a * 2 ^ b) * (2 ^ S * 2 ^ S) := by ac_rfl
  rw [e1, e, Nat.pow_add, Nat.pow_add]
  ac_rfl
def prodN (x y : Nat) : Nat := mS x * mS y * 2 ^ (eS x + eS y + 1074).toNat
theorem eS_hi (x : Nat) : eS x ≤ 106 := by unfold eS tE; split <;> (try split) <;> omega
def pTop : Nat := 1300
theorem pTop_is : pTop = 1300 := rfl
theorem prod_lt (x y : Nat) : prodN x y < 2 ^ (48 + pTop) := by
  have h1 := mS_lt x
  have h2 := mS_lt y
  have e1 := eS_hi x
  have e2 := eS_hi y
  have h3 : mS x * mS y ≤ 16777215 * 16777215 := Nat.mul_le_mul (by omega) (by omega)
  unfold prodN
  have h4 : 2 ^ (eS x + eS y + 1074).toNat ≤ 2 ^ pTop := Nat.pow_le_pow_right (by decide) (by have := pTop_is; omega)
  rw [Nat.pow_add]
  refine Nat.lt_of_le_of_lt (Nat.mul_le_mul h3 h4) ?_
  exact Nat.mul_lt_mul_of_pos_right (by decide) (Nat.pow_pos (by decide))
theorem prod_fin {x y : Nat} (hx : x < 4294967296) (hy : y < 4294967296) (fx : x % 2147483648 < 2139095040) (fy : y % 2147483648 < 2139095040) : ∃ p, Ieee.double.mul (wD x) (wD y) = some p ∧ Fp.Is Ieee.double p (ngS x ^^ ngS y) (prodN x y) := by
  have hq : mS x * mS y < 2 ^ (Ieee.double.fractionBits + 1) := by
    have h1 := mS_lt x
    have h2 := mS_lt y
    have h3 : mS x * mS y ≤ 16777215 * 16777215 := Nat.mul_le_mul (by omega) (by omega)
    have h4 : (2 : Nat) ^ (Ieee.double.fractionBits + 1) = 9007199254740992 := by decide
    omega
  have hl := prod_lt x y
  have hR : Fp.Rep Ieee.double (prodN x y) := Fp.rep_of Ieee.double _ _ rfl hq (Nat.lt_of_lt_of_le hl (by rw [Fp.mag_infD]; exact Nat.pow_le_pow_right (by decide) (by have := pTop_is; unfold Fp.dtop; omega)))
  have h1 := wD_is hx fx
  have h2 := wD_is hy fy
  obtain ⟨a1, a2, a3, _⟩ := mS_mag fx
  obtain ⟨b1, b2, b3, _⟩ := mS_mag fy
  rw [a1] at h1
  rw [b1] at h2
  have ex := eS_lo x a2
  have ey := eS_lo y b2
  have key := mul_pows (mS x) (mS y) (eS x + 149).toNat (eS y + 149).toNat Fp.sgap 776 (Fp.deep Ieee.double) (by have := Fp.sgap_eq; have := Fp.dD; omega)
  rw [show (eS x + 149).toNat + (eS y + 149).toNat + 776 = (eS x + eS y + 1074).toNat by omega] at key
  exact ⟨_, Fp.mul_is Ieee.double Fp.dL0 h1 h2 key hR, Fp.Rep.is hR _⟩
theorem read_is {b n : Nat} {s : Bool} (h : Fp.Is Ieee.double b s n) : ∃ m e, Ieee.double.read b = .number s m e ∧ (m = 0 ↔ n = 0) := by
  obtain ⟨m, e, h1, _, h3⟩ := h.read
  refine ⟨m, e, h1, ⟨fun h0 => ?_, fun h0 => ?_⟩⟩
  · rw [← h3, h0, Nat.zero_mul]
  · rw [h0] at h3; exact (Nat.mul_eq_zero.1 h3).resolve_right (Nat.ne_of_gt (Nat.pow_pos (by decide)))
theorem mul_inf_l (s : Bool) {b n : Nat} {t : Bool} (h : Fp.Is Ieee.double b t n) : Ieee.double.mul (infD s) b = if n = 0 then none else some (infD (s ^^ t)) := by
  obtain ⟨m, e, h1, h2⟩ := read_is h
  unfold Ieee.Format.mul
  rw [read_infD, h1]
  show (if m = 0 then none else some (Ieee.Datum.infinity (s ^^ t))).map Ieee.double.write = _
  by_cases h0 : n = 0
  · rw [if_pos h0, if_pos (h2.2 h0)]; rfl
  · rw [if_neg h0, if_neg (fun h => h0 (h2.1 h)), ← write_infD]; rfl
theorem mul_inf_r (s : Bool) {b n : Nat} {t : Bool} (h : Fp.Is Ieee.double b t n) : Ieee.double.mul b (infD s) = if n = 0 then none else some (infD (t ^^ s)) := by
  obtain ⟨m, e, h1, h2⟩ := read_is h
  unfold Ieee.Format.mul
  rw [read_infD, h1]
  show (if m = 0 then none else some (Ieee.Datum.infinity (s ^^ t))).map Ieee.double.write = _
  by_cases h0 : n = 0
  · rw [if_pos h0, if_pos (h2.2 h0)]; rfl
  · rw [if_neg h0, if_neg (fun h => h0 (h2.1 h)), Bool.xor_comm t s, ← write_infD]; rfl
theorem mul_inf_inf (s t : Bool) : Ieee.double.mul (infD s) (infD t) = some (infD (s ^^ t)) := by cases s <;> cases t <;> decide +kernel
theorem isN_k (x : Nat) : isN x = decide (kS x = 2) := by
  unfold isN kS tK
  refine decide_eq_decide.2 ?_
  split <;> (try split) <;> omega
theorem isI_k (x : Nat) : isI x = decide (kS x = 1) := by
  unfold isI kS tK
  refine decide_eq_decide.2 ?_
  split <;> (try split) <;> omega
theorem nS_ng {x : Nat} (h : kS x ≠ 2) : nS x = ngS x := by
  unfold nS tN ngS
  unfold kS tK at h
  split
  · rename_i h1
    rw [if_pos h1.1, if_neg h1.2] at h
    exact absurd rfl h
  · rfl
theorem uS_sg {x : Nat} (fx : x % 2147483648 < 2139095040) : uS x = sgI (ngS x) (mS x) (eS x + 1074).toNat := by
  obtain ⟨a1, a2, a3, _⟩ := mS_mag fx
  have ex := eS_lo x a2
  have e : mS x * 2 ^ (eS x + 149).toNat * 2 ^ Fp.sgap = mS x * 2 ^ (eS x + 1074).toNat := by
    rw [Nat.mul_assoc, ← Nat.pow_add]; congr 2; have := Fp.sgap_eq; omega
  unfold uS sgI Fp.val
  rw [a1, e]
  split <;> simp
def addRW (ka : Int) (na : Bool) (ma : Nat) (ea kb : Int) (nb : Bool) (mb : Nat) (eb mode : Int) : Nat :=
  if ka = 2 ∨ kb = 2 then 2143289344
  else if ka = 1 ∧ kb = 1 ∧ na ≠ nb then 2143289344
  else if ka = 1 then infS na
  else if kb = 1 then infS nb
  else if sgI na ma (ea - min ea eb).toNat + sgI nb mb (eb - min ea eb).toNat = 0 then (if ma = 0 ∧ mb = 0 ∧ na = nb then sgnS na else sgnS (decide (mode = 4)))
  else gWord 24 (-149) 127 2139095039 2139095040 8388608 2147483648 (decide (sgI na ma (ea - min ea eb).toNat + sgI nb mb (eb - min ea eb).toNat < 0)) (sgI na ma (ea - min ea eb).toNat + sgI nb mb (eb - min ea eb).toNat).natAbs (min ea eb) false mode
def addRF (ka : Int) (na : Bool) (ma : Nat) (ea kb : Int) (nb : Bool) (mb : Nat) (eb mode : Int) : Int :=
  if ka = 2 ∨ kb = 2 then 0
  else if ka = 1 ∧ kb = 1 ∧ na ≠ nb then 8
  else if ka = 1 then 0
  else if kb = 1 then 0
  else if sgI na ma (ea - min ea eb).toNat + sgI nb mb (eb - min ea eb).toNat = 0 then 0
  else gFlags 24 (-149) 127 (decide (sgI na ma (ea - min ea eb).toNat + sgI nb mb (eb - min ea eb).toNat < 0)) (sgI na ma (ea - min ea eb).toNat + sgI nb mb (eb - min ea eb).toNat).natAbs (min ea eb) false mode
theorem add_units {na nb : Bool} {ma mb : Nat} {ea eb : Int} (h1 : -1074 ≤ ea) (h2 : -1074 ≤ eb) (mode : Int) :
    addRW 0 na ma ea 0 nb mb eb mode = eSumW (sgI na ma (ea + 1074).toNat + sgI nb mb (eb + 1074).toNat) (sgI na ma (ea + 1074).toNat) na nb mode ∧ addRF 0 na ma ea 0 nb mb eb mode = eSumF (sgI na ma (ea + 1074).toNat + sgI nb mb (eb + 1074).toNat) mode := by
  unfold addRW addRF eSumW eSumF
  have n0 : ¬ ((0 : Int) = 2 ∨ (0 : Int) = 2) := by decide
  have n1 : ¬ ((0 : Int) = 1 ∧ (0 : Int) = 1 ∧ na ≠ nb) := fun h => absurd h.1 (by decide)
  have n2 : ¬ ((0 : Int) = 1) := by decide
  rw [if_neg n0, if_neg n1, if_neg n2, if_neg n2, if_neg n0, if_neg n1, if_neg n2, if_neg n2]
  obtain ⟨e, he⟩ : ∃ e, min ea eb = e := ⟨_, rfl⟩
  have q1 := sgI_min (J := 1074) (E := ea) (e := e) na ma (by omega) (by omega)
  have q2 := sgI_min (J := 1074) (E := eb) (e := e) nb mb (by omega) (by omega)
  have hc : ((1074 : Nat) : Int) = 1074 := rfl
  rw [hc] at q1 q2
  have za : sgI na ma (ea + 1074).toNat = 0 ↔ ma = 0 := by
    unfold sgI
    have hp : (2 : Int) ^ (ea + 1074).toNat ≠ 0 := Int.pow_ne_zero (by decide)
    split
    · rw [Int.neg_eq_zero, Int.mul_eq_zero]; constructor
      · rintro (h | h); exact Int.natCast_eq_zero.1 h; exact absurd h hp
      · intro h; exact .inl (by rw [h]; rfl)
    · rw [Int.mul_eq_zero]; constructor
      · rintro (h | h); exact Int.natCast_eq_zero.1 h; exact absurd h hp
      · intro h; exact .inl (by rw [h]; rfl)
  have zb : sgI nb mb (eb + 1074).toNat = 0 ↔ mb = 0 := by
    unfold sgI
    have hp : (2 : Int) ^ (eb + 1074).toNat ≠ 0 := Int.pow_ne_zero (by decide)
    split
    · rw [Int.neg_eq_zero, Int.mul_eq_zero]; constructor
      · rintro (h | h); exact Int.natCast_eq_zero.1 h; exact absurd h hp
      · intro h; exact .inl (by rw [h]; rfl)
    · rw [Int.mul_eq_zero]; constructor
      · rintro (h | h); exact Int.natCast_eq_zero.1 h; exact absurd h hp
      · intro h; exact .inl (by rw [h]; rfl)
  rw [he]
  obtain ⟨v, hv⟩ : ∃ v, sgI na ma (ea - e).toNat + sgI nb mb (eb - e).toNat = v := ⟨_, rfl⟩
  have hz : sgI na ma (ea + 1074).toNat + sgI nb mb (eb + 1074).toNat = v * 2 ^ (e + 1074).toNat := by rw [q1, q2, ← Int.add_mul, hv]
  rw [hv]
  have hP : (0 : Int) < 2 ^ (e + 1074).toNat := Int.pow_pos (by decide)
  have hz0 : sgI na ma (ea + 1074).toNat + sgI nb mb (eb + 1074).toNat = 0 ↔ v = 0 := by
    rw [hz, Int.mul_eq_zero]
    exact ⟨fun h => h.resolve_right (Int.ne_of_gt hP), fun h => .inl h⟩
  by_cases h0 : v = 0
  · rw [if_pos h0, if_pos h0, if_pos (hz0.2 h0), if_pos (hz0.2 h0)]
    refine ⟨?_, rfl⟩
    have hs := hz0.2 h0
    by_cases ha : ma = 0
    · have hA := za.2 ha
      have hb : mb = 0 := zb.1 (by rw [hA, Int.zero_add] at hs; exact hs)
      rw [if_pos hA]
      by_cases hn : na = nb
      · subst hn
        rw [if_pos ⟨ha, hb, rfl⟩]
        unfold noughtW sgnS
        cases na <;> simp
      · rw [if_neg (fun h => hn h.2.2)]
        unfold noughtW sgnS
        cases na <;> cases nb <;> simp_all
    · rw [if_neg (fun h => ha h.1), if_neg (fun h => ha (za.1 h))]
      unfold noughtW sgnS
      simp
  · rw [if_neg h0, if_neg h0, if_neg (fun h => h0 (hz0.1 h)), if_neg (fun h => h0 (hz0.1 h))]
    unfold xWord xFlags
    rw [hz]
    have hneg : decide (v * 2 ^ (e + 1074).toNat < 0) = decide (v < 0) := by
      refine decide_eq_decide.2 ⟨fun h => ?_, fun h => Int.mul_neg_of_neg_of_pos h hP⟩
      by_cases hn : v < 0
      · exact hn
      · have h9 := Int.mul_nonneg (show 0 ≤ v by omega) (Int.le_of_lt hP)
        exact absurd h (Int.not_lt.2 h9)
    have habs : (v * 2 ^ (e + 1074).toNat).natAbs = v.natAbs * 2 ^ (e + 1074).toNat := by rw [Int.natAbs_mul, Int.natAbs_pow]; rfl
    rw [hneg, habs]
    have h := gWord_same (D := 24) (lo := -149) (most := 127) (top := 2139095039) (inf := 2139095040) (FR := 8388608) (SG := 2147483648) (ng := decide (v < 0)) (M := v.natAbs) (M' := v.natAbs * 2 ^ (e + 1074).toNat) (E := e) (E' := -1074) (mode := mode) 1074 (by omega) (by decide) (by decide) (by omega) (by
      rw [show ((-1074 : Int) + ((1074 : Nat) : Int)).toNat = 0 by decide, Nat.pow_zero, Nat.mul_one]; rfl)
    exact h
theorem ng_inf (s : Bool) : ngD (infD s) = s := by cases s <;> decide
theorem is_inf (s : Bool) : isID (infD s) = true := by cases s <;> decide
theorem is_fi {a : Nat} (h : Fi a) : isID a = false := decide_eq_false (by have := h.2; omega)
theorem k_fin {z : Nat} (h1 : kS z ≠ 2) (h2 : kS z ≠ 1) : z % 2147483648 < 2139095040 := fin_of (by rw [isN_k, decide_eq_false h1]) (by rw [isI_k, decide_eq_false h2])
theorem k_zero {z : Nat} (h1 : kS z ≠ 2) (h2 : kS z ≠ 1) : kS z = 0 := by rcases kS_range z with h | h | h; exact h; exact absurd h h2; exact absurd h h1
theorem sum_inf_word (s : Bool) {z : Nat} (hz : z < 4294967296) (hk : kS z ≠ 2) (mode : Int) : sumWd (infD s) (wD z) mode = addRW 1 s 0 0 (kS z) (nS z) (mS z) (eS z) mode ∧ sumFl (infD s) (wD z) mode = addRF 1 s 0 0 (kS z) (nS z) (mS z) (eS z) mode := by
  unfold sumWd sumFl addRW addRF
  have n0 : ¬ ((1 : Int) = 2 ∨ kS z = 2) := fun h => h.elim (by decide) hk
  rw [if_pos (is_inf s), if_pos (is_inf s), if_neg n0, if_neg n0, ng_inf, nS_ng hk]
  by_cases hi : kS z = 1
  · have hw := wD_inf hz (by rw [isI_k, decide_eq_true hi])
    rw [hw, is_inf, ng_inf]
    by_cases g : s = ngS z
    · rw [if_neg (show ¬ ((true && s != ngS z) = true) by rw [← g]; simp), if_neg (show ¬ ((true && s != ngS z) = true) by rw [← g]; simp), if_neg (show ¬ ((1 : Int) = 1 ∧ kS z = 1 ∧ s ≠ ngS z) from fun h => h.2.2 g), if_neg (show ¬ ((1 : Int) = 1 ∧ kS z = 1 ∧ s ≠ ngS z) from fun h => h.2.2 g), if_pos rfl, if_pos rfl]
      exact ⟨rfl, rfl⟩
    · rw [if_pos (show (true && s != ngS z) = true by simp [g]), if_pos (show (true && s != ngS z) = true by simp [g]), if_pos ⟨rfl, hi, g⟩, if_pos ⟨rfl, hi, g⟩]
      exact ⟨rfl, rfl⟩
  · obtain ⟨f1, _, _⟩ := wD_fin hz (by rw [isN_k, decide_eq_false hk]) (by rw [isI_k, decide_eq_false hi])
    rw [is_fi f1, if_neg (show ¬ ((false && s != ngD (wD z)) = true) by simp), if_neg (show ¬ ((false && s != ngD (wD z)) = true) by simp), if_neg (show ¬ ((1 : Int) = 1 ∧ kS z = 1 ∧ s ≠ ngS z) from fun h => hi h.2.1), if_neg (show ¬ ((1 : Int) = 1 ∧ kS z = 1 ∧ s ≠ ngS z) from fun h => hi h.2.1), if_pos rfl, if_pos rfl]
    exact ⟨rfl, rfl⟩
theorem repz_sg {b : Bool} {M d : Nat} (h : M ≤ 9007199254740992) : RepZ (sgI b M d) := by
  unfold sgI
  split
  · exact ⟨-(M : Int), d, by rw [Int.neg_mul], by rw [Int.natAbs_neg]; exact h⟩
  · exact ⟨(M : Int), d, rfl, h⟩
theorem sgI_abs' (b : Bool) (M d : Nat) : (sgI b M d).natAbs = M * 2 ^ d := by
  have h2 : (M : Int) * 2 ^ d = ((M * 2 ^ d : Nat) : Int) := by simp
  unfold sgI
  rw [h2]
  split <;> omega
theorem uS_small {z : Nat} (hz : z < 4294967296) (fz : z % 2147483648 < 2139095040) : (uS z).natAbs ≤ 2 ^ 1500 := by
  obtain ⟨_, _, _, _, _, a5⟩ := wide_ok hz fz
  exact a5
theorem rep_rn {z : Int} (h : z.natAbs ≤ 2 ^ flim) : Fp.Rep Ieee.double (rn z).natAbs := by
  obtain ⟨_, h2⟩ := rung_small h
  have R := Fp.rep_mag Ieee.double Fp.dF (r := Fp.grid Ieee.double z.natAbs 0) (by rw [Fp.dI]; exact h2)
  have e : (rn z).natAbs = Fp.mag Ieee.double (Fp.grid Ieee.double z.natAbs 0) := by unfold rn; split <;> omega
  rw [e]; exact R
theorem sum_fin_word {p z : Nat} {s : Bool} {m : Nat} {e : Int} (hp : Fp.Is Ieee.double p s (m * 2 ^ (e + 1074).toNat)) (hm : m ≤ 9007199254740992) (he : -1074 ≤ e) (hb : m * 2 ^ (e + 1074).toNat ≤ 2 ^ 1500) (hz : z < 4294967296) (hk : kS z ≠ 2) (mode : Int) : sumWd p (wD z) mode = addRW 0 s m e (kS z) (nS z) (mS z) (eS z) mode ∧ sumFl p (wD z) mode = addRF 0 s m e (kS z) (nS z) (mS z) (eS z) mode := by
  have hfp : Fi p := ⟨hp.1, by have := hp.2.1; rw [Fp.rg64, Fp.dI] at this; exact this⟩
  have hup : Fp.un Ieee.double p = sgI s m (e + 1074).toNat := by rw [hp.un]; unfold Fp.val sgI; split <;> simp
  have hng : ngD p = s := by
    have h := hp.2.2.1
    rw [Fp.sg64] at h
    have h1 := hp.1
    unfold ngD
    rw [← h]
    have h1' : p < 18446744073709551616 := h1
    rw [Bool.eq_iff_iff, decide_eq_true_iff, beq_iff_eq]
    omega
  by_cases hi : kS z = 1
  · unfold sumWd sumFl addRW addRF
    have n0 : ¬ ((0 : Int) = 2 ∨ kS z = 2) := fun h => h.elim (by decide) hk
    have n1 : ∀ Q, ¬ ((0 : Int) = 1 ∧ Q) := fun Q h => absurd h.1 (by decide)
    rw [is_fi hfp, if_neg Bool.false_ne_true, if_neg Bool.false_ne_true, wD_inf hz (by rw [isI_k, decide_eq_true hi]), is_inf, if_pos rfl, if_pos rfl, if_neg n0, if_neg n0, if_neg (n1 _), if_neg (n1 _), if_neg (show ¬ ((0 : Int) = 1) by decide), if_neg (show ¬ ((0 : Int) = 1) by decide), if_pos hi, if_pos hi, ng_inf, nS_ng hk]
    exact ⟨rfl, rfl⟩
  · have fz := k_fin hk hi
    obtain ⟨f1, f2, f3⟩ := wD_fin hz (by rw [isN_k, decide_eq_false hk]) (by rw [isI_k, decide_eq_false hi])
    have h0 := k_zero hk hi
    have ez := eS_lo z h0
    obtain ⟨a1, a2⟩ := add_units (na := s) (nb := nS z) (ma := m) (mb := mS z) (ea := e) (eb := eS z) he (by omega) mode
    rw [h0, a1, a2]
    unfold sumWd sumFl
    rw [is_fi hfp, is_fi f1, if_neg Bool.false_ne_true, if_neg Bool.false_ne_true, if_neg Bool.false_ne_true, if_neg Bool.false_ne_true, hup, f2, uS_sg fz, hng, f3, nS_ng hk]
    have hA : (sgI s m (e + 1074).toNat).natAbs ≤ 2 ^ 1500 := by rw [sgI_abs']; exact hb
    have hB : (sgI (ngS z) (mS z) (eS z + 1074).toNat).natAbs ≤ 2 ^ 1500 := by rw [← uS_sg fz]; exact uS_small hz fz
    exact add_is (repz_sg hm) (repz_sg (by have := mS_lt z; omega)) (rep_rn (pow_le_flim (small_add hA hB).1 (by decide))) (s) (ngS z) mode
def refFW (x y z : Nat) (mode : Int) : Nat :=
  if kS x = 2 ∨ kS y = 2 ∨ kS z = 2 then 2143289344
  else if (kS x = 1 ∧ kS y = 0 ∧ mS y = 0) ∨ (kS y = 1 ∧ kS x = 0 ∧ mS x = 0) then 2143289344
  else if kS x = 1 ∨ kS y = 1 then addRW 1 (nS x != nS y) 0 0 (kS z) (nS z) (mS z) (eS z) mode
  else addRW 0 (nS x != nS y) (mS x * mS y) (eS x + eS y) (kS z) (nS z) (mS z) (eS z) mode
def refFF (x y z : Nat) (mode : Int) : Int :=
  if kS x = 2 ∨ kS y = 2 ∨ kS z = 2 then 0
  else if (kS x = 1 ∧ kS y = 0 ∧ mS y = 0) ∨ (kS y = 1 ∧ kS x = 0 ∧ mS x = 0) then 8
  else if kS x = 1 ∨ kS y = 1 then addRF 1 (nS x != nS y) 0 0 (kS z) (nS z) (mS z) (eS z) mode
  else addRF 0 (nS x != nS y) (mS x * mS y) (eS x + eS y) (kS z) (nS z) (mS z) (eS z) mode
theorem bne_xor (a b : Bool) : (a != b) = (a ^^ b) := by cases a <;> cases b <;> rfl
theorem mag_zero {y : Nat} (fy : y % 2147483648 < 2139095040) : Fp.mag Ieee.single (y % 2147483648) * 2 ^ Fp.sgap = 0 ↔ mS y = 0 := by
  obtain ⟨b1, _⟩ := mS_mag fy
  rw [b1, Nat.mul_eq_zero, Nat.mul_eq_zero]
  have p1 : ∀ n : Nat, 2 ^ n ≠ 0 := fun n => Nat.ne_of_gt (Nat.pow_pos (by decide))
  exact ⟨fun h => (h.resolve_right (p1 _)).resolve_right (p1 _), fun h => .inl (.inl h)⟩
theorem fin_two {x : Nat} (hx : x < 4294967296) (h2 : kS x ≠ 2) (h1 : kS x ≠ 1) : kS x = 0 ∧ x % 2147483648 < 2139095040 ∧ Fp.Is Ieee.double (wD x) (nS x) (Fp.mag Ieee.single (x % 2147483648) * 2 ^ Fp.sgap) := by
  have fx := k_fin h2 h1
  exact ⟨k_zero h2 h1, fx, by rw [nS_ng h2]; exact wD_is hx fx⟩
theorem inf_two {x : Nat} (hx : x < 4294967296) (h1 : kS x = 1) : wD x = infD (nS x) := by
  rw [nS_ng (by omega)]
  exact wD_inf hx (by rw [isI_k, decide_eq_true h1])
theorem mul_cases {x y : Nat} (hx : x < 4294967296) (hy : y < 4294967296) (nx : kS x ≠ 2) (ny : kS y ≠ 2) :
    (Ieee.double.mul (wD x) (wD y) = none ∧ ((kS x = 1 ∧ kS y = 0 ∧ mS y = 0) ∨ (kS y = 1 ∧ kS x = 0 ∧ mS x = 0))) ∨
    (Ieee.double.mul (wD x) (wD y) = some (infD (nS x != nS y)) ∧ (kS x = 1 ∨ kS y = 1) ∧ ¬ ((kS x = 1 ∧ kS y = 0 ∧ mS y = 0) ∨ (kS y = 1 ∧ kS x = 0 ∧ mS x = 0))) ∨
    (∃ p, Ieee.double.mul (wD x) (wD y) = some p ∧ Fp.Is Ieee.double p (nS x != nS y) (prodN x y) ∧ kS x = 0 ∧ kS y = 0) := by
  rw [bne_xor]
  by_cases ix : kS x = 1
  · by_cases iy : kS y = 1
    · refine .inr (.inl ⟨?_, .inl ix, fun h => by omega⟩)
      rw [inf_two hx ix, inf_two hy iy, mul_inf_inf]
    · obtain ⟨ky, fy, hI⟩ := fin_two hy ny iy
      have h := mul_inf_l (nS x) hI
      rw [← inf_two hx ix] at h
      by_cases h0 : mS y = 0
      · rw [if_pos ((mag_zero fy).2 h0)] at h
        exact .inl ⟨h, .inl ⟨ix, ky, h0⟩⟩
      · rw [if_neg (fun h => h0 ((mag_zero fy).1 h))] at h
        exact .inr (.inl ⟨h, .inl ix, fun h => by rcases h with h | h; exact h0 h.2.2; omega⟩)
  · obtain ⟨kx, fx, hI⟩ := fin_two hx nx ix
    by_cases iy : kS y = 1
    · have h := mul_inf_r (nS y) hI
      rw [← inf_two hy iy] at h
      by_cases h0 : mS x = 0
      · rw [if_pos ((mag_zero fx).2 h0)] at h
        exact .inl ⟨h, .inr ⟨iy, kx, h0⟩⟩
      · rw [if_neg (fun h => h0 ((mag_zero fx).1 h))] at h
        exact .inr (.inl ⟨h, .inr iy, fun h => by rcases h with h | h; omega; exact h0 h.2.2⟩)
    · obtain ⟨ky, fy, _⟩ := fin_two hy ny iy
      obtain ⟨p, h1, h2⟩ := prod_fin hx hy fx fy
      rw [← nS_ng nx, ← nS_ng ny] at h2
      exact .inr (.inr ⟨p, h1, h2, kx, ky⟩)
theorem prod_le {x y : Nat} (fx : x % 2147483648 < 2139095040) (fy : y % 2147483648 < 2139095040) : prodN x y ≤ 2 ^ 1500 := by
  obtain ⟨K, hK⟩ : ∃ K : Nat, K = 1500 := ⟨_, rfl⟩
  rw [← hK]
  exact Nat.le_trans (Nat.le_of_lt (prod_lt x y)) (Nat.pow_le_pow_right (by decide) (by have := pTop_is; omega))
theorem k0_fin {x : Nat} (h : kS x = 0) : x % 2147483648 < 2139095040 := k_fin (by omega) (by omega)
theorem prod_small {x y : Nat} (hx : x < 4294967296) (hy : y < 4294967296) (nx : isN x = false) (ny : isN y = false) (p : Nat) (hm : Ieee.double.mul (wD x) (wD y) = some p) (hi : isID p = false) : (Fp.un Ieee.double p).natAbs ≤ 2 ^ 1500 := by
  rw [isN_k, decide_eq_false_iff_not] at nx ny
  rcases mul_cases hx hy nx ny with ⟨h, _⟩ | ⟨h, _⟩ | ⟨q, h, hq, kx, ky⟩
  · rw [h] at hm; cases hm
  · rw [h] at hm; obtain rfl := Option.some.inj hm; rw [is_inf] at hi; cases hi
  · rw [h] at hm; obtain rfl := Option.some.inj hm
    have hb := prod_le (k0_fin kx) (k0_fin ky)
    obtain ⟨K, hK⟩ : ∃ K : Nat, 2 ^ 1500 = K := ⟨_, rfl⟩
    rw [hK] at hb ⊢
    rw [hq.un]
    unfold Fp.val
    split <;> omega
theorem fus_word {x y z : Nat} (hx : x < 4294967296) (hy : y < 4294967296) (hz : z < 4294967296) (mode : Int) : fusWd x y z mode = refFW x y z mode ∧ fusFl x y z mode = refFF x y z mode := by
  unfold fusWd fusFl refFW refFF
  rw [isN_k, isN_k, isN_k]
  by_cases hN : kS x = 2 ∨ kS y = 2 ∨ kS z = 2
  · have e : (decide (kS x = 2) || decide (kS y = 2) || decide (kS z = 2)) = true := by
      rcases hN with h | h | h <;> simp [h]
    rw [if_pos e, if_pos e, if_pos hN, if_pos hN]
    exact ⟨rfl, rfl⟩
  · have nx : kS x ≠ 2 := fun h => hN (.inl h)
    have ny : kS y ≠ 2 := fun h => hN (.inr (.inl h))
    have nz : kS z ≠ 2 := fun h => hN (.inr (.inr h))
    have e : ¬ (decide (kS x = 2) || decide (kS y = 2) || decide (kS z = 2)) = true := by simp [nx, ny, nz]
    rw [if_neg e, if_neg e, if_neg hN, if_neg hN]
    rcases mul_cases hx hy nx ny with ⟨h, h1⟩ | ⟨h, h1, h2⟩ | ⟨p, h, hp, kx, ky⟩
    · rw [h, if_pos h1, if_pos h1]; exact ⟨rfl, rfl⟩
    · rw [h, if_neg h2, if_neg h2, if_pos h1, if_pos h1]
      exact sum_inf_word _ hz nz mode
    · have n1 : ¬ ((kS x = 1 ∧ kS y = 0 ∧ mS y = 0) ∨ (kS y = 1 ∧ kS x = 0 ∧ mS x = 0)) := by omega
      have n2 : ¬ (kS x = 1 ∨ kS y = 1) := by omega
      rw [h, if_neg n1, if_neg n1, if_neg n2, if_neg n2]
      have hM : mS x * mS y ≤ 9007199254740992 := by
        have h1 := mS_lt x
        have h2 := mS_lt y
        have h3 : mS x * mS y ≤ 16777215 * 16777215 := Nat.mul_le_mul (by omega) (by omega)
        omega
      have e1 := eS_lo x kx
      have e2 := eS_lo y ky
      exact sum_fin_word (e := eS x + eS y) hp hM (by omega) (prod_le (k0_fin kx) (k0_fin ky)) hz nz mode
end Go.Proofs.YtifgngmebnjfkaaGreatDoor
end
