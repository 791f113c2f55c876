/- What the law's walk rests on, part 4: contracts of functions and plain facts. -/
import Derived.Test.YtifgngmebnjfkaaDoorRows
import Derived.WalkKit
import Derived.WalkSpells
import Derived.WalkLawsBesides
import Derived.BigQuiet
import Derived.Lib.Hide
import Derived.Deep.OwnRows
import Derived.OwnWalk
import Derived.LoopTactic
import Derived.Outline
import Derived.IntWalk
import Derived.OrdersHeld
import Derived.StillTail
import Derived.Deep.RegionHeld3
import Derived.Maps.AppendAt
import Derived.Deep.DeepCutAuto
import Derived.Deep.QuietTactic
import Derived.Lib.TrailingZeros
import Derived.Lib.BitFns
import Derived.Lib.Strings
import Derived.Lib.Slices
import Derived.Lib.Small
import Derived.Lib.Walk
import Ieee.Arith
import Derived.ProofKit
import Derived.OpenShut
import Derived.ShutString
import Derived.ChangeOld
import Derived.Below
import Derived.Deep.DeepHandedRow
import Derived.Deep.Strs
import Derived.Lib.LaidTab
import Derived.Test.YtifgngmebnjfkaaDoorZBtw3
set_option linter.unusedVariables false
set_option linter.unusedSimpArgs false
section
namespace Go.Proofs.YtifgngmebnjfkaaDoor
open Go.RowKit
theorem u64_or_sgn (a : Nat) (ha : a < 9223372036854775808) : bits .or .u64 (a : Int) 9223372036854775808 = ((a + 9223372036854775808 : Nat) : Int) := by
  rw [show (9223372036854775808 : Int) = ((9223372036854775808 : Nat) : Int) from rfl, u64_or_nat a 9223372036854775808 (by omega) (by decide), Nat.or_comm, nat_join 63 9223372036854775808 a (by decide) ha, Nat.add_comm]
set_option maxRecDepth 100000 in
set_option maxHeartbeats 600000 in
theorem m_copysign_neg (a : Nat) (ha : a < 9223372036854775808) (w : World) : Calls Tryd.prog 117 #[.float .f64 a, .float .f64 13830554455654793216] w fun e w' => e = .returned (.float .f64 (a + 9223372036854775808)) ∧ w = w' := by
  have h1 := u64_unsign a (by omega)
  rw [Nat.mod_eq_of_lt ha] at h1
  have h2 : bits .and .u64 13830554455654793216 9223372036854775808 = 9223372036854775808 := by decide +kernel
  have h3 := u64_or_sgn a ha
  generalize hs : a + 9223372036854775808 = s at *
  have HS := Lib.hid hs; clear ha hs
  go_enter Tryd.func117, Tryd.ntmps117
  go_wp2
  go_ret
  exact ⟨rfl, rfl⟩
set_option maxRecDepth 100000 in
set_option maxHeartbeats 600000 in
theorem nought_nn (mode : Int) (w : World) : Calls Tryd.prog 118 #[.bool true, .bool true, .int .i64 mode] w fun e w' => e = .returned (.float .f32 2147483648) ∧ w = w' := by
  have hcv := fun (w : World) => run_convert_float_float (P := Tryd.prog) w 40 31 .f64 .f32 9223372036854775808 2147483648 (by kernel_rfl) (by kernel_rfl) (by decide +kernel)
  have CP : Hid (∀ w, Calls Tryd.prog 117 #[.float .f64 0, .float .f64 13830554455654793216] w fun e w' => e = .returned (.float .f64 9223372036854775808) ∧ w = w') := Lib.hid (fun w => m_copysign_neg 0 (by decide) w)
  go_enter Tryd.func118, Tryd.ntmps118
  go_wp2_with fail
  refine (CP.out _).mono ?_; rintro e1 w1 ⟨rfl, rfl⟩
  go_wp2
  go_ret
  exact ⟨rfl, rfl⟩
set_option maxRecDepth 100000 in
set_option maxHeartbeats 600000 in
theorem nought_pp (mode : Int) (w : World) : Calls Tryd.prog 118 #[.bool false, .bool false, .int .i64 mode] w fun e w' => e = .returned (.float .f32 0) ∧ w = w' := by
  go_enter Tryd.func118, Tryd.ntmps118
  go_wp2
  go_ret
  exact ⟨rfl, rfl⟩
set_option maxRecDepth 100000 in
set_option maxHeartbeats 600000 in
theorem nought_true_down (w : World) : Calls Tryd.prog 118 #[.bool true, .bool false, .int .i64 4] w fun e w' => e = .returned (.float .f32 2147483648) ∧ w = w' := by
  have hcv := fun (w : World) => run_convert_float_float (P := Tryd.prog) w 40 31 .f64 .f32 9223372036854775808 2147483648 (by kernel_rfl) (by kernel_rfl) (by decide +kernel)
  have CP : Hid (∀ w, Calls Tryd.prog 117 #[.float .f64 0, .float .f64 13830554455654793216] w fun e w' => e = .returned (.float .f64 9223372036854775808) ∧ w = w') := Lib.hid (fun w => m_copysign_neg 0 (by decide) w)
  go_enter Tryd.func118, Tryd.ntmps118
  go_wp2_with fail
  refine (CP.out _).mono ?_; rintro e1 w1 ⟨rfl, rfl⟩
  go_wp2
  go_ret
  exact ⟨rfl, rfl⟩
set_option maxRecDepth 100000 in
set_option maxHeartbeats 600000 in
theorem nought_true_other (mode : Int) (hm : (mode == 4) = false) (w : World) : Calls Tryd.prog 118 #[.bool true, .bool false, .int .i64 mode] w fun e w' => e = .returned (.float .f32 0) ∧ w = w' := by
  go_enter Tryd.func118, Tryd.ntmps118
  go_wp2
  go_ret
  exact ⟨rfl, rfl⟩
set_option maxRecDepth 100000 in
set_option maxHeartbeats 600000 in
theorem nought_false_down (w : World) : Calls Tryd.prog 118 #[.bool false, .bool true, .int .i64 4] w fun e w' => e = .returned (.float .f32 2147483648) ∧ w = w' := by
  have hcv := fun (w : World) => run_convert_float_float (P := Tryd.prog) w 40 31 .f64 .f32 9223372036854775808 2147483648 (by kernel_rfl) (by kernel_rfl) (by decide +kernel)
  have CP : Hid (∀ w, Calls Tryd.prog 117 #[.float .f64 0, .float .f64 13830554455654793216] w fun e w' => e = .returned (.float .f64 9223372036854775808) ∧ w = w') := Lib.hid (fun w => m_copysign_neg 0 (by decide) w)
  go_enter Tryd.func118, Tryd.ntmps118
  go_wp2_with fail
  refine (CP.out _).mono ?_; rintro e1 w1 ⟨rfl, rfl⟩
  go_wp2
  go_ret
  exact ⟨rfl, rfl⟩
set_option maxRecDepth 100000 in
set_option maxHeartbeats 600000 in
theorem nought_false_other (mode : Int) (hm : (mode == 4) = false) (w : World) : Calls Tryd.prog 118 #[.bool false, .bool true, .int .i64 mode] w fun e w' => e = .returned (.float .f32 0) ∧ w = w' := by
  go_enter Tryd.func118, Tryd.ntmps118
  go_wp2
  go_ret
  exact ⟨rfl, rfl⟩
set_option maxRecDepth 100000 in
set_option maxHeartbeats 600000 in
theorem finite_core (s z : Nat) (b : Bool) (hs : Ieee.double.sub s s = some z) (hz : (FloatKind.f64.format.order z 0 == some .eq) = b) (w : World) : Calls Tryd.prog 89 #[.float .f64 s] w fun e w' => e = .returned (.bool b) ∧ w = w' := by
  have hf := fun t P w => run_float_arith (P := P) w .sub t .f64 _ _ _ hs
  clear hs
  go_enter Tryd.func89, Tryd.ntmps89
  go_wp2
  go_ret
  exact ⟨rfl, rfl⟩
set_option maxRecDepth 100000 in
set_option maxHeartbeats 600000 in
theorem sum_cancel (a b s r : Nat) (mode : Int) (hxa : (FloatKind.f64.format.order a a != some .eq) = false) (hxb : (FloatKind.f64.format.order b b != some .eq) = false) (hxs : (FloatKind.f64.format.order s s != some .eq) = false) (hadd : Ieee.double.add a b = some s) (FI : Hid (∀ w, Calls Tryd.prog 89 #[.float .f64 s] w fun e' w' => e' = .returned (.bool true) ∧ w = w')) (hz : (FloatKind.f64.format.order s 0 == some .eq) = true) (ha0 : (FloatKind.f64.format.order a 0 != some .eq) = true) (NT : Hid (∀ w, Calls Tryd.prog 118 #[.bool false, .bool true, .int .i64 mode] w fun e w' => e = .returned (.float .f32 r) ∧ w = w')) (w : World) : Calls Tryd.prog 87 #[.float .f64 a, .float .f64 b, .int .i64 mode] w fun e' w' => e' = .returned (.tuple #[.float .f32 r, .int .i64 0]) ∧ Within w w' := by
  have hadd' := fun t P w => run_float_arith (P := P) w .add t .f64 _ _ _ hadd
  clear hadd
  go_enter Tryd.func87, Tryd.ntmps87
  go_wp2_with fail
  refine (FI.out _).mono ?_; rintro e1 w1 ⟨rfl, rfl⟩
  go_wp2_with fail
  refine (NT.out _).mono ?_; rintro e2 w2 ⟨rfl, rfl⟩
  go_wp2
  go_ret2
  exact ⟨rfl, (by repeat (first | with_reducible exact Within.refl _ | with_reducible assumption | with_reducible refine Within.alloc ?_ _ | with_reducible refine Within.drew ?_ | with_reducible refine Within.setCell ?_ (by first | (simp; done) | (simp; omega)) _ | with_reducible refine Within.trans ?_ (by assumption)))⟩
set_option maxRecDepth 100000 in
set_option maxHeartbeats 600000 in
theorem add_core (x y a b r : Nat) (mode fl : Int) (KN : Hid (∀ w, Calls Tryd.prog 66 #[.int .i64 mode] w fun e' w' => e' = .returned (.bool true) ∧ w = w')) (hca : floatToFloatBits .f32 x .f64 = some a) (hcb : floatToFloatBits .f32 y .f64 = some b) (SU : Hid (∀ w, FmS w → Calls Tryd.prog 87 #[.float .f64 a, .float .f64 b, .int .i64 mode] w fun e' w' => e' = .returned (.tuple #[.float .f32 r, .int .i64 fl]) ∧ Within w w')) (w : World) (hT : FmS w) : Calls Tryd.prog 47 #[.float .f32 x, .float .f32 y, .int .i64 mode] w fun e' w' => e' = .returned (.tuple #[.float .f32 r, .int .i64 fl, .int .i64 0]) ∧ Within w w' := by
  have c1 := fun (w : World) => run_convert_float_float (P := Tryd.prog) w 31 40 .f32 .f64 x a (by kernel_rfl) (by kernel_rfl) hca
  have c2 := fun (w : World) => run_convert_float_float (P := Tryd.prog) w 31 40 .f32 .f64 y b (by kernel_rfl) (by kernel_rfl) hcb
  clear hca hcb
  go_enter Tryd.func47, Tryd.ntmps47
  go_wp2_with fail
  refine (KN.out _).mono ?_; rintro e1 w1 ⟨rfl, rfl⟩
  go_wp2_with fail
  refine (SU.out _ (hT.of (by repeat (first | with_reducible exact Within.refl _ | with_reducible assumption | with_reducible refine Within.alloc ?_ _ | with_reducible refine Within.drew ?_ | with_reducible refine Within.setCell ?_ (by first | (simp; done) | (simp; omega)) _ | with_reducible refine Within.trans ?_ (by assumption))))).mono ?_; rintro e2 w2 ⟨rfl, hb2⟩
  go_wp2
  go_ret3
  exact ⟨rfl, (by repeat (first | with_reducible exact Within.refl _ | with_reducible assumption | with_reducible refine Within.alloc ?_ _ | with_reducible refine Within.drew ?_ | with_reducible refine Within.setCell ?_ (by first | (simp; done) | (simp; omega)) _ | with_reducible refine Within.trans ?_ (by assumption)))⟩
set_option maxRecDepth 100000 in
set_option maxHeartbeats 600000 in
theorem is32_any (a b : Nat) (w : World) : Calls Tryd.prog 56 #[.float .f32 a, .int .u32 b] w fun e w' => e = .returned (.bool ((a : Int) == b)) ∧ w = w' := by
  go_enter Tryd.func56, Tryd.ntmps56
  go_wp2
  go_ret
  exact ⟨rfl, rfl⟩
set_option maxRecDepth 100000 in
set_option maxHeartbeats 600000 in
theorem f_any (a : Nat) (w : World) : Calls Tryd.prog 22 #[.int .u64 a] w fun e w' => e = .returned (.float .f64 a) ∧ w = w' := by
  go_enter Tryd.func22, Tryd.ntmps22
  go_wp2
  go_ret
  exact ⟨rfl, rfl⟩
set_option maxRecDepth 100000 in
set_option maxHeartbeats 600000 in
theorem g_any (a : Nat) (w : World) : Calls Tryd.prog 18 #[.int .u32 a] w fun e w' => e = .returned (.float .f32 a) ∧ w = w' := by
  go_enter Tryd.func18, Tryd.ntmps18
  go_wp2
  go_ret
  exact ⟨rfl, rfl⟩
theorem add_awake (w : World) (hT : FmS w) : Calls Tryd.prog 47 #[.float .f32 1065353216, .float .f32 3212836864, .int .i64 4] w fun e w' => e = .returned (.tuple #[.float .f32 2147483648, .int .i64 0, .int .i64 0]) ∧ Within w w' := by
  have FI := Lib.hid (fun w => finite_core 0 0 true (by decide +kernel) (by decide +kernel) w)
  have NT := Lib.hid (fun w => nought_false_down w)
  have SU := Lib.hid (fun (w : World) (_ : FmS w) => sum_cancel 4607182418800017408 13830554455654793216 0 2147483648 4 (by decide +kernel) (by decide +kernel) (by decide +kernel) (by decide +kernel) FI (by decide +kernel) (by decide +kernel) NT w)
  exact add_core 1065353216 3212836864 _ _ _ 4 _ (Lib.hid fun w => known_any 4 w) (by decide +kernel) (by decide +kernel) SU w hT
theorem nar_up (w : World) (hT : FmS w) : Calls Tryd.prog 21 #[.float .f64 4607182419068452864, .int .i64 3] w fun e w' => e = .returned (.tuple #[.float .f32 1065353217, .int .i64 1, .int .i64 0]) ∧ Within w w' := by
  have h := Narrow_any 4607182419068452864 3 (by decide) w hT
  rwa [show nWord 4607182419068452864 3 = 1065353217 by decide +kernel, show nFlags 4607182419068452864 3 = 1 by decide +kernel, show nErr 3 = 0 by decide] at h
theorem nar_near (w : World) (hT : FmS w) : Calls Tryd.prog 21 #[.float .f64 4607182419068452864, .int .i64 0] w fun e w' => e = .returned (.tuple #[.float .f32 1065353216, .int .i64 1, .int .i64 0]) ∧ Within w w' := by
  have h := Narrow_any 4607182419068452864 0 (by decide) w hT
  rwa [show nWord 4607182419068452864 0 = 1065353216 by decide +kernel, show nFlags 4607182419068452864 0 = 1 by decide +kernel, show nErr 0 = 0 by decide] at h
theorem fits_half (w : World) (hT : FmS w) : Calls Tryd.prog 28 #[.float .f64 4602678819172646912] w fun e w' => e = .returned (.bool true) ∧ Within w w' := by
  have h := Fits_any 4602678819172646912 (by decide) w hT
  rwa [show (nFlags 4602678819172646912 0 == 0) = true by decide +kernel] at h
theorem widen_half (w : World) : Calls Tryd.prog 26 #[.float .f32 1056964608] w fun e w' => e = .returned (.float .f64 4602678819172646912) ∧ Within w w' := by
  have h := Widen_any 1056964608 (by decide) w
  rwa [show wWord 1056964608 = 4602678819172646912 by decide +kernel] at h
theorem int_awake (w : World) : Calls Tryd.prog 33 #[.float .f64 4643985272004935680, .int .i64 8, .int .i64 0] w fun e w' => e = .returned (.tuple #[.int .i64 127, .int .i64 8, .int .i64 0]) ∧ Within w w' := by
  have WH := Lib.hid (fun w => Whole_any 4643985272004935680 0 (by decide) w)
  rw [show hWord 4643985272004935680 0 = 4643985272004935680 by decide +kernel, show hFlags 4643985272004935680 0 = 0 by decide +kernel, show nErr 0 = 0 by decide] at WH
  exact Int_8_high 4643985272004935680 4643985272004935680 0 0 WH (by decide +kernel) (by decide +kernel) (by decide +kernel) w
set_option maxRecDepth 100000 in
set_option maxHeartbeats 600000 in
theorem awake_true (w : World) (hT : FmS w) : Calls Tryd.prog 12 #[] w fun e w' => e = .returned (.bool true) ∧ Within w w' := by
  have i1 : ((1065353217 : Int) == 1065353217) = true := by decide
  have i2 : ((1065353216 : Int) == 1065353216) = true := by decide
  have i3 : ((2147483648 : Int) == 2147483648) = true := by decide
  have z : (FloatKind.f64.format.order 4602678819172646912 4602678819172646912 == some .eq) = true := by decide +kernel
  have I1 : Hid (∀ w, Calls Tryd.prog 56 #[.float .f32 1065353217, .int .u32 1065353217] w fun e w' => e = .returned (.bool true) ∧ w = w') := Lib.hid (fun w => is32_any 1065353217 1065353217 w)
  have I2 : Hid (∀ w, Calls Tryd.prog 56 #[.float .f32 1065353216, .int .u32 1065353216] w fun e w' => e = .returned (.bool true) ∧ w = w') := Lib.hid (fun w => is32_any 1065353216 1065353216 w)
  have I3 : Hid (∀ w, Calls Tryd.prog 56 #[.float .f32 2147483648, .int .u32 2147483648] w fun e w' => e = .returned (.bool true) ∧ w = w') := Lib.hid (fun w => is32_any 2147483648 2147483648 w)
  clear i1 i2 i3
  go_enter Tryd.func12, Tryd.ntmps12
  go_wp2_with fail
  refine (nar_up _ (hT.of (by repeat (first | with_reducible exact Within.refl _ | with_reducible assumption | with_reducible refine Within.alloc ?_ _ | with_reducible refine Within.drew ?_ | with_reducible refine Within.setCell ?_ (by first | (simp; done) | (simp; omega)) _ | with_reducible refine Within.trans ?_ (by assumption))))).mono ?_; rintro e1 w1 ⟨rfl, hb1⟩
  go_wp2_with fail
  refine (nar_near _ (hT.of (by repeat (first | with_reducible exact Within.refl _ | with_reducible assumption | with_reducible refine Within.alloc ?_ _ | with_reducible refine Within.drew ?_ | with_reducible refine Within.setCell ?_ (by first | (simp; done) | (simp; omega)) _ | with_reducible refine Within.trans ?_ (by assumption))))).mono ?_; rintro e2 w2 ⟨rfl, hb2⟩
  go_wp2_with fail
  refine (add_awake _ (hT.of (by repeat (first | with_reducible exact Within.refl _ | with_reducible assumption | with_reducible refine Within.alloc ?_ _ | with_reducible refine Within.drew ?_ | with_reducible refine Within.setCell ?_ (by first | (simp; done) | (simp; omega)) _ | with_reducible refine Within.trans ?_ (by assumption))))).mono ?_; rintro e3 w3 ⟨rfl, hb3⟩
  go_wp2_with fail
  refine (int_awake _).mono ?_; rintro e4 w4 ⟨rfl, hb4⟩
  go_wp2_with fail
  refine (I1.out _).mono ?_; rintro e5 w5 ⟨rfl, rfl⟩
  go_wp2_with fail
  refine (I2.out _).mono ?_; rintro e6 w6 ⟨rfl, rfl⟩
  go_wp2_with fail
  refine (I3.out _).mono ?_; rintro e7 w7 ⟨rfl, rfl⟩
  go_wp2_with fail
  refine (fits_half _ (hT.of (by repeat (first | with_reducible exact Within.refl _ | with_reducible assumption | with_reducible refine Within.alloc ?_ _ | with_reducible refine Within.drew ?_ | with_reducible refine Within.setCell ?_ (by first | (simp; done) | (simp; omega)) _ | with_reducible refine Within.trans ?_ (by assumption))))).mono ?_; rintro e8 w8 ⟨rfl, hb8⟩
  go_wp2_with fail
  refine (widen_half _).mono ?_; rintro e9 w9 ⟨rfl, hb9⟩
  go_wp2
  go_ret
  exact ⟨rfl, (by repeat (first | with_reducible exact Within.refl _ | with_reducible assumption | with_reducible refine Within.alloc ?_ _ | with_reducible refine Within.drew ?_ | with_reducible refine Within.setCell ?_ (by first | (simp; done) | (simp; omega)) _ | with_reducible refine Within.trans ?_ (by assumption)))⟩
end Go.Proofs.YtifgngmebnjfkaaDoor
end

section
namespace Go.Proofs.YtifgngmebnjfkaaDoor
theorem cutQ_scale (m s j : Nat) (neg : Bool) (mode : Int) : cutQ (m * 2 ^ j) (s + j) neg mode = cutQ m s neg mode := by
  unfold cutQ goes
  have hj := Nat.two_pow_pos j
  have e1 : m * 2 ^ j / 2 ^ (s + j) = m / 2 ^ s := by rw [Nat.pow_add, Nat.mul_div_mul_right _ _ hj]
  have e2 : m * 2 ^ j % 2 ^ (s + j) = m % 2 ^ s * 2 ^ j := by rw [Nat.pow_add, Nat.mul_mod_mul_right]
  rw [e1, e2, Nat.pow_add]
  generalize m % 2 ^ s = r
  generalize m / 2 ^ s = q
  generalize 2 ^ s = p
  generalize 2 ^ j = t at *
  have c0 : (r * t = 0) ↔ r = 0 := by
    constructor
    · intro h; rcases Nat.mul_eq_zero.1 h with h | h
      · exact h
      · omega
    · intro h; rw [h, Nat.zero_mul]
  have c1 : (p * t < 2 * (r * t)) ↔ p < 2 * r := by rw [← Nat.mul_assoc]; exact Nat.mul_lt_mul_right hj
  have c2 : (p * t = 2 * (r * t)) ↔ p = 2 * r := by rw [← Nat.mul_assoc]; exact ⟨fun h => Nat.eq_of_mul_eq_mul_right hj h, fun h => by rw [h]⟩
  have c3 : (p * t ≤ 2 * (r * t)) ↔ p ≤ 2 * r := by rw [← Nat.mul_assoc]; exact Nat.mul_le_mul_right_iff hj
  simp only [c0, c1, c2, c3]
theorem cutQ_zero (m : Nat) (neg : Bool) (mode : Int) : cutQ m 0 neg mode = m := by
  unfold cutQ goes
  rw [if_pos (by rw [Nat.pow_zero, Nat.mod_one]), Nat.pow_zero, Nat.div_one]; rfl
theorem rQ_fine (D lo : Int) (neg : Bool) (m : Nat) (e mode : Int) (J : Nat) (h1 : 0 ≤ e + J) (h2 : 0 ≤ rK D lo m e + J) :
    rQ D lo neg m e mode = cutQ (m * 2 ^ (e + J).toNat) (rK D lo m e + J).toNat neg mode := by
  unfold rQ
  generalize rK D lo m e = k at *
  split
  · have e1 : m * 2 ^ (e + J).toNat = m * 2 ^ (-(k - e)).toNat * 2 ^ (k + J).toNat := by
      rw [Nat.mul_assoc, ← Nat.pow_add]; congr 2; omega
    have := cutQ_scale (m * 2 ^ (-(k - e)).toNat) 0 (k + J).toNat neg mode
    rw [Nat.zero_add, cutQ_zero] at this
    rw [e1, this]
  · have := cutQ_scale m (k - e).toNat (e + J).toNat neg mode
    rw [← this]; congr 1; omega
end Go.Proofs.YtifgngmebnjfkaaDoor
end

section
namespace Go.Proofs.YtifgngmebnjfkaaDoor
theorem blen_bitLen {m : Nat} (hm : m < 18446744073709551616) : blen m = Lib.bitLen m := by
  by_cases h : m = 0
  · subst h; rfl
  · rw [blen_pos h, bitLen_log2 m h hm]
theorem blen_mul (m k : Nat) (h : m ≠ 0) : blen (m * 2 ^ k) = blen m + k := by
  have h2 : m * 2 ^ k ≠ 0 := Nat.mul_ne_zero h (Nat.ne_of_gt (Nat.two_pow_pos k))
  rw [blen_pos h, blen_pos h2, Fp.log2_mul_pow m k h]; omega
theorem upB_cut (ng : Bool) (M s : Nat) (mode : Int) (hs : 1 ≤ s) : upB ng (M / 2 ^ s) (cutC M s false) mode = goes M s ng mode := by
  have hh := half_pow s hs
  unfold goes cutC
  by_cases h0 : M % 2 ^ s = 0
  · rw [if_pos h0, if_pos ⟨h0, rfl⟩]
    unfold upB
    repeat' split
    all_goals simp
  · rw [if_neg h0, if_neg (fun h => h0 h.1), if_neg (fun h => by simp at h)]
    generalize M % 2 ^ s = r at *
    generalize M / 2 ^ s = q at *
    generalize 2 ^ (s - 1) = H at *
    generalize 2 ^ s = Z at *
    subst hh
    unfold upB
    have c1 : (0 < cmpN r H) ↔ 2 * H < 2 * r := by unfold cmpN; repeat' split
                                                   all_goals omega
    have c2 : (cmpN r H = 0) ↔ 2 * H = 2 * r := by unfold cmpN; repeat' split
                                                   all_goals omega
    have c3 : (0 ≤ cmpN r H) ↔ 2 * H ≤ 2 * r := by unfold cmpN; repeat' split
                                                   all_goals omega
    have c4 : -2 < cmpN r H := by have := cmpN_range r H; omega
    by_cases m0 : mode = 0
    · rw [if_pos m0, if_pos m0, decide_eq_decide.2 c1, decide_eq_decide.2 c2]
    rw [if_neg m0, if_neg m0]
    by_cases m1 : mode = 1
    · rw [if_pos m1, if_pos m1, decide_eq_decide.2 c3]
    rw [if_neg m1, if_neg m1]
    by_cases m3 : mode = 3
    · rw [if_pos m3, if_pos m3, decide_eq_true c4, Bool.and_true]
    rw [if_neg m3, if_neg m3]
    by_cases m4 : mode = 4
    · rw [if_pos m4, if_pos m4, decide_eq_true c4, Bool.and_true]
    rw [if_neg m4, if_neg m4]
theorem upB_exact (ng : Bool) (q : Nat) (mode : Int) : upB ng q (-2) mode = false := by
  unfold upB
  repeat' split
  all_goals simp
theorem gQ_fine (D lo : Int) (ng : Bool) (M : Nat) (e mode : Int) (J : Nat) (h1 : 0 ≤ e + J) (h2 : 0 ≤ gK D lo M e + J) :
    gQ D lo ng M e false mode = cutQ (M * 2 ^ (e + J).toNat) (gK D lo M e + J).toNat ng mode := by
  unfold gQ gq gc
  generalize gK D lo M e = k at *
  by_cases h : k ≤ e
  · rw [if_pos h, if_pos h, if_neg Bool.false_ne_true, upB_exact]
    have e1 : M * 2 ^ (e + J).toNat = M * 2 ^ (e - k).toNat * 2 ^ (k + J).toNat := by
      rw [Nat.mul_assoc, ← Nat.pow_add]; congr 2; omega
    have := cutQ_scale (M * 2 ^ (e - k).toNat) 0 (k + J).toNat ng mode
    rw [Nat.zero_add, cutQ_zero] at this
    rw [e1, this]; simp
  · rw [if_neg h, if_neg h, upB_cut _ _ _ _ (by omega)]
    have := cutQ_scale M (k - e).toNat (e + J).toNat ng mode
    rw [show (k - e).toNat + (e + J).toNat = (k + J).toNat by omega] at this
    rw [this]; rfl
theorem gc_fine (D lo : Int) (M : Nat) (e : Int) (J : Nat) (h1 : 0 ≤ e + J) (h2 : 0 ≤ gK D lo M e + J) :
    (-2 < gc D lo M e false) ↔ M * 2 ^ (e + J).toNat % 2 ^ (gK D lo M e + J).toNat ≠ 0 := by
  unfold gc
  generalize gK D lo M e = k at *
  by_cases h : k ≤ e
  · rw [if_pos h, if_neg Bool.false_ne_true]
    have e1 : M * 2 ^ (e + J).toNat = M * 2 ^ (e - k).toNat * 2 ^ (k + J).toNat := by
      rw [Nat.mul_assoc, ← Nat.pow_add]; congr 2; omega
    rw [e1, Nat.mul_mod_left]; simp
  · rw [if_neg h]
    obtain ⟨s, hs⟩ : ∃ s, s = (k - e).toNat := ⟨_, rfl⟩
    rw [← hs, show (k + J).toNat = s + (e + J).toNat by omega, Nat.pow_add, Nat.mul_mod_mul_right]
    have hp := Nat.two_pow_pos (e + J).toNat
    unfold cutC
    by_cases h0 : M % 2 ^ s = 0
    · rw [if_pos ⟨h0, rfl⟩, h0]; simp
    · rw [if_neg (fun h => h0 h.1), if_neg (fun h => by simp at h)]
      have := cmpN_range (M % 2 ^ s) (2 ^ (s - 1))
      constructor
      · intro _ h
        rcases Nat.mul_eq_zero.1 h with h | h
        · exact h0 h
        · omega
      · intro _; omega
theorem rLost_fine (D lo : Int) (m : Nat) (e : Int) (J : Nat) (h1 : 0 ≤ e + J) (h2 : 0 ≤ rK D lo m e + J) :
    rLost D lo m e = decide (m * 2 ^ (e + J).toNat % 2 ^ (rK D lo m e + J).toNat ≠ 0) := by
  unfold rLost
  generalize rK D lo m e = k at *
  by_cases h : k - e ≤ 0
  · rw [if_pos h]
    have e1 : m * 2 ^ (e + J).toNat = m * 2 ^ (e - k).toNat * 2 ^ (k + J).toNat := by
      rw [Nat.mul_assoc, ← Nat.pow_add]; congr 2; omega
    rw [e1, Nat.mul_mod_left]; simp
  · rw [if_neg h]
    obtain ⟨s, hs⟩ : ∃ s, s = (k - e).toNat := ⟨_, rfl⟩
    rw [← hs, show (k + J).toNat = s + (e + J).toNat by omega, Nat.pow_add, Nat.mul_mod_mul_right, decide_eq_decide]
    have hp := Nat.two_pow_pos (e + J).toNat
    constructor
    · intro h0 h
      rcases Nat.mul_eq_zero.1 h with h | h
      · exact h0 h
      · omega
    · intro h0 h; rw [h, Nat.zero_mul] at h0; exact h0 rfl
theorem g_is_r {D lo : Int} {ng : Bool} {m M : Nat} {e E mode : Int} (J : Nat) (h1 : 0 ≤ e + J) (h2 : 0 ≤ E + J) (h3 : 0 ≤ lo + J) (hm0 : m ≠ 0) (hm : m < 18446744073709551616) (hv : m * 2 ^ (e + J).toNat = M * 2 ^ (E + J).toNat) :
    gK D lo M E = rK D lo m e ∧ gQ D lo ng M E false mode = rQ D lo ng m e mode ∧ (decide (-2 < gc D lo M E false) = rLost D lo m e) ∧ E + (blen M : Nat) = e + (Lib.bitLen m : Nat) ∧ M ≠ 0 := by
  have hM0 : M ≠ 0 := by
    intro h; rw [h, Nat.zero_mul] at hv
    exact Nat.mul_ne_zero hm0 (Nat.ne_of_gt (Nat.two_pow_pos _)) hv
  have hb : E + (blen M : Nat) = e + (Lib.bitLen m : Nat) := by
    have b1 := blen_mul m (e + J).toNat hm0
    have b2 := blen_mul M (E + J).toNat hM0
    rw [hv, b2, blen_bitLen hm] at b1
    omega
  have hk : gK D lo M E = rK D lo m e := by unfold gK rK; rw [hb]
  have hk0 : 0 ≤ rK D lo m e + J := by have : lo ≤ rK D lo m e := Int.le_max_right _ _; omega
  refine ⟨hk, ?_, ?_, hb, hM0⟩
  · rw [gQ_fine D lo ng M E mode J h2 (by omega), rQ_fine D lo ng m e mode J h1 hk0, hk, hv]
  · rw [rLost_fine D lo m e J h1 hk0, decide_eq_decide, gc_fine D lo M E J h2 (by omega), hk, hv]
theorem topR_is : topR = rTop := rfl
theorem gFlags_is {D lo most : Int} {ng : Bool} {m M : Nat} {e E mode : Int} (J : Nat) (h1 : 0 ≤ e + J) (h2 : 0 ≤ E + J) (h3 : 0 ≤ lo + J) (hm0 : m ≠ 0) (hm : m < 18446744073709551616) (hv : m * 2 ^ (e + J).toNat = M * 2 ^ (E + J).toNat) (hQ : rQ D lo ng m e mode < 18446744073709551616) :
    gFlags D lo most ng M E false mode = rFlags D lo most ng m e mode ∧ gOver D lo most ng M E false mode = rOver D lo most ng m e mode := by
  obtain ⟨k1, k2, k3, k4, _⟩ := g_is_r (D := D) (lo := lo) (ng := ng) (mode := mode) J h1 h2 h3 hm0 hm hv
  have ho : gOver D lo most ng M E false mode = rOver D lo most ng m e mode := by
    unfold gOver rOver; rw [k1, k2, blen_bitLen hQ]
  refine ⟨?_, ho⟩
  unfold gFlags rFlags gFl
  rw [ho, k4, ← k3]
  by_cases h : rOver D lo most ng m e mode = true
  · rw [if_pos h, if_pos h]
  · rw [if_neg h, if_neg h]
    by_cases h2 : -2 < gc D lo M E false
    · rw [if_pos h2, if_pos (decide_eq_true h2)]
    · rw [if_neg h2, decide_eq_false h2, if_neg Bool.false_ne_true]
theorem grid_rung (f : Ieee.Format) (F q j : Nat) (hF : f.fractionBits = F) (h : q ≤ 2 ^ (F + 1)) (h2 : 2 ^ F ≤ q ∨ j = 0) : Fp.grid f (q * 2 ^ j) 0 = j * 2 ^ F + q := by
  have hb : f.binade = 2 ^ F := by show 2 ^ f.fractionBits = _; rw [hF]
  unfold Fp.grid
  rw [hb, hF]
  by_cases h0 : q = 0
  · subst h0
    rcases h2 with h2 | h2
    · have := Nat.two_pow_pos F; omega
    · subst h2; simp [Fp.rne]
  rw [Fp.log2_mul_pow q j h0]
  by_cases hq : q < 2 ^ F
  · have hj : j = 0 := by rcases h2 with h2 | h2 <;> omega
    have hl : q.log2 < F := (Nat.log2_lt h0).2 hq
    subst hj
    rw [show max (q.log2 + 0 - F) 0 = 0 by omega]
    rw [Nat.pow_zero, Nat.mul_one, Fp.rne_one]; all_goals simp
  · by_cases hq2 : q < 2 ^ (F + 1)
    · have hl : q.log2 = F := (Nat.log2_eq_iff h0).2 ⟨by omega, hq2⟩
      rw [hl, show max (F + j - F) 0 = j by omega, Fp.rne_mul q _ (Nat.two_pow_pos j)]; all_goals simp
    · have hqe : q = 2 ^ (F + 1) := by omega
      subst hqe
      rw [Nat.log2_two_pow, show max (F + 1 + j - F) 0 = j + 1 by omega]
      have e : 2 ^ (F + 1) * 2 ^ j = 2 ^ F * 2 ^ (j + 1) := by rw [← Nat.pow_add, ← Nat.pow_add]; congr 1; omega
      rw [e, Fp.rne_mul _ _ (Nat.two_pow_pos _), Nat.pow_succ]
      rw [Nat.sub_zero, Nat.add_mul]; omega
end Go.Proofs.YtifgngmebnjfkaaDoor
end

section
namespace Go.Proofs.YtifgngmebnjfkaaDoor
theorem cut_same {m n t : Nat} (h1 : m / 2 ^ t = n / 2 ^ t) (h2 : m % 2 ^ t = 0 ↔ n % 2 ^ t = 0) (neg : Bool) (mode : Int) : cutQ m (t + 1) neg mode = cutQ n (t + 1) neg mode ∧ (m % 2 ^ (t + 1) = 0 ↔ n % 2 ^ (t + 1) = 0) := by
  have hp : 2 ^ (t + 1) = 2 ^ t * 2 := Nat.pow_succ 2 t
  have key : ∀ m : Nat, m / 2 ^ (t + 1) = m / 2 ^ t / 2 ∧ m % 2 ^ (t + 1) = m % 2 ^ t + 2 ^ t * (m / 2 ^ t % 2) := by
    intro m
    rw [hp]
    exact ⟨(Nat.div_div_eq_div_mul m _ _).symm, Nat.mod_mul⟩
  obtain ⟨a1, a2⟩ := key m
  obtain ⟨b1, b2⟩ := key n
  have hm := Nat.mod_lt m (Nat.two_pow_pos t)
  have hn := Nat.mod_lt n (Nat.two_pow_pos t)
  unfold cutQ goes
  rw [a1, b1, a2, b2, h1, hp]
  generalize n / 2 ^ t = q at *
  generalize m % 2 ^ t = r at *
  generalize n % 2 ^ t = r' at *
  generalize 2 ^ t = Z at *
  clear key a1 a2 b1 b2 h1 hp
  rcases Nat.mod_two_eq_zero_or_one q with hq | hq
  · rw [hq, Nat.mul_zero, Nat.add_zero, Nat.add_zero]
    refine ⟨?_, h2⟩
    have e1 : (r = 0) = (r' = 0) := propext h2
    have e2 : (Z * 2 < 2 * r) = (Z * 2 < 2 * r') := propext (by omega)
    have e3 : (Z * 2 = 2 * r) = (Z * 2 = 2 * r') := propext (by omega)
    have e4 : (Z * 2 ≤ 2 * r) = (Z * 2 ≤ 2 * r') := propext (by omega)
    simp only [e1, e2, e3, e4]
  · rw [hq, Nat.mul_one]
    refine ⟨?_, by omega⟩
    have e1 : (r + Z = 0) = (r' + Z = 0) := propext (by omega)
    have e2 : (Z * 2 < 2 * (r + Z)) = (Z * 2 < 2 * (r' + Z)) := propext (by omega)
    have e3 : (Z * 2 = 2 * (r + Z)) = (Z * 2 = 2 * (r' + Z)) := propext (by omega)
    have e4 : (Z * 2 ≤ 2 * (r + Z)) = (Z * 2 ≤ 2 * (r' + Z)) := propext (by omega)
    simp only [e1, e2, e3, e4]
theorem g_near {D lo : Int} {ng : Bool} {m M : Nat} {e E mode : Int} (J t : Nat) (h1 : 0 ≤ e + J) (h2 : 0 ≤ E + J) (ht : rK D lo m e + J = (t : Int) + 1) (hb : E + (blen M : Nat) = e + (Lib.bitLen m : Nat))
    (hf : M * 2 ^ (E + J).toNat / 2 ^ t = m * 2 ^ (e + J).toNat / 2 ^ t) (hz : M * 2 ^ (E + J).toNat % 2 ^ t = 0 ↔ m * 2 ^ (e + J).toNat % 2 ^ t = 0) :
    gK D lo M E = rK D lo m e ∧ gQ D lo ng M E false mode = rQ D lo ng m e mode ∧ (decide (-2 < gc D lo M E false) = rLost D lo m e) := by
  have hk : gK D lo M E = rK D lo m e := by unfold gK rK; rw [hb]
  obtain ⟨c1, c2⟩ := cut_same hf hz ng mode
  have hN : (rK D lo m e + J).toNat = t + 1 := by omega
  refine ⟨hk, ?_, ?_⟩
  · rw [gQ_fine D lo ng M E mode J h2 (by omega), rQ_fine D lo ng m e mode J h1 (by omega), hk, hN]; exact c1
  · rw [rLost_fine D lo m e J h1 (by omega), decide_eq_decide, gc_fine D lo M E J h2 (by omega), hk, hN]
    exact ⟨fun h k => h (c2.2 k), fun h k => h (c2.1 k)⟩
end Go.Proofs.YtifgngmebnjfkaaDoor
end

section
namespace Go.Proofs.YtifgngmebnjfkaaDoor
def Fi (x : Nat) : Prop := x < 18446744073709551616 ∧ x % 9223372036854775808 < 9218868437227405312
def rn (z : Int) : Int := if z < 0 then -((Fp.mag Ieee.double (Fp.grid Ieee.double z.natAbs 0) : Nat) : Int) else ((Fp.mag Ieee.double (Fp.grid Ieee.double z.natAbs 0) : Nat) : Int)
theorem rn_zero : rn 0 = 0 := by unfold rn; rw [if_neg (by decide), Int.natAbs_zero, Fp.grid_zero, Fp.mag_zero]; rfl
theorem rn_le {z : Int} {k : Nat} (hk : k < 2098) (h : z.natAbs ≤ 2 ^ k) : (rn z).natAbs ≤ 2 ^ k := by
  have hR : Fp.Rep Ieee.double (2 ^ k) := by
    refine Fp.rep_of Ieee.double 1 k (Nat.one_mul _).symm (by decide) ?_
    rw [Fp.mag_infD]
    exact Nat.pow_lt_pow_right (by decide) (by unfold Fp.dtop; omega)
  have hg := Fp.mag_mono Ieee.double (Fp.grid_mono Ieee.double Fp.dF 0 h)
  rw [hR.2] at hg
  unfold rn
  generalize Fp.mag Ieee.double (Fp.grid Ieee.double z.natAbs 0) = g at *
  split <;> omega
def flim : Nat := 2000
theorem word_fi (b : Bool) {r : Nat} (h : r < 9218868437227405312) : Fi (Ieee.double.word b r) ∧ Fp.un Ieee.double (Ieee.double.word b r) = if b then -((Fp.mag Ieee.double r : Nat) : Int) else ((Fp.mag Ieee.double r : Nat) : Int) := by
  have hs : r < Ieee.double.signWeight := by rw [Fp.dS]; omega
  have h1 := Fp.rg_word Ieee.double b r hs
  have h2 := Fp.sg_word Ieee.double b r hs
  refine ⟨⟨?_, ?_⟩, ?_⟩
  · unfold Ieee.Format.word; rw [Fp.dS]; split <;> omega
  · rw [← Fp.rg64, h1]; exact h
  · unfold Fp.un; rw [h1, h2]
theorem Fi.rg {x : Nat} (h : Fi x) : Fp.rg Ieee.double x < Ieee.double.infRung := by rw [Fp.rg64, Fp.dI]; exact h.2
theorem Fi.le {x : Nat} (h : Fi x) : x % 9223372036854775808 ≤ 9218868437227405312 := Nat.le_of_lt h.2
theorem rung_small {z : Int} (h : z.natAbs ≤ 2 ^ flim) : Fp.rung Ieee.double z.natAbs = Fp.grid Ieee.double z.natAbs 0 ∧ Fp.grid Ieee.double z.natAbs 0 < 9218868437227405312 := by
  have hR : Fp.Rep Ieee.double (2 ^ flim) := by
    refine Fp.rep_of Ieee.double 1 flim (Nat.one_mul _).symm (by decide) ?_
    rw [Fp.mag_infD]
    exact Nat.pow_lt_pow_right (by decide) (by unfold Fp.dtop flim; omega)
  have hg := Fp.grid_mono Ieee.double Fp.dF 0 h
  have h1 := hR.1
  rw [Fp.dI] at h1
  unfold Fp.rung
  rw [Fp.dI]
  omega
theorem add_ok {x y : Nat} (hx : Fi x) (hy : Fi y) (hb : (Fp.un Ieee.double x + Fp.un Ieee.double y).natAbs ≤ 2 ^ flim) :
    ∃ r, Ieee.double.add x y = some r ∧ Fi r ∧ Fp.un Ieee.double r = rn (Fp.un Ieee.double x + Fp.un Ieee.double y) := by
  obtain ⟨r1, r2⟩ := rung_small hb
  have h := Fp.add_fin Ieee.double x y hx.rg hy.rg
  rw [r1] at h
  refine ⟨_, h, (word_fi _ r2).1, ?_⟩
  rw [(word_fi _ r2).2]
  unfold rn
  generalize hz : Fp.un Ieee.double x + Fp.un Ieee.double y = z at *
  by_cases h0 : z = 0
  · rw [if_pos h0, h0, Int.natAbs_zero, Fp.grid_zero, Fp.mag_zero]
    split <;> rfl
  · rw [if_neg h0]
    by_cases hn : z < 0
    · rw [decide_eq_true hn, if_pos rfl, if_pos hn]
    · rw [decide_eq_false hn, if_neg Bool.false_ne_true, if_neg hn]
theorem sub_ok {x y : Nat} (hx : Fi x) (hy : Fi y) (hb : (Fp.un Ieee.double x - Fp.un Ieee.double y).natAbs ≤ 2 ^ flim) :
    ∃ r, Ieee.double.sub x y = some r ∧ Fi r ∧ Fp.un Ieee.double r = rn (Fp.un Ieee.double x - Fp.un Ieee.double y) := by
  obtain ⟨r1, r2⟩ := rung_small hb
  have h := Fp.sub_fin Ieee.double x y hx.rg hy.rg
  rw [r1] at h
  refine ⟨_, h, (word_fi _ r2).1, ?_⟩
  rw [(word_fi _ r2).2]
  unfold rn
  generalize hz : Fp.un Ieee.double x - Fp.un Ieee.double y = z at *
  by_cases h0 : z = 0
  · rw [if_pos h0, h0, Int.natAbs_zero, Fp.grid_zero, Fp.mag_zero]
    split <;> rfl
  · rw [if_neg h0]
    by_cases hn : z < 0
    · rw [decide_eq_true hn, if_pos rfl, if_pos hn]
    · rw [decide_eq_false hn, if_neg Bool.false_ne_true, if_neg hn]
/-! the steps of a sum -/
def sumS (A B : Int) : Int := rn (A + B)
def sumT (A B : Int) : Int := rn (sumS A B - A)
def sumL (A B : Int) : Int := rn (rn (A - rn (sumS A B - sumT A B)) + rn (B - sumT A B))
theorem small_add {a b : Int} {k : Nat} (h : a.natAbs ≤ 2 ^ k) (g : b.natAbs ≤ 2 ^ k) : (a + b).natAbs ≤ 2 ^ (k + 1) ∧ (a - b).natAbs ≤ 2 ^ (k + 1) := by
  rw [Nat.pow_succ]; omega
theorem pow_le_flim {n k : Nat} (h : n ≤ 2 ^ k) (hk : k ≤ 2000) : n ≤ 2 ^ flim := Nat.le_trans h (Nat.pow_le_pow_right (by decide) (by unfold flim; exact hk))
theorem sum_words {a b : Nat} (ha : Fi a) (hb : Fi b) (h1 : (Fp.un Ieee.double a).natAbs ≤ 2 ^ 1500) (h2 : (Fp.un Ieee.double b).natAbs ≤ 2 ^ 1500) :
    ∃ s t u v x l, Ieee.double.add a b = some s ∧ Ieee.double.sub s a = some t ∧ Ieee.double.sub s t = some u ∧ Ieee.double.sub a u = some v ∧ Ieee.double.sub b t = some x ∧ Ieee.double.add v x = some l ∧
      Fi s ∧ Fi l ∧ Fp.un Ieee.double s = sumS (Fp.un Ieee.double a) (Fp.un Ieee.double b) ∧ Fp.un Ieee.double l = sumL (Fp.un Ieee.double a) (Fp.un Ieee.double b) := by
  obtain ⟨K, hK⟩ : ∃ K : Nat, K = 1500 := ⟨_, rfl⟩
  rw [← hK] at h1 h2
  have b1 := (small_add h1 h2).1
  obtain ⟨s, s1, s2, s3⟩ := add_ok ha hb (pow_le_flim b1 (by omega))
  have c1 := rn_le (by omega) b1
  rw [← s3] at c1
  have b2 := (small_add c1 (Nat.le_trans h1 (Nat.pow_le_pow_right (by decide) (by omega : K ≤ K + 1)))).2
  obtain ⟨t, t1, t2, t3⟩ := sub_ok s2 ha (pow_le_flim b2 (by omega))
  have c2 := rn_le (by omega) b2
  rw [← t3] at c2
  have b3 := (small_add (Nat.le_trans c1 (Nat.pow_le_pow_right (by decide) (by omega : K + 1 ≤ K + 1 + 1))) c2).2
  obtain ⟨u, u1, u2, u3⟩ := sub_ok s2 t2 (pow_le_flim b3 (by omega))
  have c3 := rn_le (by omega) b3
  rw [← u3] at c3
  have b4 := (small_add (Nat.le_trans h1 (Nat.pow_le_pow_right (by decide) (by omega : K ≤ K + 1 + 1 + 1))) c3).2
  obtain ⟨v, v1, v2, v3⟩ := sub_ok ha u2 (pow_le_flim b4 (by omega))
  have c4 := rn_le (by omega) b4
  rw [← v3] at c4
  have b5 := (small_add (Nat.le_trans h2 (Nat.pow_le_pow_right (by decide) (by omega : K ≤ K + 1 + 1))) c2).2
  obtain ⟨x, x1, x2, x3⟩ := sub_ok hb t2 (pow_le_flim b5 (by omega))
  have c5 := rn_le (by omega) b5
  rw [← x3] at c5
  have b6 := (small_add c4 (Nat.le_trans c5 (Nat.pow_le_pow_right (by decide) (by omega : K + 1 + 1 + 1 ≤ K + 1 + 1 + 1 + 1)))).1
  obtain ⟨l, l1, l2, l3⟩ := add_ok v2 x2 (pow_le_flim b6 (by omega))
  refine ⟨s, t, u, v, x, l, s1, t1, u1, v1, x1, l1, s2, l2, s3, ?_⟩
  rw [l3, v3, x3, u3, t3, s3]; rfl
end Go.Proofs.YtifgngmebnjfkaaDoor
end

section
namespace Go.Proofs.YtifgngmebnjfkaaDoor
def RepZ (z : Int) : Prop := ∃ (c : Int) (e : Nat), z = c * 2 ^ e ∧ c.natAbs ≤ 9007199254740992
theorem rn_nat (m : Nat) : ∃ K q, Fp.mag Ieee.double (Fp.grid Ieee.double m 0) = q * 2 ^ K ∧ m < 9007199254740992 * 2 ^ K ∧ q ≤ 9007199254740992 ∧ (K ≠ 0 → 4503599627370496 * 2 ^ K ≤ m) ∧
    2 * m ≤ 2 * (q * 2 ^ K) + 2 ^ K ∧ 2 * (q * 2 ^ K) ≤ 2 * m + 2 ^ K ∧ (m % 2 ^ K = 0 → q * 2 ^ K = m) := by
  obtain ⟨r, h1, h2⟩ := Fp.floor_exists Ieee.double m 1 (by decide)
  rw [Nat.mul_one] at h1 h2
  rw [Fp.mag_succ] at h2
  have hg := Fp.grid_between Ieee.double Fp.dF r 0 (m - Fp.mag Ieee.double r) (by rw [Nat.pow_zero, Nat.mul_one]; omega)
  rw [Nat.pow_zero, Nat.mul_one, Nat.mul_one, show Fp.mag Ieee.double r + (m - Fp.mag Ieee.double r) = m by omega] at hg
  obtain ⟨K, hK⟩ : ∃ K, K = r / 4503599627370496 - 1 := ⟨_, rfl⟩
  have hst : Fp.step Ieee.double r = 2 ^ K := by unfold Fp.step; rw [Fp.dB, ← hK]
  obtain ⟨c, hc, hc1, hc2⟩ : ∃ c, Fp.mag Ieee.double r = c * 2 ^ K ∧ c < 9007199254740992 ∧ (K ≠ 0 → 4503599627370496 ≤ c) := by
    rw [Fp.mag_eq, hst, Fp.dB]
    refine ⟨_, rfl, ?_, ?_⟩
    · split <;> omega
    · intro h; rw [if_neg (by omega)]; omega
  rw [hst] at hg h2
  have hm1 : Fp.mag Ieee.double (r + 1) = (c + 1) * 2 ^ K := by rw [Fp.mag_succ, hst, hc, Nat.add_mul, Nat.one_mul]
  rw [hc] at h1 h2 hg
  have hp := Nat.two_pow_pos K
  have hlt : m < 9007199254740992 * 2 ^ K := by
    have : (c + 1) * 2 ^ K ≤ 9007199254740992 * 2 ^ K := Nat.mul_le_mul_right _ hc1
    rw [Nat.add_mul, Nat.one_mul] at this
    omega
  have hge : K ≠ 0 → 4503599627370496 * 2 ^ K ≤ m := fun h => Nat.le_trans (Nat.mul_le_mul_right _ (hc2 h)) h1
  have hmod : m % 2 ^ K = 0 → c * 2 ^ K = m := by
    intro h
    obtain ⟨d, hd⟩ : ∃ d, m = d * 2 ^ K := ⟨m / 2 ^ K, by rw [Nat.mul_comm]; have := Nat.div_add_mod m (2 ^ K); omega⟩
    rw [hd] at h1 h2 ⊢
    have a1 : c ≤ d := Nat.le_of_mul_le_mul_right h1 hp
    have a2 : d < c + 1 := by
      refine Nat.lt_of_mul_lt_mul_right (a := 2 ^ K) ?_
      rw [Nat.add_mul, Nat.one_mul]; exact h2
    rw [show d = c by omega]
  rw [hg]
  split
  · rename_i hup
    refine ⟨K, c + 1, hm1, hlt, hc1, hge, ?_, ?_, ?_⟩
    · rw [Nat.add_mul, Nat.one_mul]; omega
    · rw [Nat.add_mul, Nat.one_mul]; omega
    · intro h
      have := hmod h
      omega
  · rename_i hup
    rw [Nat.add_zero]
    refine ⟨K, c, hc, hlt, Nat.le_of_lt hc1, hge, ?_, ?_, hmod⟩
    · omega
    · omega
theorem natAbs_mul_pow (q : Int) (K : Nat) : (q * 2 ^ K).natAbs = q.natAbs * 2 ^ K := by
  rw [Int.natAbs_mul, Int.natAbs_pow]; rfl
theorem cast_pow (K : Nat) : ((2 ^ K : Nat) : Int) = 2 ^ K := by simp
theorem rn_spec (z : Int) : ∃ (K : Nat) (q : Int), rn z = q * 2 ^ K ∧ z.natAbs < 9007199254740992 * 2 ^ K ∧ q.natAbs ≤ 9007199254740992 ∧ (K ≠ 0 → 4503599627370496 * 2 ^ K ≤ z.natAbs) ∧
    2 * (rn z - z).natAbs ≤ 2 ^ K ∧ (z.natAbs % 2 ^ K = 0 → rn z = z) := by
  obtain ⟨K, q, h1, h2, h3, h4, h5, h6, h7⟩ := rn_nat z.natAbs
  have hz : z.natAbs % 2 ^ K = 0 → rn z = z := by
    intro h
    have := h7 h
    unfold rn
    rw [h1, this]
    split <;> omega
  refine ⟨K, if z < 0 then -(q : Int) else q, ?_, h2, by split <;> omega, h4, ?_, hz⟩
  · unfold rn
    rw [h1, Int.natCast_mul, cast_pow]
    split
    · rw [Int.neg_mul]
    · rfl
  · unfold rn
    rw [h1]
    generalize q * 2 ^ K = Q at *
    generalize 2 ^ K = Z at *
    split <;> omega
theorem dvd_abs {z : Int} {K : Nat} {c : Int} (h : z = c * 2 ^ K) : z.natAbs % 2 ^ K = 0 := by
  rw [h, natAbs_mul_pow]; exact Nat.mul_mod_left _ _
theorem rn_few {z : Int} (h : RepZ z) : rn z = z := by
  obtain ⟨c, e, hz, hc⟩ := h
  obtain ⟨K, q, _, _, _, h4, _, h6⟩ := rn_spec z
  rcases Nat.lt_or_ge e K with h | h
  · have h4 := h4 (by omega)
    obtain ⟨d, rfl⟩ : ∃ d, K = e + 1 + d := ⟨K - (e + 1), by omega⟩
    have ha : z.natAbs = c.natAbs * 2 ^ e := by rw [hz, natAbs_mul_pow]
    have hp := Nat.two_pow_pos e
    have hpd := Nat.two_pow_pos d
    have e1 : 2 ^ (e + 1 + d) = 2 ^ e * (2 * 2 ^ d) := by rw [Nat.pow_add, Nat.pow_succ, Nat.mul_assoc]
    rw [e1, ha] at h4
    have h5 : 4503599627370496 * (2 * 2 ^ d) ≤ c.natAbs := by
      refine Nat.le_of_mul_le_mul_right (c := 2 ^ e) ?_ hp
      rw [Nat.mul_assoc, Nat.mul_comm (2 * 2 ^ d)]; exact h4
    have hd : 2 ^ d = 1 := by omega
    refine h6 ?_
    rw [e1, ha, hd, Nat.mul_one]
    have : c.natAbs = 4503599627370496 * 2 := by omega
    rw [this, Nat.mul_assoc, Nat.mul_comm 2]; exact Nat.mul_mod_left _ _
  · obtain ⟨d, rfl⟩ : ∃ d, e = K + d := ⟨e - K, by omega⟩
    refine h6 (dvd_abs (c := c * 2 ^ d) ?_)
    rw [hz, Int.pow_add, Int.mul_assoc, Int.mul_comm (2 ^ d)]
theorem rn_repz (z : Int) : RepZ (rn z) := by
  obtain ⟨K, q, h1, _, h3, _⟩ := rn_spec z
  exact ⟨q, K, h1, h3⟩
theorem RepZ.neg {z : Int} (h : RepZ z) : RepZ (-z) := by
  obtain ⟨c, e, h, hc⟩ := h
  exact ⟨-c, e, by rw [h, Int.neg_mul], by rw [Int.natAbs_neg]; exact hc⟩
theorem rn_nearest {z y : Int} (h : RepZ y) : (rn z - z).natAbs ≤ (y - z).natAbs := by
  obtain ⟨c, e, hy, hc⟩ := h
  obtain ⟨K, q, h1, h2, h3, h4, h5, h6⟩ := rn_spec z
  have near : ∀ d : Int, (rn z - z).natAbs ≤ (d * 2 ^ K - z).natAbs := by
    intro d
    by_cases hd : d = q
    · rw [h1, hd]; exact Nat.le_refl _
    · have e1 : (d * 2 ^ K - rn z).natAbs = (d - q).natAbs * 2 ^ K := by rw [h1, ← Int.sub_mul, natAbs_mul_pow]
      have e2 : 1 * 2 ^ K ≤ (d - q).natAbs * 2 ^ K := Nat.mul_le_mul_right _ (by omega)
      rw [← e1, Nat.one_mul] at e2
      generalize d * 2 ^ K = D at *
      generalize 2 ^ K = Z at *
      omega
  rcases Nat.lt_or_ge e K with hlt | hge
  · have h4 := h4 (by omega)
    have hp := Nat.two_pow_pos e
    have hab : y.natAbs ≤ 4503599627370496 * 2 ^ K := by
      rw [hy, natAbs_mul_pow]
      obtain ⟨d, rfl⟩ : ∃ d, K = e + 1 + d := ⟨K - (e + 1), by omega⟩
      have e1 : 2 ^ (e + 1 + d) = 2 * 2 ^ d * 2 ^ e := by rw [Nat.pow_add, Nat.pow_succ, Nat.mul_comm (2 ^ e) 2, Nat.mul_assoc, Nat.mul_assoc, Nat.mul_comm (2 ^ e)]
      rw [e1, ← Nat.mul_assoc]
      have := Nat.two_pow_pos d
      exact Nat.mul_le_mul_right _ (by omega)
    have n1 := near 4503599627370496
    have n2 := near (-4503599627370496)
    have e1 : (4503599627370496 : Int) * 2 ^ K = ((4503599627370496 * 2 ^ K : Nat) : Int) := by simp
    rw [Int.neg_mul] at n2
    rw [e1] at n1 n2
    generalize 4503599627370496 * 2 ^ K = T at *
    omega
  · obtain ⟨d, rfl⟩ : ∃ d, e = K + d := ⟨e - K, by omega⟩
    have := near (c * 2 ^ d)
    rwa [show c * 2 ^ d * 2 ^ K = y by rw [hy, Int.pow_add, Int.mul_assoc, Int.mul_comm (2 ^ d)]] at this
theorem rn_mult {z c : Int} {i : Nat} (h : z = c * 2 ^ i) : ∃ d : Int, rn z = d * 2 ^ i := by
  obtain ⟨K, q, h1, _, _, _, _, h6⟩ := rn_spec z
  rcases Nat.lt_or_ge K i with hlt | hge
  · obtain ⟨d, rfl⟩ : ∃ d, i = K + d := ⟨i - K, by omega⟩
    exact ⟨c, by rw [h6 (dvd_abs (c := c * 2 ^ d) (by rw [h, Int.pow_add, Int.mul_assoc, Int.mul_comm (2 ^ d)])), h]⟩
  · obtain ⟨d, rfl⟩ : ∃ d, K = i + d := ⟨K - i, by omega⟩
    exact ⟨q * 2 ^ d, by rw [h1, Int.pow_add, Int.mul_assoc, Int.mul_comm (2 ^ d)]⟩
theorem repz_of {z d : Int} {i n : Nat} (h : z = d * 2 ^ i) (hz : z.natAbs ≤ n * 2 ^ i) (hn : n ≤ 9007199254740992) : RepZ z := by
  refine ⟨d, i, h, ?_⟩
  rw [h, natAbs_mul_pow] at hz
  exact Nat.le_trans (Nat.le_of_mul_le_mul_right hz (Nat.two_pow_pos i)) hn
theorem err_rep {A B : Int} (hA : RepZ A) (hB : RepZ B) : RepZ (rn (A + B) - (A + B)) := by
  have key : ∀ {A B : Int} {a b : Int} {i j : Nat}, A = a * 2 ^ i → a.natAbs ≤ 9007199254740992 → B = b * 2 ^ j → RepZ B → i ≤ j → RepZ (rn (A + B) - (A + B)) := by
    intro A B a b i j hA ha hB hRB hij
    obtain ⟨e, rfl⟩ : ∃ e, j = i + e := ⟨j - i, by omega⟩
    have hz : A + B = (a + b * 2 ^ e) * 2 ^ i := by rw [hA, hB, Int.add_mul, Int.pow_add, Int.mul_assoc, Int.mul_comm (2 ^ e)]
    obtain ⟨d, hd⟩ := rn_mult hz
    have hn := rn_nearest (z := A + B) hRB
    refine repz_of (d := d - (a + b * 2 ^ e)) (i := i) (n := a.natAbs) (by rw [hd, hz, Int.sub_mul]) ?_ ha
    refine Nat.le_trans hn ?_
    rw [← natAbs_mul_pow, ← hA]
    omega
  obtain ⟨a, i, hA1, ha⟩ := hA
  obtain ⟨b, j, hB1, hb⟩ := hB
  rcases Nat.le_total i j with h | h
  · exact key hA1 ha hB1 ⟨b, j, hB1, hb⟩ h
  · rw [Int.add_comm A B]
    exact key hB1 hb hA1 ⟨a, i, hA1, ha⟩ h
theorem canon_of {A : Int} (h : RepZ A) : ∃ (k : Nat) (a : Int), A = a * 2 ^ k ∧ a.natAbs < 9007199254740992 ∧ (k ≠ 0 → 4503599627370496 * 2 ^ k ≤ A.natAbs) := by
  obtain ⟨K, q, h1, h2, _, h4, _, _⟩ := rn_spec A
  rw [rn_few h] at h1
  refine ⟨K, q, h1, ?_, h4⟩
  rw [h1, natAbs_mul_pow] at h2
  exact Nat.lt_of_mul_lt_mul_right h2
theorem fr0 {x y Z W : Nat} (h1 : 4503599627370496 * W ≤ y) (h2 : 2 * Z ≤ W) (h3 : y ≤ x) (h4 : x < 9007199254740992 * Z) : False := by omega
theorem fr1 {x y z Z V W : Nat} (h1 : x < 9007199254740992 * Z) (h2 : y ≤ x) (h3 : z ≤ x + y) (h4 : 4503599627370496 * W ≤ z) (h5 : 2 * V ≤ W) (h6 : V = Z * 2) : False := by omega
theorem fr2 {r A B : Int} {Z : Nat} (h : 2 * (r - (A + B)).natAbs ≤ Z * 2) : (r - A).natAbs ≤ B.natAbs + 1 * Z := by omega
theorem fr3 {r A B : Int} (h : (r - (A + B)).natAbs ≤ (A - (A + B)).natAbs) : (r - A).natAbs ≤ B.natAbs * 2 := by omega
theorem fast_rep {A B : Int} (hA : RepZ A) (hB : RepZ B) (hAB : B.natAbs ≤ A.natAbs) : RepZ (rn (A + B) - A) := by
  obtain ⟨ka, a, hA1, ha, hka⟩ := canon_of hA
  obtain ⟨kb, b, hB1, hb, hkb⟩ := canon_of hB
  have hlA : A.natAbs < 9007199254740992 * 2 ^ ka := by rw [hA1, natAbs_mul_pow]; exact Nat.mul_lt_mul_of_pos_right ha (Nat.two_pow_pos _)
  have hlB : B.natAbs = b.natAbs * 2 ^ kb := by rw [hB1, natAbs_mul_pow]
  have pow_up : ∀ i j : Nat, i < j → 2 * 2 ^ i ≤ 2 ^ j := fun i j h => by rw [← Nat.pow_succ']; exact Nat.pow_le_pow_right (by decide) h
  have hk : kb ≤ ka := by
    rcases Nat.lt_or_ge ka kb with h | h
    · exact (fr0 (hkb (Nat.ne_of_gt (Nat.lt_of_le_of_lt (Nat.zero_le _) h))) (pow_up _ _ h) hAB hlA).elim
    · exact h
  obtain ⟨d, rfl⟩ : ∃ d, ka = kb + d := ⟨ka - kb, by omega⟩
  have hz : A + B = (a * 2 ^ d + b) * 2 ^ kb := by rw [hA1, hB1, Int.add_mul, Int.pow_add, Int.mul_assoc, Int.mul_comm (2 ^ d)]
  obtain ⟨K, q, h1, h2, h3, h4, h5, h6⟩ := rn_spec (A + B)
  have hn := rn_nearest (z := A + B) hA
  rcases Nat.lt_or_ge kb K with hlt | hge
  · have h2p := pow_up _ _ hlt
    rcases Nat.eq_zero_or_pos d with rfl | hd
    · rw [Nat.add_zero] at hlA hA1
      have hK : K = kb + 1 := by
        rcases Nat.lt_or_ge (kb + 1) K with h | h
        · exact (fr1 hlA hAB (Int.natAbs_add_le A B) (h4 (Nat.ne_of_gt (Nat.lt_of_le_of_lt (Nat.zero_le _) h))) (pow_up _ _ h) (Nat.pow_succ _ _)).elim
        · exact Nat.le_antisymm h hlt
      subst hK
      obtain ⟨e, he⟩ := rn_mult hz
      refine repz_of (d := e - a) (i := kb) (n := b.natAbs + 1) (by rw [he, hA1, Int.sub_mul]) ?_ (by omega)
      rw [Nat.add_mul, ← hlB]
      rw [Nat.pow_succ] at h5
      exact fr2 h5
    · obtain ⟨c, rfl⟩ : ∃ c, d = c + 1 := ⟨d - 1, by omega⟩
      obtain ⟨m, rfl⟩ : ∃ m, K = kb + 1 + m := ⟨K - (kb + 1), by omega⟩
      have hAk : A = a * 2 ^ c * 2 ^ (kb + 1) := by rw [hA1, Int.mul_assoc, ← Int.pow_add]; congr 2; omega
      have hSk : rn (A + B) = q * 2 ^ m * 2 ^ (kb + 1) := by rw [h1, Int.mul_assoc, ← Int.pow_add]; congr 2; omega
      refine repz_of (d := q * 2 ^ m - a * 2 ^ c) (i := kb + 1) (n := b.natAbs) (by rw [hSk, Int.sub_mul, ← hAk]) ?_ (by omega)
      rw [Nat.pow_succ, ← Nat.mul_assoc, ← hlB]
      exact fr3 hn
  · have e : rn (A + B) = A + B := h6 (by
      obtain ⟨m, rfl⟩ : ∃ m, kb = K + m := ⟨kb - K, by omega⟩
      exact dvd_abs (c := (a * 2 ^ (m + d) + b * 2 ^ m)) (by
        rw [hz, Int.pow_add 2 K m, Int.mul_comm (2 ^ K), ← Int.mul_assoc, Int.add_mul, Int.pow_add 2 m d, Int.mul_assoc a, Int.mul_comm (2 ^ d)]))
    rw [e, show A + B - A = B by omega]
    exact hB
theorem two_fast {A B : Int} (hA : RepZ A) (hB : RepZ B) (hAB : B.natAbs ≤ A.natAbs) : sumL A B = A + B - sumS A B := by
  have e1 : sumT A B = sumS A B - A := rn_few (fast_rep hA hB hAB)
  unfold sumL
  rw [e1, show sumS A B - (sumS A B - A) = A by omega, rn_few hA, Int.sub_self, rn_zero, Int.zero_add]
  have e2 : B - (sumS A B - A) = -(rn (A + B) - (A + B)) := by unfold sumS; omega
  rw [e2, rn_few (err_rep hA hB).neg, rn_few (err_rep hA hB).neg]
  unfold sumS; omega
theorem mult_le {z c : Int} {k K : Nat} (h : z = c * 2 ^ k) (hk : K ≤ k) : ∃ d : Int, z = d * 2 ^ K := by
  obtain ⟨m, rfl⟩ : ∃ m, k = K + m := ⟨k - K, by omega⟩
  exact ⟨c * 2 ^ m, by rw [h, Int.pow_add, Int.mul_assoc, Int.mul_comm (2 ^ m)]⟩
theorem mult_add {y z : Int} {K : Nat} (h : ∃ d : Int, y = d * 2 ^ K) (g : ∃ d : Int, z = d * 2 ^ K) : (∃ d : Int, y + z = d * 2 ^ K) ∧ ∃ d : Int, y - z = d * 2 ^ K := by
  obtain ⟨a, rfl⟩ := h
  obtain ⟨b, rfl⟩ := g
  exact ⟨⟨a + b, by rw [Int.add_mul]⟩, ⟨a - b, by rw [Int.sub_mul]⟩⟩
theorem rn_mult' {z : Int} {K : Nat} (h : ∃ d : Int, z = d * 2 ^ K) : ∃ d : Int, rn z = d * 2 ^ K := by
  obtain ⟨c, hc⟩ := h; exact rn_mult hc
theorem two_back {A B : Int} (hA : RepZ A) (hB : RepZ B) (e1 : sumT A B = sumS A B - A) : sumL A B = A + B - sumS A B := by
  unfold sumL
  rw [e1, show sumS A B - (sumS A B - A) = A by omega, rn_few hA, Int.sub_self, rn_zero, Int.zero_add]
  have e2 : B - (sumS A B - A) = -(rn (A + B) - (A + B)) := by unfold sumS; omega
  rw [e2, rn_few (err_rep hA hB).neg, rn_few (err_rep hA hB).neg]
  unfold sumS; omega
theorem sl1 {a b z Z W V : Nat} (h1 : b < 9007199254740992 * Z) (h2 : a < b) (h3 : z ≤ a + b) (h4 : 4503599627370496 * W ≤ z) (h5 : 2 * V ≤ W) (h6 : V = Z * 2) : False := by omega
theorem sl2 {A B r : Int} {Z : Nat} (h : 2 * r.natAbs ≤ Z * 2) (hB : B.natAbs < 9007199254740992 * Z) (hm : B.natAbs + Z ≤ 9007199254740992 * Z) : (B - r).natAbs ≤ 9007199254740992 * Z := by omega
end Go.Proofs.YtifgngmebnjfkaaDoor
end

section
namespace Go.Proofs.YtifgngmebnjfkaaDoor
theorem sw1 {r s z : Int} {V W : Nat} (h : 2 * (s - z).natAbs ≤ W) (hr : r = z - s) (hW : W ≤ V * 2) : r.natAbs ≤ V := by omega
theorem sw2 {x b V : Nat} (h : x ≤ 9007199254740992 * V) (h4 : 4503599627370496 * (V * 2) ≤ x) : x = 4503599627370496 * (V * 2) := by omega
theorem sw3 {B r : Int} {V : Nat} (hB : B.natAbs + V ≤ 9007199254740992 * V) (hr : r.natAbs ≤ V) : (B - r).natAbs ≤ 9007199254740992 * V := by omega
theorem sw4 {x W V : Nat} (h : x ≤ 9007199254740992 * V) (h4 : 4503599627370496 * W ≤ x) (h5 : 2 * (V * 2) ≤ W) (hV : 0 < V) : False := by omega
theorem pow_up {i j : Nat} (h : i < j) : 2 * 2 ^ i ≤ 2 ^ j := by rw [← Nat.pow_succ']; exact Nat.pow_le_pow_right (by decide) h
theorem slow_grid {A B S : Int} {ka kb K : Nat} {a b : Int} (hA1 : A = a * 2 ^ ka) (hB1 : B = b * 2 ^ kb) (hb : b.natAbs < 9007199254740992) (hAB : A.natAbs < B.natAbs) (hS : S = rn (A + B))
    (hne : ¬ ∃ d : Int, S - A = d * 2 ^ K) (h4 : K ≠ 0 → 4503599627370496 * 2 ^ K ≤ (S - A).natAbs) : K ≤ kb ∧ ka < K ∧ (A + B - S).natAbs ≤ 2 ^ kb := by
  have hB2 : B.natAbs = b.natAbs * 2 ^ kb := by rw [hB1, natAbs_mul_pow]
  have hBl : B.natAbs + 2 ^ kb ≤ 9007199254740992 * 2 ^ kb := by
    rw [hB2]
    have := Nat.mul_le_mul_right (2 ^ kb) hb
    rw [Nat.succ_mul] at this
    exact this
  have hVp := Nat.two_pow_pos kb
  obtain ⟨Ks, qs, s1, s2, s3, s4, s5, s6⟩ := rn_spec (A + B)
  rw [← hS] at s1 s5
  have hKs : Ks ≤ kb + 1 := by
    rcases Nat.lt_or_ge (kb + 1) Ks with h | h
    · exact (sl1 (by omega) hAB (Int.natAbs_add_le A B) (s4 (by omega)) (pow_up h) (Nat.pow_succ _ _)).elim
    · exact h
  have hWs : 2 ^ Ks ≤ 2 ^ kb * 2 := by rw [← Nat.pow_succ]; exact Nat.pow_le_pow_right (by decide) hKs
  have hr := sw1 s5 (rfl : A + B - S = A + B - S) hWs
  have hx : (S - A).natAbs ≤ 9007199254740992 * 2 ^ kb := by
    have := sw3 hBl hr
    rwa [show B - (A + B - S) = S - A by omega] at this
  have hKb : K ≤ kb := by
    rcases Nat.lt_or_ge kb K with h | h
    · have g4 := h4 (by omega)
      rcases Nat.lt_or_ge (kb + 1) K with h' | h'
      · have := pow_up h'
        rw [Nat.pow_succ] at this
        exact (sw4 hx g4 this hVp).elim
      · have hK : K = kb + 1 := by omega
        subst hK
        rw [Nat.pow_succ] at g4
        have e := sw2 (b := 0) hx g4
        refine (hne ?_).elim
        rcases Int.natAbs_eq (S - A) with h | h
        · exact ⟨4503599627370496, by rw [h, e, ← Nat.pow_succ]; simp⟩
        · exact ⟨-4503599627370496, by rw [h, e, ← Nat.pow_succ, Int.neg_mul]; simp⟩
    · exact h
  refine ⟨hKb, ?_, hr⟩
  rcases Nat.lt_or_ge ka K with h | h
  · exact h
  · have mA := mult_le hA1 h
    have mB := mult_le hB1 hKb
    have mS := rn_mult' (mult_add mA mB).1
    rw [← hS] at mS
    exact (hne (mult_add mS mA).2).elim
theorem sx1 {B r e : Int} {V W : Nat} (hB : 4503599627370496 * V ≤ B.natAbs) (hx : (B - r).natAbs < 9007199254740992 * W) (hr : r.natAbs ≤ V) (he : 2 * e.natAbs ≤ W) : (r - e).natAbs ≤ 5 * W := by omega
theorem sx2 {A B : Int} {V W U X Y : Nat} (h1 : (A + B).natAbs < 9007199254740992 * U) (h2 : 2 * U ≤ W) (h3 : 4503599627370496 * V ≤ B.natAbs) (h4 : X ≤ V) (h5 : X = W * 2) (h6 : A.natAbs < 9007199254740992 * Y) : W < 2 * Y ∧ (A + B).natAbs ≤ 4503599627370496 * W := by omega
theorem sx3 {A e : Int} {W X : Nat} (h1 : A.natAbs + W ≤ 9007199254740992 * W) (h2 : 2 * e.natAbs ≤ X) (h3 : X = W * 2) : (A - e).natAbs ≤ 9007199254740992 * W := by omega
theorem two_slow {A B : Int} (hA : RepZ A) (hB : RepZ B) (hAB : A.natAbs < B.natAbs) : sumL A B = A + B - sumS A B := by
  by_cases he : sumT A B = sumS A B - A
  · exact two_back hA hB he
  obtain ⟨ka, a, hA1, ha, hka⟩ := canon_of hA
  obtain ⟨kb, b, hB1, hb, hkb⟩ := canon_of hB
  obtain ⟨S, hS⟩ : ∃ S, S = sumS A B := ⟨_, rfl⟩
  obtain ⟨T, hT⟩ : ∃ T, T = sumT A B := ⟨_, rfl⟩
  have hS' : S = rn (A + B) := hS
  have hT' : T = rn (S - A) := by rw [hT, hS]; rfl
  rw [← hS, ← hT] at he
  obtain ⟨K, q, t1, t2, t3, t4, t5, t6⟩ := rn_spec (S - A)
  rw [← hT'] at t1 t5 t6
  have hne : ¬ ∃ d : Int, S - A = d * 2 ^ K := fun ⟨d, hd⟩ => he (t6 (dvd_abs hd))
  obtain ⟨hKb, haK, hr⟩ := slow_grid hA1 hB1 hb hAB hS' hne t4
  obtain ⟨K', rfl⟩ : ∃ K', K = K' + 1 := ⟨K - 1, by omega⟩
  have mB := mult_le hB1 hKb
  have mT : ∃ d : Int, T = d * 2 ^ (K' + 1) := ⟨q, t1⟩
  have hkb' := hkb (by omega)
  have hx : RepZ (B - T) := by
    obtain ⟨d, hd⟩ := (mult_add mB mT).2
    refine repz_of hd (n := 5) ?_ (by decide)
    have := sx1 (B := B) (r := A + B - S) (e := T - (S - A)) hkb' (by rw [show B - (A + B - S) = S - A by omega]; exact t2) hr t5
    rwa [show A + B - S - (T - (S - A)) = B - T by omega] at this
  have hAl : ∀ j, ka ≤ j → A.natAbs + 2 ^ j ≤ 9007199254740992 * 2 ^ j := by
    intro j hj
    have h1 : A.natAbs = a.natAbs * 2 ^ ka := by rw [hA1, natAbs_mul_pow]
    have h2 : a.natAbs * 2 ^ ka ≤ a.natAbs * 2 ^ j := Nat.mul_le_mul_left _ (Nat.pow_le_pow_right (by decide) hj)
    have h3 := Nat.mul_le_mul_right (2 ^ j) ha
    rw [Nat.succ_mul] at h3
    rw [h1]
    exact Nat.le_trans (Nat.add_le_add_right h2 _) h3
  have hu : RepZ (S - T) := by
    obtain ⟨Ks, qs, s1, s2, s3, s4, s5, s6⟩ := rn_spec (A + B)
    rw [← hS'] at s1
    have hKs : K' ≤ Ks := by
      rcases Nat.lt_or_ge Ks K' with h | h
      · have hAk : A.natAbs < 9007199254740992 * 2 ^ ka := by
          have := hAl ka (Nat.le_refl _)
          have := Nat.two_pow_pos ka
          omega
        obtain ⟨y1, y2⟩ := sx2 s2 (pow_up h) hkb' (Nat.pow_le_pow_right (by decide) hKb) (Nat.pow_succ 2 K') hAk
        have hk : ka = K' := by
          rcases Nat.lt_or_ge ka K' with h' | h'
          · have := pow_up h'; omega
          · omega
        have hz := (mult_add (mult_le hA1 (Nat.le_of_eq hk.symm)) (mult_le hB1 (Nat.le_of_succ_le hKb))).1
        obtain ⟨d, hd⟩ := hz
        have hex : S = A + B := by rw [hS']; exact rn_few (repz_of hd y2 (by decide))
        refine (hne ?_).elim
        rw [hex, show A + B - A = B by omega]
        exact mB
      · exact h
    obtain ⟨m, hm⟩ := mT
    have mT' : ∃ d : Int, T = d * 2 ^ K' := mult_le hm (Nat.le_succ _)
    obtain ⟨d, hd⟩ := (mult_add (mult_le s1 hKs) mT').2
    refine repz_of hd (n := 9007199254740992) ?_ (Nat.le_refl _)
    have := sx3 (A := A) (e := T - (S - A)) (hAl K' (by omega)) t5 (Nat.pow_succ 2 K')
    rwa [show A - (T - (S - A)) = S - T by omega] at this
  have hRS : RepZ S := by rw [hS']; exact rn_repz _
  have hv : RepZ (A - (S - T)) := by
    have := err_rep hRS hA.neg
    rw [show S + -A = S - A by omega, ← hT', show T - (S - A) = A - (S - T) by omega] at this
    exact this
  unfold sumL
  rw [← hS, ← hT, rn_few hu, rn_few hv, rn_few hx, show A - (S - T) + (B - T) = -(S - (A + B)) by omega, hS', rn_few (err_rep hA hB).neg]
  omega
theorem two_sum {A B : Int} (hA : RepZ A) (hB : RepZ B) : sumL A B = A + B - sumS A B := by
  rcases Nat.lt_or_ge A.natAbs B.natAbs with h | h
  · exact two_slow hA hB h
  · exact two_fast hA hB h
end Go.Proofs.YtifgngmebnjfkaaDoor
end

section
namespace Go.Proofs.YtifgngmebnjfkaaDoor
/-! numbers that stand for amounts -/
theorem notnan_canon {c : Nat} (h : c % 9223372036854775808 ≤ 9218868437227405312) : Fp.isNaN64 c = false := decide_eq_false (by omega)
theorem un_gt {x y : Nat} (hx : x % 9223372036854775808 ≤ 9218868437227405312) (hy : y % 9223372036854775808 ≤ 9218868437227405312) : (FloatKind.f64.format.order x y == some .gt) = decide (Fp.un Ieee.double y < Fp.un Ieee.double x) := by
  show (Ieee.double.order x y == some .gt) = _
  rw [Fp.gt64 x y (notnan_canon hx) (notnan_canon hy), ← Fp.key_double, ← Fp.key_double]
  exact decide_eq_decide.2 (Fp.un_lt_iff Ieee.double y x).symm
theorem un_eq {x y : Nat} (hx : x % 9223372036854775808 ≤ 9218868437227405312) (hy : y % 9223372036854775808 ≤ 9218868437227405312) : (FloatKind.f64.format.order x y == some .eq) = decide (Fp.un Ieee.double x = Fp.un Ieee.double y) := by
  show (Ieee.double.order x y == some .eq) = _
  rw [Fp.eq64 x y (notnan_canon hx) (notnan_canon hy), ← Fp.key_double, ← Fp.key_double]
  exact decide_eq_decide.2 (Fp.un_eq_iff Ieee.double x y).symm
theorem un_parts {x : Nat} (hx : x < 18446744073709551616) : Fp.un Ieee.double x = if ngD x then -(magD x : Int) else magD x := by
  unfold Fp.un ngD magD
  rw [Fp.sg64, Fp.rg64]
  by_cases h : 9223372036854775808 ≤ x
  · rw [decide_eq_true h, show x / 9223372036854775808 = 1 by omega]; rfl
  · rw [decide_eq_false h, show x / 9223372036854775808 = 0 by omega]; rfl
/-! Narrow -/
/-! Whole -/
/-! Scale -/
theorem zero_un : Fp.un Ieee.double 0 = 0 := by decide +kernel
end Go.Proofs.YtifgngmebnjfkaaDoor
end

section
namespace Go.Proofs.YtifgngmebnjfkaaDoor
open Go.RowKit
theorem m_float_nan (op : BinOp) (t : TypeId) (k : FloatKind) (x y : Nat) (P : Program) (w : World) (ho : op = .sub ∨ op = .add ∨ op = .mul ∨ op = .quo) (h : floatBits op k x y = none) :
    (binOp op t (.float k x) (.float k y)).run P w = .ok (.float k ((Question.nanBits k x y).cut (w.tape w.drawn (.nanBits k x y)))) w.drew := by
  unfold floatBits at h
  rcases ho with rfl | rfl | rfl | rfl <;> simp only at h <;> simp [binOp, Op.floatArith, h, Question.forced]
set_option maxRecDepth 100000 in
set_option maxHeartbeats 600000 in
theorem nudge_zero (x l m m3 m4 m5 : Nat) (b : Bool) (e : Int) (hm : m < 9007199254740992) (hm4 : m4 = 4 * m) (hm5 : m5 = m4 + 1) (hm3 : m4 = m3 + 1) (h1e : -3000 ≤ e) (h2e : e ≤ 3000) (TK : Hid (∀ w, Calls Tryd.prog 69 #[.float .f64 x] w fun e' w' => e' = .returned (.agg #[.bool b, .int .u64 m, .int .i64 e]) ∧ Within w w')) (hz : (FloatKind.f64.format.order l 0 == some .eq) = true) (w : World) : Calls Tryd.prog 91 #[.float .f64 x, .float .f64 l] w fun e' w' => e' = .returned (.agg #[.bool b, .int .u64 m4, .int .i64 (e - 2)]) ∧ Within w w' := by
  have g4 : IntKind.u64.wrap ((m : Int) * 4) = (m4 : Int) := by rw [IntKind.wrap_u64]; omega
  have g5 : IntKind.u64.wrap ((m4 : Int) + 1) = (m5 : Int) := by rw [IntKind.wrap_u64]; omega
  have g3 : IntKind.u64.wrap ((m4 : Int) - 1) = (m3 : Int) := by rw [IntKind.wrap_u64]; omega
  have g2 : IntKind.i64.wrap (e - 2) = e - 2 := by rw [IntKind.wrap_i64]; omega
  have HM := Lib.hid (And.intro hm (And.intro hm4 (And.intro hm5 hm3)))
  clear hm hm4 hm5 hm3
  go_enter Tryd.func91, Tryd.ntmps91
  go_wp2_with fail
  refine (TK.out _).mono ?_; rintro e2 w2 ⟨rfl, hb2⟩
  have r0 : w2.cell? ⟨w.heap.size, 0, none⟩ = some (.bool false) := (hb2.cells _ _ (by simp)).trans (by simp)
  have r1 : w2.cell? ⟨w.heap.size, 1, none⟩ = some (.int .u64 0) := (hb2.cells _ _ (by simp)).trans (by simp)
  have r2 : w2.cell? ⟨w.heap.size, 2, none⟩ = some (.int .i64 0) := (hb2.cells _ _ (by simp)).trans (by simp)
  have y0 : w2.frozen? ⟨w.heap.size, 0, none⟩ = false := (hb2.frozens _ _ (by simp)).trans (by simp)
  have y1 : w2.frozen? ⟨w.heap.size, 1, none⟩ = false := (hb2.frozens _ _ (by simp)).trans (by simp)
  have y2 : w2.frozen? ⟨w.heap.size, 2, none⟩ = false := (hb2.frozens _ _ (by simp)).trans (by simp)
  have z2 : w.heap.size < w2.heap.size := World.block_lt_of_cell? _ _ r0
  have s0 := World.cell?_setCell_same w2 ⟨w.heap.size, 0, none⟩ (.bool b) r0
  have s1 := World.cell?_setCell_same (w2.setCell ⟨w.heap.size, 0, none⟩ (.bool b)) ⟨w.heap.size, 1, none⟩ (.int .u64 m4) ((World.cell?_setCell_other _ _ _ _ (by simp)).trans r1)
  have s2 := World.cell?_setCell_same ((w2.setCell ⟨w.heap.size, 0, none⟩ (.bool b)).setCell ⟨w.heap.size, 1, none⟩ (.int .u64 m4)) ⟨w.heap.size, 2, none⟩ (.int .i64 (e - 2)) ((World.cell?_setCell_other _ _ _ _ (by simp)).trans ((World.cell?_setCell_other _ _ _ _ (by simp)).trans r2))
  go_wp2
  refine bodyPost_ret (v := .agg #[.bool b, .int .u64 m4, .int .i64 (e - 2)]) (by simp [results, Tryd.results91, go_sem, z2, s0, s1, s2]) rfl ⟨rfl, ?_⟩
  exact (by repeat (first | with_reducible exact Within.refl _ | with_reducible assumption | with_reducible refine Within.alloc ?_ _ | with_reducible refine Within.drew ?_ | with_reducible refine Within.setCell ?_ (by first | (simp; done) | (simp; omega)) _ | with_reducible refine Within.trans ?_ (by assumption)))
set_option maxRecDepth 100000 in
set_option maxHeartbeats 600000 in
theorem nudge_up (x l m m3 m4 m5 : Nat) (b : Bool) (e : Int) (hm : m < 9007199254740992) (hm4 : m4 = 4 * m) (hm5 : m5 = m4 + 1) (hm3 : m4 = m3 + 1) (h1e : -3000 ≤ e) (h2e : e ≤ 3000) (TK : Hid (∀ w, Calls Tryd.prog 69 #[.float .f64 x] w fun e' w' => e' = .returned (.agg #[.bool b, .int .u64 m, .int .i64 e]) ∧ Within w w')) (hz : (FloatKind.f64.format.order l 0 == some .eq) = false) (g : Bool) (h1 : (FloatKind.f64.format.order l 0 == some .gt) = g) (h2 : (FloatKind.f64.format.order x 0 == some .gt) = g) (w : World) : Calls Tryd.prog 91 #[.float .f64 x, .float .f64 l] w fun e' w' => e' = .returned (.agg #[.bool b, .int .u64 m5, .int .i64 (e - 2)]) ∧ Within w w' := by
  have g4 : IntKind.u64.wrap ((m : Int) * 4) = (m4 : Int) := by rw [IntKind.wrap_u64]; omega
  have g5 : IntKind.u64.wrap ((m4 : Int) + 1) = (m5 : Int) := by rw [IntKind.wrap_u64]; omega
  have g3 : IntKind.u64.wrap ((m4 : Int) - 1) = (m3 : Int) := by rw [IntKind.wrap_u64]; omega
  have g2 : IntKind.i64.wrap (e - 2) = e - 2 := by rw [IntKind.wrap_i64]; omega
  have hg : (g == g) = true := by cases g <;> rfl
  have HM := Lib.hid (And.intro hm (And.intro hm4 (And.intro hm5 hm3)))
  clear hm hm4 hm5 hm3
  go_enter Tryd.func91, Tryd.ntmps91
  go_wp2_with fail
  refine (TK.out _).mono ?_; rintro e2 w2 ⟨rfl, hb2⟩
  have r0 : w2.cell? ⟨w.heap.size, 0, none⟩ = some (.bool false) := (hb2.cells _ _ (by simp)).trans (by simp)
  have r1 : w2.cell? ⟨w.heap.size, 1, none⟩ = some (.int .u64 0) := (hb2.cells _ _ (by simp)).trans (by simp)
  have r2 : w2.cell? ⟨w.heap.size, 2, none⟩ = some (.int .i64 0) := (hb2.cells _ _ (by simp)).trans (by simp)
  have y0 : w2.frozen? ⟨w.heap.size, 0, none⟩ = false := (hb2.frozens _ _ (by simp)).trans (by simp)
  have y1 : w2.frozen? ⟨w.heap.size, 1, none⟩ = false := (hb2.frozens _ _ (by simp)).trans (by simp)
  have y2 : w2.frozen? ⟨w.heap.size, 2, none⟩ = false := (hb2.frozens _ _ (by simp)).trans (by simp)
  have z2 : w.heap.size < w2.heap.size := World.block_lt_of_cell? _ _ r0
  have s0 := World.cell?_setCell_same w2 ⟨w.heap.size, 0, none⟩ (.bool b) r0
  have s1 := World.cell?_setCell_same (w2.setCell ⟨w.heap.size, 0, none⟩ (.bool b)) ⟨w.heap.size, 1, none⟩ (.int .u64 m5) ((World.cell?_setCell_other _ _ _ _ (by simp)).trans r1)
  have s2 := World.cell?_setCell_same ((w2.setCell ⟨w.heap.size, 0, none⟩ (.bool b)).setCell ⟨w.heap.size, 1, none⟩ (.int .u64 m5)) ⟨w.heap.size, 2, none⟩ (.int .i64 (e - 2)) ((World.cell?_setCell_other _ _ _ _ (by simp)).trans ((World.cell?_setCell_other _ _ _ _ (by simp)).trans r2))
  go_wp2
  refine bodyPost_ret (v := .agg #[.bool b, .int .u64 m5, .int .i64 (e - 2)]) (by simp [results, Tryd.results91, go_sem, z2, s0, s1, s2]) rfl ⟨rfl, ?_⟩
  exact (by repeat (first | with_reducible exact Within.refl _ | with_reducible assumption | with_reducible refine Within.alloc ?_ _ | with_reducible refine Within.drew ?_ | with_reducible refine Within.setCell ?_ (by first | (simp; done) | (simp; omega)) _ | with_reducible refine Within.trans ?_ (by assumption)))
set_option maxRecDepth 100000 in
set_option maxHeartbeats 600000 in
theorem nudge_down (x l m m3 m4 m5 : Nat) (b : Bool) (e : Int) (hm : m < 9007199254740992) (hm4 : m4 = 4 * m) (hm5 : m5 = m4 + 1) (hm3 : m4 = m3 + 1) (h1e : -3000 ≤ e) (h2e : e ≤ 3000) (TK : Hid (∀ w, Calls Tryd.prog 69 #[.float .f64 x] w fun e' w' => e' = .returned (.agg #[.bool b, .int .u64 m, .int .i64 e]) ∧ Within w w')) (hz : (FloatKind.f64.format.order l 0 == some .eq) = false) (g : Bool) (h1 : (FloatKind.f64.format.order l 0 == some .gt) = g) (h2 : (FloatKind.f64.format.order x 0 == some .gt) = !g) (w : World) : Calls Tryd.prog 91 #[.float .f64 x, .float .f64 l] w fun e' w' => e' = .returned (.agg #[.bool b, .int .u64 m3, .int .i64 (e - 2)]) ∧ Within w w' := by
  have g4 : IntKind.u64.wrap ((m : Int) * 4) = (m4 : Int) := by rw [IntKind.wrap_u64]; omega
  have g5 : IntKind.u64.wrap ((m4 : Int) + 1) = (m5 : Int) := by rw [IntKind.wrap_u64]; omega
  have g3 : IntKind.u64.wrap ((m4 : Int) - 1) = (m3 : Int) := by rw [IntKind.wrap_u64]; omega
  have g2 : IntKind.i64.wrap (e - 2) = e - 2 := by rw [IntKind.wrap_i64]; omega
  have hg : (g == !g) = false := by cases g <;> rfl
  have HM := Lib.hid (And.intro hm (And.intro hm4 (And.intro hm5 hm3)))
  clear hm hm4 hm5 hm3
  go_enter Tryd.func91, Tryd.ntmps91
  go_wp2_with fail
  refine (TK.out _).mono ?_; rintro e2 w2 ⟨rfl, hb2⟩
  have r0 : w2.cell? ⟨w.heap.size, 0, none⟩ = some (.bool false) := (hb2.cells _ _ (by simp)).trans (by simp)
  have r1 : w2.cell? ⟨w.heap.size, 1, none⟩ = some (.int .u64 0) := (hb2.cells _ _ (by simp)).trans (by simp)
  have r2 : w2.cell? ⟨w.heap.size, 2, none⟩ = some (.int .i64 0) := (hb2.cells _ _ (by simp)).trans (by simp)
  have y0 : w2.frozen? ⟨w.heap.size, 0, none⟩ = false := (hb2.frozens _ _ (by simp)).trans (by simp)
  have y1 : w2.frozen? ⟨w.heap.size, 1, none⟩ = false := (hb2.frozens _ _ (by simp)).trans (by simp)
  have y2 : w2.frozen? ⟨w.heap.size, 2, none⟩ = false := (hb2.frozens _ _ (by simp)).trans (by simp)
  have z2 : w.heap.size < w2.heap.size := World.block_lt_of_cell? _ _ r0
  have s0 := World.cell?_setCell_same w2 ⟨w.heap.size, 0, none⟩ (.bool b) r0
  have s1 := World.cell?_setCell_same (w2.setCell ⟨w.heap.size, 0, none⟩ (.bool b)) ⟨w.heap.size, 1, none⟩ (.int .u64 m3) ((World.cell?_setCell_other _ _ _ _ (by simp)).trans r1)
  have s2 := World.cell?_setCell_same ((w2.setCell ⟨w.heap.size, 0, none⟩ (.bool b)).setCell ⟨w.heap.size, 1, none⟩ (.int .u64 m3)) ⟨w.heap.size, 2, none⟩ (.int .i64 (e - 2)) ((World.cell?_setCell_other _ _ _ _ (by simp)).trans ((World.cell?_setCell_other _ _ _ _ (by simp)).trans r2))
  go_wp2
  refine bodyPost_ret (v := .agg #[.bool b, .int .u64 m3, .int .i64 (e - 2)]) (by simp [results, Tryd.results91, go_sem, z2, s0, s1, s2]) rfl ⟨rfl, ?_⟩
  exact (by repeat (first | with_reducible exact Within.refl _ | with_reducible assumption | with_reducible refine Within.alloc ?_ _ | with_reducible refine Within.drew ?_ | with_reducible refine Within.setCell ?_ (by first | (simp; done) | (simp; omega)) _ | with_reducible refine Within.trans ?_ (by assumption)))
end Go.Proofs.YtifgngmebnjfkaaDoor
end

section
namespace Go.Proofs.YtifgngmebnjfkaaDoor
open Go.RowKit
set_option maxRecDepth 100000 in
set_option maxHeartbeats 600000 in
theorem sum_nan_a (a b : Nat) (mode : Int) (hxa : (FloatKind.f64.format.order a a != some .eq) = true) (hadd : Ieee.double.add a b = none) (NO : Hid (∀ w, Calls Tryd.prog 67 #[] w fun e' w' => e' = .returned (.float .f32 2143289344) ∧ Within w w')) (w : World) : Calls Tryd.prog 87 #[.float .f64 a, .float .f64 b, .int .i64 mode] w fun e' w' => e' = .returned (.tuple #[.float .f32 2143289344, .int .i64 0]) ∧ Within w w' := by
  have hadd' := fun t w => m_float_nan .add t .f64 a b Tryd.prog w (.inr (.inl rfl)) hadd
  clear hadd
  go_enter Tryd.func87, Tryd.ntmps87
  go_wp2_with fail
  refine (NO.out _).mono ?_; rintro e5 w5 ⟨rfl, hb5⟩
  go_wp2
  go_ret2
  exact ⟨rfl, (by repeat (first | with_reducible exact Within.refl _ | with_reducible assumption | with_reducible refine Within.alloc ?_ _ | with_reducible refine Within.drew ?_ | with_reducible refine Within.setCell ?_ (by first | (simp; done) | (simp; omega)) _ | with_reducible refine Within.trans ?_ (by assumption)))⟩
set_option maxRecDepth 100000 in
set_option maxHeartbeats 600000 in
theorem sum_nan_b (a b : Nat) (mode : Int) (hxa : (FloatKind.f64.format.order a a != some .eq) = false) (hxb : (FloatKind.f64.format.order b b != some .eq) = true) (hadd : Ieee.double.add a b = none) (NO : Hid (∀ w, Calls Tryd.prog 67 #[] w fun e' w' => e' = .returned (.float .f32 2143289344) ∧ Within w w')) (w : World) : Calls Tryd.prog 87 #[.float .f64 a, .float .f64 b, .int .i64 mode] w fun e' w' => e' = .returned (.tuple #[.float .f32 2143289344, .int .i64 0]) ∧ Within w w' := by
  have hadd' := fun t w => m_float_nan .add t .f64 a b Tryd.prog w (.inr (.inl rfl)) hadd
  clear hadd
  go_enter Tryd.func87, Tryd.ntmps87
  go_wp2_with fail
  refine (NO.out _).mono ?_; rintro e5 w5 ⟨rfl, hb5⟩
  go_wp2
  go_ret2
  exact ⟨rfl, (by repeat (first | with_reducible exact Within.refl _ | with_reducible assumption | with_reducible refine Within.alloc ?_ _ | with_reducible refine Within.drew ?_ | with_reducible refine Within.setCell ?_ (by first | (simp; done) | (simp; omega)) _ | with_reducible refine Within.trans ?_ (by assumption)))⟩
set_option maxRecDepth 100000 in
set_option maxHeartbeats 600000 in
theorem sum_invalid (a b : Nat) (mode : Int) (hxa : (FloatKind.f64.format.order a a != some .eq) = false) (hxb : (FloatKind.f64.format.order b b != some .eq) = false) (hadd : Ieee.double.add a b = none) (hn : ∀ t, (FloatKind.f64.format.order ((Question.nanBits .f64 a b).cut t) ((Question.nanBits .f64 a b).cut t) != some .eq) = true) (NO : Hid (∀ w, Calls Tryd.prog 67 #[] w fun e' w' => e' = .returned (.float .f32 2143289344) ∧ Within w w')) (w : World) : Calls Tryd.prog 87 #[.float .f64 a, .float .f64 b, .int .i64 mode] w fun e' w' => e' = .returned (.tuple #[.float .f32 2143289344, .int .i64 8]) ∧ Within w w' := by
  have hadd' := fun t w => m_float_nan .add t .f64 a b Tryd.prog w (.inr (.inl rfl)) hadd
  clear hadd
  go_enter Tryd.func87, Tryd.ntmps87
  go_wp2_with fail
  refine (NO.out _).mono ?_; rintro e5 w5 ⟨rfl, hb5⟩
  go_wp2
  go_ret2
  exact ⟨rfl, (by repeat (first | with_reducible exact Within.refl _ | with_reducible assumption | with_reducible refine Within.alloc ?_ _ | with_reducible refine Within.drew ?_ | with_reducible refine Within.setCell ?_ (by first | (simp; done) | (simp; omega)) _ | with_reducible refine Within.trans ?_ (by assumption)))⟩
set_option maxRecDepth 100000 in
set_option maxHeartbeats 600000 in
theorem sum_inf (a b : Nat) (mode : Int) (hxa : (FloatKind.f64.format.order a a != some .eq) = false) (hxb : (FloatKind.f64.format.order b b != some .eq) = false) (s : Nat) (hadd : Ieee.double.add a b = some s) (hxs : (FloatKind.f64.format.order s s != some .eq) = false) (FI : Hid (∀ w, Calls Tryd.prog 89 #[.float .f64 s] w fun e' w' => e' = .returned (.bool false) ∧ Within w w')) (r : Nat) (hc : floatToFloatBits .f64 s .f32 = some r) (w : World) : Calls Tryd.prog 87 #[.float .f64 a, .float .f64 b, .int .i64 mode] w fun e' w' => e' = .returned (.tuple #[.float .f32 r, .int .i64 0]) ∧ Within w w' := by
  have hadd' := fun t P w => run_float_arith (P := P) w .add t .f64 _ _ _ hadd
  clear hadd
  have hcv := fun (w : World) => run_convert_float_float (P := Tryd.prog) w 40 31 .f64 .f32 s r (by kernel_rfl) (by kernel_rfl) hc
  clear hc
  go_enter Tryd.func87, Tryd.ntmps87
  go_wp2_with fail
  refine (FI.out _).mono ?_; rintro e1 w1 ⟨rfl, hb1⟩
  go_wp2
  go_ret2
  exact ⟨rfl, (by repeat (first | with_reducible exact Within.refl _ | with_reducible assumption | with_reducible refine Within.alloc ?_ _ | with_reducible refine Within.drew ?_ | with_reducible refine Within.setCell ?_ (by first | (simp; done) | (simp; omega)) _ | with_reducible refine Within.trans ?_ (by assumption)))⟩
set_option maxRecDepth 100000 in
set_option maxHeartbeats 600000 in
theorem sum_noughts (a b : Nat) (mode : Int) (hxa : (FloatKind.f64.format.order a a != some .eq) = false) (hxb : (FloatKind.f64.format.order b b != some .eq) = false) (s : Nat) (hadd : Ieee.double.add a b = some s) (hxs : (FloatKind.f64.format.order s s != some .eq) = false) (FI : Hid (∀ w, Calls Tryd.prog 89 #[.float .f64 s] w fun e' w' => e' = .returned (.bool true) ∧ w = w')) (hz : (FloatKind.f64.format.order s 0 == some .eq) = true) (ha0 : (FloatKind.f64.format.order a 0 != some .eq) = false) (p q : Bool) (r : Nat) (SA : Hid (∀ w, Calls Tryd.prog 103 #[.float .f64 a] w fun e' w' => e' = .returned (.bool p) ∧ w = w')) (SB : Hid (∀ w, Calls Tryd.prog 103 #[.float .f64 b] w fun e' w' => e' = .returned (.bool q) ∧ w = w')) (NT : Hid (∀ w, Calls Tryd.prog 118 #[.bool p, .bool q, .int .i64 mode] w fun e' w' => e' = .returned (.float .f32 r) ∧ w = w')) (w : World) : Calls Tryd.prog 87 #[.float .f64 a, .float .f64 b, .int .i64 mode] w fun e' w' => e' = .returned (.tuple #[.float .f32 r, .int .i64 0]) ∧ Within w w' := by
  have hadd' := fun t P w => run_float_arith (P := P) w .add t .f64 _ _ _ hadd
  clear hadd
  go_enter Tryd.func87, Tryd.ntmps87
  go_wp2_with fail
  refine (FI.out _).mono ?_; rintro e1 w1 ⟨rfl, rfl⟩
  go_wp2_with fail
  refine (SA.out _).mono ?_; rintro e2 w2 ⟨rfl, rfl⟩
  go_wp2_with fail
  refine (SB.out _).mono ?_; rintro e3 w3 ⟨rfl, rfl⟩
  go_wp2_with fail
  refine (NT.out _).mono ?_; rintro e4 w4 ⟨rfl, rfl⟩
  go_wp2
  go_ret2
  exact ⟨rfl, (by repeat (first | with_reducible exact Within.refl _ | with_reducible assumption | with_reducible refine Within.alloc ?_ _ | with_reducible refine Within.drew ?_ | with_reducible refine Within.setCell ?_ (by first | (simp; done) | (simp; omega)) _ | with_reducible refine Within.trans ?_ (by assumption)))⟩
set_option maxRecDepth 100000 in
set_option maxHeartbeats 600000 in
theorem sum_main (a b : Nat) (mode : Int) (hxa : (FloatKind.f64.format.order a a != some .eq) = false) (hxb : (FloatKind.f64.format.order b b != some .eq) = false) (s : Nat) (hadd : Ieee.double.add a b = some s) (hxs : (FloatKind.f64.format.order s s != some .eq) = false) (FI : Hid (∀ w, Calls Tryd.prog 89 #[.float .f64 s] w fun e' w' => e' = .returned (.bool true) ∧ w = w')) (hz : (FloatKind.f64.format.order s 0 == some .eq) = false) (t u v x l : Nat) (k1 : Ieee.double.sub s a = some t) (k2 : Ieee.double.sub s t = some u) (k3 : Ieee.double.sub a u = some v) (k4 : Ieee.double.sub b t = some x) (k5 : Ieee.double.add v x = some l) (n : Bool) (m : Nat) (e : Int) (y r : Nat) (fl : Int) (NU : Hid (∀ w, Calls Tryd.prog 91 #[.float .f64 s, .float .f64 l] w fun e' w' => e' = .returned (.agg #[.bool n, .int .u64 m, .int .i64 e]) ∧ Within w w')) (RN : Hid (∀ w, Calls Tryd.prog 70 #[.agg #[.bool n, .int .u64 m, .int .i64 e], .agg #[.int .i64 24, .int .i64 (-126), .int .i64 127], .int .i64 mode] w fun e' w' => e' = .returned (.tuple #[.float .f64 y, .int .i64 fl]) ∧ Within w w')) (hc : floatToFloatBits .f64 y .f32 = some r) (w : World) (hT : FmS w) : Calls Tryd.prog 87 #[.float .f64 a, .float .f64 b, .int .i64 mode] w fun e' w' => e' = .returned (.tuple #[.float .f32 r, .int .i64 fl]) ∧ Within w w' := by
  have hadd' := fun t P w => run_float_arith (P := P) w .add t .f64 _ _ _ hadd
  clear hadd
  have k1' := fun t P w => run_float_arith (P := P) w .sub t .f64 _ _ _ k1
  have k2' := fun t P w => run_float_arith (P := P) w .sub t .f64 _ _ _ k2
  have k3' := fun t P w => run_float_arith (P := P) w .sub t .f64 _ _ _ k3
  have k4' := fun t P w => run_float_arith (P := P) w .sub t .f64 _ _ _ k4
  have k5' := fun t P w => run_float_arith (P := P) w .add t .f64 _ _ _ k5
  clear k1 k2 k3 k4 k5
  have hcv := fun (w : World) => run_convert_float_float (P := Tryd.prog) w 40 31 .f64 .f32 y r (by kernel_rfl) (by kernel_rfl) hc
  clear hc
  go_enter Tryd.func87, Tryd.ntmps87
  go_wp2_with fail
  refine (FI.out _).mono ?_; rintro e1 w1 ⟨rfl, rfl⟩
  go_wp2
  refine wp_region_within (by kernel_rfl) (by kernel_rfl) ?_
  repeat
    apply wpq_step rfl
    · intro wq hCq
      have q0 := (hT.of hCq).1; have q1 := (hT.of hCq).2.1; have q2 := (hT.of hCq).2.2
      go_simp
      first | rfl | exact hCq.call (NU.out _) | exact hCq.call (RN.out _) | (trace_state; fail)
    simp only [Act.put, List.setIfInBounds_toArray, List.set_cons_zero, List.set_cons_succ]
  refine wpQuiet_nil ?_
  intro w3 hb3
  go_wp2
  go_ret2
  exact ⟨rfl, (by repeat (first | with_reducible exact Within.refl _ | with_reducible assumption | with_reducible refine Within.alloc ?_ _ | with_reducible refine Within.drew ?_ | with_reducible refine Within.setCell ?_ (by first | (simp; done) | (simp; omega)) _ | with_reducible refine Within.trans ?_ (by assumption)))⟩
set_option maxRecDepth 100000 in
set_option maxHeartbeats 600000 in
theorem finite_inf (s : Nat) (hs : Ieee.double.sub s s = none) (hn : ∀ t, (FloatKind.f64.format.order ((Question.nanBits .f64 s s).cut t) 0 == some .eq) = false) (w : World) : Calls Tryd.prog 89 #[.float .f64 s] w fun e w' => e = .returned (.bool false) ∧ Within w w' := by
  have hf := fun t w => m_float_nan .sub t .f64 s s Tryd.prog w (.inl rfl) hs
  clear hs
  go_enter Tryd.func89, Tryd.ntmps89
  go_wp2
  go_ret
  exact ⟨rfl, (by repeat (first | with_reducible exact Within.refl _ | with_reducible assumption | with_reducible refine Within.alloc ?_ _ | with_reducible refine Within.drew ?_ | with_reducible refine Within.setCell ?_ (by first | (simp; done) | (simp; omega)) _ | with_reducible refine Within.trans ?_ (by assumption)))⟩
set_option maxRecDepth 100000 in
set_option maxHeartbeats 600000 in
theorem add_nn (x y : Nat) (mode : Int) (KN : Hid (∀ w, Calls Tryd.prog 66 #[.int .i64 mode] w fun e' w' => e' = .returned (.bool true) ∧ w = w')) (gx : Bool) (ix : Nat) (hx : FloatKind.f32.decode x = .nan gx ix) (gy : Bool) (iy : Nat) (hy : FloatKind.f32.decode y = .nan gy iy) (SU : Hid (∀ tx ty w, Calls Tryd.prog 87 #[.float .f64 ((Question.nanConv .f64 x).cut tx), .float .f64 ((Question.nanConv .f64 y).cut ty), .int .i64 mode] w fun e' w' => e' = .returned (.tuple #[.float .f32 2143289344, .int .i64 0]) ∧ Within w w')) (w : World) : Calls Tryd.prog 47 #[.float .f32 x, .float .f32 y, .int .i64 mode] w fun e' w' => e' = .returned (.tuple #[.float .f32 2143289344, .int .i64 0, .int .i64 0]) ∧ Within w w' := by
  have cx := fun (w : World) => run_widen_nan 31 40 .f32 .f64 x Tryd.prog w (by decide) (by kernel_rfl) (by kernel_rfl) gx ix hx
  have cy := fun (w : World) => run_widen_nan 31 40 .f32 .f64 y Tryd.prog w (by decide) (by kernel_rfl) (by kernel_rfl) gy iy hy
  clear hx hy
  go_enter Tryd.func47, Tryd.ntmps47
  go_wp2_with fail
  refine (KN.out _).mono ?_; rintro e1 w1 ⟨rfl, rfl⟩
  go_wp2_with fail
  refine (SU.out _ _ _).mono ?_; rintro e2 w2 ⟨rfl, hb2⟩
  go_wp2
  go_ret3
  exact ⟨rfl, (by repeat (first | with_reducible exact Within.refl _ | with_reducible assumption | with_reducible refine Within.alloc ?_ _ | with_reducible refine Within.drew ?_ | with_reducible refine Within.setCell ?_ (by first | (simp; done) | (simp; omega)) _ | with_reducible refine Within.trans ?_ (by assumption)))⟩
set_option maxRecDepth 100000 in
set_option maxHeartbeats 600000 in
theorem add_nf (x y b : Nat) (mode : Int) (KN : Hid (∀ w, Calls Tryd.prog 66 #[.int .i64 mode] w fun e' w' => e' = .returned (.bool true) ∧ w = w')) (gx : Bool) (ix : Nat) (hx : FloatKind.f32.decode x = .nan gx ix) (hy : floatToFloatBits .f32 y .f64 = some b) (SU : Hid (∀ tx w, Calls Tryd.prog 87 #[.float .f64 ((Question.nanConv .f64 x).cut tx), .float .f64 b, .int .i64 mode] w fun e' w' => e' = .returned (.tuple #[.float .f32 2143289344, .int .i64 0]) ∧ Within w w')) (w : World) : Calls Tryd.prog 47 #[.float .f32 x, .float .f32 y, .int .i64 mode] w fun e' w' => e' = .returned (.tuple #[.float .f32 2143289344, .int .i64 0, .int .i64 0]) ∧ Within w w' := by
  have cx := fun (w : World) => run_widen_nan 31 40 .f32 .f64 x Tryd.prog w (by decide) (by kernel_rfl) (by kernel_rfl) gx ix hx
  have cy := fun (w : World) => run_convert_float_float (P := Tryd.prog) w 31 40 .f32 .f64 y b (by kernel_rfl) (by kernel_rfl) hy
  clear hx hy
  go_enter Tryd.func47, Tryd.ntmps47
  go_wp2_with fail
  refine (KN.out _).mono ?_; rintro e1 w1 ⟨rfl, rfl⟩
  go_wp2_with fail
  refine (SU.out _ _).mono ?_; rintro e2 w2 ⟨rfl, hb2⟩
  go_wp2
  go_ret3
  exact ⟨rfl, (by repeat (first | with_reducible exact Within.refl _ | with_reducible assumption | with_reducible refine Within.alloc ?_ _ | with_reducible refine Within.drew ?_ | with_reducible refine Within.setCell ?_ (by first | (simp; done) | (simp; omega)) _ | with_reducible refine Within.trans ?_ (by assumption)))⟩
set_option maxRecDepth 100000 in
set_option maxHeartbeats 600000 in
theorem add_fn (x y a : Nat) (mode : Int) (KN : Hid (∀ w, Calls Tryd.prog 66 #[.int .i64 mode] w fun e' w' => e' = .returned (.bool true) ∧ w = w')) (hx : floatToFloatBits .f32 x .f64 = some a) (gy : Bool) (iy : Nat) (hy : FloatKind.f32.decode y = .nan gy iy) (SU : Hid (∀ ty w, Calls Tryd.prog 87 #[.float .f64 a, .float .f64 ((Question.nanConv .f64 y).cut ty), .int .i64 mode] w fun e' w' => e' = .returned (.tuple #[.float .f32 2143289344, .int .i64 0]) ∧ Within w w')) (w : World) : Calls Tryd.prog 47 #[.float .f32 x, .float .f32 y, .int .i64 mode] w fun e' w' => e' = .returned (.tuple #[.float .f32 2143289344, .int .i64 0, .int .i64 0]) ∧ Within w w' := by
  have cx := fun (w : World) => run_convert_float_float (P := Tryd.prog) w 31 40 .f32 .f64 x a (by kernel_rfl) (by kernel_rfl) hx
  have cy := fun (w : World) => run_widen_nan 31 40 .f32 .f64 y Tryd.prog w (by decide) (by kernel_rfl) (by kernel_rfl) gy iy hy
  clear hx hy
  go_enter Tryd.func47, Tryd.ntmps47
  go_wp2_with fail
  refine (KN.out _).mono ?_; rintro e1 w1 ⟨rfl, rfl⟩
  go_wp2_with fail
  refine (SU.out _ _).mono ?_; rintro e2 w2 ⟨rfl, hb2⟩
  go_wp2
  go_ret3
  exact ⟨rfl, (by repeat (first | with_reducible exact Within.refl _ | with_reducible assumption | with_reducible refine Within.alloc ?_ _ | with_reducible refine Within.drew ?_ | with_reducible refine Within.setCell ?_ (by first | (simp; done) | (simp; omega)) _ | with_reducible refine Within.trans ?_ (by assumption)))⟩
end Go.Proofs.YtifgngmebnjfkaaDoor
end

section
namespace Go.Proofs.YtifgngmebnjfkaaDoor
open Go.RowKit
/-! NaNs that are drawn -/
theorem nanb_gt (x y t : Nat) : 9218868437227405312 < (Question.nanBits .f64 x y).cut t % 9223372036854775808 := by
  have e : (Question.nanBits .f64 x y).cut t = (t % 2) * 2 ^ 63 + 0x7ff0000000000000 + 1 + (t / 2) % (2 ^ 52 - 1) := rfl
  have h1 : t / 2 % (2 ^ 52 - 1) < 4503599627370495 := Nat.mod_lt _ (by decide)
  rw [e]
  generalize t / 2 % (2 ^ 52 - 1) = r at *
  rcases Nat.mod_two_eq_zero_or_one t with h | h <;> rw [h] <;> omega
theorem nanc_gt (x t : Nat) : 9218868437227405312 < (Question.nanConv .f64 x).cut t % 9223372036854775808 := by
  have e : (Question.nanConv .f64 x).cut t = (t % 2) * 2 ^ 63 + 0x7ff0000000000000 + 1 + (t / 2) % (2 ^ 52 - 1) := rfl
  have h1 : t / 2 % (2 ^ 52 - 1) < 4503599627370495 := Nat.mod_lt _ (by decide)
  rw [e]
  generalize t / 2 % (2 ^ 52 - 1) = r at *
  rcases Nat.mod_two_eq_zero_or_one t with h | h <;> rw [h] <;> omega
theorem ne_true {a : Nat} (h : 9218868437227405312 < a % 9223372036854775808) : (FloatKind.f64.format.order a a != some .eq) = true := by rw [ne_self, decide_eq_true h]
theorem ne_false {a : Nat} (h : a % 9223372036854775808 ≤ 9218868437227405312) : (FloatKind.f64.format.order a a != some .eq) = false := by rw [ne_self, decide_eq_false (by omega)]
theorem nan_zero {a : Nat} (h : 9218868437227405312 < a % 9223372036854775808) : (FloatKind.f64.format.order a 0 == some .eq) = false := by
  show (Ieee.double.order a 0 == some .eq) = false
  rw [Fp.order64_nan a 0 (.inl (decide_eq_true h))]; rfl
theorem read_nanD {a : Nat} (h : 9218868437227405312 < a % 9223372036854775808) : ∃ s t, Ieee.double.read a = .nan s t := ⟨_, _, Fp.read_nan Ieee.double a (by rw [Fp.rg64, Fp.dI]; exact h) Fp.dBI⟩
theorem add_nan {a b : Nat} (h : 9218868437227405312 < a % 9223372036854775808 ∨ 9218868437227405312 < b % 9223372036854775808) : Ieee.double.add a b = none := by
  unfold Ieee.Format.add
  rcases h with h | h
  · obtain ⟨s, t, e⟩ := read_nanD h
    rw [e]; rfl
  · obtain ⟨s, t, e⟩ := read_nanD h
    rw [e]
    cases Ieee.double.read a <;> rfl
theorem decode_nan {x : Nat} (h : 2139095040 < x % 2147483648) : ∃ g i, FloatKind.f32.decode x = .nan g i := ⟨_, _, Fp.read_nan Ieee.single x (by rw [Fp.rg32, Fp.sI]; exact h) Fp.sBI⟩
def ngS (x : Nat) : Bool := decide (2147483648 ≤ x)
def uS (x : Nat) : Int := Fp.val (ngS x) (Fp.mag Ieee.single (x % 2147483648) * 2 ^ Fp.sgap)
theorem wide_ok {x : Nat} (hx : x < 4294967296) (hf : x % 2147483648 < 2139095040) : ∃ a, floatToFloatBits .f32 x .f64 = some a ∧ Fi a ∧ Fp.un Ieee.double a = uS x ∧ ngD a = ngS x ∧ (uS x).natAbs ≤ 2 ^ 1500 := by
  have hI := single_is hx hf
  obtain ⟨h1, h2⟩ := Fp.widen_is hI
  have hl := num_lt h2
  have J := Fp.Rep.is h2 (decide (2147483648 ≤ x))
  have e := num_sgn (decide (2147483648 ≤ x)) (Fp.mag Ieee.single (x % 2147483648) * 2 ^ Fp.sgap)
  have hF : Fi (Fp.num Ieee.double (decide (2147483648 ≤ x)) (Fp.mag Ieee.single (x % 2147483648) * 2 ^ Fp.sgap)) := by
    refine ⟨J.1, ?_⟩
    rw [e]; unfold sgnD; split <;> omega
  refine ⟨_, wbits_num hf hF.2 h1, hF, J.un, ?_, ?_⟩
  · rw [e]; unfold ngD ngS sgnD
    cases decide (2147483648 ≤ x)
    · rw [if_neg Bool.false_ne_true]; exact decide_eq_false (by omega)
    · rw [if_pos rfl]; exact decide_eq_true (by omega)
  · have hm : Fp.mag Ieee.single (x % 2147483648) ≤ Fp.mag Ieee.single Ieee.single.infRung := Fp.mag_mono Ieee.single (by rw [Fp.sI]; omega)
    obtain ⟨K, hK⟩ : ∃ K : Nat, K = 1500 := ⟨_, rfl⟩
    have hb : Fp.mag Ieee.single (x % 2147483648) * 2 ^ Fp.sgap ≤ 2 ^ K := by
      obtain ⟨J0, hJ⟩ : ∃ J0 : Nat, J0 = 253 := ⟨_, rfl⟩
      have e1 : Fp.mag Ieee.single Ieee.single.infRung = 2 ^ 24 * 2 ^ J0 := by rw [hJ]; decide +kernel
      rw [e1, ← Nat.pow_add] at hm
      refine Nat.le_trans (Nat.mul_le_mul_right _ hm) ?_
      rw [← Nat.pow_add]
      exact Nat.pow_le_pow_right (by decide) (by have := Fp.sgap_eq; omega)
    rw [← hK]
    unfold uS Fp.val
    generalize Fp.mag Ieee.single (x % 2147483648) * 2 ^ Fp.sgap = A at *
    generalize 2 ^ K = T at *
    split <;> omega
def noughtW (a b : Bool) (mode : Int) : Nat := if (a && b) || (a != b && decide (mode = 4)) then 2147483648 else 0
theorem nought_any (a b : Bool) (mode : Int) (w : World) : Calls Tryd.prog 118 #[.bool a, .bool b, .int .i64 mode] w fun e w' => e = .returned (.float .f32 (noughtW a b mode)) ∧ w = w' := by
  unfold noughtW
  cases a <;> cases b
  · exact nought_pp mode w
  · by_cases h : mode = 4
    · subst h; exact nought_false_down w
    · have : (false && true || (false != true && decide (mode = 4))) = false := by rw [decide_eq_false h]; rfl
      rw [this]; exact nought_false_other mode (by rw [beq_eq_false_iff_ne]; exact h) w
  · by_cases h : mode = 4
    · subst h; exact nought_true_down w
    · have : (true && false || (true != false && decide (mode = 4))) = false := by rw [decide_eq_false h]; rfl
      rw [this]; exact nought_true_other mode (by rw [beq_eq_false_iff_ne]; exact h) w
  · exact nought_nn mode w
/-! a number nudged -/
def nudM (S L : Int) : Nat := if L = 0 then 4 * top53 S.natAbs else if decide (0 < L) = decide (0 < S) then 4 * top53 S.natAbs + 1 else 4 * top53 S.natAbs - 1
def nudE (S : Int) : Int := (S.natAbs.log2 : Int) - 1128
theorem un_nat {s : Nat} (hs : Fi s) : magD s = (Fp.un Ieee.double s).natAbs ∧ (Fp.un Ieee.double s ≠ 0 → ngD s = decide (Fp.un Ieee.double s < 0)) := by
  have h := un_parts hs.1
  rw [h]
  refine ⟨by split <;> omega, fun h0 => ?_⟩
  cases hb : ngD s
  · rw [if_neg Bool.false_ne_true]; symm; exact decide_eq_false (by omega)
  · rw [hb, if_pos rfl] at h0
    rw [if_pos rfl]
    symm; exact decide_eq_true (by omega)
theorem eq_un0 {s : Nat} (hs : Fi s) : (FloatKind.f64.format.order s 0 == some .eq) = decide (Fp.un Ieee.double s = 0) := by
  rw [un_eq hs.le (by decide), zero_un]
theorem gt_un0 {s : Nat} (hs : Fi s) : (FloatKind.f64.format.order s 0 == some .gt) = decide (0 < Fp.un Ieee.double s) := by
  rw [un_gt hs.le (by decide), zero_un]
theorem nud_bounds {S L : Int} (h0 : S ≠ 0) (hR : Fp.Rep Ieee.double S.natAbs) : nudM S L ≠ 0 ∧ nudM S L < 18446744073709551616 ∧ -1128 ≤ nudE S ∧ nudE S ≤ 969 := by
  obtain ⟨t1, t2, t3, _⟩ := top53_bounds (n := S.natAbs) (by omega) hR
  unfold nudM nudE
  refine ⟨?_, ?_, by omega, by omega⟩
  · split
    · omega
    split <;> omega
  · split
    · omega
    split <;> omega
theorem nudge_le {s l : Nat} (hs : Fi s) (hl : l % 9223372036854775808 ≤ 9218868437227405312) (h0 : Fp.un Ieee.double s ≠ 0) (w : World) : Calls Tryd.prog 91 #[.float .f64 s, .float .f64 l] w fun e' w' => e' = .returned (.agg #[.bool (decide (Fp.un Ieee.double s < 0)), .int .u64 (nudM (Fp.un Ieee.double s) (Fp.un Ieee.double l)), .int .i64 (nudE (Fp.un Ieee.double s))]) ∧ Within w w' := by
  obtain ⟨m1, m2⟩ := un_nat hs
  have hR := magD_rep hs.2
  have hm0 : magD s ≠ 0 := by omega
  obtain ⟨t1, t2, t3, _⟩ := top53_bounds hm0 hR
  have TK := Lib.hid (fun w => take_any s (magD s) hs.1 hm0 hs.2 rfl w)
  have e1 : (decide (9223372036854775808 ≤ s)) = decide (Fp.un Ieee.double s < 0) := m2 h0
  rw [e1, m1] at TK
  rw [m1] at t1 t2 t3
  have hz : (FloatKind.f64.format.order l 0 == some .eq) = decide (Fp.un Ieee.double l = 0) := by rw [un_eq hl (by decide), zero_un]
  have hg : (FloatKind.f64.format.order l 0 == some .gt) = decide (0 < Fp.un Ieee.double l) := by rw [un_gt hl (by decide), zero_un]
  have hgs := gt_un0 hs
  unfold nudM nudE
  generalize Fp.un Ieee.double s = S at *
  generalize Fp.un Ieee.double l = L at *
  have e2 : (S.natAbs.log2 : Int) - 1128 = (S.natAbs.log2 : Int) - 1126 - 2 := by omega
  rw [e2]
  by_cases z : L = 0
  · rw [decide_eq_true z] at hz
    rw [if_pos z]
    exact nudge_zero s l (top53 S.natAbs) (4 * top53 S.natAbs - 1) _ (4 * top53 S.natAbs + 1) _ _ (by omega) rfl rfl (by omega) (by omega) (by omega) TK hz w
  rw [decide_eq_false z] at hz
  rw [if_neg z]
  by_cases g : decide (0 < L) = decide (0 < S)
  · rw [if_pos g]
    exact nudge_up s l (top53 S.natAbs) (4 * top53 S.natAbs - 1) (4 * top53 S.natAbs) _ _ _ (by omega) rfl rfl (by omega) (by omega) (by omega) TK hz _ hg (by rw [hgs, g]) w
  · rw [if_neg g]
    exact nudge_down s l (top53 S.natAbs) _ (4 * top53 S.natAbs) (4 * top53 S.natAbs + 1) _ _ (by omega) rfl rfl (by omega) (by omega) (by omega) TK hz _ hg (by rw [hgs]; revert g; cases decide (0 < L) <;> cases decide (0 < S) <;> decide) w
theorem nudge_any {s l : Nat} (hs : Fi s) (hl : Fi l) (h0 : Fp.un Ieee.double s ≠ 0) (w : World) : Calls Tryd.prog 91 #[.float .f64 s, .float .f64 l] w fun e' w' => e' = .returned (.agg #[.bool (decide (Fp.un Ieee.double s < 0)), .int .u64 (nudM (Fp.un Ieee.double s) (Fp.un Ieee.double l)), .int .i64 (nudE (Fp.un Ieee.double s))]) ∧ Within w w' := nudge_le hs hl.le h0 w
/-! what Add comes to, of numbers that are none of the NaNs and not both infinite -/
def addW (A B : Int) (na nb : Bool) (mode : Int) : Nat :=
  if sumS A B = 0 then (if A = 0 then noughtW na nb mode else noughtW false true mode)
  else sWord (decide (sumS A B < 0)) (nudM (sumS A B) (sumL A B)) (nudE (sumS A B)) mode
def addF (A B : Int) (mode : Int) : Int :=
  if sumS A B = 0 then 0 else rFlags 24 (-149) 127 (decide (sumS A B < 0)) (nudM (sumS A B) (sumL A B)) (nudE (sumS A B)) mode
theorem finite_ok {s : Nat} (hs : Fi s) (w : World) : Calls Tryd.prog 89 #[.float .f64 s] w fun e w' => e = .returned (.bool true) ∧ w = w' := by
  obtain ⟨z, z1, z2, z3⟩ := sub_ok hs hs (by rw [Int.sub_self]; exact Nat.zero_le _)
  rw [Int.sub_self, rn_zero] at z3
  exact finite_core s z true z1 (by rw [eq_un0 z2, z3]; rfl) w
theorem sum_fin {a b : Nat} {mode : Int} (ha : Fi a) (hb : Fi b) (h1 : (Fp.un Ieee.double a).natAbs ≤ 2 ^ 1500) (h2 : (Fp.un Ieee.double b).natAbs ≤ 2 ^ 1500) (hmode : 0 ≤ mode ∧ mode ≤ 4) (w : World) (hT : FmS w) : Calls Tryd.prog 87 #[.float .f64 a, .float .f64 b, .int .i64 mode] w fun e' w' => e' = .returned (.tuple #[.float .f32 (addW (Fp.un Ieee.double a) (Fp.un Ieee.double b) (decide (9223372036854775808 ≤ a)) (decide (9223372036854775808 ≤ b)) mode), .int .i64 (addF (Fp.un Ieee.double a) (Fp.un Ieee.double b) mode)]) ∧ Within w w' := by
  obtain ⟨s, t, u, v, x, l, k0, k1, k2, k3, k4, k5, hs, hl, e1, e2⟩ := sum_words ha hb h1 h2
  have FI := Lib.hid (fun w => finite_ok hs w)
  have hz := eq_un0 hs
  unfold addW addF
  rw [← e1, ← e2]
  by_cases z : Fp.un Ieee.double s = 0
  · rw [decide_eq_true z] at hz
    rw [if_pos z, if_pos z]
    have ha0 := eq_un0 ha
    by_cases a0 : Fp.un Ieee.double a = 0
    · rw [decide_eq_true a0] at ha0
      rw [if_pos a0]
      exact sum_noughts a b mode (ne_false ha.le) (ne_false hb.le) s k0 (ne_false hs.le) FI hz (by simp [bne, ha0]) _ _ _ (Lib.hid fun w => m_signbit a ha.1 w) (Lib.hid fun w => m_signbit b hb.1 w) (Lib.hid fun w => nought_any _ _ mode w) w
    · rw [decide_eq_false a0] at ha0
      rw [if_neg a0]
      exact sum_cancel a b s _ mode (ne_false ha.le) (ne_false hb.le) (ne_false hs.le) k0 FI hz (by simp [bne, ha0]) (Lib.hid fun w => nought_any false true mode w) w
  · rw [decide_eq_false z] at hz
    rw [if_neg z, if_neg z]
    have hR : Fp.Rep Ieee.double (Fp.un Ieee.double s).natAbs := by rw [← (un_nat hs).1]; exact magD_rep hs.2
    obtain ⟨b1, b2, b3, b4⟩ := nud_bounds (L := Fp.un Ieee.double l) z hR
    exact sum_main a b mode (ne_false ha.le) (ne_false hb.le) s k0 (ne_false hs.le) FI hz t u v x l k1 k2 k3 k4 k5 _ _ _ _ _ _ (Lib.hid fun w => nudge_any hs hl z w)
      (Lib.hid fun w => round_S (decide (Fp.un Ieee.double s < 0)) _ _ mode b1 b2 (by omega) (by omega) hmode w) (sWord_bits _ _ mode b1 b2) w hT
end Go.Proofs.YtifgngmebnjfkaaDoor
end

section
namespace Go.Proofs.YtifgngmebnjfkaaDoor
theorem log2_floor {X Y w : Nat} (h : X / 2 ^ w = Y / 2 ^ w) (h0 : X / 2 ^ w ≠ 0) : X.log2 = Y.log2 := by
  have key : ∀ X : Nat, X / 2 ^ w ≠ 0 → X.log2 = (X / 2 ^ w).log2 + w := by
    intro X h0
    have hX : X ≠ 0 := fun h => h0 (by rw [h, Nat.zero_div])
    have h1 := Nat.log2_self_le h0
    have h2 := Nat.lt_log2_self (n := X / 2 ^ w)
    have hp := Nat.two_pow_pos w
    have h3 : 2 ^ ((X / 2 ^ w).log2 + w) ≤ X := by
      rw [Nat.pow_add]
      exact (Nat.le_div_iff_mul_le hp).1 h1
    have h4 : X < 2 ^ ((X / 2 ^ w).log2 + w + 1) := by
      rw [show (X / 2 ^ w).log2 + w + 1 = ((X / 2 ^ w).log2 + 1) + w by omega, Nat.pow_add]
      exact (Nat.div_lt_iff_lt_mul hp).1 h2
    have a1 := (Nat.le_log2 hX).2 h3
    have a2 := (Nat.log2_lt hX).2 h4
    omega
  rw [key X h0, key Y (h ▸ h0), h]
theorem floor_up {X Y w d : Nat} (h : X / 2 ^ w = Y / 2 ^ w) (hx : X % 2 ^ w ≠ 0) (hy : Y % 2 ^ w ≠ 0) : X / 2 ^ (w + d) = Y / 2 ^ (w + d) ∧ (X % 2 ^ (w + d) = 0 ↔ Y % 2 ^ (w + d) = 0) := by
  rw [Nat.pow_add]
  refine ⟨by rw [← Nat.div_div_eq_div_mul, ← Nat.div_div_eq_div_mul, h], ?_⟩
  rw [Nat.mod_mul, Nat.mod_mul]
  omega
theorem rn_lost {z : Int} (h : rn z ≠ z) : ∃ c k : Nat, (rn z).natAbs = c * 2 ^ k ∧ 4503599627370496 ≤ c ∧ c < 9007199254740992 ∧ 1 ≤ k ∧ 2 * (z - rn z).natAbs ≤ 2 ^ k ∧ (rn z ≠ 0) ∧ (0 < rn z ↔ 0 < z) ∧ (rn z < 0 ↔ z < 0) := by
  obtain ⟨K, q, h1, h2, h3, h4, h5, h6⟩ := rn_spec z
  have hK : K ≠ 0 := by
    intro h0
    subst h0
    exact h (h6 (by rw [Nat.pow_zero]; exact Nat.mod_one _))
  have h4 := h4 hK
  have hp := Nat.two_pow_pos K
  have hq : (rn z).natAbs = q.natAbs * 2 ^ K := by rw [h1, natAbs_mul_pow]
  have hl : 4503599627370496 ≤ q.natAbs := by
    have a : 4503599627370495 * 2 ^ K < q.natAbs * 2 ^ K := by
      rw [← hq]
      generalize 2 ^ K = Z at *
      omega
    have := Nat.lt_of_mul_lt_mul_right a
    omega
  have hs : (rn z ≠ 0) ∧ (0 < rn z ↔ 0 < z) ∧ (rn z < 0 ↔ z < 0) := by
    generalize 2 ^ K = Z at *
    generalize rn z = S at *
    omega
  have h5' : 2 * (z - rn z).natAbs ≤ 2 ^ K := by omega
  rcases Nat.lt_or_ge q.natAbs 9007199254740992 with hc | hc
  · exact ⟨q.natAbs, K, hq, hl, hc, by omega, h5', hs⟩
  · have e : q.natAbs = 4503599627370496 * 2 := by omega
    refine ⟨4503599627370496, K + 1, ?_, Nat.le_refl _, by decide, by omega, ?_, hs⟩
    · rw [hq, e, Nat.pow_succ, Nat.mul_assoc, Nat.mul_comm 2]
    · rw [Nat.pow_succ]; omega
theorem floor_at (W q r : Nat) (h : r < W) : (q * W + r) / W = q ∧ (q * W + r) % W = r := by
  have hp : 0 < W := by omega
  refine ⟨?_, ?_⟩
  · rw [Nat.mul_comm, Nat.mul_add_div hp, Nat.div_eq_of_lt h, Nat.add_zero]
  · rw [Nat.mul_comm, Nat.mul_add_mod, Nat.mod_eq_of_lt h]
theorem nud_floor {z : Int} (hl : rn z ≠ z) : ∃ k c' : Nat, 1 ≤ k ∧ c' ≠ 0 ∧ nudE (rn z) = (k : Int) - 1076 ∧ 9007199254740992 ≤ nudM (rn z) (z - rn z) ∧ nudM (rn z) (z - rn z) < 18446744073709551616 ∧
    z.natAbs * 2 ^ 2 / 2 ^ (k + 2) = c' ∧ z.natAbs * 2 ^ 2 % 2 ^ (k + 2) ≠ 0 ∧ nudM (rn z) (z - rn z) * 2 ^ k / 2 ^ (k + 2) = c' ∧ nudM (rn z) (z - rn z) * 2 ^ k % 2 ^ (k + 2) ≠ 0 := by
  obtain ⟨c, k, h1, h2, h3, h4, h5, h6, h7, h8⟩ := rn_lost hl
  obtain ⟨t1, t2⟩ := top53_eq (n := (rn z).natAbs) (by omega) h2 h3 h1
  have hE : nudE (rn z) = (k : Int) - 1076 := by unfold nudE; rw [t2]; omega
  have hp := Nat.two_pow_pos k
  have hW : 2 ^ (k + 2) = 4 * 2 ^ k := by rw [Nat.pow_add, Nat.mul_comm]
  have hL0 : z - rn z ≠ 0 := by omega
  have hM : nudM (rn z) (z - rn z) = if decide (0 < z - rn z) = decide (0 < rn z) then 4 * c + 1 else 4 * c - 1 := by unfold nudM; rw [if_neg hL0, t1]
  obtain ⟨l, hl1⟩ : ∃ l, l = (z - rn z).natAbs := ⟨_, rfl⟩
  rw [← hl1] at h5
  have hl0 : 1 ≤ l := by omega
  rw [hM, show (2 : Nat) ^ 2 = 4 from rfl]
  by_cases hs : decide (0 < z - rn z) = decide (0 < rn z)
  · rw [if_pos hs]
    rw [decide_eq_decide] at hs
    have hz : z.natAbs = c * 2 ^ k + l := by
      rw [← h1]
      omega
    have e1 : z.natAbs * 4 = c * (4 * 2 ^ k) + 4 * l := by rw [hz, Nat.add_mul, Nat.mul_assoc, Nat.mul_comm (2 ^ k) 4, Nat.mul_comm l]
    have e2 : (4 * c + 1) * 2 ^ k = c * (4 * 2 ^ k) + 2 ^ k := by rw [Nat.add_mul, Nat.one_mul, Nat.mul_comm 4 c, Nat.mul_assoc]
    obtain ⟨f1, f2⟩ := floor_at (4 * 2 ^ k) c (4 * l) (by omega)
    obtain ⟨g1, g2⟩ := floor_at (4 * 2 ^ k) c (2 ^ k) (by omega)
    exact ⟨k, c, h4, by omega, hE, by omega, by omega, by rw [hW, e1, f1], by rw [hW, e1, f2]; omega, by rw [hW, e2, g1], by rw [hW, e2, g2]; omega⟩
  · rw [if_neg hs]
    rw [decide_eq_decide] at hs
    obtain ⟨d, rfl⟩ : ∃ d, c = d + 1 := ⟨c - 1, by omega⟩
    have hz : z.natAbs + l = (d + 1) * 2 ^ k := by
      rw [← h1]
      omega
    rw [Nat.add_mul, Nat.one_mul] at hz
    have e1 : z.natAbs * 4 = d * (4 * 2 ^ k) + (4 * 2 ^ k - 4 * l) := by
      rw [← Nat.mul_assoc, Nat.mul_comm d 4, Nat.mul_assoc]
      generalize d * 2 ^ k = Q at *
      omega
    have e2 : (4 * (d + 1) - 1) * 2 ^ k = d * (4 * 2 ^ k) + 3 * 2 ^ k := by rw [show 4 * (d + 1) - 1 = 4 * d + 3 by omega, Nat.add_mul, Nat.mul_comm 4 d, Nat.mul_assoc]
    obtain ⟨f1, f2⟩ := floor_at (4 * 2 ^ k) d (4 * 2 ^ k - 4 * l) (by omega)
    obtain ⟨g1, g2⟩ := floor_at (4 * 2 ^ k) d (3 * 2 ^ k) (by omega)
    exact ⟨k, d, h4, by omega, hE, by omega, by omega, by rw [hW, e1, f1], by rw [hW, e1, f2]; omega, by rw [hW, e2, g1], by rw [hW, e2, g2]; omega⟩
theorem nud_near {z : Int} (hl : rn z ≠ z) {D lo : Int} (hD : D ≤ 40) (ng : Bool) (mode : Int) :
    gK D lo z.natAbs (-1074) = rK D lo (nudM (rn z) (z - rn z)) (nudE (rn z)) ∧ gQ D lo ng z.natAbs (-1074) false mode = rQ D lo ng (nudM (rn z) (z - rn z)) (nudE (rn z)) mode ∧
    (decide (-2 < gc D lo z.natAbs (-1074) false) = rLost D lo (nudM (rn z) (z - rn z)) (nudE (rn z))) ∧ -1074 + (blen z.natAbs : Int) = nudE (rn z) + (Lib.bitLen (nudM (rn z) (z - rn z)) : Nat) := by
  obtain ⟨k, c, hk, hc, hE, hm1, hm2, x1, x2, y1, y2⟩ := nud_floor hl
  obtain ⟨m, hm⟩ : ∃ m, m = nudM (rn z) (z - rn z) := ⟨_, rfl⟩
  rw [← hm] at hm1 hm2 y1 y2
  rw [← hm, hE]
  have hz0 : z.natAbs ≠ 0 := fun h => x2 (by rw [h, Nat.zero_mul, Nat.zero_mod])
  have hl2 : (z.natAbs * 2 ^ 2).log2 = (m * 2 ^ k).log2 := log2_floor (x1.trans y1.symm) (by rw [x1]; exact hc)
  rw [Fp.log2_mul_pow _ _ hz0, Fp.log2_mul_pow _ _ (by omega)] at hl2
  have hbm : Lib.bitLen m = m.log2 + 1 := by rw [← blen_bitLen hm2, blen_pos (by omega)]
  have hb : -1074 + (blen z.natAbs : Int) = (k : Int) - 1076 + (Lib.bitLen m : Nat) := by
    rw [blen_pos hz0, hbm]; omega
  have hml : 53 ≤ m.log2 := (Nat.le_log2 (by omega)).2 hm1
  have hK : (k : Int) - 1076 + 14 ≤ rK D lo m ((k : Int) - 1076) := by
    have : (k : Int) - 1076 + (Lib.bitLen m : Nat) - D ≤ rK D lo m ((k : Int) - 1076) := Int.le_max_left _ _
    omega
  obtain ⟨t, ht⟩ : ∃ t : Nat, rK D lo m ((k : Int) - 1076) + ((1076 : Nat) : Int) = (t : Int) + 1 := ⟨(rK D lo m ((k : Int) - 1076) + 1075).toNat, by omega⟩
  obtain ⟨d, hd⟩ : ∃ d, t = k + 2 + d := ⟨t - (k + 2), by omega⟩
  obtain ⟨f1, f2⟩ := floor_up (d := d) (x1.trans y1.symm) x2 y2
  rw [← hd] at f1 f2
  have e1 : ((k : Int) - 1076 + ((1076 : Nat) : Int)).toNat = k := by omega
  have e2 : ((-1074 : Int) + ((1076 : Nat) : Int)).toNat = 2 := by decide
  obtain ⟨r1, r2, r3⟩ := g_near (D := D) (lo := lo) (ng := ng) (mode := mode) (m := m) (M := z.natAbs) (e := (k : Int) - 1076) (E := -1074) 1076 t (by omega) (by decide) ht hb (by rw [e1, e2]; exact f1) (by rw [e1, e2]; exact f2)
  exact ⟨r1, r2, r3, hb⟩
end Go.Proofs.YtifgngmebnjfkaaDoor
end

section
namespace Go.Proofs.YtifgngmebnjfkaaDoor
theorem top_value {n M : Nat} {E : Int} (J : Nat) (hJ : 1200 ≤ J) (h0 : n ≠ 0) (hr : Fp.Rep Ieee.double n) (hE : -1074 ≤ E) (h : n = M * 2 ^ (E + 1074).toNat) :
    top53 n * 2 ^ ((n.log2 : Int) - 1126 + J).toNat = M * 2 ^ (E + J).toNat := by
  obtain ⟨t1, t2, t3, t4⟩ := top53_bounds h0 hr
  have e1 : ((n.log2 : Int) - 1126 + J).toNat = n.log2 + (J - 1126) := by omega
  have e2 : (E + J).toNat = (E + 1074).toNat + (J - 1126) + 52 := by omega
  rw [e1, e2, Nat.pow_add, Nat.pow_add, Nat.pow_add, ← Nat.mul_assoc, ← Nat.mul_assoc, ← Nat.mul_assoc, ← h, t4]
  rw [Nat.mul_right_comm]
theorem narrow_word {x : Nat} {mode : Int} (hmode : 0 ≤ mode ∧ mode ≤ 4) : sWS (kD x) (nD x) (mD x) (eD x) mode = nWord x mode ∧ sFS (kD x) (nD x) (mD x) (eD x) mode = nFlags x mode := by
  have hm : ¬¬(0 ≤ mode ∧ mode ≤ 4) := fun h => h hmode
  unfold nWord nFlags
  rw [if_neg hm, if_neg hm]
  by_cases hn : 9218868437227405312 < x % 9223372036854775808
  · rw [if_pos hn, if_pos hn]
    have hk : kD x = 2 := by unfold kD tK; rw [if_pos (by omega), if_neg (by omega)]
    rw [hk, sWS_nan, sFS_nan]; exact ⟨rfl, rfl⟩
  rw [if_neg hn, if_neg hn]
  by_cases hi : x % 9223372036854775808 = 9218868437227405312
  · have hk : kD x = 1 := by unfold kD tK; rw [if_pos (by omega), if_pos (by omega)]
    have hng : nD x = ngD x := by unfold nD tN ngD; rw [if_neg (by omega)]
    have hz : ¬ x % 9223372036854775808 = 0 := by omega
    rw [if_neg hz, if_neg hz, if_pos hi, if_pos hi, hk, sWS_inf, sFS_inf, hng]; exact ⟨rfl, rfl⟩
  obtain ⟨g1, g2, g3, g4⟩ := mD_mag (x := x) (by omega)
  by_cases hz : x % 9223372036854775808 = 0
  · rw [if_pos hz, if_pos hz, g2, g3, g4.2 hz, sWS_zero, sFS_zero]; exact ⟨rfl, rfl⟩
  rw [if_neg hz, if_neg hz, if_neg hi, if_neg hi, g2, g3, sWS_main _ (fun h => hz (g4.1 h)), sFS_main _ (fun h => hz (g4.1 h))]
  have h0 : magD x ≠ 0 := fun h => hz (magD_zero.1 h)
  have hr := magD_rep (a := x) (by omega)
  obtain ⟨t1, t2, t3, t4⟩ := top53_bounds h0 hr
  have hE := eD_lo x g2
  have hv := top_value 1200 (Nat.le_refl _) h0 hr hE g1
  obtain ⟨k1, k2, k3, k4, _⟩ := g_is_r (D := 24) (lo := -149) (ng := ngD x) (mode := mode) 1200 (by omega) (by omega) (by omega) (by omega) (by omega) hv
  have hq := (rQ_le (D := 24) (lo := -149) (ngD x) (((magD x).log2 : Int) - 1126) mode (m := top53 (magD x)) (by omega) (by omega) (by decide)).1
  obtain ⟨f1, f2⟩ := gFlags_is (D := 24) (lo := -149) (most := 127) (ng := ngD x) (mode := mode) 1200 (by omega) (by omega) (by omega) (by omega) (by omega) hv (by
    have : rQ 24 (-149) (ngD x) (top53 (magD x)) (((magD x).log2 : Int) - 1126) mode ≤ 2 ^ 24 := hq
    omega)
  refine ⟨?_, f1⟩
  unfold gWord sWord
  rw [f2, topR_is, grid_of_num]
  have hfull := fun h => gQ_full (D := 24) (lo := -149) (ngD x) (M := mD x) (e := eD x) false mode (fun h => hz (g4.1 h)) (by decide) h
  have hg : Fp.grid Ieee.single (rQ 24 (-149) (ngD x) (top53 (magD x)) (((magD x).log2 : Int) - 1126) mode * 2 ^ (rK 24 (-149) (top53 (magD x)) (((magD x).log2 : Int) - 1126) + 149).toNat) 0 = (gK 24 (-149) (mD x) (eD x) - -149).toNat * 8388608 + gQ 24 (-149) (ngD x) (mD x) (eD x) false mode := by
    have hlo : (-149 : Int) ≤ gK 24 (-149) (mD x) (eD x) := Int.le_max_right _ _
    have := grid_rung Ieee.single 23 (rQ 24 (-149) (ngD x) (top53 (magD x)) (((magD x).log2 : Int) - 1126) mode) (rK 24 (-149) (top53 (magD x)) (((magD x).log2 : Int) - 1126) + 149).toNat rfl hq (by
      rcases Int.lt_or_le (-149) (gK 24 (-149) (mD x) (eD x)) with h | h
      · left; have := hfull h; rw [← k2]; exact this
      · right; rw [← k1]; omega)
    rw [this, k2, ← k1, show (gK 24 (-149) (mD x) (eD x) - -149) = (gK 24 (-149) (mD x) (eD x) + 149) by omega]
  rw [hg]
  rfl
end Go.Proofs.YtifgngmebnjfkaaDoor
end

section
namespace Go.Proofs.YtifgngmebnjfkaaDoor
theorem g_same {D lo : Int} {ng : Bool} {M M' : Nat} {E E' mode : Int} (J : Nat) (h1 : 0 ≤ E + J) (h2 : 0 ≤ E' + J) (h3 : 0 ≤ lo + J) (hM : M ≠ 0) (hv : M * 2 ^ (E + J).toNat = M' * 2 ^ (E' + J).toNat) :
    gK D lo M E = gK D lo M' E' ∧ gQ D lo ng M E false mode = gQ D lo ng M' E' false mode ∧ ((-2 < gc D lo M E false) ↔ (-2 < gc D lo M' E' false)) ∧ E + (blen M : Nat) = E' + (blen M' : Nat) ∧ M' ≠ 0 := by
  have hM0 : M' ≠ 0 := by
    intro h; rw [h, Nat.zero_mul] at hv
    exact Nat.mul_ne_zero hM (Nat.ne_of_gt (Nat.two_pow_pos _)) hv
  have hb : E + (blen M : Nat) = E' + (blen M' : Nat) := by
    have b1 := blen_mul M (E + J).toNat hM
    have b2 := blen_mul M' (E' + J).toNat hM0
    rw [hv, b2] at b1
    omega
  have hk : gK D lo M E = gK D lo M' E' := by unfold gK; rw [hb]
  have hk0 : 0 ≤ gK D lo M E + J := by have : lo ≤ gK D lo M E := Int.le_max_right _ _; omega
  refine ⟨hk, ?_, ?_, hb, hM0⟩
  · rw [gQ_fine D lo ng M E mode J h1 hk0, gQ_fine D lo ng M' E' mode J h2 (by omega), hk, hv]
  · rw [gc_fine D lo M E J h1 hk0, gc_fine D lo M' E' J h2 (by omega), hk, hv]
theorem gWord_same {D lo most : Int} {top inf FR SG : Nat} {ng : Bool} {M M' : Nat} {E E' mode : Int} (J : Nat) (h1 : 0 ≤ E + J) (h2 : 0 ≤ E' + J) (h3 : 0 ≤ lo + J) (hM : M ≠ 0) (hv : M * 2 ^ (E + J).toNat = M' * 2 ^ (E' + J).toNat) :
    gWord D lo most top inf FR SG ng M E false mode = gWord D lo most top inf FR SG ng M' E' false mode ∧ gFlags D lo most ng M E false mode = gFlags D lo most ng M' E' false mode := by
  obtain ⟨k1, k2, k3, k4, _⟩ := g_same (D := D) (lo := lo) (ng := ng) (mode := mode) J h1 h2 h3 hM hv
  have ho : gOver D lo most ng M E false mode = gOver D lo most ng M' E' false mode := by unfold gOver; rw [k1, k2]
  unfold gWord gFlags gFl
  rw [ho, k1, k2, k4]
  refine ⟨rfl, ?_⟩
  simp only [k3]
theorem gWordS_of {ng : Bool} {m M : Nat} {e E mode : Int} (hm0 : m ≠ 0) (hm : m < 18446744073709551616) (hM0 : M ≠ 0)
    (k1 : gK 24 (-149) M E = rK 24 (-149) m e) (k2 : gQ 24 (-149) ng M E false mode = rQ 24 (-149) ng m e mode) (k3 : decide (-2 < gc 24 (-149) M E false) = rLost 24 (-149) m e) (k4 : E + (blen M : Nat) = e + (Lib.bitLen m : Nat)) :
    gWord 24 (-149) 127 2139095039 2139095040 8388608 2147483648 ng M E false mode = sWord ng m e mode ∧ gFlags 24 (-149) 127 ng M E false mode = rFlags 24 (-149) 127 ng m e mode := by
  have hq := (rQ_le (D := 24) (lo := -149) ng e mode hm0 hm (by decide)).1
  have f2 : gOver 24 (-149) 127 ng M E false mode = rOver 24 (-149) 127 ng m e mode := by
    unfold gOver rOver; rw [k1, k2, blen_bitLen (by
      have : rQ 24 (-149) ng m e mode ≤ 2 ^ 24 := hq
      omega)]
  refine ⟨?_, ?_⟩
  · unfold gWord sWord
    rw [f2, topR_is, grid_of_num]
    have hfull := fun h => gQ_full (D := 24) (lo := -149) ng (M := M) (e := E) false mode hM0 (by decide) h
    have hg : Fp.grid Ieee.single (rQ 24 (-149) ng m e mode * 2 ^ (rK 24 (-149) m e + 149).toNat) 0 = (gK 24 (-149) M E - -149).toNat * 8388608 + gQ 24 (-149) ng M E false mode := by
      have := grid_rung Ieee.single 23 (rQ 24 (-149) ng m e mode) (rK 24 (-149) m e + 149).toNat rfl hq (by
        rcases Int.lt_or_le (-149) (gK 24 (-149) M E) with h | h
        · left; have := hfull h; rw [← k2]; exact this
        · right; rw [← k1]; omega)
      rw [this, k2, ← k1, show (gK 24 (-149) M E - -149) = (gK 24 (-149) M E + 149) by omega]
    rw [hg]; rfl
  · unfold gFlags rFlags gFl
    rw [f2, k4, ← k3]
    by_cases h : rOver 24 (-149) 127 ng m e mode = true
    · rw [if_pos h, if_pos h]
    · rw [if_neg h, if_neg h]
      by_cases h2 : -2 < gc 24 (-149) M E false
      · rw [if_pos h2, if_pos (decide_eq_true h2)]
      · rw [if_neg h2, decide_eq_false h2, if_neg Bool.false_ne_true]
theorem gWordS_of_exact {ng : Bool} {m l M : Nat} {mode : Int} (hm0 : m ≠ 0) (hm : m < 18446744073709551616) (hv : m * 2 ^ l = M * 2 ^ 54) :
    gWord 24 (-149) 127 2139095039 2139095040 8388608 2147483648 ng M (-1074) false mode = sWord ng m ((l : Int) - 1128) mode ∧ gFlags 24 (-149) 127 ng M (-1074) false mode = rFlags 24 (-149) 127 ng m ((l : Int) - 1128) mode := by
  obtain ⟨k1, k2, k3, k4, hM0⟩ := g_is_r (D := 24) (lo := -149) (ng := ng) (mode := mode) (m := m) (M := M) (e := (l : Int) - 1128) (E := -1074) 1128 (by omega) (by decide) (by decide) hm0 hm
    (by rw [show ((l : Int) - 1128 + ((1128 : Nat) : Int)).toNat = l by omega, show ((-1074 : Int) + ((1128 : Nat) : Int)).toNat = 54 by decide]; exact hv)
  exact gWordS_of hm0 hm hM0 k1 k2 k3 k4
def xWord (z : Int) (mode : Int) : Nat := gWord 24 (-149) 127 2139095039 2139095040 8388608 2147483648 (decide (z < 0)) z.natAbs (-1074) false mode
def xFlags (z : Int) (mode : Int) : Int := gFlags 24 (-149) 127 (decide (z < 0)) z.natAbs (-1074) false mode
theorem nud_word {z : Int} (hz : z ≠ 0) (hr : Fp.Rep Ieee.double (rn z).natAbs) (mode : Int) :
    rn z ≠ 0 ∧ (decide (rn z < 0) = decide (z < 0)) ∧ xWord z mode = sWord (decide (z < 0)) (nudM (rn z) (z - rn z)) (nudE (rn z)) mode ∧ xFlags z mode = rFlags 24 (-149) 127 (decide (z < 0)) (nudM (rn z) (z - rn z)) (nudE (rn z)) mode := by
  unfold xWord xFlags
  by_cases h : rn z = z
  · have h0 : z.natAbs ≠ 0 := by omega
    rw [h] at hr ⊢
    refine ⟨hz, rfl, ?_⟩
    obtain ⟨t1, t2, t3, t4⟩ := top53_bounds h0 hr
    have hM : nudM z (z - z) = 4 * top53 z.natAbs := by unfold nudM; rw [if_pos (Int.sub_self z)]
    have hE : nudE z = (z.natAbs.log2 : Int) - 1128 := rfl
    rw [hM, hE]
    refine gWordS_of_exact (by omega) (by omega) ?_
    rw [show 4 * top53 z.natAbs * 2 ^ z.natAbs.log2 = 4 * (top53 z.natAbs * 2 ^ z.natAbs.log2) from Nat.mul_assoc _ _ _, t4, show (2 : Nat) ^ 54 = 4 * 2 ^ 52 from rfl]
    exact Nat.mul_left_comm _ _ _
  · obtain ⟨c, k, h1, h2, h3, h4, h5, h6, h7, h8⟩ := rn_lost h
    obtain ⟨k', c', _, _, _, hm1, hm2, _⟩ := nud_floor h
    obtain ⟨g1, g2, g3, g4⟩ := nud_near h (D := 24) (lo := -149) (by decide) (decide (z < 0)) mode
    exact ⟨h6, decide_eq_decide.2 h8, gWordS_of (by omega) hm2 (by omega) g1 g2 g3 g4⟩
def eSumW (z A : Int) (na nb : Bool) (mode : Int) : Nat := if z = 0 then (if A = 0 then noughtW na nb mode else noughtW false true mode) else xWord z mode
def eSumF (z mode : Int) : Int := if z = 0 then 0 else xFlags z mode
theorem add_is {A B : Int} (hA : RepZ A) (hB : RepZ B) (hr : Fp.Rep Ieee.double (rn (A + B)).natAbs) (na nb : Bool) (mode : Int) : addW A B na nb mode = eSumW (A + B) A na nb mode ∧ addF A B mode = eSumF (A + B) mode := by
  have hL := two_sum hA hB
  unfold addW addF eSumW eSumF
  rw [hL]
  unfold sumS
  by_cases h : A + B = 0
  · rw [h, rn_zero, if_pos rfl, if_pos rfl, if_pos rfl, if_pos rfl]; exact ⟨rfl, rfl⟩
  · obtain ⟨h1, h2, h3, h4⟩ := nud_word h hr mode
    rw [if_neg h1, if_neg h1, if_neg h, if_neg h, h2, h3, h4]; exact ⟨rfl, rfl⟩
end Go.Proofs.YtifgngmebnjfkaaDoor
end

section
namespace Go.Proofs.YtifgngmebnjfkaaDoor
def bS (N : Nat) : Nat := (gK 24 (-149) N (-1074) + 1074).toNat
def bQ (N : Nat) : Nat := N / 2 ^ bS N
def bBig (N : Nat) : Bool := decide (128 < gK 24 (-149) N (-1074) + (blen (bQ N) : Nat))
def bR (N : Nat) : Nat := if bBig N then 2139095039 else (bS N - 925) * 8388608 + bQ N
def bX (N : Nat) : Bool := bBig N || decide (N % 2 ^ bS N ≠ 0)
theorem bS_ge (N : Nat) : 925 ≤ bS N ∧ (gK 24 (-149) N (-1074) - -149).toNat = bS N - 925 ∧ (gK 24 (-149) N (-1074) - -1074).toNat = bS N ∧ gK 24 (-149) N (-1074) = (bS N : Int) - 1074 ∧ ¬ gK 24 (-149) N (-1074) ≤ -1074 ∧ bS N = max (blen N - 24) 925 := by
  have h : gK 24 (-149) N (-1074) = max (-1074 + ((blen N : Nat) : Int) - 24) (-149) := rfl
  unfold bS
  omega
theorem gq_bQ (N : Nat) : gq 24 (-149) N (-1074) = bQ N := by
  obtain ⟨h1, h2, h3, h4, h5, h6⟩ := bS_ge N
  unfold gq bQ
  rw [if_neg h5, h3]
theorem gc_b (N : Nat) : gc 24 (-149) N (-1074) false = cutC N (bS N) false ∧ (cutC N (bS N) false = -2 ↔ N % 2 ^ bS N = 0) := by
  obtain ⟨h1, h2, h3, h4, h5, h6⟩ := bS_ge N
  unfold gc
  rw [if_neg h5, h3]
  refine ⟨rfl, ?_⟩
  unfold cutC cmpN
  by_cases h : N % 2 ^ bS N = 0
  · rw [if_pos ⟨h, rfl⟩]; exact ⟨fun _ => h, fun _ => rfl⟩
  · rw [if_neg (fun g => h g.1)]
    refine ⟨fun g => ?_, fun g => absurd g h⟩
    exfalso
    revert g
    split
    · intro g; cases g
    · split
      · intro g; cases g
      · split <;> (intro g; cases g)
theorem blen_mono {a b : Nat} (h : a ≤ b) : blen a ≤ blen b := blen_le (Nat.lt_of_le_of_lt h (blen_lt b))
theorem blen_succ (a : Nat) : blen (a + 1) ≤ blen a + 1 := blen_le (by have := blen_lt a; rw [Nat.pow_succ]; have := Nat.two_pow_pos (blen a); omega)
theorem bQ_lt (N : Nat) : bQ N < 16777216 := by
  have h : gq 24 (-149) N (-1074) < 2 ^ 24 := gq_lt 24 (-149) N (-1074)
  rw [gq_bQ] at h
  have e : (2 : Nat) ^ 24 = 16777216 := by decide
  rw [e] at h
  exact h
theorem bQ_full (N : Nat) (h : 925 < bS N) : 8388608 ≤ bQ N := by
  obtain ⟨h1, h2, h3, h4, h5, h6⟩ := bS_ge N
  have h0 : N ≠ 0 := by rintro rfl; rw [blen_zero] at h6; omega
  have hb := le_of_blen h0
  unfold bQ
  rw [Nat.le_div_iff_mul_le (Nat.two_pow_pos _), show (8388608 : Nat) = 2 ^ 23 by decide, ← Nat.pow_add]
  exact Nat.le_trans (Nat.pow_le_pow_right (by decide) (by omega)) hb
def bU (ng : Bool) (N : Nat) (mode : Int) : Bool := if bBig N then !topR ng mode else upB ng (bQ N) (cutC N (bS N) false) mode
theorem up_top {ng : Bool} {q : Nat} {c mode : Int} (h : upB ng q c mode = true) : topR ng mode = false ∧ c ≠ -2 := by
  unfold upB at h
  unfold topR
  by_cases m0 : mode = 0
  · subst m0
    rw [if_pos rfl] at h
    refine ⟨by cases ng <;> decide, ?_⟩
    rintro rfl; revert h; simp
  · rw [if_neg m0] at h
    by_cases m1 : mode = 1
    · subst m1
      rw [if_pos rfl] at h
      refine ⟨by cases ng <;> decide, ?_⟩
      rintro rfl; revert h; decide
    · rw [if_neg m1] at h
      by_cases m3 : mode = 3
      · subst m3
        rw [if_pos rfl] at h
        cases ng
        · refine ⟨by decide, ?_⟩
          rintro rfl; revert h; decide
        · cases h
      · rw [if_neg m3] at h
        by_cases m4 : mode = 4
        · subst m4
          rw [if_pos rfl] at h
          cases ng
          · cases h
          · refine ⟨by decide, ?_⟩
            rintro rfl; revert h; decide
        · rw [if_neg m4] at h; cases h
theorem gQ_b (ng : Bool) (N : Nat) (mode : Int) : gQ 24 (-149) ng N (-1074) false mode = bQ N + (upB ng (bQ N) (cutC N (bS N) false) mode).toNat := by
  unfold gQ
  rw [gq_bQ, (gc_b N).1]
theorem over_big {ng : Bool} {N : Nat} {mode : Int} (h : bBig N = true) : gOver 24 (-149) 127 ng N (-1074) false mode = true := by
  have h' := of_decide_eq_true h
  unfold gOver
  rw [gQ_b]
  refine decide_eq_true ?_
  have := blen_mono (Nat.le_add_right (bQ N) (upB ng (bQ N) (cutC N (bS N) false) mode).toNat)
  omega
theorem over_not {ng : Bool} {N : Nat} {mode : Int} (h : bBig N = false) (hu : upB ng (bQ N) (cutC N (bS N) false) mode = false) : gOver 24 (-149) 127 ng N (-1074) false mode = false := by
  have h' := of_decide_eq_false h
  unfold gOver
  rw [gQ_b, hu]
  exact decide_eq_false (by simpa using h')
theorem over_up {ng : Bool} {N : Nat} {mode : Int} (h : bBig N = false) (hu : upB ng (bQ N) (cutC N (bS N) false) mode = true) (ho : gOver 24 (-149) 127 ng N (-1074) false mode = true) : bR N = 2139095039 := by
  have h' := of_decide_eq_false h
  unfold gOver at ho
  rw [gQ_b, hu] at ho
  have ho' := of_decide_eq_true ho
  obtain ⟨h1, h2, h3, h4, h5, h6⟩ := bS_ge N
  have hs := blen_succ (bQ N)
  have hq := bQ_lt N
  have h24 : blen (bQ N) ≤ 24 := blen_le (by rw [show (2 : Nat) ^ 24 = 16777216 by decide]; exact hq)
  have e1 : (true : Bool).toNat = 1 := rfl
  rw [e1] at ho'
  have hf := bQ_full N (by omega)
  have hb23 : 23 < blen (bQ N) := by
    rcases Nat.lt_or_ge 23 (blen (bQ N)) with g | g
    · exact g
    · have h7 := blen_lt (bQ N)
      have h8 : 2 ^ blen (bQ N) ≤ 2 ^ 23 := Nat.pow_le_pow_right (by decide) g
      have e23 : (2 : Nat) ^ 23 = 8388608 := by decide
      omega
  have hbS : bS N = 1178 := by omega
  have hlast : bQ N = 16777215 := by
    have h9 : blen (bQ N + 1) = 25 := by omega
    rcases Nat.lt_or_ge (bQ N + 1) 16777216 with g | g
    · have : blen (bQ N + 1) ≤ 24 := blen_le (by rw [show (2 : Nat) ^ 24 = 16777216 by decide]; exact g)
      omega
    · omega
  unfold bR
  rw [h, if_neg Bool.false_ne_true, hbS, hlast]
theorem xWord_b (V : Int) (mode : Int) : xWord V mode = bR V.natAbs + (bU (decide (V < 0)) V.natAbs mode).toNat + (if decide (V < 0) = true then 2147483648 else 0) := by
  unfold xWord gWord
  obtain ⟨h1, h2, h3, h4, h5, h6⟩ := bS_ge V.natAbs
  congr 1
  cases hb : bBig V.natAbs
  · have hbr : bR V.natAbs = (bS V.natAbs - 925) * 8388608 + bQ V.natAbs := by unfold bR; rw [hb, if_neg Bool.false_ne_true]
    have hbu : bU (decide (V < 0)) V.natAbs mode = upB (decide (V < 0)) (bQ V.natAbs) (cutC V.natAbs (bS V.natAbs) false) mode := by unfold bU; rw [hb, if_neg Bool.false_ne_true]
    rw [hbu, h2, gQ_b]
    cases hu : upB (decide (V < 0)) (bQ V.natAbs) (cutC V.natAbs (bS V.natAbs) false) mode
    · rw [over_not hb hu, if_neg Bool.false_ne_true, hbr]; exact (Nat.add_assoc _ _ _).symm
    · cases ho : gOver 24 (-149) 127 (decide (V < 0)) V.natAbs (-1074) false mode
      · rw [if_neg Bool.false_ne_true, hbr]; exact (Nat.add_assoc _ _ _).symm
      · rw [if_pos rfl, (up_top hu).1, if_neg Bool.false_ne_true, over_up hb hu ho]; rfl
  · have hbr : bR V.natAbs = 2139095039 := by unfold bR; rw [hb, if_pos rfl]
    have hbu : bU (decide (V < 0)) V.natAbs mode = !topR (decide (V < 0)) mode := by unfold bU; rw [hb, if_pos rfl]
    rw [over_big hb, if_pos rfl, hbr, hbu]
    cases topR (decide (V < 0)) mode <;> rfl
theorem bU_X {ng : Bool} {N : Nat} {mode : Int} (h : bU ng N mode = true) : bX N = true := by
  unfold bU at h
  unfold bX
  cases hb : bBig N
  · rw [hb, if_neg Bool.false_ne_true] at h
    rw [Bool.false_or]
    exact decide_eq_true (fun g => (up_top h).2 ((gc_b N).2.2 g))
  · rfl
theorem bU_no {N : Nat} (ng : Bool) : bU ng N (if ng then 3 else 4) = false := by
  unfold bU topR upB
  cases ng <;> cases bBig N <;> simp
theorem bU_yes {N : Nat} (ng : Bool) : bU ng N (if ng then 4 else 3) = bX N := by
  have hc := (gc_b N).2
  have hr : -2 < cutC N (bS N) false ↔ N % 2 ^ bS N ≠ 0 := by
    have : cutC N (bS N) false = -2 ∨ -2 < cutC N (bS N) false := by unfold cutC cmpN; repeat' split
                                                                     all_goals simp
    constructor
    · intro h g; have := hc.2 g; omega
    · intro h; rcases this with g | g
      · exact absurd (hc.1 g) h
      · exact g
  unfold bU bX topR upB
  cases ng <;> cases bBig N <;> simp [hr]
theorem flags_b (V : Int) (mode : Int) : (bX V.natAbs = false → xFlags V mode = 0) ∧ (bX V.natAbs = true → xFlags V mode % 2 = 1 ∧ 0 ≤ xFlags V mode ∧ xFlags V mode ≤ 5) := by
  unfold xFlags gFlags
  have hc := gc_b V.natAbs
  constructor
  · intro h
    have h1 : bBig V.natAbs = false ∧ V.natAbs % 2 ^ bS V.natAbs = 0 := by
      unfold bX at h
      cases hb : bBig V.natAbs
      · rw [hb, Bool.false_or] at h; exact ⟨rfl, by have := of_decide_eq_false h; omega⟩
      · rw [hb] at h; cases h
    have hcc := hc.2.2 h1.2
    have hu : upB (decide (V < 0)) (bQ V.natAbs) (cutC V.natAbs (bS V.natAbs) false) mode = false := by
      cases hu : upB (decide (V < 0)) (bQ V.natAbs) (cutC V.natAbs (bS V.natAbs) false) mode
      · rfl
      · exact absurd hcc (up_top hu).2
    rw [over_not h1.1 hu, if_neg Bool.false_ne_true]
    unfold gFl
    rw [hc.1, hcc, if_neg (by decide)]
  · intro h
    cases ho : gOver 24 (-149) 127 (decide (V < 0)) V.natAbs (-1074) false mode
    · rw [if_neg Bool.false_ne_true]
      have hb : bBig V.natAbs = false := by
        cases hb : bBig V.natAbs
        · rfl
        · rw [over_big hb] at ho; cases ho
      unfold bX at h
      rw [hb, Bool.false_or] at h
      have hr := of_decide_eq_true h
      have hcc : -2 < cutC V.natAbs (bS V.natAbs) false := by
        have h1 : cutC V.natAbs (bS V.natAbs) false ≠ -2 := fun g => hr (hc.2.1 g)
        have h2 : cutC V.natAbs (bS V.natAbs) false = -2 ∨ -2 < cutC V.natAbs (bS V.natAbs) false := by unfold cutC cmpN; repeat' split
                                                                                                        all_goals simp
        omega
      unfold gFl
      rw [hc.1, if_pos hcc]
      split <;> omega
    · rw [if_pos rfl]; omega
/-! what the rungs are worth -/
theorem magS_join (j q : Nat) (hq : q ≤ 16777216) (hj : j ≠ 0 → 8388608 ≤ q) : Fp.mag Ieee.single (j * 8388608 + q) = q * 2 ^ j := by
  unfold Fp.mag
  rw [Fp.sB]
  by_cases h0 : j = 0
  · subst h0
    rw [Nat.zero_mul, Nat.zero_add, Nat.pow_zero, Nat.mul_one]
    by_cases h : q < 8388608
    · rw [if_pos h]
    · rw [if_neg h]
      by_cases h2 : q = 16777216
      · subst h2; decide
      · have e1 : q / 8388608 = 1 := by omega
        rw [e1, Nat.sub_self, Nat.pow_zero, Nat.mul_one]; omega
  · have h1 := hj h0
    rw [if_neg (by omega)]
    by_cases h2 : q = 16777216
    · subst h2
      have e1 : (j * 8388608 + 16777216) / 8388608 = j + 2 := by omega
      have e2 : (j * 8388608 + 16777216) % 8388608 = 0 := by omega
      rw [e1, e2, Nat.add_zero, show j + 2 - 1 = j + 1 by omega, Nat.pow_succ, Nat.mul_comm (2 ^ j) 2, ← Nat.mul_assoc]
    · have e1 : (j * 8388608 + q) / 8388608 = j + 1 := by omega
      have e2 : (j * 8388608 + q) % 8388608 = q - 8388608 := by omega
      rw [e1, e2, Nat.add_sub_cancel, show 8388608 + (q - 8388608) = q by omega]
theorem pow_back {q s : Nat} (h : Fp.sgap ≤ s) : q * 2 ^ (s - Fp.sgap) * 2 ^ Fp.sgap = q * 2 ^ s := by
  rw [Nat.mul_assoc, ← Nat.pow_add, Nat.sub_add_cancel h]
theorem small_val (N : Nat) (h : bBig N = false) : bR N ≤ 2139095039 ∧ Fp.mag Ieee.single (bR N) * 2 ^ Fp.sgap = bQ N * 2 ^ bS N ∧ Fp.mag Ieee.single (bR N + 1) * 2 ^ Fp.sgap = (bQ N + 1) * 2 ^ bS N := by
  obtain ⟨h1, h2, h3, h4, h5, h6⟩ := bS_ge N
  have hbr : bR N = (bS N - 925) * 8388608 + bQ N := by unfold bR; rw [h, if_neg Bool.false_ne_true]
  have h' := of_decide_eq_false h
  have hq := bQ_lt N
  have hf : bS N - 925 ≠ 0 → 8388608 ≤ bQ N := fun g => bQ_full N (by omega)
  have e1 : Fp.sgap = 925 := Fp.sgap_eq
  rw [hbr]
  refine ⟨?_, ?_, ?_⟩
  · by_cases h0 : bS N - 925 = 0
    · omega
    · have hf' := hf h0
      have hb23 : 23 < blen (bQ N) := by
        rcases Nat.lt_or_ge 23 (blen (bQ N)) with g | g
        · exact g
        · have h7 := blen_lt (bQ N)
          have h8 : 2 ^ blen (bQ N) ≤ 2 ^ 23 := Nat.pow_le_pow_right (by decide) g
          have e23 : (2 : Nat) ^ 23 = 8388608 := by decide
          omega
      omega
  · rw [magS_join _ _ (by omega) hf, ← e1]; exact pow_back (by omega)
  · rw [Nat.add_assoc, magS_join _ _ (by omega) (fun g => by have := hf g; omega), ← e1]; exact pow_back (by omega)
def e1178 : Nat := 1178
theorem top_val : Fp.mag Ieee.single 2139095039 * 2 ^ Fp.sgap = 16777215 * 2 ^ e1178 := by
  have h : Fp.mag Ieee.single (253 * 8388608 + 16777215) = 16777215 * 2 ^ 253 := magS_join 253 16777215 (by decide) (fun _ => by decide)
  have e : 253 + Fp.sgap = e1178 := by decide
  rw [show (2139095039 : Nat) = 253 * 8388608 + 16777215 by decide, h, Nat.mul_assoc, ← Nat.pow_add, e]
theorem big_val (N : Nat) (h : bBig N = true) : 16777216 * 2 ^ e1178 ≤ N := by
  obtain ⟨h1, h2, h3, h4, h5, h6⟩ := bS_ge N
  have h' := of_decide_eq_true h
  have h0 : bQ N ≠ 0 := by intro g; rw [g, blen_zero] at h'; have hN : bS N = max (blen N - 24) 925 := h6; have hb : blen (bQ N) = 0 := by rw [g]; rfl
                           have hf := bQ_full N (by omega); omega
  have hb := le_of_blen h0
  have hN : bQ N * 2 ^ bS N ≤ N := Nat.div_mul_le_self N (2 ^ bS N)
  have hp : 2 ^ (blen (bQ N) - 1) * 2 ^ bS N ≤ N := Nat.le_trans (Nat.mul_le_mul_right _ hb) hN
  rw [← Nat.pow_add] at hp
  refine Nat.le_trans ?_ hp
  rw [show (16777216 : Nat) = 2 ^ 24 by decide, ← Nat.pow_add]
  refine Nat.pow_le_pow_right (by decide) ?_
  have : e1178 = 1178 := rfl
  omega
theorem bR_val (N : Nat) : bR N ≤ 2139095039 ∧ Fp.mag Ieee.single (bR N) * 2 ^ Fp.sgap ≤ N ∧ (bR N < 2139095039 → N < Fp.mag Ieee.single (bR N + 1) * 2 ^ Fp.sgap) ∧ (bX N = false → N = Fp.mag Ieee.single (bR N) * 2 ^ Fp.sgap) := by
  have hp := Nat.two_pow_pos (bS N)
  cases h : bBig N
  · obtain ⟨a, b, c⟩ := small_val N h
    have e := Nat.div_add_mod N (2 ^ bS N)
    have hm := Nat.mod_lt N hp
    have eq : bQ N * 2 ^ bS N = 2 ^ bS N * (N / 2 ^ bS N) := Nat.mul_comm _ _
    refine ⟨a, by rw [b]; omega, fun _ => ?_, fun hx => ?_⟩
    · rw [c, Nat.add_mul, Nat.one_mul]; omega
    · rw [b]
      unfold bX at hx
      rw [h, Bool.false_or] at hx
      have := of_decide_eq_false hx
      omega
  · have hbr : bR N = 2139095039 := by unfold bR; rw [h, if_pos rfl]
    have hv := big_val N h
    rw [hbr, top_val]
    refine ⟨Nat.le_refl _, ?_, fun g => absurd g (Nat.lt_irrefl _), fun hx => ?_⟩
    · have : 16777215 * 2 ^ e1178 ≤ 16777216 * 2 ^ e1178 := Nat.mul_le_mul_right _ (by decide)
      omega
    · unfold bX at hx; rw [h] at hx; cases hx
end Go.Proofs.YtifgngmebnjfkaaDoor
end

section
namespace Go.Proofs.YtifgngmebnjfkaaDoor
open Go.RowKit
def isN (x : Nat) : Bool := decide (2139095040 < x % 2147483648)
def isI (x : Nat) : Bool := decide (x % 2147483648 = 2139095040)
def infD (s : Bool) : Nat := 9218868437227405312 + sgnD s
def infS (s : Bool) : Nat := 2139095040 + sgnS s
theorem inf_word {x : Nat} (hx : x < 4294967296) (h : isI x = true) : x = infS (ngS x) := by
  have h1 := of_decide_eq_true h
  unfold infS ngS sgnS
  by_cases g : 2147483648 ≤ x
  · rw [decide_eq_true g, if_pos rfl]; omega
  · rw [decide_eq_false g, if_neg Bool.false_ne_true]; omega
theorem infD_le (s : Bool) : infD s % 9223372036854775808 ≤ 9218868437227405312 := by cases s <;> decide
theorem infD_lt (s : Bool) : infD s < 18446744073709551616 := by cases s <;> decide
theorem wide_inf {x : Nat} (hx : x < 4294967296) (h : isI x = true) : floatToFloatBits .f32 x .f64 = some (infD (ngS x)) := by
  have e := wbits_inf (ngS x)
  have g := inf_word hx h
  unfold infS at g
  rw [← g] at e
  exact e
theorem read_fi {a : Nat} (h : Fi a) : ∃ s m e, Ieee.double.read a = .number s m e := by
  obtain ⟨m, e, r, _⟩ := Fp.read_fin Ieee.double a h.rg
  exact ⟨_, m, e, r⟩
theorem read_infD (s : Bool) : Ieee.double.read (infD s) = .infinity s := by cases s <;> rfl
theorem write_infD (s : Bool) : Ieee.double.write (.infinity s) = infD s := by cases s <;> decide +kernel
theorem add_inf_l (s : Bool) {b : Nat} (h : Fi b) : Ieee.double.add (infD s) b = some (infD s) := by
  obtain ⟨g, m, e, r⟩ := read_fi h
  unfold Ieee.Format.add
  rw [read_infD, r, ← write_infD s]
  rfl
theorem add_inf_r (s : Bool) {b : Nat} (h : Fi b) : Ieee.double.add b (infD s) = some (infD s) := by
  obtain ⟨g, m, e, r⟩ := read_fi h
  unfold Ieee.Format.add
  rw [read_infD, r, ← write_infD s]
  rfl
theorem add_inf_same (s : Bool) : Ieee.double.add (infD s) (infD s) = some (infD s) := by cases s <;> decide +kernel
theorem add_inf_diff {s t : Bool} (h : s ≠ t) : Ieee.double.add (infD s) (infD t) = none := by
  revert h; cases s <;> cases t <;> decide +kernel
theorem sub_inf_self (s : Bool) : Ieee.double.sub (infD s) (infD s) = none := by cases s <;> decide +kernel
theorem finite_inf_any (s : Bool) (w : World) : Calls Tryd.prog 89 #[.float .f64 (infD s)] w fun e w' => e = .returned (.bool false) ∧ Within w w' :=
  finite_inf (infD s) (sub_inf_self s) (fun t => nan_zero (nanb_gt _ _ t)) w
def addWd (x y : Nat) (mode : Int) : Nat :=
  if isN x || isN y then 2143289344
  else if isI x then (if isI y && ngS x != ngS y then 2143289344 else infS (ngS x))
  else if isI y then infS (ngS y)
  else addW (uS x) (uS y) (ngS x) (ngS y) mode
def addFl (x y : Nat) (mode : Int) : Int :=
  if isN x || isN y then 0
  else if isI x then (if isI y && ngS x != ngS y then 8 else 0)
  else if isI y then 0
  else addF (uS x) (uS y) mode
theorem isN_nan {x : Nat} (h : isN x = true) : ∃ g i, FloatKind.f32.decode x = .nan g i := decode_nan (of_decide_eq_true h)
theorem fin_of {x : Nat} (h1 : isN x = false) (h2 : isI x = false) : x % 2147483648 < 2139095040 := by
  have g1 := of_decide_eq_false h1
  have g2 := of_decide_eq_false h2
  omega
theorem wide_le {x : Nat} (hx : x < 4294967296) (h : isN x = false) : ∃ a, floatToFloatBits .f32 x .f64 = some a ∧ a % 9223372036854775808 ≤ 9218868437227405312 := by
  cases hi : isI x
  · obtain ⟨a, h1, h2, _⟩ := wide_ok hx (fin_of h hi)
    exact ⟨a, h1, h2.le⟩
  · exact ⟨_, wide_inf hx hi, infD_le _⟩
theorem Add_known (x y : Nat) (mode : Int) (hx : x < 4294967296) (hy : y < 4294967296) (hmode : 0 ≤ mode ∧ mode ≤ 4) (w : World) (hT : FmS w) : Calls Tryd.prog 47 #[.float .f32 x, .float .f32 y, .int .i64 mode] w fun e' w' => e' = .returned (.tuple #[.float .f32 (addWd x y mode), .int .i64 (addFl x y mode), .int .i64 0]) ∧ Within w w' := by
  have KN : Hid (∀ w, Calls Tryd.prog 66 #[.int .i64 mode] w fun e' w' => e' = .returned (.bool true) ∧ w = w') := Lib.hid (fun w => by have := known_any mode w; rw [decide_eq_true hmode] at this; exact this)
  have NO := Lib.hid none_any
  unfold addWd addFl
  cases nx : isN x
  · obtain ⟨a, ha, la⟩ := wide_le hx nx
    cases ny : isN y
    · obtain ⟨b, hb, lb⟩ := wide_le hy ny
      have hff : ¬ ((false || false) = true) := Bool.false_ne_true
      rw [if_neg hff, if_neg hff]
      refine add_core x y a b _ mode _ KN ha hb (Lib.hid fun w hT => ?_) w hT
      cases ix : isI x
      · rw [if_neg Bool.false_ne_true, if_neg Bool.false_ne_true]
        obtain ⟨a', a1, a2, a3, a4, a5⟩ := wide_ok hx (fin_of nx ix)
        obtain rfl : a' = a := Option.some.inj (a1.symm.trans ha)
        cases iy : isI y
        · rw [if_neg Bool.false_ne_true, if_neg Bool.false_ne_true]
          obtain ⟨b', b1, b2, b3, b4, b5⟩ := wide_ok hy (fin_of ny iy)
          obtain rfl : b' = b := Option.some.inj (b1.symm.trans hb)
          have := sum_fin a2 b2 (by rw [a3]; exact a5) (by rw [b3]; exact b5) hmode w hT
          rw [a3, b3] at this
          have e1 : decide (9223372036854775808 ≤ a') = ngS x := a4
          have e2 : decide (9223372036854775808 ≤ b') = ngS y := b4
          rw [e1, e2] at this
          exact this
        · rw [if_pos rfl, if_pos rfl]
          obtain rfl : infD (ngS y) = b := Option.some.inj ((wide_inf hy iy).symm.trans hb)
          exact sum_inf a' _ mode (ne_false la) (ne_false lb) _ (add_inf_r _ a2) (ne_false (infD_le _)) (Lib.hid fun w => finite_inf_any _ w) _ (nbits_inf _) w
      · rw [if_pos rfl, if_pos rfl]
        obtain rfl : infD (ngS x) = a := Option.some.inj ((wide_inf hx ix).symm.trans ha)
        cases iy : isI y
        · have hfg : ¬ ((false && ngS x != ngS y) = true) := Bool.false_ne_true
          rw [if_neg hfg, if_neg hfg]
          obtain ⟨b', b1, b2, b3, b4, b5⟩ := wide_ok hy (fin_of ny iy)
          obtain rfl : b' = b := Option.some.inj (b1.symm.trans hb)
          exact sum_inf _ b' mode (ne_false la) (ne_false lb) _ (add_inf_l _ b2) (ne_false (infD_le _)) (Lib.hid fun w => finite_inf_any _ w) _ (nbits_inf _) w
        · obtain rfl : infD (ngS y) = b := Option.some.inj ((wide_inf hy iy).symm.trans hb)
          by_cases g : ngS x = ngS y
          · rw [← g] at lb ⊢
            have hsm : ¬ ((true && ngS x != ngS x) = true) := by rw [bne_self_eq_false]; decide
            rw [if_neg hsm, if_neg hsm]
            exact sum_inf _ _ mode (ne_false la) (ne_false la) _ (add_inf_same _) (ne_false (infD_le _)) (Lib.hid fun w => finite_inf_any _ w) _ (nbits_inf _) w
          · have e : (true && ngS x != ngS y) = true := by rw [Bool.true_and, bne_iff_ne]; exact g
            rw [if_pos e, if_pos e]
            exact sum_invalid _ _ mode (ne_false la) (ne_false lb) (add_inf_diff g) (fun t => ne_true (nanb_gt _ _ t)) NO w
    · obtain ⟨gy, iy, dy⟩ := isN_nan ny
      have hft : (false || true) = true := rfl
      rw [if_pos hft, if_pos hft]
      exact add_fn x y a mode KN ha gy iy dy (Lib.hid fun ty w => sum_nan_b a _ mode (ne_false la) (ne_true (nanc_gt _ ty)) (add_nan (.inr (nanc_gt _ ty))) NO w) w
  · obtain ⟨gx, ix, dx⟩ := isN_nan nx
    have htt : ∀ q, (true || q) = true := fun q => rfl
    rw [if_pos (htt _), if_pos (htt _)]
    cases ny : isN y
    · obtain ⟨b, hb, lb⟩ := wide_le hy ny
      exact add_nf x y b mode KN gx ix dx hb (Lib.hid fun tx w => sum_nan_a _ b mode (ne_true (nanc_gt _ tx)) (add_nan (.inl (nanc_gt _ tx))) NO w) w
    · obtain ⟨gy, iy, dy⟩ := isN_nan ny
      exact add_nn x y mode KN gx ix dx gy iy dy (Lib.hid fun tx ty w => sum_nan_a _ _ mode (ne_true (nanc_gt _ tx)) (add_nan (.inl (nanc_gt _ tx))) NO w) w
end Go.Proofs.YtifgngmebnjfkaaDoor
end

section
namespace Go.Proofs.YtifgngmebnjfkaaDoor
open Go.RowKit
set_option maxRecDepth 100000 in
set_option maxHeartbeats 600000 in
theorem mul_nn (x y : Nat) (mode : Int) (KN : Hid (∀ w, Calls Tryd.prog 66 #[.int .i64 mode] w fun e' w' => e' = .returned (.bool true) ∧ w = w')) (nx : (FloatKind.f32.format.order x x != some .eq) = true) (gx : Bool) (ix : Nat) (hx : FloatKind.f32.decode x = .nan gx ix) (gy : Bool) (iy : Nat) (hy : FloatKind.f32.decode y = .nan gy iy) (hm : ∀ tx ty, Ieee.double.mul ((Question.nanConv .f64 x).cut tx) ((Question.nanConv .f64 y).cut ty) = none) (NO : Hid (∀ w, Calls Tryd.prog 67 #[] w fun e' w' => e' = .returned (.float .f32 2143289344) ∧ Within w w')) (w : World) : Calls Tryd.prog 48 #[.float .f32 x, .float .f32 y, .int .i64 mode] w fun e' w' => e' = .returned (.tuple #[.float .f32 2143289344, .int .i64 0, .int .i64 0]) ∧ Within w w' := by
  have cx := fun (w : World) => run_widen_nan 31 40 .f32 .f64 x Tryd.prog w (by decide) (by kernel_rfl) (by kernel_rfl) gx ix hx
  have cy := fun (w : World) => run_widen_nan 31 40 .f32 .f64 y Tryd.prog w (by decide) (by kernel_rfl) (by kernel_rfl) gy iy hy
  have hmul := fun tx ty t w => m_float_nan .mul t .f64 ((Question.nanConv .f64 x).cut tx) ((Question.nanConv .f64 y).cut ty) Tryd.prog w (by first | exact .inr (.inr (.inl rfl)) | exact .inr (.inr (.inr rfl))) (hm tx ty)
  clear hm hx hy
  go_enter Tryd.func48, Tryd.ntmps48
  go_wp2_with fail
  refine (KN.out _).mono ?_; rintro e1 w1 ⟨rfl, rfl⟩
  go_wp2_with fail
  refine (NO.out _).mono ?_; rintro e5 w5 ⟨rfl, hb5⟩
  go_wp2
  go_ret3
  exact ⟨rfl, (by repeat (first | with_reducible exact Within.refl _ | with_reducible assumption | with_reducible refine Within.alloc ?_ _ | with_reducible refine Within.drew ?_ | with_reducible refine Within.setCell ?_ (by first | (simp; done) | (simp; omega)) _ | with_reducible refine Within.trans ?_ (by assumption)))⟩
set_option maxRecDepth 100000 in
set_option maxHeartbeats 600000 in
theorem mul_nf (x y b : Nat) (mode : Int) (KN : Hid (∀ w, Calls Tryd.prog 66 #[.int .i64 mode] w fun e' w' => e' = .returned (.bool true) ∧ w = w')) (nx : (FloatKind.f32.format.order x x != some .eq) = true) (gx : Bool) (ix : Nat) (hx : FloatKind.f32.decode x = .nan gx ix) (hy : floatToFloatBits .f32 y .f64 = some b) (hm : ∀ tx, Ieee.double.mul ((Question.nanConv .f64 x).cut tx) b = none) (NO : Hid (∀ w, Calls Tryd.prog 67 #[] w fun e' w' => e' = .returned (.float .f32 2143289344) ∧ Within w w')) (w : World) : Calls Tryd.prog 48 #[.float .f32 x, .float .f32 y, .int .i64 mode] w fun e' w' => e' = .returned (.tuple #[.float .f32 2143289344, .int .i64 0, .int .i64 0]) ∧ Within w w' := by
  have cx := fun (w : World) => run_widen_nan 31 40 .f32 .f64 x Tryd.prog w (by decide) (by kernel_rfl) (by kernel_rfl) gx ix hx
  have cy := fun (w : World) => run_convert_float_float (P := Tryd.prog) w 31 40 .f32 .f64 y b (by kernel_rfl) (by kernel_rfl) hy
  have hmul := fun tx t w => m_float_nan .mul t .f64 ((Question.nanConv .f64 x).cut tx) b Tryd.prog w (by first | exact .inr (.inr (.inl rfl)) | exact .inr (.inr (.inr rfl))) (hm tx)
  clear hm hx hy
  go_enter Tryd.func48, Tryd.ntmps48
  go_wp2_with fail
  refine (KN.out _).mono ?_; rintro e1 w1 ⟨rfl, rfl⟩
  go_wp2_with fail
  refine (NO.out _).mono ?_; rintro e5 w5 ⟨rfl, hb5⟩
  go_wp2
  go_ret3
  exact ⟨rfl, (by repeat (first | with_reducible exact Within.refl _ | with_reducible assumption | with_reducible refine Within.alloc ?_ _ | with_reducible refine Within.drew ?_ | with_reducible refine Within.setCell ?_ (by first | (simp; done) | (simp; omega)) _ | with_reducible refine Within.trans ?_ (by assumption)))⟩
set_option maxRecDepth 100000 in
set_option maxHeartbeats 600000 in
theorem mul_fn (x y a : Nat) (mode : Int) (KN : Hid (∀ w, Calls Tryd.prog 66 #[.int .i64 mode] w fun e' w' => e' = .returned (.bool true) ∧ w = w')) (nx : (FloatKind.f32.format.order x x != some .eq) = false) (ny : (FloatKind.f32.format.order y y != some .eq) = true) (hx : floatToFloatBits .f32 x .f64 = some a) (gy : Bool) (iy : Nat) (hy : FloatKind.f32.decode y = .nan gy iy) (hm : ∀ ty, Ieee.double.mul a ((Question.nanConv .f64 y).cut ty) = none) (NO : Hid (∀ w, Calls Tryd.prog 67 #[] w fun e' w' => e' = .returned (.float .f32 2143289344) ∧ Within w w')) (w : World) : Calls Tryd.prog 48 #[.float .f32 x, .float .f32 y, .int .i64 mode] w fun e' w' => e' = .returned (.tuple #[.float .f32 2143289344, .int .i64 0, .int .i64 0]) ∧ Within w w' := by
  have cx := fun (w : World) => run_convert_float_float (P := Tryd.prog) w 31 40 .f32 .f64 x a (by kernel_rfl) (by kernel_rfl) hx
  have cy := fun (w : World) => run_widen_nan 31 40 .f32 .f64 y Tryd.prog w (by decide) (by kernel_rfl) (by kernel_rfl) gy iy hy
  have hmul := fun ty t w => m_float_nan .mul t .f64 a ((Question.nanConv .f64 y).cut ty) Tryd.prog w (by first | exact .inr (.inr (.inl rfl)) | exact .inr (.inr (.inr rfl))) (hm ty)
  clear hm hx hy
  go_enter Tryd.func48, Tryd.ntmps48
  go_wp2_with fail
  refine (KN.out _).mono ?_; rintro e1 w1 ⟨rfl, rfl⟩
  go_wp2_with fail
  refine (NO.out _).mono ?_; rintro e5 w5 ⟨rfl, hb5⟩
  go_wp2
  go_ret3
  exact ⟨rfl, (by repeat (first | with_reducible exact Within.refl _ | with_reducible assumption | with_reducible refine Within.alloc ?_ _ | with_reducible refine Within.drew ?_ | with_reducible refine Within.setCell ?_ (by first | (simp; done) | (simp; omega)) _ | with_reducible refine Within.trans ?_ (by assumption)))⟩
set_option maxRecDepth 100000 in
set_option maxHeartbeats 600000 in
theorem mul_invalid (x y a b : Nat) (mode : Int) (KN : Hid (∀ w, Calls Tryd.prog 66 #[.int .i64 mode] w fun e' w' => e' = .returned (.bool true) ∧ w = w')) (nx : (FloatKind.f32.format.order x x != some .eq) = false) (ny : (FloatKind.f32.format.order y y != some .eq) = false) (hx : floatToFloatBits .f32 x .f64 = some a) (hy : floatToFloatBits .f32 y .f64 = some b) (hm : Ieee.double.mul a b = none) (hn : ∀ t, (FloatKind.f64.format.order ((Question.nanBits .f64 a b).cut t) ((Question.nanBits .f64 a b).cut t) != some .eq) = true) (NO : Hid (∀ w, Calls Tryd.prog 67 #[] w fun e' w' => e' = .returned (.float .f32 2143289344) ∧ Within w w')) (w : World) : Calls Tryd.prog 48 #[.float .f32 x, .float .f32 y, .int .i64 mode] w fun e' w' => e' = .returned (.tuple #[.float .f32 2143289344, .int .i64 8, .int .i64 0]) ∧ Within w w' := by
  have cx := fun (w : World) => run_convert_float_float (P := Tryd.prog) w 31 40 .f32 .f64 x a (by kernel_rfl) (by kernel_rfl) hx
  have cy := fun (w : World) => run_convert_float_float (P := Tryd.prog) w 31 40 .f32 .f64 y b (by kernel_rfl) (by kernel_rfl) hy
  clear hx hy
  have hmul := fun t w => m_float_nan .mul t .f64 a b Tryd.prog w (by first | exact .inr (.inr (.inl rfl)) | exact .inr (.inr (.inr rfl))) hm
  clear hm
  go_enter Tryd.func48, Tryd.ntmps48
  go_wp2_with fail
  refine (KN.out _).mono ?_; rintro e1 w1 ⟨rfl, rfl⟩
  go_wp2_with fail
  refine (NO.out _).mono ?_; rintro e5 w5 ⟨rfl, hb5⟩
  go_wp2
  go_ret3
  exact ⟨rfl, (by repeat (first | with_reducible exact Within.refl _ | with_reducible assumption | with_reducible refine Within.alloc ?_ _ | with_reducible refine Within.drew ?_ | with_reducible refine Within.setCell ?_ (by first | (simp; done) | (simp; omega)) _ | with_reducible refine Within.trans ?_ (by assumption)))⟩
set_option maxRecDepth 100000 in
set_option maxHeartbeats 600000 in
theorem mul_plain (x y a b : Nat) (mode : Int) (KN : Hid (∀ w, Calls Tryd.prog 66 #[.int .i64 mode] w fun e' w' => e' = .returned (.bool true) ∧ w = w')) (nx : (FloatKind.f32.format.order x x != some .eq) = false) (ny : (FloatKind.f32.format.order y y != some .eq) = false) (hx : floatToFloatBits .f32 x .f64 = some a) (hy : floatToFloatBits .f32 y .f64 = some b) (p : Nat) (hm : Ieee.double.mul a b = some p) (np : (FloatKind.f64.format.order p p != some .eq) = false) (PL : Hid (∀ w, Calls Tryd.prog 68 #[.float .f64 p] w fun e' w' => e' = .returned (.bool true) ∧ w = w')) (r : Nat) (hc : floatToFloatBits .f64 p .f32 = some r) (w : World) : Calls Tryd.prog 48 #[.float .f32 x, .float .f32 y, .int .i64 mode] w fun e' w' => e' = .returned (.tuple #[.float .f32 r, .int .i64 0, .int .i64 0]) ∧ Within w w' := by
  have cx := fun (w : World) => run_convert_float_float (P := Tryd.prog) w 31 40 .f32 .f64 x a (by kernel_rfl) (by kernel_rfl) hx
  have cy := fun (w : World) => run_convert_float_float (P := Tryd.prog) w 31 40 .f32 .f64 y b (by kernel_rfl) (by kernel_rfl) hy
  clear hx hy
  have hmul := fun t P w => run_float_arith (P := P) w .mul t .f64 _ _ _ hm
  clear hm
  have hcv := fun (w : World) => run_convert_float_float (P := Tryd.prog) w 40 31 .f64 .f32 p r (by kernel_rfl) (by kernel_rfl) hc
  clear hc
  go_enter Tryd.func48, Tryd.ntmps48
  go_wp2_with fail
  refine (KN.out _).mono ?_; rintro e1 w1 ⟨rfl, rfl⟩
  go_wp2_with fail
  refine (PL.out _).mono ?_; rintro e2 w2 ⟨rfl, rfl⟩
  go_wp2
  go_ret3
  exact ⟨rfl, (by repeat (first | with_reducible exact Within.refl _ | with_reducible assumption | with_reducible refine Within.alloc ?_ _ | with_reducible refine Within.drew ?_ | with_reducible refine Within.setCell ?_ (by first | (simp; done) | (simp; omega)) _ | with_reducible refine Within.trans ?_ (by assumption)))⟩
set_option maxRecDepth 100000 in
set_option maxHeartbeats 600000 in
theorem mul_main (x y a b : Nat) (mode : Int) (KN : Hid (∀ w, Calls Tryd.prog 66 #[.int .i64 mode] w fun e' w' => e' = .returned (.bool true) ∧ w = w')) (nx : (FloatKind.f32.format.order x x != some .eq) = false) (ny : (FloatKind.f32.format.order y y != some .eq) = false) (hx : floatToFloatBits .f32 x .f64 = some a) (hy : floatToFloatBits .f32 y .f64 = some b) (p : Nat) (hm : Ieee.double.mul a b = some p) (np : (FloatKind.f64.format.order p p != some .eq) = false) (PL : Hid (∀ w, Calls Tryd.prog 68 #[.float .f64 p] w fun e' w' => e' = .returned (.bool false) ∧ w = w')) (n : Bool) (m : Nat) (e : Int) (z r : Nat) (fl : Int) (TK : Hid (∀ w, Calls Tryd.prog 69 #[.float .f64 p] w fun e' w' => e' = .returned (.agg #[.bool n, .int .u64 m, .int .i64 e]) ∧ Within w w')) (RN : Hid (∀ w, Calls Tryd.prog 70 #[.agg #[.bool n, .int .u64 m, .int .i64 e], .agg #[.int .i64 24, .int .i64 (-126), .int .i64 127], .int .i64 mode] w fun e' w' => e' = .returned (.tuple #[.float .f64 z, .int .i64 fl]) ∧ Within w w')) (hc : floatToFloatBits .f64 z .f32 = some r) (w : World) (hT : FmS w) : Calls Tryd.prog 48 #[.float .f32 x, .float .f32 y, .int .i64 mode] w fun e' w' => e' = .returned (.tuple #[.float .f32 r, .int .i64 fl, .int .i64 0]) ∧ Within w w' := by
  have cx := fun (w : World) => run_convert_float_float (P := Tryd.prog) w 31 40 .f32 .f64 x a (by kernel_rfl) (by kernel_rfl) hx
  have cy := fun (w : World) => run_convert_float_float (P := Tryd.prog) w 31 40 .f32 .f64 y b (by kernel_rfl) (by kernel_rfl) hy
  clear hx hy
  have hmul := fun t P w => run_float_arith (P := P) w .mul t .f64 _ _ _ hm
  clear hm
  have hcv := fun (w : World) => run_convert_float_float (P := Tryd.prog) w 40 31 .f64 .f32 z r (by kernel_rfl) (by kernel_rfl) hc
  clear hc
  go_enter Tryd.func48, Tryd.ntmps48
  go_wp2_with fail
  refine (KN.out _).mono ?_; rintro e1 w1 ⟨rfl, rfl⟩
  go_wp2_with fail
  refine (PL.out _).mono ?_; rintro e2 w2 ⟨rfl, rfl⟩
  go_wp2
  refine wp_region_within (by kernel_rfl) (by kernel_rfl) ?_
  repeat
    apply wpq_step rfl
    · intro wq hCq
      have q0 := (hT.of hCq).1; have q1 := (hT.of hCq).2.1; have q2 := (hT.of hCq).2.2
      go_simp
      first | rfl | exact hCq.call (TK.out _) | exact hCq.call (RN.out _) | (trace_state; fail)
    simp only [Act.put, List.setIfInBounds_toArray, List.set_cons_zero, List.set_cons_succ]
  refine wpQuiet_nil ?_
  intro w3 hb3
  go_wp2
  go_ret3
  exact ⟨rfl, (by repeat (first | with_reducible exact Within.refl _ | with_reducible assumption | with_reducible refine Within.alloc ?_ _ | with_reducible refine Within.drew ?_ | with_reducible refine Within.setCell ?_ (by first | (simp; done) | (simp; omega)) _ | with_reducible refine Within.trans ?_ (by assumption)))⟩
end Go.Proofs.YtifgngmebnjfkaaDoor
end

section
namespace Go.Proofs.YtifgngmebnjfkaaDoor
open Go.RowKit
/-! data -/
theorem near_any (f : Ieee.Format) (m : Nat) (p : Int) : ∃ R, R ≤ f.infRung ∧ ∀ s, f.nearest s m p = f.word s R := by
  unfold Ieee.Format.nearest
  by_cases h : m = 0
  · exact ⟨0, Nat.zero_le _, fun s => by rw [if_pos h]⟩
  · refine ⟨min ((max (p + m.log2 - f.fractionBits) f.leastPlace - f.leastPlace).toNat * f.binade + Ieee.Toward.even.cut false (m <<< (p - max (p + m.log2 - f.fractionBits) f.leastPlace).toNat) (max (p + m.log2 - f.fractionBits) f.leastPlace - p).toNat) f.infRung, Nat.min_le_right _ _, fun s => ?_⟩
    rw [if_neg h]
    cases s <;> rfl
theorem near_split (m : Nat) (p : Int) : ∃ R, R ≤ 9218868437227405312 ∧ ∀ s, Ieee.double.nearest s m p = Ieee.double.word s R := by
  rw [← Fp.dI]; exact near_any _ m p
theorem write_good {d : Ieee.Datum} (h : d.isNaN = false) : Ieee.double.write d < 18446744073709551616 ∧ Ieee.double.write d % 9223372036854775808 ≤ 9218868437227405312 := by
  cases d with
  | number s m p =>
    obtain ⟨R, h1, h2⟩ := near_split m p
    show Ieee.double.nearest s m p < _ ∧ Ieee.double.nearest s m p % _ ≤ _
    rw [h2]
    unfold Ieee.Format.word
    rw [Fp.dS]
    split <;> omega
  | infinity s => cases s <;> decide +kernel
  | nan s t => cases h
theorem prod_nn {d e r : Ieee.Datum} (h : d.product e = some r) : r.isNaN = false := by
  cases d <;> cases e <;> simp only [Ieee.Datum.product] at h
  all_goals first | (cases h; done) | (obtain rfl := Option.some.inj h; rfl) | (split at h <;> first | (cases h; done) | (obtain rfl := Option.some.inj h; rfl))
theorem mul_good {a b p : Nat} (h : Ieee.double.mul a b = some p) : p < 18446744073709551616 ∧ p % 9223372036854775808 ≤ 9218868437227405312 := by
  unfold Ieee.Format.mul at h
  obtain ⟨r, h1, rfl⟩ := Option.map_eq_some_iff.1 h
  exact write_good (prod_nn h1)
/-! the mode of the other side -/
end Go.Proofs.YtifgngmebnjfkaaDoor
end

section
namespace Go.Proofs.YtifgngmebnjfkaaDoor
open Go.RowKit
def wD (x : Nat) : Nat := (floatToFloatBits .f32 x .f64).getD 0
theorem wD_eq {x : Nat} (hx : x < 4294967296) (h : isN x = false) : floatToFloatBits .f32 x .f64 = some (wD x) ∧ wD x < 18446744073709551616 ∧ wD x % 9223372036854775808 ≤ 9218868437227405312 := by
  unfold wD
  cases hi : isI x
  · obtain ⟨a, h1, h2, _⟩ := wide_ok hx (fin_of h hi)
    rw [h1]; exact ⟨rfl, h2.1, h2.le⟩
  · rw [wide_inf hx hi]; exact ⟨rfl, infD_lt _, infD_le _⟩
theorem wD_fin {x : Nat} (hx : x < 4294967296) (h : isN x = false) (hi : isI x = false) : Fi (wD x) ∧ Fp.un Ieee.double (wD x) = uS x ∧ ngD (wD x) = ngS x := by
  obtain ⟨a, h1, h2, h3, h4, _⟩ := wide_ok hx (fin_of h hi)
  unfold wD; rw [h1]; exact ⟨h2, h3, h4⟩
theorem wD_inf {x : Nat} (hx : x < 4294967296) (hi : isI x = true) : wD x = infD (ngS x) := by
  unfold wD; rw [wide_inf hx hi]; rfl
theorem ne32 (x : Nat) : (FloatKind.f32.format.order x x != some .eq) = isN x := by
  show (!(Ieee.single.order x x == some .eq)) = _
  rw [Fp.order32_self, Bool.not_not]; rfl
theorem mul_nan {a b : Nat} (h : 9218868437227405312 < a % 9223372036854775808 ∨ 9218868437227405312 < b % 9223372036854775808) : Ieee.double.mul a b = none := by
  unfold Ieee.Format.mul
  rcases h with h | h
  · obtain ⟨s, t, e⟩ := read_nanD h
    rw [e]; rfl
  · obtain ⟨s, t, e⟩ := read_nanD h
    rw [e]
    cases Ieee.double.read a <;> rfl
def mulWd (x y : Nat) (mode : Int) : Nat :=
  if isN x || isN y then 2143289344 else match Ieee.double.mul (wD x) (wD y) with
  | none => 2143289344
  | some p => nWord p mode
def mulFl (x y : Nat) (mode : Int) : Int :=
  if isN x || isN y then 0 else match Ieee.double.mul (wD x) (wD y) with
  | none => 8
  | some p => nFlags p mode
theorem Mul_known (x y : Nat) (mode : Int) (hx : x < 4294967296) (hy : y < 4294967296) (hmode : 0 ≤ mode ∧ mode ≤ 4) (w : World) (hT : FmS w) : Calls Tryd.prog 48 #[.float .f32 x, .float .f32 y, .int .i64 mode] w fun e' w' => e' = .returned (.tuple #[.float .f32 (mulWd x y mode), .int .i64 (mulFl x y mode), .int .i64 0]) ∧ Within w w' := by
  have KN : Hid (∀ w, Calls Tryd.prog 66 #[.int .i64 mode] w fun e' w' => e' = .returned (.bool true) ∧ w = w') := Lib.hid (fun w => by have := known_any mode w; rw [decide_eq_true hmode] at this; exact this)
  have NO := Lib.hid none_any
  have e1 := ne32 x
  have e2 := ne32 y
  unfold mulWd mulFl
  cases nx : isN x
  · rw [nx] at e1
    obtain ⟨ha, la0, la⟩ := wD_eq hx nx
    cases ny : isN y
    · rw [ny] at e2
      obtain ⟨hb, lb0, lb⟩ := wD_eq hy ny
      have hff : ¬ ((false || false) = true) := Bool.false_ne_true
      rw [if_neg hff, if_neg hff]
      cases hm : Ieee.double.mul (wD x) (wD y) with
      | none => exact mul_invalid x y _ _ mode KN e1 e2 ha hb hm (fun t => ne_true (nanb_gt _ _ t)) NO w
      | some p =>
        obtain ⟨p1, p2⟩ := mul_good hm
        have np := ne_false p2
        have PL := Lib.hid (fun w => plain_any p p1 p2 w)
        have hsp := sgn_split p1
        have hm' : ¬¬(0 ≤ mode ∧ mode ≤ 4) := fun h => h hmode
        have hn : ¬ 9218868437227405312 < p % 9223372036854775808 := by omega
        show Calls _ _ _ _ fun e' w' => e' = .returned (.tuple #[.float .f32 (nWord p mode), .int .i64 (nFlags p mode), .int .i64 0]) ∧ Within w w'
        unfold nWord nFlags
        rw [if_neg hm', if_neg hm', if_neg hn, if_neg hn]
        by_cases hz : p % 9223372036854775808 = 0
        · rw [decide_eq_true (.inl hz)] at PL
          rw [if_pos hz, if_pos hz]
          refine mul_plain x y _ _ mode KN e1 e2 ha hb p hm np PL _ ?_ w
          rw [hz, Nat.zero_add] at hsp
          conv => lhs; rw [hsp]
          exact nbits_zero _
        rw [if_neg hz, if_neg hz]
        by_cases hi : p % 9223372036854775808 = 9218868437227405312
        · rw [decide_eq_true (.inr hi)] at PL
          rw [if_pos hi, if_pos hi]
          refine mul_plain x y _ _ mode KN e1 e2 ha hb p hm np PL _ ?_ w
          rw [hi] at hsp
          conv => lhs; rw [hsp]
          exact nbits_inf _
        rw [if_neg hi, if_neg hi]
        rw [decide_eq_false (show ¬ (p % 9223372036854775808 = 0 ∨ p % 9223372036854775808 = 9218868437227405312) by omega)] at PL
        have h0 : magD p ≠ 0 := fun h => hz (magD_zero.1 h)
        obtain ⟨t1, t2, t3, _⟩ := top53_bounds h0 (magD_rep (by omega))
        have TK := Lib.hid (fun w => take_any p (magD p) p1 h0 (by omega) rfl w)
        have RN := Lib.hid (fun w => round_S (ngD p) (top53 (magD p)) (((magD p).log2 : Int) - 1126) mode (by omega) (by omega) (by omega) (by omega) hmode w)
        exact mul_main x y _ _ mode KN e1 e2 ha hb p hm np PL _ _ _ _ _ _ TK RN (sWord_bits (ngD p) _ mode (by omega) (by omega)) w hT
    · rw [ny] at e2
      obtain ⟨gy, iy, dy⟩ := isN_nan ny
      have hft : (false || true) = true := rfl
      rw [if_pos hft, if_pos hft]
      exact mul_fn x y _ mode KN e1 e2 ha gy iy dy (fun ty => mul_nan (.inr (nanc_gt _ ty))) NO w
  · rw [nx] at e1
    obtain ⟨gx, ix, dx⟩ := isN_nan nx
    have htt : ∀ q, (true || q) = true := fun q => rfl
    rw [if_pos (htt _), if_pos (htt _)]
    cases ny : isN y
    · obtain ⟨hb, lb0, lb⟩ := wD_eq hy ny
      exact mul_nf x y _ mode KN e1 gx ix dx hb (fun tx => mul_nan (.inl (nanc_gt _ tx))) NO w
    · obtain ⟨gy, iy, dy⟩ := isN_nan ny
      exact mul_nn x y mode KN e1 gx ix dx gy iy dy (fun tx ty => mul_nan (.inl (nanc_gt _ tx))) NO w
end Go.Proofs.YtifgngmebnjfkaaDoor
end

section
namespace Go.Proofs.YtifgngmebnjfkaaDoor
open Go.RowKit
set_option maxRecDepth 100000 in
set_option maxHeartbeats 600000 in
theorem fused_nn (x y z : Nat) (mode : Int) (KN : Hid (∀ w, Calls Tryd.prog 66 #[.int .i64 mode] w fun e' w' => e' = .returned (.bool true) ∧ w = w')) (nx : (FloatKind.f32.format.order x x != some .eq) = true) (gx : Bool) (ix : Nat) (hx : FloatKind.f32.decode x = .nan gx ix) (gy : Bool) (iy : Nat) (hy : FloatKind.f32.decode y = .nan gy iy) (hm : ∀ tx ty, Ieee.double.mul ((Question.nanConv .f64 x).cut tx) ((Question.nanConv .f64 y).cut ty) = none) (NO : Hid (∀ w, Calls Tryd.prog 67 #[] w fun e' w' => e' = .returned (.float .f32 2143289344) ∧ Within w w')) (w : World) : Calls Tryd.prog 50 #[.float .f32 x, .float .f32 y, .float .f32 z, .int .i64 mode] w fun e' w' => e' = .returned (.tuple #[.float .f32 2143289344, .int .i64 0, .int .i64 0]) ∧ Within w w' := by
  have cx := fun (w : World) => run_widen_nan 31 40 .f32 .f64 x Tryd.prog w (by decide) (by kernel_rfl) (by kernel_rfl) gx ix hx
  have cy := fun (w : World) => run_widen_nan 31 40 .f32 .f64 y Tryd.prog w (by decide) (by kernel_rfl) (by kernel_rfl) gy iy hy
  have hmul := fun tx ty t w => m_float_nan .mul t .f64 ((Question.nanConv .f64 x).cut tx) ((Question.nanConv .f64 y).cut ty) Tryd.prog w (by first | exact .inr (.inr (.inl rfl)) | exact .inr (.inr (.inr rfl))) (hm tx ty)
  clear hm hx hy
  go_enter Tryd.func50, Tryd.ntmps50
  go_wp2_with fail
  refine (KN.out _).mono ?_; rintro e1 w1 ⟨rfl, rfl⟩
  go_wp2_with fail
  refine (NO.out _).mono ?_; rintro e5 w5 ⟨rfl, hb5⟩
  go_wp2
  go_ret3
  exact ⟨rfl, (by repeat (first | with_reducible exact Within.refl _ | with_reducible assumption | with_reducible refine Within.alloc ?_ _ | with_reducible refine Within.drew ?_ | with_reducible refine Within.setCell ?_ (by first | (simp; done) | (simp; omega)) _ | with_reducible refine Within.trans ?_ (by assumption)))⟩
set_option maxRecDepth 100000 in
set_option maxHeartbeats 600000 in
theorem fused_nf (x y z b : Nat) (mode : Int) (KN : Hid (∀ w, Calls Tryd.prog 66 #[.int .i64 mode] w fun e' w' => e' = .returned (.bool true) ∧ w = w')) (nx : (FloatKind.f32.format.order x x != some .eq) = true) (gx : Bool) (ix : Nat) (hx : FloatKind.f32.decode x = .nan gx ix) (hy : floatToFloatBits .f32 y .f64 = some b) (hm : ∀ tx, Ieee.double.mul ((Question.nanConv .f64 x).cut tx) b = none) (NO : Hid (∀ w, Calls Tryd.prog 67 #[] w fun e' w' => e' = .returned (.float .f32 2143289344) ∧ Within w w')) (w : World) : Calls Tryd.prog 50 #[.float .f32 x, .float .f32 y, .float .f32 z, .int .i64 mode] w fun e' w' => e' = .returned (.tuple #[.float .f32 2143289344, .int .i64 0, .int .i64 0]) ∧ Within w w' := by
  have cx := fun (w : World) => run_widen_nan 31 40 .f32 .f64 x Tryd.prog w (by decide) (by kernel_rfl) (by kernel_rfl) gx ix hx
  have cy := fun (w : World) => run_convert_float_float (P := Tryd.prog) w 31 40 .f32 .f64 y b (by kernel_rfl) (by kernel_rfl) hy
  have hmul := fun tx t w => m_float_nan .mul t .f64 ((Question.nanConv .f64 x).cut tx) b Tryd.prog w (by first | exact .inr (.inr (.inl rfl)) | exact .inr (.inr (.inr rfl))) (hm tx)
  clear hm hx hy
  go_enter Tryd.func50, Tryd.ntmps50
  go_wp2_with fail
  refine (KN.out _).mono ?_; rintro e1 w1 ⟨rfl, rfl⟩
  go_wp2_with fail
  refine (NO.out _).mono ?_; rintro e5 w5 ⟨rfl, hb5⟩
  go_wp2
  go_ret3
  exact ⟨rfl, (by repeat (first | with_reducible exact Within.refl _ | with_reducible assumption | with_reducible refine Within.alloc ?_ _ | with_reducible refine Within.drew ?_ | with_reducible refine Within.setCell ?_ (by first | (simp; done) | (simp; omega)) _ | with_reducible refine Within.trans ?_ (by assumption)))⟩
set_option maxRecDepth 100000 in
set_option maxHeartbeats 600000 in
theorem fused_fn (x y z a : Nat) (mode : Int) (KN : Hid (∀ w, Calls Tryd.prog 66 #[.int .i64 mode] w fun e' w' => e' = .returned (.bool true) ∧ w = w')) (nx : (FloatKind.f32.format.order x x != some .eq) = false) (ny : (FloatKind.f32.format.order y y != some .eq) = true) (hx : floatToFloatBits .f32 x .f64 = some a) (gy : Bool) (iy : Nat) (hy : FloatKind.f32.decode y = .nan gy iy) (hm : ∀ ty, Ieee.double.mul a ((Question.nanConv .f64 y).cut ty) = none) (NO : Hid (∀ w, Calls Tryd.prog 67 #[] w fun e' w' => e' = .returned (.float .f32 2143289344) ∧ Within w w')) (w : World) : Calls Tryd.prog 50 #[.float .f32 x, .float .f32 y, .float .f32 z, .int .i64 mode] w fun e' w' => e' = .returned (.tuple #[.float .f32 2143289344, .int .i64 0, .int .i64 0]) ∧ Within w w' := by
  have cx := fun (w : World) => run_convert_float_float (P := Tryd.prog) w 31 40 .f32 .f64 x a (by kernel_rfl) (by kernel_rfl) hx
  have cy := fun (w : World) => run_widen_nan 31 40 .f32 .f64 y Tryd.prog w (by decide) (by kernel_rfl) (by kernel_rfl) gy iy hy
  have hmul := fun ty t w => m_float_nan .mul t .f64 a ((Question.nanConv .f64 y).cut ty) Tryd.prog w (by first | exact .inr (.inr (.inl rfl)) | exact .inr (.inr (.inr rfl))) (hm ty)
  clear hm hx hy
  go_enter Tryd.func50, Tryd.ntmps50
  go_wp2_with fail
  refine (KN.out _).mono ?_; rintro e1 w1 ⟨rfl, rfl⟩
  go_wp2_with fail
  refine (NO.out _).mono ?_; rintro e5 w5 ⟨rfl, hb5⟩
  go_wp2
  go_ret3
  exact ⟨rfl, (by repeat (first | with_reducible exact Within.refl _ | with_reducible assumption | with_reducible refine Within.alloc ?_ _ | with_reducible refine Within.drew ?_ | with_reducible refine Within.setCell ?_ (by first | (simp; done) | (simp; omega)) _ | with_reducible refine Within.trans ?_ (by assumption)))⟩
set_option maxRecDepth 100000 in
set_option maxHeartbeats 600000 in
theorem fused_z_none (x y z a b : Nat) (mode : Int) (KN : Hid (∀ w, Calls Tryd.prog 66 #[.int .i64 mode] w fun e' w' => e' = .returned (.bool true) ∧ w = w')) (nx : (FloatKind.f32.format.order x x != some .eq) = false) (ny : (FloatKind.f32.format.order y y != some .eq) = false) (nz : (FloatKind.f32.format.order z z != some .eq) = true) (hx : floatToFloatBits .f32 x .f64 = some a) (hy : floatToFloatBits .f32 y .f64 = some b) (hm : Ieee.double.mul a b = none) (NO : Hid (∀ w, Calls Tryd.prog 67 #[] w fun e' w' => e' = .returned (.float .f32 2143289344) ∧ Within w w')) (w : World) : Calls Tryd.prog 50 #[.float .f32 x, .float .f32 y, .float .f32 z, .int .i64 mode] w fun e' w' => e' = .returned (.tuple #[.float .f32 2143289344, .int .i64 0, .int .i64 0]) ∧ Within w w' := by
  have cx := fun (w : World) => run_convert_float_float (P := Tryd.prog) w 31 40 .f32 .f64 x a (by kernel_rfl) (by kernel_rfl) hx
  have cy := fun (w : World) => run_convert_float_float (P := Tryd.prog) w 31 40 .f32 .f64 y b (by kernel_rfl) (by kernel_rfl) hy
  clear hx hy
  have hmul := fun t w => m_float_nan .mul t .f64 a b Tryd.prog w (by first | exact .inr (.inr (.inl rfl)) | exact .inr (.inr (.inr rfl))) hm
  clear hm
  go_enter Tryd.func50, Tryd.ntmps50
  go_wp2_with fail
  refine (KN.out _).mono ?_; rintro e1 w1 ⟨rfl, rfl⟩
  go_wp2_with fail
  refine (NO.out _).mono ?_; rintro e5 w5 ⟨rfl, hb5⟩
  go_wp2
  go_ret3
  exact ⟨rfl, (by repeat (first | with_reducible exact Within.refl _ | with_reducible assumption | with_reducible refine Within.alloc ?_ _ | with_reducible refine Within.drew ?_ | with_reducible refine Within.setCell ?_ (by first | (simp; done) | (simp; omega)) _ | with_reducible refine Within.trans ?_ (by assumption)))⟩
set_option maxRecDepth 100000 in
set_option maxHeartbeats 600000 in
theorem fused_z_some (x y z a b : Nat) (mode : Int) (KN : Hid (∀ w, Calls Tryd.prog 66 #[.int .i64 mode] w fun e' w' => e' = .returned (.bool true) ∧ w = w')) (nx : (FloatKind.f32.format.order x x != some .eq) = false) (ny : (FloatKind.f32.format.order y y != some .eq) = false) (nz : (FloatKind.f32.format.order z z != some .eq) = true) (hx : floatToFloatBits .f32 x .f64 = some a) (hy : floatToFloatBits .f32 y .f64 = some b) (p : Nat) (hm : Ieee.double.mul a b = some p) (NO : Hid (∀ w, Calls Tryd.prog 67 #[] w fun e' w' => e' = .returned (.float .f32 2143289344) ∧ Within w w')) (w : World) : Calls Tryd.prog 50 #[.float .f32 x, .float .f32 y, .float .f32 z, .int .i64 mode] w fun e' w' => e' = .returned (.tuple #[.float .f32 2143289344, .int .i64 0, .int .i64 0]) ∧ Within w w' := by
  have cx := fun (w : World) => run_convert_float_float (P := Tryd.prog) w 31 40 .f32 .f64 x a (by kernel_rfl) (by kernel_rfl) hx
  have cy := fun (w : World) => run_convert_float_float (P := Tryd.prog) w 31 40 .f32 .f64 y b (by kernel_rfl) (by kernel_rfl) hy
  clear hx hy
  have hmul := fun t P w => run_float_arith (P := P) w .mul t .f64 _ _ _ hm
  clear hm
  go_enter Tryd.func50, Tryd.ntmps50
  go_wp2_with fail
  refine (KN.out _).mono ?_; rintro e1 w1 ⟨rfl, rfl⟩
  go_wp2_with fail
  refine (NO.out _).mono ?_; rintro e5 w5 ⟨rfl, hb5⟩
  go_wp2
  go_ret3
  exact ⟨rfl, (by repeat (first | with_reducible exact Within.refl _ | with_reducible assumption | with_reducible refine Within.alloc ?_ _ | with_reducible refine Within.drew ?_ | with_reducible refine Within.setCell ?_ (by first | (simp; done) | (simp; omega)) _ | with_reducible refine Within.trans ?_ (by assumption)))⟩
set_option maxRecDepth 100000 in
set_option maxHeartbeats 600000 in
theorem fused_invalid (x y z a b : Nat) (mode : Int) (KN : Hid (∀ w, Calls Tryd.prog 66 #[.int .i64 mode] w fun e' w' => e' = .returned (.bool true) ∧ w = w')) (nx : (FloatKind.f32.format.order x x != some .eq) = false) (ny : (FloatKind.f32.format.order y y != some .eq) = false) (nz : (FloatKind.f32.format.order z z != some .eq) = false) (hx : floatToFloatBits .f32 x .f64 = some a) (hy : floatToFloatBits .f32 y .f64 = some b) (hm : Ieee.double.mul a b = none) (hn : ∀ t, (FloatKind.f64.format.order ((Question.nanBits .f64 a b).cut t) ((Question.nanBits .f64 a b).cut t) != some .eq) = true) (NO : Hid (∀ w, Calls Tryd.prog 67 #[] w fun e' w' => e' = .returned (.float .f32 2143289344) ∧ Within w w')) (w : World) : Calls Tryd.prog 50 #[.float .f32 x, .float .f32 y, .float .f32 z, .int .i64 mode] w fun e' w' => e' = .returned (.tuple #[.float .f32 2143289344, .int .i64 8, .int .i64 0]) ∧ Within w w' := by
  have cx := fun (w : World) => run_convert_float_float (P := Tryd.prog) w 31 40 .f32 .f64 x a (by kernel_rfl) (by kernel_rfl) hx
  have cy := fun (w : World) => run_convert_float_float (P := Tryd.prog) w 31 40 .f32 .f64 y b (by kernel_rfl) (by kernel_rfl) hy
  clear hx hy
  have hmul := fun t w => m_float_nan .mul t .f64 a b Tryd.prog w (by first | exact .inr (.inr (.inl rfl)) | exact .inr (.inr (.inr rfl))) hm
  clear hm
  go_enter Tryd.func50, Tryd.ntmps50
  go_wp2_with fail
  refine (KN.out _).mono ?_; rintro e1 w1 ⟨rfl, rfl⟩
  go_wp2_with fail
  refine (NO.out _).mono ?_; rintro e5 w5 ⟨rfl, hb5⟩
  go_wp2
  go_ret3
  exact ⟨rfl, (by repeat (first | with_reducible exact Within.refl _ | with_reducible assumption | with_reducible refine Within.alloc ?_ _ | with_reducible refine Within.drew ?_ | with_reducible refine Within.setCell ?_ (by first | (simp; done) | (simp; omega)) _ | with_reducible refine Within.trans ?_ (by assumption)))⟩
set_option maxRecDepth 100000 in
set_option maxHeartbeats 600000 in
theorem fused_main (x y z a b : Nat) (mode : Int) (KN : Hid (∀ w, Calls Tryd.prog 66 #[.int .i64 mode] w fun e' w' => e' = .returned (.bool true) ∧ w = w')) (nx : (FloatKind.f32.format.order x x != some .eq) = false) (ny : (FloatKind.f32.format.order y y != some .eq) = false) (nz : (FloatKind.f32.format.order z z != some .eq) = false) (hx : floatToFloatBits .f32 x .f64 = some a) (hy : floatToFloatBits .f32 y .f64 = some b) (p : Nat) (hm : Ieee.double.mul a b = some p) (np : (FloatKind.f64.format.order p p != some .eq) = false) (c r : Nat) (fl : Int) (hz : floatToFloatBits .f32 z .f64 = some c) (SU : Hid (∀ w, FmS w → Calls Tryd.prog 87 #[.float .f64 p, .float .f64 c, .int .i64 mode] w fun e' w' => e' = .returned (.tuple #[.float .f32 r, .int .i64 fl]) ∧ Within w w')) (w : World) (hT : FmS w) : Calls Tryd.prog 50 #[.float .f32 x, .float .f32 y, .float .f32 z, .int .i64 mode] w fun e' w' => e' = .returned (.tuple #[.float .f32 r, .int .i64 fl, .int .i64 0]) ∧ Within w w' := by
  have cx := fun (w : World) => run_convert_float_float (P := Tryd.prog) w 31 40 .f32 .f64 x a (by kernel_rfl) (by kernel_rfl) hx
  have cy := fun (w : World) => run_convert_float_float (P := Tryd.prog) w 31 40 .f32 .f64 y b (by kernel_rfl) (by kernel_rfl) hy
  clear hx hy
  have hmul := fun t P w => run_float_arith (P := P) w .mul t .f64 _ _ _ hm
  clear hm
  have cz := fun (w : World) => run_convert_float_float (P := Tryd.prog) w 31 40 .f32 .f64 z c (by kernel_rfl) (by kernel_rfl) hz
  clear hz
  go_enter Tryd.func50, Tryd.ntmps50
  go_wp2_with fail
  refine (KN.out _).mono ?_; rintro e1 w1 ⟨rfl, rfl⟩
  go_wp2_with fail
  refine (SU.out _ (hT.of (by repeat (first | with_reducible exact Within.refl _ | with_reducible assumption | with_reducible refine Within.alloc ?_ _ | with_reducible refine Within.drew ?_ | with_reducible refine Within.setCell ?_ (by first | (simp; done) | (simp; omega)) _ | with_reducible refine Within.trans ?_ (by assumption))))).mono ?_; rintro e2 w2 ⟨rfl, hb2⟩
  go_wp2
  go_ret3
  exact ⟨rfl, (by repeat (first | with_reducible exact Within.refl _ | with_reducible assumption | with_reducible refine Within.alloc ?_ _ | with_reducible refine Within.drew ?_ | with_reducible refine Within.setCell ?_ (by first | (simp; done) | (simp; omega)) _ | with_reducible refine Within.trans ?_ (by assumption)))⟩
def isID (a : Nat) : Bool := decide (a % 9223372036854775808 = 9218868437227405312)
def sumWd (a b : Nat) (mode : Int) : Nat :=
  if isID a then (if isID b && ngD a != ngD b then 2143289344 else infS (ngD a))
  else if isID b then infS (ngD b)
  else addW (Fp.un Ieee.double a) (Fp.un Ieee.double b) (ngD a) (ngD b) mode
def sumFl (a b : Nat) (mode : Int) : Int :=
  if isID a then (if isID b && ngD a != ngD b then 8 else 0)
  else if isID b then 0
  else addF (Fp.un Ieee.double a) (Fp.un Ieee.double b) mode
theorem infD_word {a : Nat} (ha : a < 18446744073709551616) (h : isID a = true) : a = infD (ngD a) := by
  have h1 := of_decide_eq_true h
  have h2 := sgn_split ha
  unfold infD
  omega
theorem fi_of {a : Nat} (ha : a < 18446744073709551616) (hn : a % 9223372036854775808 ≤ 9218868437227405312) (h : isID a = false) : Fi a := by
  have h1 := of_decide_eq_false h
  exact ⟨ha, by omega⟩
theorem sum_any (a b : Nat) (mode : Int) (ha : a < 18446744073709551616) (hb : b < 18446744073709551616) (la : a % 9223372036854775808 ≤ 9218868437227405312) (lb : b % 9223372036854775808 ≤ 9218868437227405312) (h1 : isID a = false → (Fp.un Ieee.double a).natAbs ≤ 2 ^ 1500) (h2 : isID b = false → (Fp.un Ieee.double b).natAbs ≤ 2 ^ 1500) (hmode : 0 ≤ mode ∧ mode ≤ 4) (w : World) (hT : FmS w) : Calls Tryd.prog 87 #[.float .f64 a, .float .f64 b, .int .i64 mode] w fun e' w' => e' = .returned (.tuple #[.float .f32 (sumWd a b mode), .int .i64 (sumFl a b mode)]) ∧ Within w w' := by
  have NO := Lib.hid none_any
  unfold sumWd sumFl
  cases ia : isID a
  · rw [if_neg Bool.false_ne_true, if_neg Bool.false_ne_true]
    have fa := fi_of ha la ia
    cases ib : isID b
    · rw [if_neg Bool.false_ne_true, if_neg Bool.false_ne_true]
      exact sum_fin fa (fi_of hb lb ib) (h1 ia) (h2 ib) hmode w hT
    · rw [if_pos rfl, if_pos rfl]
      have e := infD_word hb ib
      generalize ngD b = s at e ⊢
      subst e
      exact sum_inf a _ mode (ne_false la) (ne_false lb) _ (add_inf_r _ fa) (ne_false (infD_le _)) (Lib.hid fun w => finite_inf_any _ w) _ (nbits_inf _) w
  · rw [if_pos rfl, if_pos rfl]
    have e := infD_word ha ia
    generalize ngD a = s at e ⊢
    subst e
    cases ib : isID b
    · have hfg : ¬ ((false && s != ngD b) = true) := Bool.false_ne_true
      rw [if_neg hfg, if_neg hfg]
      exact sum_inf _ b mode (ne_false la) (ne_false lb) _ (add_inf_l _ (fi_of hb lb ib)) (ne_false (infD_le _)) (Lib.hid fun w => finite_inf_any _ w) _ (nbits_inf _) w
    · have e := infD_word hb ib
      generalize ngD b = t at e ⊢
      subst e
      by_cases g : s = t
      · subst g
        have hsm : ¬ ((true && s != s) = true) := by rw [bne_self_eq_false]; decide
        rw [if_neg hsm, if_neg hsm]
        exact sum_inf _ _ mode (ne_false la) (ne_false la) _ (add_inf_same _) (ne_false (infD_le _)) (Lib.hid fun w => finite_inf_any _ w) _ (nbits_inf _) w
      · have e : (true && s != t) = true := by rw [Bool.true_and, bne_iff_ne]; exact g
        rw [if_pos e, if_pos e]
        exact sum_invalid _ _ mode (ne_false la) (ne_false lb) (add_inf_diff g) (fun t => ne_true (nanb_gt _ _ t)) NO w
def fusWd (x y z : Nat) (mode : Int) : Nat :=
  if isN x || isN y || isN z then 2143289344
  else match Ieee.double.mul (wD x) (wD y) with
    | none => 2143289344
    | some p => sumWd p (wD z) mode
def fusFl (x y z : Nat) (mode : Int) : Int :=
  if isN x || isN y || isN z then 0
  else match Ieee.double.mul (wD x) (wD y) with
    | none => 8
    | some p => sumFl p (wD z) mode
theorem Fused_known (x y z : Nat) (mode : Int) (hx : x < 4294967296) (hy : y < 4294967296) (hz : z < 4294967296) (hpb : isN x = false → isN y = false → ∀ p, Ieee.double.mul (wD x) (wD y) = some p → isID p = false → (Fp.un Ieee.double p).natAbs ≤ 2 ^ 1500) (hmode : 0 ≤ mode ∧ mode ≤ 4) (w : World) (hT : FmS w) : Calls Tryd.prog 50 #[.float .f32 x, .float .f32 y, .float .f32 z, .int .i64 mode] w fun e' w' => e' = .returned (.tuple #[.float .f32 (fusWd x y z mode), .int .i64 (fusFl x y z mode), .int .i64 0]) ∧ Within w w' := by
  have KN : Hid (∀ w, Calls Tryd.prog 66 #[.int .i64 mode] w fun e' w' => e' = .returned (.bool true) ∧ w = w') := Lib.hid (fun w => by have := known_any mode w; rw [decide_eq_true hmode] at this; exact this)
  have NO := Lib.hid none_any
  have e1 := ne32 x
  have e2 := ne32 y
  have e3 := ne32 z
  unfold fusWd fusFl
  cases nx : isN x
  · obtain ⟨ha, la0, la⟩ := wD_eq hx nx
    rw [nx] at e1
    cases ny : isN y
    · obtain ⟨hb, lb0, lb⟩ := wD_eq hy ny
      rw [ny] at e2
      cases nz : isN z
      · obtain ⟨hc, lc0, lc⟩ := wD_eq hz nz
        rw [nz] at e3
        have hff : ¬ ((false || false || false) = true) := Bool.false_ne_true
        rw [if_neg hff, if_neg hff]
        cases hm : Ieee.double.mul (wD x) (wD y) with
        | none => exact fused_invalid x y z _ _ mode KN e1 e2 e3 ha hb hm (fun t => ne_true (nanb_gt _ _ t)) NO w
        | some p =>
          obtain ⟨p1, p2⟩ := mul_good hm
          exact fused_main x y z _ _ mode KN e1 e2 e3 ha hb p hm (ne_false p2) _ _ _ hc (Lib.hid fun w hT => sum_any p (wD z) mode p1 lc0 p2 lc (hpb nx ny p hm) (fun h => by
            cases iz : isI z
            · obtain ⟨f1, f2, _⟩ := wD_fin hz nz iz
              rw [f2]
              obtain ⟨_, _, _, _, _, a5⟩ := wide_ok hz (fin_of nz iz)
              exact a5
            · rw [wD_inf hz iz] at h
              exact absurd h (by cases ngS z <;> decide)) hmode w hT) w hT
      · rw [nz] at e3
        have hft : (false || false || true) = true := rfl
        rw [if_pos hft, if_pos hft]
        cases hm : Ieee.double.mul (wD x) (wD y) with
        | none => exact fused_z_none x y z _ _ mode KN e1 e2 e3 ha hb hm NO w
        | some p => exact fused_z_some x y z _ _ mode KN e1 e2 e3 ha hb p hm NO w
    · rw [ny] at e2
      obtain ⟨gy, iy, dy⟩ := isN_nan ny
      have hft : (false || true || isN z) = true := rfl
      rw [if_pos hft, if_pos hft]
      exact fused_fn x y z _ mode KN e1 e2 ha gy iy dy (fun ty => mul_nan (.inr (nanc_gt _ ty))) NO w
  · rw [nx] at e1
    obtain ⟨gx, ix, dx⟩ := isN_nan nx
    have htt : ∀ q r, (true || q || r) = true := fun q r => rfl
    rw [if_pos (htt _ _), if_pos (htt _ _)]
    cases ny : isN y
    · obtain ⟨hb, lb0, lb⟩ := wD_eq hy ny
      exact fused_nf x y z _ mode KN e1 gx ix dx hb (fun tx => mul_nan (.inl (nanc_gt _ tx))) NO w
    · obtain ⟨gy, iy, dy⟩ := isN_nan ny
      exact fused_nn x y z mode KN e1 gx ix dx gy iy dy (fun tx ty => mul_nan (.inl (nanc_gt _ tx))) NO w
end Go.Proofs.YtifgngmebnjfkaaDoor
end

section
namespace Go.Proofs.YtifgngmebnjfkaaDoor
open Go.RowKit
attribute [go_sem] firmAt firmUpon
section
variable {P : Program} {ops : Array Oper} {Q : Exit → Act → World → Prop} {S : World → Prop} {p k : Nat} {a : Act} {w : World} {t : Sch}
theorem sch_one_want {o : Oper} (ho : ops.toList[k]? = some o) (hg : Region.wanted o (yielded ops a.tmps) = true) (h : ∀ K : Act → World → Prop, (∀ a' w', (k < p → S w') → wpSch P ops (OnlyN Q) S p t a' w' → K a' w') → o.wp P a w K (OnlyN Q)) : wpSch P ops (OnlyN Q) S p (.one k t) a w := by
  show wpOp P ops (OnlyN Q) k _ a w
  unfold wpOp
  rw [Array.getElem?_toList] at ho
  simp only [ho]
  rw [if_pos hg]
  exact .inl (h _ fun a' w' hS hr => ⟨hS, hr⟩)
end
end Go.Proofs.YtifgngmebnjfkaaDoor
end

section
namespace Go.Proofs.YtifgngmebnjfkaaDoor
open Go.RowKit
set_option maxRecDepth 100000 in
set_option maxHeartbeats 600000 in
theorem ROf32 (x : Nat) (hx : x < 4294967296) (w : World) : Calls Tryd.prog 13 #[.int .u32 (x : Int)] w (fun e w' => ∃ g, e = .returned (.agg #[.int .i64 (kS x), .bool (nS x), .pointer (some ⟨g, 0, none⟩), .int .i64 (eS x)]) ∧ IntB w' g (mS x : Int) ∧ w.heap.size ≤ g ∧ Within w w') := by
  have TK := Lib.hid (fun w' => RtakeXS x hx w')
  have hwx : IntKind.u64.wrap (x : Int) = (x : Int) := IntWalk.u64_in _ ⟨by omega, by omega⟩
  clear hx
  go_enter Tryd.func13, Tryd.ntmps13
  go_wp2_with fail
  refine (RSingle _).mono ?_; rintro e1 w1 ⟨rfl, hb1⟩
  go_wp2_with fail
  refine (TK.out _).mono ?_; rintro e2 w2 ⟨g, rfl, hI2, hg2, hb2⟩
  have hX := Within.trans hb1 hb2
  have hgg : w.heap.size + 1 ≤ g := Nat.le_trans (Nat.le_trans (by simp) hb1.sizes) hg2
  have r0 : w2.cell? ⟨w.heap.size, 0, none⟩ = some (.int .i64 0) := (hX.cells _ _ (by simp)).trans (by go_simp)
  have r1 : w2.cell? ⟨w.heap.size, 1, none⟩ = some (.bool false) := (hX.cells _ _ (by simp)).trans (by go_simp)
  have r2 : w2.cell? ⟨w.heap.size, 2, none⟩ = some (.pointer none) := (hX.cells _ _ (by simp)).trans (by go_simp)
  have r3 : w2.cell? ⟨w.heap.size, 3, none⟩ = some (.int .i64 0) := (hX.cells _ _ (by simp)).trans (by go_simp)
  have rf : ∀ o, w2.frozen? ⟨w.heap.size, o, none⟩ = false := fun o => (hX.frozens _ _ (by simp)).trans (by go_simp)
  have hl1 : w.heap.size < w2.heap.size := World.block_lt_of_cell? w2 _ r0
  have tr : NumTy w2 w.heap.size := ⟨_, (hX.block _ (by simp)).trans (hp_new _ _ _ (by simp))⟩
  have hww := ((Within.refl w).alloc _).trans hX
  go_wp2
  refine bodyPost_ret (v := .agg #[.int .i64 (kS x), .bool (nS x), .pointer (some ⟨g, 0, none⟩), .int .i64 (eS x)]) (by simp [results, Tryd.results13, go_sem, r0, r1, r2, r3, hl1]) rfl ⟨g, rfl, ?_, by omega, ?_⟩
  · exact (by repeat (first | with_reducible assumption | with_reducible refine NumTy.set ?_ _ _ | with_reducible refine IntB.setNum ?_ (by show g ≠ w.heap.size; omega) ?_ _))
  · exact (by repeat (first | with_reducible exact Within.refl _ | with_reducible assumption | with_reducible refine Within.alloc ?_ _ | with_reducible refine Within.drew ?_ | with_reducible refine Within.drewN ?_ _ | with_reducible refine Within.setCell ?_ (by first | (simp; done) | (simp; omega)) _ | with_reducible refine Within.trans ?_ (by assumption)))
set_option maxRecDepth 100000 in
set_option maxHeartbeats 600000 in
theorem ROf (x : Nat) (hx : x < 18446744073709551616) (w : World) : Calls Tryd.prog 44 #[.int .u64 (x : Int)] w (fun e w' => ∃ g, e = .returned (.agg #[.int .i64 (kD x), .bool (nD x), .pointer (some ⟨g, 0, none⟩), .int .i64 (eD x)]) ∧ IntB w' g (mD x : Int) ∧ w.heap.size ≤ g ∧ Within w w') := by
  have TK := Lib.hid (fun w' => RtakeXD x hx w')
  have hwx : IntKind.u64.wrap (x : Int) = (x : Int) := IntWalk.u64_in _ ⟨by omega, by omega⟩
  clear hx
  go_enter Tryd.func44, Tryd.ntmps44
  go_wp2_with fail
  refine (RDouble _).mono ?_; rintro e1 w1 ⟨rfl, hb1⟩
  go_wp2_with fail
  refine (TK.out _).mono ?_; rintro e2 w2 ⟨g, rfl, hI2, hg2, hb2⟩
  have hX := Within.trans hb1 hb2
  have hgg : w.heap.size + 1 ≤ g := Nat.le_trans (Nat.le_trans (by simp) hb1.sizes) hg2
  have r0 : w2.cell? ⟨w.heap.size, 0, none⟩ = some (.int .i64 0) := (hX.cells _ _ (by simp)).trans (by go_simp)
  have r1 : w2.cell? ⟨w.heap.size, 1, none⟩ = some (.bool false) := (hX.cells _ _ (by simp)).trans (by go_simp)
  have r2 : w2.cell? ⟨w.heap.size, 2, none⟩ = some (.pointer none) := (hX.cells _ _ (by simp)).trans (by go_simp)
  have r3 : w2.cell? ⟨w.heap.size, 3, none⟩ = some (.int .i64 0) := (hX.cells _ _ (by simp)).trans (by go_simp)
  have rf : ∀ o, w2.frozen? ⟨w.heap.size, o, none⟩ = false := fun o => (hX.frozens _ _ (by simp)).trans (by go_simp)
  have hl1 : w.heap.size < w2.heap.size := World.block_lt_of_cell? w2 _ r0
  have tr : NumTy w2 w.heap.size := ⟨_, (hX.block _ (by simp)).trans (hp_new _ _ _ (by simp))⟩
  have hww := ((Within.refl w).alloc _).trans hX
  go_wp2
  refine bodyPost_ret (v := .agg #[.int .i64 (kD x), .bool (nD x), .pointer (some ⟨g, 0, none⟩), .int .i64 (eD x)]) (by simp [results, Tryd.results44, go_sem, r0, r1, r2, r3, hl1]) rfl ⟨g, rfl, ?_, by omega, ?_⟩
  · exact (by repeat (first | with_reducible assumption | with_reducible refine NumTy.set ?_ _ _ | with_reducible refine IntB.setNum ?_ (by show g ≠ w.heap.size; omega) ?_ _))
  · exact (by repeat (first | with_reducible exact Within.refl _ | with_reducible assumption | with_reducible refine Within.alloc ?_ _ | with_reducible refine Within.drew ?_ | with_reducible refine Within.drewN ?_ _ | with_reducible refine Within.setCell ?_ (by first | (simp; done) | (simp; omega)) _ | with_reducible refine Within.trans ?_ (by assumption)))
def sideN (k : Int) (b : Bool) : Int := if k = 1 then (if b then -1 else 1) else 0
set_option maxRecDepth 100000 in
set_option maxHeartbeats 600000 in
theorem Rside_no (k E : Int) (b : Bool) (g : Nat) (h : (k != 1) = true) (w : World) : Calls Tryd.prog 59 #[.agg #[.int .i64 k, .bool b, .pointer (some ⟨g, 0, none⟩), .int .i64 E]] w (fun e w' => e = .returned (.int .i64 0) ∧ Within w w') := by
  go_enter Tryd.func59, Tryd.ntmps59
  go_wp2
  go_ret
  exact ⟨rfl, (by repeat (first | with_reducible exact Within.refl _ | with_reducible assumption | with_reducible refine Within.alloc ?_ _ | with_reducible refine Within.drew ?_ | with_reducible refine Within.drewN ?_ _ | with_reducible refine Within.setCell ?_ (by first | (simp; done) | (simp; omega)) _ | with_reducible refine Within.trans ?_ (by assumption)))⟩
set_option maxRecDepth 100000 in
set_option maxHeartbeats 600000 in
theorem Rside_0 (E : Int) (g : Nat) (w : World) : Calls Tryd.prog 59 #[.agg #[.int .i64 1, .bool false, .pointer (some ⟨g, 0, none⟩), .int .i64 E]] w (fun e w' => e = .returned (.int .i64 (1)) ∧ Within w w') := by
  go_enter Tryd.func59, Tryd.ntmps59
  go_wp2
  go_ret
  exact ⟨rfl, (by repeat (first | with_reducible exact Within.refl _ | with_reducible assumption | with_reducible refine Within.alloc ?_ _ | with_reducible refine Within.drew ?_ | with_reducible refine Within.drewN ?_ _ | with_reducible refine Within.setCell ?_ (by first | (simp; done) | (simp; omega)) _ | with_reducible refine Within.trans ?_ (by assumption)))⟩
set_option maxRecDepth 100000 in
set_option maxHeartbeats 600000 in
theorem Rside_1 (E : Int) (g : Nat) (w : World) : Calls Tryd.prog 59 #[.agg #[.int .i64 1, .bool true, .pointer (some ⟨g, 0, none⟩), .int .i64 E]] w (fun e w' => e = .returned (.int .i64 (-1)) ∧ Within w w') := by
  go_enter Tryd.func59, Tryd.ntmps59
  go_wp2
  go_ret
  exact ⟨rfl, (by repeat (first | with_reducible exact Within.refl _ | with_reducible assumption | with_reducible refine Within.alloc ?_ _ | with_reducible refine Within.drew ?_ | with_reducible refine Within.drewN ?_ _ | with_reducible refine Within.setCell ?_ (by first | (simp; done) | (simp; omega)) _ | with_reducible refine Within.trans ?_ (by assumption)))⟩
set_option maxRecDepth 100000 in
set_option maxHeartbeats 600000 in
theorem Rside (k E : Int) (b : Bool) (g : Nat) (w : World) : Calls Tryd.prog 59 #[.agg #[.int .i64 k, .bool b, .pointer (some ⟨g, 0, none⟩), .int .i64 E]] w (fun e w' => e = .returned (.int .i64 (sideN k b)) ∧ Within w w') := by
  unfold sideN
  by_cases h : k = 1
  · subst h; rw [if_pos rfl]; cases b
    · exact Rside_0 E g w
    · exact Rside_1 E g w
  · rw [if_neg h]; exact Rside_no k E b g (bne_iff_ne.2 h) w
def sgI (b : Bool) (M d : Nat) : Int := if b then -((M : Int) * 2 ^ d) else (M : Int) * 2 ^ d
theorem sgI_len {b : Bool} {M d : Nat} (hd : d ≤ 16000) (hM : (dg M).length ≤ 900) : (dg (sgI b M d).natAbs).length ≤ 1400 := by
  have h : (sgI b M d).natAbs = M * 2 ^ d := by
    have h2 : (M : Int) * 2 ^ d = ((M * 2 ^ d : Nat) : Int) := by simp
    unfold sgI
    rw [h2]
    split <;> omega
  rw [h]
  exact Nat.le_trans (dg_shl_le (k := 500) hM (by omega)) (by omega)
set_option maxRecDepth 100000 in
set_option maxHeartbeats 600000 in
theorem Rsigned_0 (k E e : Int) (g M d : Nat) (hd : E - e = (d : Int)) (hd2 : d ≤ 16000) (hM : (dg M).length ≤ 900) (w : World) (hI : IntB w g (M : Int)) : Calls Tryd.prog 60 #[.agg #[.int .i64 k, .bool false, .pointer (some ⟨g, 0, none⟩), .int .i64 E], .int .i64 e] w (fun en w' => ∃ h, en = .returned (.pointer (some ⟨h, 0, none⟩)) ∧ IntB w' h (((M : Int) * 2 ^ d)) ∧ w.heap.size ≤ h ∧ Within w w') := by
  have SH := Lib.hid (fun (z : Nat) (w' : World) (hz : IntTy w' z) (hx : IntB w' g (M : Int)) => Blsh z g d (M : Int) (Nat.le_trans hM (by decide)) (by omega) w' hz hx)
  obtain ⟨Q, hQ⟩ : ∃ Q : Nat, Q = M * 2 ^ d := ⟨_, rfl⟩
  have hQ2 : (M : Int) * 2 ^ d = (Q : Int) := by rw [hQ]; simp
  rw [hQ2] at SH
  rw [hQ2]
  have LQ := Lib.hid (show (dg Q).length ≤ 2000000 by rw [hQ]; exact Nat.le_trans (dg_shl_le (k := 500) hM (by omega)) (by omega))
  have hw : IntKind.i64.wrap (E - e) = E - e := by rw [hd]; exact IntWalk.i64_in _ ⟨by omega, by omega⟩
  have hwu : IntKind.u64.wrap (E - e) = (d : Int) := by rw [hd]; exact IntWalk.u64_in _ ⟨by omega, by omega⟩
  clear hQ hQ2 hd hd2 hM
  go_enter Tryd.func60, Tryd.ntmps60
  go_wp2_with fail
  refine (SH.out _ _ (by repeat (first | with_reducible assumption | with_reducible exact ty_new _ _ _ _ (by simp; done) | with_reducible refine ty_drew ?_ | with_reducible refine ty_alloc ?_ _)) (by repeat (first | with_reducible assumption | with_reducible exact ib_new _ _ (by simp; done) | with_reducible refine IntB.alloc ?_ _ | with_reducible refine IntB.drew ?_ | with_reducible refine IntB.drewN ?_ _))).mono ?_; rintro e1 w1 ⟨rfl, hI1, hG1⟩
  have hb1 : Within w w1 := Within.grown (by repeat (first | with_reducible exact Within.refl _ | with_reducible assumption | with_reducible refine Within.alloc ?_ _ | with_reducible refine Within.drew ?_ | with_reducible refine Within.drewN ?_ _ | with_reducible refine Within.setCell ?_ (by first | (simp; done) | (simp; omega)) _ | with_reducible refine Within.trans ?_ (by assumption))) hG1 (by simp)
  have hcl := grown_cells hG1
  clear hG1
  have c1 : w1.cell? ⟨w.heap.size, 1, none⟩ = some (.bool false) := (hcl _ 1 (by simp; omega) (by simp)).trans (by go_simp)
  have hJ := hI1
  go_wp2
  go_ret
  exact ⟨_, rfl, hJ, by simp, hb1⟩
set_option maxRecDepth 100000 in
set_option maxHeartbeats 600000 in
theorem Rsigned_1 (k E e : Int) (g M d : Nat) (hd : E - e = (d : Int)) (hd2 : d ≤ 16000) (hM : (dg M).length ≤ 900) (w : World) (hI : IntB w g (M : Int)) : Calls Tryd.prog 60 #[.agg #[.int .i64 k, .bool true, .pointer (some ⟨g, 0, none⟩), .int .i64 E], .int .i64 e] w (fun en w' => ∃ h, en = .returned (.pointer (some ⟨h, 0, none⟩)) ∧ IntB w' h (-((M : Int) * 2 ^ d)) ∧ w.heap.size ≤ h ∧ Within w w') := by
  have SH := Lib.hid (fun (z : Nat) (w' : World) (hz : IntTy w' z) (hx : IntB w' g (M : Int)) => Blsh z g d (M : Int) (Nat.le_trans hM (by decide)) (by omega) w' hz hx)
  obtain ⟨Q, hQ⟩ : ∃ Q : Nat, Q = M * 2 ^ d := ⟨_, rfl⟩
  have hQ2 : (M : Int) * 2 ^ d = (Q : Int) := by rw [hQ]; simp
  rw [hQ2] at SH
  rw [hQ2]
  have LQ := Lib.hid (show (dg Q).length ≤ 2000000 by rw [hQ]; exact Nat.le_trans (dg_shl_le (k := 500) hM (by omega)) (by omega))
  have hw : IntKind.i64.wrap (E - e) = E - e := by rw [hd]; exact IntWalk.i64_in _ ⟨by omega, by omega⟩
  have hwu : IntKind.u64.wrap (E - e) = (d : Int) := by rw [hd]; exact IntWalk.u64_in _ ⟨by omega, by omega⟩
  clear hQ hQ2 hd hd2 hM
  go_enter Tryd.func60, Tryd.ntmps60
  go_wp2_with fail
  refine (SH.out _ _ (by repeat (first | with_reducible assumption | with_reducible exact ty_new _ _ _ _ (by simp; done) | with_reducible refine ty_drew ?_ | with_reducible refine ty_alloc ?_ _)) (by repeat (first | with_reducible assumption | with_reducible exact ib_new _ _ (by simp; done) | with_reducible refine IntB.alloc ?_ _ | with_reducible refine IntB.drew ?_ | with_reducible refine IntB.drewN ?_ _))).mono ?_; rintro e1 w1 ⟨rfl, hI1, hG1⟩
  have hb1 : Within w w1 := Within.grown (by repeat (first | with_reducible exact Within.refl _ | with_reducible assumption | with_reducible refine Within.alloc ?_ _ | with_reducible refine Within.drew ?_ | with_reducible refine Within.drewN ?_ _ | with_reducible refine Within.setCell ?_ (by first | (simp; done) | (simp; omega)) _ | with_reducible refine Within.trans ?_ (by assumption))) hG1 (by simp)
  have hcl := grown_cells hG1
  clear hG1
  have hT1 := hI1.ty
  have c1 : w1.cell? ⟨w.heap.size, 1, none⟩ = some (.bool true) := (hcl _ 1 (by simp; omega) (by simp)).trans (by go_simp)
  go_wp2_with fail
  refine (Bneg _ _ (Q : Int) LQ.out _ hT1 hI1).mono ?_; rintro e2 w2 ⟨rfl, hI2, hG2⟩
  have hb2 : Within w w2 := Within.grown (by repeat (first | with_reducible exact Within.refl _ | with_reducible assumption | with_reducible refine Within.alloc ?_ _ | with_reducible refine Within.drew ?_ | with_reducible refine Within.drewN ?_ _ | with_reducible refine Within.setCell ?_ (by first | (simp; done) | (simp; omega)) _ | with_reducible refine Within.trans ?_ (by assumption))) hG2 (by simp)
  clear hG2
  have hJ := hI2
  go_wp2
  go_ret
  exact ⟨_, rfl, hJ, by simp, hb2⟩
set_option maxRecDepth 100000 in
set_option maxHeartbeats 600000 in
theorem Rsigned (k E e : Int) (b : Bool) (g M d : Nat) (hd : E - e = (d : Int)) (hd2 : d ≤ 16000) (hM : (dg M).length ≤ 900) (w : World) (hI : IntB w g (M : Int)) : Calls Tryd.prog 60 #[.agg #[.int .i64 k, .bool b, .pointer (some ⟨g, 0, none⟩), .int .i64 E], .int .i64 e] w (fun en w' => ∃ h, en = .returned (.pointer (some ⟨h, 0, none⟩)) ∧ IntB w' h (sgI b M d) ∧ w.heap.size ≤ h ∧ Within w w') := by
  unfold sgI
  cases b
  · exact Rsigned_0 k E e g M d hd hd2 hM w hI
  · exact Rsigned_1 k E e g M d hd hd2 hM w hI
set_option maxRecDepth 100000 in
set_option maxHeartbeats 600000 in
theorem Rcmp_inf1 (k1 k2 E1 E2 : Int) (b1 b2 : Bool) (g1 g2 : Nat) (h1 : (k1 == 1) = true) (w : World) : Calls Tryd.prog 15 #[.agg #[.int .i64 k1, .bool b1, .pointer (some ⟨g1, 0, none⟩), .int .i64 E1], .agg #[.int .i64 k2, .bool b2, .pointer (some ⟨g2, 0, none⟩), .int .i64 E2]] w (fun en w' => en = .returned (.int .i64 (sideN k1 b1 - sideN k2 b2)) ∧ Within w w') := by
  have S1 := Lib.hid (fun w' => Rside k1 E1 b1 g1 w')
  have S2 := Lib.hid (fun w' => Rside k2 E2 b2 g2 w')
  obtain ⟨s1, hs1⟩ : ∃ s1, s1 = sideN k1 b1 := ⟨_, rfl⟩
  obtain ⟨s2, hs2⟩ : ∃ s2, s2 = sideN k2 b2 := ⟨_, rfl⟩
  rw [← hs1] at S1; rw [← hs2] at S2; rw [← hs1, ← hs2]
  have hr : -3 ≤ s1 ∧ s1 ≤ 3 ∧ -3 ≤ s2 ∧ s2 ≤ 3 := by subst hs1 hs2; unfold sideN; refine ⟨?_, ?_, ?_, ?_⟩ <;> (split <;> (try split) <;> decide)
  have hws : IntKind.i64.wrap (s1 - s2) = s1 - s2 := IntWalk.i64_in _ ⟨by omega, by omega⟩
  clear hs1 hs2 hr
  go_enter Tryd.func15, Tryd.ntmps15
  go_upto_region 2 with fail
  refine wp_region_schG (fun W => W.cell? ⟨w.heap.size, 0, none⟩ = some (.int .i64 k1) ∧ W.cell? ⟨w.heap.size, 1, none⟩ = some (.bool b1) ∧ W.cell? ⟨w.heap.size, 2, none⟩ = some (.pointer (some ⟨g1, 0, none⟩)) ∧ W.cell? ⟨w.heap.size, 3, none⟩ = some (.int .i64 E1) ∧ W.cell? ⟨w.heap.size + 1, 0, none⟩ = some (.int .i64 k2) ∧ W.cell? ⟨w.heap.size + 1, 1, none⟩ = some (.bool b2) ∧ W.cell? ⟨w.heap.size + 1, 2, none⟩ = some (.pointer (some ⟨g2, 0, none⟩)) ∧ W.cell? ⟨w.heap.size + 1, 3, none⟩ = some (.int .i64 E2) ∧ Within ((w.alloc (.cells #[.int .i64 k1, .bool b1, .pointer (some ⟨g1, 0, none⟩), .int .i64 E1] 26)).alloc (.cells #[.int .i64 k2, .bool b2, .pointer (some ⟨g2, 0, none⟩), .int .i64 E2] 26)) W ∧ w.heap.size < W.heap.size ∧ w.heap.size + 1 < W.heap.size) 5 (.firm 0 (.firm 2 (.one 1 (.one 3 (.firm 4 (.one 5 .nil)))))) (by kernel_rfl) (by kernel_rfl) ⟨by go_simp, by go_simp, by go_simp, by go_simp, by go_simp, by go_simp, by go_simp, by go_simp, Within.refl _, by simp; omega, by simp⟩ ?_
  rintro w0 ⟨c0, c1, c2, c3, c4, c5, c6, c7, hw0, hs0, hs1⟩
  try simp only [Act.put, List.setIfInBounds_toArray, List.set_cons_zero, List.set_cons_succ]
  repeat
    apply sch_firm rfl rfl (by repeat (first | with_reducible exact Within.refl _ | with_reducible assumption | with_reducible refine Within.alloc ?_ _ | with_reducible refine Within.drew ?_ | with_reducible refine Within.drewN ?_ _ | with_reducible refine Within.setCell ?_ (by first | (simp; done) | (simp; omega)) _ | with_reducible refine Within.trans ?_ (by assumption)))
    · intro wq hq
      have hcq := hq.cells
      clear hq
      go_simp
      first | rfl | (trace_state; fail)
    try simp only [Act.put, List.setIfInBounds_toArray, List.set_cons_zero, List.set_cons_succ]
  refine sch_one rfl rfl (fun K hK => ?_)
  go_simp
  refine (S1.out _).mono ?_; rintro e4 w4 ⟨rfl, hb4⟩
  have hv4 : Within w0 w4 := (Within.refl w0).drew.trans hb4
  refine hK _ _ (fun _ => (by repeat (first | with_reducible exact Within.refl _ | with_reducible assumption | with_reducible refine Within.alloc ?_ _ | with_reducible refine Within.drew ?_ | with_reducible refine Within.drewN ?_ _ | with_reducible refine Within.setCell ?_ (by first | (simp; done) | (simp; omega)) _ | with_reducible refine Within.trans ?_ (by assumption)))) ?_
  clear hK K
  try simp only [Act.put, List.setIfInBounds_toArray, List.set_cons_zero, List.set_cons_succ]
  refine sch_one rfl rfl (fun K hK => ?_)
  go_simp
  refine (S2.out _).mono ?_; rintro e5 w5 ⟨rfl, hb5⟩
  have hv5 := hv4.trans hb5
  refine hK _ _ (fun _ => (by repeat (first | with_reducible exact Within.refl _ | with_reducible assumption | with_reducible refine Within.alloc ?_ _ | with_reducible refine Within.drew ?_ | with_reducible refine Within.drewN ?_ _ | with_reducible refine Within.setCell ?_ (by first | (simp; done) | (simp; omega)) _ | with_reducible refine Within.trans ?_ (by assumption)))) ?_
  clear hK K
  try simp only [Act.put, List.setIfInBounds_toArray, List.set_cons_zero, List.set_cons_succ]
  repeat
    apply sch_firm rfl rfl (by repeat (first | with_reducible exact Within.refl _ | with_reducible assumption | with_reducible refine Within.alloc ?_ _ | with_reducible refine Within.drew ?_ | with_reducible refine Within.drewN ?_ _ | with_reducible refine Within.setCell ?_ (by first | (simp; done) | (simp; omega)) _ | with_reducible refine Within.trans ?_ (by assumption)))
    · intro wq hq
      have hcq := hq.cells
      clear hq
      go_simp
      first | rfl | (trace_state; fail)
    try simp only [Act.put, List.setIfInBounds_toArray, List.set_cons_zero, List.set_cons_succ]
  refine sch_one rfl rfl (fun K hK => ?_)
  go_simp
  refine hK _ _ (fun h => absurd h (by decide)) ?_
  clear hK K
  try simp only [Act.put, List.setIfInBounds_toArray, List.set_cons_zero, List.set_cons_succ]
  refine sch_nil ?_
  go_wp2
  go_ret
  exact ⟨rfl, Within.trans (((Within.refl w).alloc _).alloc _) (hw0.trans hv5)⟩
set_option maxRecDepth 100000 in
set_option maxHeartbeats 600000 in
theorem Rcmp_inf0 (k1 k2 E1 E2 : Int) (b1 b2 : Bool) (g1 g2 : Nat) (h1 : (k1 == 1) = false) (h2 : (k2 == 1) = true) (w : World) : Calls Tryd.prog 15 #[.agg #[.int .i64 k1, .bool b1, .pointer (some ⟨g1, 0, none⟩), .int .i64 E1], .agg #[.int .i64 k2, .bool b2, .pointer (some ⟨g2, 0, none⟩), .int .i64 E2]] w (fun en w' => en = .returned (.int .i64 (sideN k1 b1 - sideN k2 b2)) ∧ Within w w') := by
  have S1 := Lib.hid (fun w' => Rside k1 E1 b1 g1 w')
  have S2 := Lib.hid (fun w' => Rside k2 E2 b2 g2 w')
  obtain ⟨s1, hs1⟩ : ∃ s1, s1 = sideN k1 b1 := ⟨_, rfl⟩
  obtain ⟨s2, hs2⟩ : ∃ s2, s2 = sideN k2 b2 := ⟨_, rfl⟩
  rw [← hs1] at S1; rw [← hs2] at S2; rw [← hs1, ← hs2]
  have hr : -3 ≤ s1 ∧ s1 ≤ 3 ∧ -3 ≤ s2 ∧ s2 ≤ 3 := by subst hs1 hs2; unfold sideN; refine ⟨?_, ?_, ?_, ?_⟩ <;> (split <;> (try split) <;> decide)
  have hws : IntKind.i64.wrap (s1 - s2) = s1 - s2 := IntWalk.i64_in _ ⟨by omega, by omega⟩
  clear hs1 hs2 hr
  go_enter Tryd.func15, Tryd.ntmps15
  go_upto_region 2 with fail
  refine wp_region_schG (fun W => W.cell? ⟨w.heap.size, 0, none⟩ = some (.int .i64 k1) ∧ W.cell? ⟨w.heap.size, 1, none⟩ = some (.bool b1) ∧ W.cell? ⟨w.heap.size, 2, none⟩ = some (.pointer (some ⟨g1, 0, none⟩)) ∧ W.cell? ⟨w.heap.size, 3, none⟩ = some (.int .i64 E1) ∧ W.cell? ⟨w.heap.size + 1, 0, none⟩ = some (.int .i64 k2) ∧ W.cell? ⟨w.heap.size + 1, 1, none⟩ = some (.bool b2) ∧ W.cell? ⟨w.heap.size + 1, 2, none⟩ = some (.pointer (some ⟨g2, 0, none⟩)) ∧ W.cell? ⟨w.heap.size + 1, 3, none⟩ = some (.int .i64 E2) ∧ Within ((w.alloc (.cells #[.int .i64 k1, .bool b1, .pointer (some ⟨g1, 0, none⟩), .int .i64 E1] 26)).alloc (.cells #[.int .i64 k2, .bool b2, .pointer (some ⟨g2, 0, none⟩), .int .i64 E2] 26)) W ∧ w.heap.size < W.heap.size ∧ w.heap.size + 1 < W.heap.size) 5 (.firm 0 (.firm 2 (.one 1 (.one 3 (.firm 4 (.one 5 .nil)))))) (by kernel_rfl) (by kernel_rfl) ⟨by go_simp, by go_simp, by go_simp, by go_simp, by go_simp, by go_simp, by go_simp, by go_simp, Within.refl _, by simp; omega, by simp⟩ ?_
  rintro w0 ⟨c0, c1, c2, c3, c4, c5, c6, c7, hw0, hs0, hs1⟩
  try simp only [Act.put, List.setIfInBounds_toArray, List.set_cons_zero, List.set_cons_succ]
  repeat
    apply sch_firm rfl rfl (by repeat (first | with_reducible exact Within.refl _ | with_reducible assumption | with_reducible refine Within.alloc ?_ _ | with_reducible refine Within.drew ?_ | with_reducible refine Within.drewN ?_ _ | with_reducible refine Within.setCell ?_ (by first | (simp; done) | (simp; omega)) _ | with_reducible refine Within.trans ?_ (by assumption)))
    · intro wq hq
      have hcq := hq.cells
      clear hq
      go_simp
      first | rfl | (trace_state; fail)
    try simp only [Act.put, List.setIfInBounds_toArray, List.set_cons_zero, List.set_cons_succ]
  refine sch_one rfl rfl (fun K hK => ?_)
  go_simp
  refine (S1.out _).mono ?_; rintro e4 w4 ⟨rfl, hb4⟩
  have hv4 : Within w0 w4 := (Within.refl w0).drew.trans hb4
  refine hK _ _ (fun _ => (by repeat (first | with_reducible exact Within.refl _ | with_reducible assumption | with_reducible refine Within.alloc ?_ _ | with_reducible refine Within.drew ?_ | with_reducible refine Within.drewN ?_ _ | with_reducible refine Within.setCell ?_ (by first | (simp; done) | (simp; omega)) _ | with_reducible refine Within.trans ?_ (by assumption)))) ?_
  clear hK K
  try simp only [Act.put, List.setIfInBounds_toArray, List.set_cons_zero, List.set_cons_succ]
  refine sch_one rfl rfl (fun K hK => ?_)
  go_simp
  refine (S2.out _).mono ?_; rintro e5 w5 ⟨rfl, hb5⟩
  have hv5 := hv4.trans hb5
  refine hK _ _ (fun _ => (by repeat (first | with_reducible exact Within.refl _ | with_reducible assumption | with_reducible refine Within.alloc ?_ _ | with_reducible refine Within.drew ?_ | with_reducible refine Within.drewN ?_ _ | with_reducible refine Within.setCell ?_ (by first | (simp; done) | (simp; omega)) _ | with_reducible refine Within.trans ?_ (by assumption)))) ?_
  clear hK K
  try simp only [Act.put, List.setIfInBounds_toArray, List.set_cons_zero, List.set_cons_succ]
  repeat
    apply sch_firm rfl rfl (by repeat (first | with_reducible exact Within.refl _ | with_reducible assumption | with_reducible refine Within.alloc ?_ _ | with_reducible refine Within.drew ?_ | with_reducible refine Within.drewN ?_ _ | with_reducible refine Within.setCell ?_ (by first | (simp; done) | (simp; omega)) _ | with_reducible refine Within.trans ?_ (by assumption)))
    · intro wq hq
      have hcq := hq.cells
      clear hq
      go_simp
      first | rfl | (trace_state; fail)
    try simp only [Act.put, List.setIfInBounds_toArray, List.set_cons_zero, List.set_cons_succ]
  refine sch_one rfl rfl (fun K hK => ?_)
  go_simp
  refine hK _ _ (fun h => absurd h (by decide)) ?_
  clear hK K
  try simp only [Act.put, List.setIfInBounds_toArray, List.set_cons_zero, List.set_cons_succ]
  refine sch_nil ?_
  go_wp2
  go_ret
  exact ⟨rfl, Within.trans (((Within.refl w).alloc _).alloc _) (hw0.trans hv5)⟩
set_option maxRecDepth 100000 in
set_option maxHeartbeats 600000 in
theorem Rcmp_fin (k1 k2 E1 E2 : Int) (b1 b2 : Bool) (g1 g2 : Nat) (e v1 v2 : Int) (M1 M2 : Nat) (he : min E1 E2 = e) (hl1 : (dg v1.natAbs).length ≤ 1400) (hl2 : (dg v2.natAbs).length ≤ 1400) (SG1 : Hid (∀ w, IntB w g1 (M1 : Int) → Calls Tryd.prog 60 #[.agg #[.int .i64 k1, .bool b1, .pointer (some ⟨g1, 0, none⟩), .int .i64 E1], .int .i64 e] w (fun en w' => ∃ h, en = .returned (.pointer (some ⟨h, 0, none⟩)) ∧ IntB w' h (v1) ∧ w.heap.size ≤ h ∧ Within w w'))) (SG2 : Hid (∀ w, IntB w g2 (M2 : Int) → Calls Tryd.prog 60 #[.agg #[.int .i64 k2, .bool b2, .pointer (some ⟨g2, 0, none⟩), .int .i64 E2], .int .i64 e] w (fun en w' => ∃ h, en = .returned (.pointer (some ⟨h, 0, none⟩)) ∧ IntB w' h (v2) ∧ w.heap.size ≤ h ∧ Within w w'))) (hk1 : (k1 == 1) = false) (hk2 : (k2 == 1) = false) (w : World) (hI1 : IntB w g1 (M1 : Int)) (hI2 : IntB w g2 (M2 : Int)) : Calls Tryd.prog 15 #[.agg #[.int .i64 k1, .bool b1, .pointer (some ⟨g1, 0, none⟩), .int .i64 E1], .agg #[.int .i64 k2, .bool b2, .pointer (some ⟨g2, 0, none⟩), .int .i64 E2]] w (fun en w' => en = .returned (.int .i64 (cmpI v1 v2)) ∧ Within w w') := by
  have HL1 := Lib.hid hl1; have HL2 := Lib.hid hl2; clear hl1 hl2
  go_enter Tryd.func15, Tryd.ntmps15
  go_upto_region 4 with fail
  refine wp_region_schG (fun W => W.cell? ⟨w.heap.size, 0, none⟩ = some (.int .i64 k1) ∧ W.cell? ⟨w.heap.size, 1, none⟩ = some (.bool b1) ∧ W.cell? ⟨w.heap.size, 2, none⟩ = some (.pointer (some ⟨g1, 0, none⟩)) ∧ W.cell? ⟨w.heap.size, 3, none⟩ = some (.int .i64 E1) ∧ W.cell? ⟨w.heap.size + 1, 0, none⟩ = some (.int .i64 k2) ∧ W.cell? ⟨w.heap.size + 1, 1, none⟩ = some (.bool b2) ∧ W.cell? ⟨w.heap.size + 1, 2, none⟩ = some (.pointer (some ⟨g2, 0, none⟩)) ∧ W.cell? ⟨w.heap.size + 1, 3, none⟩ = some (.int .i64 E2) ∧ IntB W g1 (M1 : Int) ∧ IntB W g2 (M2 : Int) ∧ Within ((w.alloc (.cells #[.int .i64 k1, .bool b1, .pointer (some ⟨g1, 0, none⟩), .int .i64 E1] 26)).alloc (.cells #[.int .i64 k2, .bool b2, .pointer (some ⟨g2, 0, none⟩), .int .i64 E2] 26)) W ∧ w.heap.size < W.heap.size ∧ w.heap.size + 1 < W.heap.size) 7 (.firm 0 (.firm 1 (.firm 3 (.firm 4 (.one 2 (.one 5 (.one 6 (.one 7 .nil)))))))) (by kernel_rfl) (by kernel_rfl) ⟨by go_simp, by go_simp, by go_simp, by go_simp, by go_simp, by go_simp, by go_simp, by go_simp, (by repeat (first | with_reducible assumption | with_reducible exact ib_new _ _ (by simp; done) | with_reducible refine IntB.alloc ?_ _ | with_reducible refine IntB.drew ?_ | with_reducible refine IntB.drewN ?_ _)), (by repeat (first | with_reducible assumption | with_reducible exact ib_new _ _ (by simp; done) | with_reducible refine IntB.alloc ?_ _ | with_reducible refine IntB.drew ?_ | with_reducible refine IntB.drewN ?_ _)), Within.refl _, by simp; omega, by simp⟩ ?_
  rintro w0 ⟨c0, c1, c2, c3, c4, c5, c6, c7, hJ1, hJ2, hw0, hs0, hs1⟩
  try simp only [Act.put, List.setIfInBounds_toArray, List.set_cons_zero, List.set_cons_succ]
  repeat
    apply sch_firm rfl rfl (by repeat (first | with_reducible exact Within.refl _ | with_reducible assumption | with_reducible refine Within.alloc ?_ _ | with_reducible refine Within.drew ?_ | with_reducible refine Within.drewN ?_ _ | with_reducible refine Within.setCell ?_ (by first | (simp; done) | (simp; omega)) _ | with_reducible refine Within.trans ?_ (by assumption)))
    · intro wq hq
      have hcq := hq.cells
      clear hq
      go_simp
      first | rfl | (trace_state; fail)
    try simp only [Act.put, List.setIfInBounds_toArray, List.set_cons_zero, List.set_cons_succ]
  refine sch_one rfl rfl (fun K hK => ?_)
  go_simp
  refine (SG1.out _ (by repeat (first | with_reducible assumption | with_reducible exact ib_new _ _ (by simp; done) | with_reducible refine IntB.alloc ?_ _ | with_reducible refine IntB.drew ?_ | with_reducible refine IntB.drewN ?_ _))).mono ?_; rintro e4 w4 ⟨h1, rfl, hA1, hg1, hb4⟩
  have hv4 : Within w0 w4 := (Within.refl w0).drew.trans hb4
  refine hK _ _ (fun _ => (by repeat (first | with_reducible exact Within.refl _ | with_reducible assumption | with_reducible refine Within.alloc ?_ _ | with_reducible refine Within.drew ?_ | with_reducible refine Within.drewN ?_ _ | with_reducible refine Within.setCell ?_ (by first | (simp; done) | (simp; omega)) _ | with_reducible refine Within.trans ?_ (by assumption)))) ?_
  clear hK K
  try simp only [Act.put, List.setIfInBounds_toArray, List.set_cons_zero, List.set_cons_succ]
  refine sch_one rfl rfl (fun K hK => ?_)
  go_simp
  refine (SG2.out _ (hJ2.of hv4)).mono ?_; rintro e5 w5 ⟨h2, rfl, hA2, hg2, hb5⟩
  have hA1' := hA1.of hb5
  have hv5 := hv4.trans hb5
  refine hK _ _ (fun _ => (by repeat (first | with_reducible exact Within.refl _ | with_reducible assumption | with_reducible refine Within.alloc ?_ _ | with_reducible refine Within.drew ?_ | with_reducible refine Within.drewN ?_ _ | with_reducible refine Within.setCell ?_ (by first | (simp; done) | (simp; omega)) _ | with_reducible refine Within.trans ?_ (by assumption)))) ?_
  clear hK K
  try simp only [Act.put, List.setIfInBounds_toArray, List.set_cons_zero, List.set_cons_succ]
  refine sch_one rfl rfl (fun K hK => ?_)
  go_simp
  refine (Bcmp h1 h2 v1 v2 (Nat.le_trans HL1.out (by decide)) (Nat.le_trans HL2.out (by decide)) _ hA1' hA2).mono ?_; rintro e6 w6 ⟨rfl, hb6⟩
  have hv6 := hv5.trans hb6
  refine hK _ _ (fun _ => (by repeat (first | with_reducible exact Within.refl _ | with_reducible assumption | with_reducible refine Within.alloc ?_ _ | with_reducible refine Within.drew ?_ | with_reducible refine Within.drewN ?_ _ | with_reducible refine Within.setCell ?_ (by first | (simp; done) | (simp; omega)) _ | with_reducible refine Within.trans ?_ (by assumption)))) ?_
  clear hK K
  try simp only [Act.put, List.setIfInBounds_toArray, List.set_cons_zero, List.set_cons_succ]
  refine sch_one rfl rfl (fun K hK => ?_)
  go_simp
  refine hK _ _ (fun h => absurd h (by decide)) ?_
  clear hK K
  try simp only [Act.put, List.setIfInBounds_toArray, List.set_cons_zero, List.set_cons_succ]
  refine sch_nil ?_
  go_wp2
  go_ret
  exact ⟨rfl, Within.trans (((Within.refl w).alloc _).alloc _) (hw0.trans hv6)⟩
set_option maxRecDepth 100000 in
set_option maxHeartbeats 600000 in
theorem Rsum_fin (k1 k2 E1 E2 : Int) (b1 b2 : Bool) (g1 g2 : Nat) (e v1 v2 : Int) (M1 M2 : Nat) (v : Int) (hv : v1 + v2 = v) (hlv : (dg v.natAbs).length ≤ 2000) (he : min E1 E2 = e) (hl1 : (dg v1.natAbs).length ≤ 1400) (hl2 : (dg v2.natAbs).length ≤ 1400) (SG1 : Hid (∀ w, IntB w g1 (M1 : Int) → Calls Tryd.prog 60 #[.agg #[.int .i64 k1, .bool b1, .pointer (some ⟨g1, 0, none⟩), .int .i64 E1], .int .i64 e] w (fun en w' => ∃ h, en = .returned (.pointer (some ⟨h, 0, none⟩)) ∧ IntB w' h (v1) ∧ w.heap.size ≤ h ∧ Within w w'))) (SG2 : Hid (∀ w, IntB w g2 (M2 : Int) → Calls Tryd.prog 60 #[.agg #[.int .i64 k2, .bool b2, .pointer (some ⟨g2, 0, none⟩), .int .i64 E2], .int .i64 e] w (fun en w' => ∃ h, en = .returned (.pointer (some ⟨h, 0, none⟩)) ∧ IntB w' h (v2) ∧ w.heap.size ≤ h ∧ Within w w'))) (w : World) (hI1 : IntB w g1 (M1 : Int)) (hI2 : IntB w g2 (M2 : Int)) : Calls Tryd.prog 16 #[.agg #[.int .i64 k1, .bool b1, .pointer (some ⟨g1, 0, none⟩), .int .i64 E1], .agg #[.int .i64 k2, .bool b2, .pointer (some ⟨g2, 0, none⟩), .int .i64 E2]] w (fun en w' => ∃ g, en = .returned (.agg #[.int .i64 0, .bool (decide (v < 0)), .pointer (some ⟨g, 0, none⟩), .int .i64 e]) ∧ IntB w' g (v.natAbs : Int) ∧ w.heap.size ≤ g ∧ Within w w') := by
  have HL1 := Lib.hid hl1; have HL2 := Lib.hid hl2; have HLV := Lib.hid hlv; have HV := Lib.hid hv; clear hl1 hl2 hlv hv
  go_enter Tryd.func16, Tryd.ntmps16
  go_upto_region 2 with fail
  go_cut [6] (fun s6 wx => PtrI (((w.alloc (.cells #[.int .i64 k1, .bool b1, .pointer (some ⟨g1, 0, none⟩), .int .i64 E1] 26)).alloc (.cells #[.int .i64 k2, .bool b2, .pointer (some ⟨g2, 0, none⟩), .int .i64 E2] 26)).alloc (.cells #[.int .i64 0, .bool false, .pointer none, .int .i64 0] 26)) v s6 wx ∧ Within (((w.alloc (.cells #[.int .i64 k1, .bool b1, .pointer (some ⟨g1, 0, none⟩), .int .i64 E1] 26)).alloc (.cells #[.int .i64 k2, .bool b2, .pointer (some ⟨g2, 0, none⟩), .int .i64 E2] 26)).alloc (.cells #[.int .i64 0, .bool false, .pointer none, .int .i64 0] 26)) wx)
  case first =>
    refine wp_region_schG (fun W => W.cell? ⟨w.heap.size, 0, none⟩ = some (.int .i64 k1) ∧ W.cell? ⟨w.heap.size, 1, none⟩ = some (.bool b1) ∧ W.cell? ⟨w.heap.size, 2, none⟩ = some (.pointer (some ⟨g1, 0, none⟩)) ∧ W.cell? ⟨w.heap.size, 3, none⟩ = some (.int .i64 E1) ∧ W.cell? ⟨w.heap.size + 1, 0, none⟩ = some (.int .i64 k2) ∧ W.cell? ⟨w.heap.size + 1, 1, none⟩ = some (.bool b2) ∧ W.cell? ⟨w.heap.size + 1, 2, none⟩ = some (.pointer (some ⟨g2, 0, none⟩)) ∧ W.cell? ⟨w.heap.size + 1, 3, none⟩ = some (.int .i64 E2) ∧ IntB W g1 (M1 : Int) ∧ IntB W g2 (M2 : Int) ∧ Within (((w.alloc (.cells #[.int .i64 k1, .bool b1, .pointer (some ⟨g1, 0, none⟩), .int .i64 E1] 26)).alloc (.cells #[.int .i64 k2, .bool b2, .pointer (some ⟨g2, 0, none⟩), .int .i64 E2] 26)).alloc (.cells #[.int .i64 0, .bool false, .pointer none, .int .i64 0] 26)) W ∧ w.heap.size < W.heap.size ∧ w.heap.size + 1 < W.heap.size) 8 (.firm 1 (.firm 2 (.firm 4 (.firm 5 (.two 0 (.one 3 (.one 6 (.one 7 (.one 8 .nil)))) 3 (.two 0 (.one 6 (.one 7 (.one 8 .nil))) 6 (.one 0 (.one 7 (.one 8 .nil))))))))) (by kernel_rfl) (by kernel_rfl) ⟨by go_simp, by go_simp, by go_simp, by go_simp, by go_simp, by go_simp, by go_simp, by go_simp, (by repeat (first | with_reducible assumption | with_reducible exact ib_new _ _ (by simp; done) | with_reducible refine IntB.alloc ?_ _ | with_reducible refine IntB.drew ?_ | with_reducible refine IntB.drewN ?_ _)), (by repeat (first | with_reducible assumption | with_reducible exact ib_new _ _ (by simp; done) | with_reducible refine IntB.alloc ?_ _ | with_reducible refine IntB.drew ?_ | with_reducible refine IntB.drewN ?_ _)), Within.refl _, by first | (simp; done) | (simp; omega), by first | (simp; done) | (simp; omega)⟩ ?_
    rintro w0 ⟨c0, c1, c2, c3, c4, c5, c6, c7, hJ1, hJ2, hw0, hs0, hs1⟩
    try simp only [Act.put, List.setIfInBounds_toArray, List.set_cons_zero, List.set_cons_succ]
    repeat
      apply sch_firm rfl rfl (by repeat (first | with_reducible exact Within.refl _ | with_reducible assumption | with_reducible refine Within.alloc ?_ _ | with_reducible refine Within.drew ?_ | with_reducible refine Within.drewN ?_ _ | with_reducible refine Within.setCell ?_ (by first | (simp; done) | (simp; omega)) _ | with_reducible refine Within.trans ?_ (by assumption)))
      · intro wq hq
        have hcq := hq.cells
        clear hq
        go_simp
        first | rfl | (trace_state; fail)
      try simp only [Act.put, List.setIfInBounds_toArray, List.set_cons_zero, List.set_cons_succ]
    refine sch_two rfl rfl rfl rfl (fun K hK => ?_) (fun K hK => ?_)
    · go_simp
      refine hK _ _ (by repeat (first | with_reducible exact Within.refl _ | with_reducible assumption | with_reducible refine Within.alloc ?_ _ | with_reducible refine Within.drew ?_ | with_reducible refine Within.drewN ?_ _ | with_reducible refine Within.setCell ?_ (by first | (simp; done) | (simp; omega)) _ | with_reducible refine Within.trans ?_ (by assumption))) ?_
      clear hK K
      try simp only [Act.put, List.setIfInBounds_toArray, List.set_cons_zero, List.set_cons_succ]
      refine sch_one rfl rfl (fun K hK => ?_)
      go_simp
      refine (SG1.out _ (by repeat (first | with_reducible assumption | with_reducible exact ib_new _ _ (by simp; done) | with_reducible refine IntB.alloc ?_ _ | with_reducible refine IntB.drew ?_ | with_reducible refine IntB.drewN ?_ _))).mono ?_; rintro e4 w4 ⟨h1, rfl, hA1, hg1, hb4⟩
      have hv4 : Within w0 w4 := Within.trans (by repeat (first | with_reducible exact Within.refl _ | with_reducible assumption | with_reducible refine Within.alloc ?_ _ | with_reducible refine Within.drew ?_ | with_reducible refine Within.drewN ?_ _ | with_reducible refine Within.setCell ?_ (by first | (simp; done) | (simp; omega)) _ | with_reducible refine Within.trans ?_ (by assumption))) hb4
      have hT4 : IntTy w4 w0.heap.size := IntTy.of (by repeat (first | with_reducible assumption | with_reducible exact ty_new _ _ _ _ (by simp; done) | with_reducible refine ty_drew ?_ | with_reducible refine ty_alloc ?_ _)) hb4
      refine hK _ _ (fun _ => (by repeat (first | with_reducible exact Within.refl _ | with_reducible assumption | with_reducible refine Within.alloc ?_ _ | with_reducible refine Within.drew ?_ | with_reducible refine Within.drewN ?_ _ | with_reducible refine Within.setCell ?_ (by first | (simp; done) | (simp; omega)) _ | with_reducible refine Within.trans ?_ (by assumption)))) ?_
      clear hK K
      try simp only [Act.put, List.setIfInBounds_toArray, List.set_cons_zero, List.set_cons_succ]
      refine sch_one rfl rfl (fun K hK => ?_)
      go_simp
      have hJ2' := hJ2.of hv4
      refine (SG2.out _ (by repeat (first | with_reducible assumption | with_reducible exact ib_new _ _ (by simp; done) | with_reducible refine IntB.alloc ?_ _ | with_reducible refine IntB.drew ?_ | with_reducible refine IntB.drewN ?_ _))).mono ?_; rintro e5 w5 ⟨h2, rfl, hA2, hg2, hb5⟩
      have hA1' : IntB w5 h1 v1 := IntB.of (by repeat (first | with_reducible assumption | with_reducible exact ib_new _ _ (by simp; done) | with_reducible refine IntB.alloc ?_ _ | with_reducible refine IntB.drew ?_ | with_reducible refine IntB.drewN ?_ _)) hb5
      have hv5 : Within w0 w5 := Within.trans (by repeat (first | with_reducible exact Within.refl _ | with_reducible assumption | with_reducible refine Within.alloc ?_ _ | with_reducible refine Within.drew ?_ | with_reducible refine Within.drewN ?_ _ | with_reducible refine Within.setCell ?_ (by first | (simp; done) | (simp; omega)) _ | with_reducible refine Within.trans ?_ (by assumption))) hb5
      have hT5 : IntTy w5 w0.heap.size := IntTy.of (by repeat (first | with_reducible assumption | with_reducible exact ty_new _ _ _ _ (by simp; done) | with_reducible refine ty_drew ?_ | with_reducible refine ty_alloc ?_ _)) hb5
      refine hK _ _ (fun _ => (by repeat (first | with_reducible exact Within.refl _ | with_reducible assumption | with_reducible refine Within.alloc ?_ _ | with_reducible refine Within.drew ?_ | with_reducible refine Within.drewN ?_ _ | with_reducible refine Within.setCell ?_ (by first | (simp; done) | (simp; omega)) _ | with_reducible refine Within.trans ?_ (by assumption)))) ?_
      clear hK K
      try simp only [Act.put, List.setIfInBounds_toArray, List.set_cons_zero, List.set_cons_succ]
      refine sch_one rfl rfl (fun K hK => ?_)
      go_simp
      refine (BAdd _ h1 h2 v1 v2 (Nat.le_trans HL1.out (by decide)) (Nat.le_trans HL2.out (by decide)) _ (by repeat (first | with_reducible assumption | with_reducible exact ty_new _ _ _ _ (by simp; done) | with_reducible refine ty_drew ?_ | with_reducible refine ty_alloc ?_ _)) (by repeat (first | with_reducible assumption | with_reducible exact ib_new _ _ (by simp; done) | with_reducible refine IntB.alloc ?_ _ | with_reducible refine IntB.drew ?_ | with_reducible refine IntB.drewN ?_ _)) (by repeat (first | with_reducible assumption | with_reducible exact ib_new _ _ (by simp; done) | with_reducible refine IntB.alloc ?_ _ | with_reducible refine IntB.drew ?_ | with_reducible refine IntB.drewN ?_ _))).mono ?_; rintro e6 w6 ⟨rfl, hA3, hG3⟩
      rw [HV.out] at hA3
      have hv3 : Within w0 w6 := Within.grown (by repeat (first | with_reducible exact Within.refl _ | with_reducible assumption | with_reducible refine Within.alloc ?_ _ | with_reducible refine Within.drew ?_ | with_reducible refine Within.drewN ?_ _ | with_reducible refine Within.setCell ?_ (by first | (simp; done) | (simp; omega)) _ | with_reducible refine Within.trans ?_ (by assumption))) hG3 (by first | (simp; done) | exact hv4.sizes | exact hv5.sizes)
      refine hK _ _ (fun _ => (by repeat (first | with_reducible exact Within.refl _ | with_reducible assumption | with_reducible refine Within.alloc ?_ _ | with_reducible refine Within.drew ?_ | with_reducible refine Within.drewN ?_ _ | with_reducible refine Within.setCell ?_ (by first | (simp; done) | (simp; omega)) _ | with_reducible refine Within.trans ?_ (by assumption)))) ?_
      clear hK K
      try simp only [Act.put, List.setIfInBounds_toArray, List.set_cons_zero, List.set_cons_succ]
      refine sch_one rfl rfl (fun K hK => ?_)
      go_simp
      refine hK _ _ (fun h => absurd h (by decide)) ?_
      clear hK K
      try simp only [Act.put, List.setIfInBounds_toArray, List.set_cons_zero, List.set_cons_succ]
      refine sch_nil ?_
      go_wp2_with fail
      go_meet
      exact ⟨⟨_, rfl, hA3, Nat.le_trans hw0.sizes (by first | (simp; done) | exact hv4.sizes | exact hv5.sizes)⟩, hw0.trans hv3⟩
    · go_simp
      refine (SG1.out _ (by repeat (first | with_reducible assumption | with_reducible exact ib_new _ _ (by simp; done) | with_reducible refine IntB.alloc ?_ _ | with_reducible refine IntB.drew ?_ | with_reducible refine IntB.drewN ?_ _))).mono ?_; rintro e4 w4 ⟨h1, rfl, hA1, hg1, hb4⟩
      have hv4 : Within w0 w4 := Within.trans (by repeat (first | with_reducible exact Within.refl _ | with_reducible assumption | with_reducible refine Within.alloc ?_ _ | with_reducible refine Within.drew ?_ | with_reducible refine Within.drewN ?_ _ | with_reducible refine Within.setCell ?_ (by first | (simp; done) | (simp; omega)) _ | with_reducible refine Within.trans ?_ (by assumption))) hb4
      refine hK _ _ (by repeat (first | with_reducible exact Within.refl _ | with_reducible assumption | with_reducible refine Within.alloc ?_ _ | with_reducible refine Within.drew ?_ | with_reducible refine Within.drewN ?_ _ | with_reducible refine Within.setCell ?_ (by first | (simp; done) | (simp; omega)) _ | with_reducible refine Within.trans ?_ (by assumption))) ?_
      clear hK K
      try simp only [Act.put, List.setIfInBounds_toArray, List.set_cons_zero, List.set_cons_succ]
      refine sch_two rfl rfl rfl rfl (fun K hK => ?_) (fun K hK => ?_)
      · go_simp
        refine hK _ _ (by repeat (first | with_reducible exact Within.refl _ | with_reducible assumption | with_reducible refine Within.alloc ?_ _ | with_reducible refine Within.drew ?_ | with_reducible refine Within.drewN ?_ _ | with_reducible refine Within.setCell ?_ (by first | (simp; done) | (simp; omega)) _ | with_reducible refine Within.trans ?_ (by assumption))) ?_
        clear hK K
        try simp only [Act.put, List.setIfInBounds_toArray, List.set_cons_zero, List.set_cons_succ]
        refine sch_one rfl rfl (fun K hK => ?_)
        go_simp
        have hJ2' := hJ2.of hv4
        refine (SG2.out _ (by repeat (first | with_reducible assumption | with_reducible exact ib_new _ _ (by simp; done) | with_reducible refine IntB.alloc ?_ _ | with_reducible refine IntB.drew ?_ | with_reducible refine IntB.drewN ?_ _))).mono ?_; rintro e5 w5 ⟨h2, rfl, hA2, hg2, hb5⟩
        have hA1' : IntB w5 h1 v1 := IntB.of (by repeat (first | with_reducible assumption | with_reducible exact ib_new _ _ (by simp; done) | with_reducible refine IntB.alloc ?_ _ | with_reducible refine IntB.drew ?_ | with_reducible refine IntB.drewN ?_ _)) hb5
        have hv5 : Within w0 w5 := Within.trans (by repeat (first | with_reducible exact Within.refl _ | with_reducible assumption | with_reducible refine Within.alloc ?_ _ | with_reducible refine Within.drew ?_ | with_reducible refine Within.drewN ?_ _ | with_reducible refine Within.setCell ?_ (by first | (simp; done) | (simp; omega)) _ | with_reducible refine Within.trans ?_ (by assumption))) hb5
        have hT5 : IntTy w5 w4.heap.size := IntTy.of (by repeat (first | with_reducible assumption | with_reducible exact ty_new _ _ _ _ (by simp; done) | with_reducible refine ty_drew ?_ | with_reducible refine ty_alloc ?_ _)) hb5
        refine hK _ _ (fun _ => (by repeat (first | with_reducible exact Within.refl _ | with_reducible assumption | with_reducible refine Within.alloc ?_ _ | with_reducible refine Within.drew ?_ | with_reducible refine Within.drewN ?_ _ | with_reducible refine Within.setCell ?_ (by first | (simp; done) | (simp; omega)) _ | with_reducible refine Within.trans ?_ (by assumption)))) ?_
        clear hK K
        try simp only [Act.put, List.setIfInBounds_toArray, List.set_cons_zero, List.set_cons_succ]
        refine sch_one rfl rfl (fun K hK => ?_)
        go_simp
        refine (BAdd _ h1 h2 v1 v2 (Nat.le_trans HL1.out (by decide)) (Nat.le_trans HL2.out (by decide)) _ (by repeat (first | with_reducible assumption | with_reducible exact ty_new _ _ _ _ (by simp; done) | with_reducible refine ty_drew ?_ | with_reducible refine ty_alloc ?_ _)) (by repeat (first | with_reducible assumption | with_reducible exact ib_new _ _ (by simp; done) | with_reducible refine IntB.alloc ?_ _ | with_reducible refine IntB.drew ?_ | with_reducible refine IntB.drewN ?_ _)) (by repeat (first | with_reducible assumption | with_reducible exact ib_new _ _ (by simp; done) | with_reducible refine IntB.alloc ?_ _ | with_reducible refine IntB.drew ?_ | with_reducible refine IntB.drewN ?_ _))).mono ?_; rintro e6 w6 ⟨rfl, hA3, hG3⟩
        rw [HV.out] at hA3
        have hv3 : Within w0 w6 := Within.grown (by repeat (first | with_reducible exact Within.refl _ | with_reducible assumption | with_reducible refine Within.alloc ?_ _ | with_reducible refine Within.drew ?_ | with_reducible refine Within.drewN ?_ _ | with_reducible refine Within.setCell ?_ (by first | (simp; done) | (simp; omega)) _ | with_reducible refine Within.trans ?_ (by assumption))) hG3 (by first | (simp; done) | exact hv4.sizes | exact hv5.sizes)
        refine hK _ _ (fun _ => (by repeat (first | with_reducible exact Within.refl _ | with_reducible assumption | with_reducible refine Within.alloc ?_ _ | with_reducible refine Within.drew ?_ | with_reducible refine Within.drewN ?_ _ | with_reducible refine Within.setCell ?_ (by first | (simp; done) | (simp; omega)) _ | with_reducible refine Within.trans ?_ (by assumption)))) ?_
        clear hK K
        try simp only [Act.put, List.setIfInBounds_toArray, List.set_cons_zero, List.set_cons_succ]
        refine sch_one rfl rfl (fun K hK => ?_)
        go_simp
        refine hK _ _ (fun h => absurd h (by decide)) ?_
        clear hK K
        try simp only [Act.put, List.setIfInBounds_toArray, List.set_cons_zero, List.set_cons_succ]
        refine sch_nil ?_
        go_wp2_with fail
        go_meet
        exact ⟨⟨_, rfl, hA3, Nat.le_trans hw0.sizes (by first | (simp; done) | exact hv4.sizes | exact hv5.sizes)⟩, hw0.trans hv3⟩
      · go_simp
        have hJ2' := hJ2.of hv4
        refine (SG2.out _ (by repeat (first | with_reducible assumption | with_reducible exact ib_new _ _ (by simp; done) | with_reducible refine IntB.alloc ?_ _ | with_reducible refine IntB.drew ?_ | with_reducible refine IntB.drewN ?_ _))).mono ?_; rintro e5 w5 ⟨h2, rfl, hA2, hg2, hb5⟩
        have hA1' : IntB w5 h1 v1 := IntB.of (by repeat (first | with_reducible assumption | with_reducible exact ib_new _ _ (by simp; done) | with_reducible refine IntB.alloc ?_ _ | with_reducible refine IntB.drew ?_ | with_reducible refine IntB.drewN ?_ _)) hb5
        have hv5 : Within w0 w5 := Within.trans (by repeat (first | with_reducible exact Within.refl _ | with_reducible assumption | with_reducible refine Within.alloc ?_ _ | with_reducible refine Within.drew ?_ | with_reducible refine Within.drewN ?_ _ | with_reducible refine Within.setCell ?_ (by first | (simp; done) | (simp; omega)) _ | with_reducible refine Within.trans ?_ (by assumption))) hb5
        refine hK _ _ (by repeat (first | with_reducible exact Within.refl _ | with_reducible assumption | with_reducible refine Within.alloc ?_ _ | with_reducible refine Within.drew ?_ | with_reducible refine Within.drewN ?_ _ | with_reducible refine Within.setCell ?_ (by first | (simp; done) | (simp; omega)) _ | with_reducible refine Within.trans ?_ (by assumption))) ?_
        clear hK K
        try simp only [Act.put, List.setIfInBounds_toArray, List.set_cons_zero, List.set_cons_succ]
        refine sch_one rfl rfl (fun K hK => ?_)
        go_simp
        refine hK _ _ (fun _ => (by repeat (first | with_reducible exact Within.refl _ | with_reducible assumption | with_reducible refine Within.alloc ?_ _ | with_reducible refine Within.drew ?_ | with_reducible refine Within.drewN ?_ _ | with_reducible refine Within.setCell ?_ (by first | (simp; done) | (simp; omega)) _ | with_reducible refine Within.trans ?_ (by assumption)))) ?_
        clear hK K
        try simp only [Act.put, List.setIfInBounds_toArray, List.set_cons_zero, List.set_cons_succ]
        refine sch_one rfl rfl (fun K hK => ?_)
        go_simp
        refine (BAdd _ h1 h2 v1 v2 (Nat.le_trans HL1.out (by decide)) (Nat.le_trans HL2.out (by decide)) _ (by repeat (first | with_reducible assumption | with_reducible exact ty_new _ _ _ _ (by simp; done) | with_reducible refine ty_drew ?_ | with_reducible refine ty_alloc ?_ _)) (by repeat (first | with_reducible assumption | with_reducible exact ib_new _ _ (by simp; done) | with_reducible refine IntB.alloc ?_ _ | with_reducible refine IntB.drew ?_ | with_reducible refine IntB.drewN ?_ _)) (by repeat (first | with_reducible assumption | with_reducible exact ib_new _ _ (by simp; done) | with_reducible refine IntB.alloc ?_ _ | with_reducible refine IntB.drew ?_ | with_reducible refine IntB.drewN ?_ _))).mono ?_; rintro e6 w6 ⟨rfl, hA3, hG3⟩
        rw [HV.out] at hA3
        have hv3 : Within w0 w6 := Within.grown (by repeat (first | with_reducible exact Within.refl _ | with_reducible assumption | with_reducible refine Within.alloc ?_ _ | with_reducible refine Within.drew ?_ | with_reducible refine Within.drewN ?_ _ | with_reducible refine Within.setCell ?_ (by first | (simp; done) | (simp; omega)) _ | with_reducible refine Within.trans ?_ (by assumption))) hG3 (by first | (simp; done) | exact hv4.sizes | exact hv5.sizes)
        refine hK _ _ (fun _ => (by repeat (first | with_reducible exact Within.refl _ | with_reducible assumption | with_reducible refine Within.alloc ?_ _ | with_reducible refine Within.drew ?_ | with_reducible refine Within.drewN ?_ _ | with_reducible refine Within.setCell ?_ (by first | (simp; done) | (simp; omega)) _ | with_reducible refine Within.trans ?_ (by assumption)))) ?_
        clear hK K
        try simp only [Act.put, List.setIfInBounds_toArray, List.set_cons_zero, List.set_cons_succ]
        refine sch_one rfl rfl (fun K hK => ?_)
        go_simp
        refine hK _ _ (fun h => absurd h (by decide)) ?_
        clear hK K
        try simp only [Act.put, List.setIfInBounds_toArray, List.set_cons_zero, List.set_cons_succ]
        refine sch_nil ?_
        go_wp2_with fail
        go_meet
        exact ⟨⟨_, rfl, hA3, Nat.le_trans hw0.sizes (by first | (simp; done) | exact hv4.sizes | exact hv5.sizes)⟩, hw0.trans hv3⟩
  case rest =>
    obtain ⟨⟨z, rfl, hI, hz⟩, hw⟩ := hcut
    have hz3 : w.heap.size + 3 ≤ z := Nat.le_trans (by simp) hz
    clear hz
    have r0 : wc.cell? ⟨w.heap.size + 1 + 1, 0, none⟩ = some (.int .i64 0) := (hw.cells _ _ (by simp)).trans (by go_simp)
    have r1 : wc.cell? ⟨w.heap.size + 1 + 1, 1, none⟩ = some (.bool false) := (hw.cells _ _ (by simp)).trans (by go_simp)
    have r2 : wc.cell? ⟨w.heap.size + 1 + 1, 2, none⟩ = some (.pointer none) := (hw.cells _ _ (by simp)).trans (by go_simp)
    have r3 : wc.cell? ⟨w.heap.size + 1 + 1, 3, none⟩ = some (.int .i64 0) := (hw.cells _ _ (by simp)).trans (by go_simp)
    have rf : ∀ o, wc.frozen? ⟨w.heap.size + 1 + 1, o, none⟩ = false := fun o => (hw.frozens _ _ (by simp)).trans (by go_simp)
    have hl1 : w.heap.size + 1 + 1 < wc.heap.size := World.block_lt_of_cell? wc _ r0
    have tr : NumTy wc (w.heap.size + 1 + 1) := ⟨_, (hw.block _ (by simp)).trans (hp_new _ _ _ (by simp))⟩
    have hww : Within w wc := ((((Within.refl w).alloc _).alloc _).alloc _).trans hw
    clear hw
    have hty := hI.ty
    have hsg := Lib.hid (sign_lt v)
    go_wp2_with fail
    refine (Bsign z v _ hI).mono ?_; rintro e7 w7 ⟨rfl, rfl⟩
    have d2 : decide (v.sign < 0) = decide (v < 0) := by rw [decide_eq_decide]; exact hsg.out
    go_wp2_with fail
    refine (Babs z z v (Nat.le_trans HLV.out (by decide)) _ hty hI).mono ?_; rintro e8 w8 ⟨rfl, hI8, hG8⟩
    have hcl := grown_cells hG8; have hfz := grown_frozens hG8; have hsz := hG8.size
    have q5 : ¬ (w.heap.size + 1 + 1 = z) := by omega
    have r0 := (hcl _ 0 hl1 q5).trans r0
    have r1 := (hcl _ 1 hl1 q5).trans r1
    have r2 := (hcl _ 2 hl1 q5).trans r2
    have r3 := (hcl _ 3 hl1 q5).trans r3
    have rf8 : ∀ o, w8.frozen? ⟨w.heap.size + 1 + 1, o, none⟩ = false := fun o => (hfz _ o hl1 q5).trans (rf o)
    have tr2 := tr.grown hG8 q5
    have hl2 : w.heap.size + 1 + 1 < w8.heap.size := by omega
    have hw8 : Within w w8 := Within.grown hww hG8 (by omega)
    clear hcl hfz hsz hG8 tr rf hl1 hty
    go_wp2
    refine bodyPost_ret (v := .agg #[.int .i64 0, .bool (decide (v < 0)), .pointer (some ⟨z, 0, none⟩), .int .i64 e]) (by simp [results, Tryd.results16, go_sem, r0, r1, r2, r3, hl2]) rfl ⟨z, rfl, ?_, by omega, ?_⟩
    · exact (by repeat (first | with_reducible assumption | with_reducible refine NumTy.set ?_ _ _ | with_reducible refine IntB.setNum ?_ (by show z ≠ w.heap.size + 1 + 1; omega) ?_ _))
    · exact (by repeat (first | with_reducible exact Within.refl _ | with_reducible assumption | with_reducible refine Within.alloc ?_ _ | with_reducible refine Within.drew ?_ | with_reducible refine Within.drewN ?_ _ | with_reducible refine Within.setCell ?_ (by first | (simp; done) | (simp; omega)) _ | with_reducible refine Within.trans ?_ (by assumption)))
theorem sgI_add (b : Bool) (M d c : Nat) : sgI b M (d + c) = sgI b M d * 2 ^ c := by
  unfold sgI
  rw [Int.pow_add]
  cases b
  · simp only [Bool.false_eq_true, if_false, Int.mul_assoc]
  · simp only [if_true, Int.neg_mul, Int.mul_assoc]
theorem pow2_pos (c : Nat) : (0 : Int) < 2 ^ c := by
  have : ((2 ^ c : Nat) : Int) = 2 ^ c := by simp
  rw [← this]; exact Int.ofNat_lt.2 (Nat.pow_pos (by decide))
theorem cmpI_scale (a b : Int) (c : Nat) : cmpI (a * 2 ^ c) (b * 2 ^ c) = cmpI a b := by
  unfold cmpI
  have h := pow2_pos c
  have e1 : (a * 2 ^ c < b * 2 ^ c) ↔ a < b := ⟨fun k => Int.lt_of_mul_lt_mul_right k (Int.le_of_lt h), fun k => Int.mul_lt_mul_of_pos_right k h⟩
  have e2 : (b * 2 ^ c < a * 2 ^ c) ↔ b < a := ⟨fun k => Int.lt_of_mul_lt_mul_right k (Int.le_of_lt h), fun k => Int.mul_lt_mul_of_pos_right k h⟩
  simp only [e1, e2]
def ExpOk (J : Nat) (E : Int) : Prop := 0 ≤ E + J ∧ E ≤ 5000 ∧ J ≤ 5000
theorem sgI_min {J : Nat} {E e : Int} (b : Bool) (M : Nat) (h0 : 0 ≤ e + J) (h : e ≤ E) : sgI b M (E + J).toNat = sgI b M (E - e).toNat * 2 ^ (e + J).toNat := by
  rw [← sgI_add]; congr 1; omega
theorem Rcmp_val (k1 k2 E1 E2 : Int) (b1 b2 : Bool) (g1 g2 M1 M2 : Nat) (J : Nat) (h1 : ExpOk J E1) (h2 : ExpOk J E2) (hk1 : k1 ≠ 1) (hk2 : k2 ≠ 1) (l1 : (dg M1).length ≤ 900) (l2 : (dg M2).length ≤ 900) (w : World) (hI1 : IntB w g1 (M1 : Int)) (hI2 : IntB w g2 (M2 : Int)) : Calls Tryd.prog 15 #[.agg #[.int .i64 k1, .bool b1, .pointer (some ⟨g1, 0, none⟩), .int .i64 E1], .agg #[.int .i64 k2, .bool b2, .pointer (some ⟨g2, 0, none⟩), .int .i64 E2]] w (fun en w' => en = .returned (.int .i64 (cmpI (sgI b1 M1 (E1 + J).toNat) (sgI b2 M2 (E2 + J).toNat))) ∧ Within w w') := by
  obtain ⟨h1a, h1b, hJ⟩ := h1
  obtain ⟨h2a, h2b, _⟩ := h2
  obtain ⟨e, he⟩ : ∃ e, min E1 E2 = e := ⟨_, rfl⟩
  rw [sgI_min b1 M1 (e := e) (by omega) (by omega), sgI_min b2 M2 (e := e) (by omega) (by omega), cmpI_scale]
  exact Rcmp_fin k1 k2 E1 E2 b1 b2 g1 g2 e _ _ M1 M2 he (sgI_len (by omega) l1) (sgI_len (by omega) l2)
    (Lib.hid fun w hI => Rsigned k1 E1 e b1 g1 M1 _ (by omega) (by omega) l1 w hI) (Lib.hid fun w hI => Rsigned k2 E2 e b2 g2 M2 _ (by omega) (by omega) l2 w hI)
    (beq_eq_false_iff_ne.2 hk1) (beq_eq_false_iff_ne.2 hk2) w hI1 hI2
theorem sgI_abs (v : Int) (d : Nat) : sgI (decide (v < 0)) v.natAbs d = v * 2 ^ d := by
  unfold sgI
  by_cases h : v < 0
  · rw [decide_eq_true h, if_pos rfl, ← Int.neg_mul]; congr 1; omega
  · rw [decide_eq_false h, if_neg Bool.false_ne_true]; congr 1; omega
theorem dg_sum_len {a b : Int} {n : Nat} (ha : (dg a.natAbs).length ≤ n) (hb : (dg b.natAbs).length ≤ n) : (dg (a + b).natAbs).length ≤ n + 1 := by
  refine dg_len_le ?_
  have h1 := Nat.lt_of_lt_of_le (lt_of_dg a.natAbs) (Nat.pow_le_pow_right (by decide) ha)
  have h2 := Nat.lt_of_lt_of_le (lt_of_dg b.natAbs) (Nat.pow_le_pow_right (by decide) hb)
  have h3 : (a + b).natAbs ≤ a.natAbs + b.natAbs := Int.natAbs_add_le a b
  rw [Nat.pow_succ]
  generalize 4294967296 ^ n = Z at *
  omega
theorem Rsum_val (k1 k2 E1 E2 : Int) (b1 b2 : Bool) (g1 g2 M1 M2 : Nat) (J : Nat) (h1 : ExpOk J E1) (h2 : ExpOk J E2) (l1 : (dg M1).length ≤ 900) (l2 : (dg M2).length ≤ 900) (w : World) (hI1 : IntB w g1 (M1 : Int)) (hI2 : IntB w g2 (M2 : Int)) : Calls Tryd.prog 16 #[.agg #[.int .i64 k1, .bool b1, .pointer (some ⟨g1, 0, none⟩), .int .i64 E1], .agg #[.int .i64 k2, .bool b2, .pointer (some ⟨g2, 0, none⟩), .int .i64 E2]] w (fun en w' => ∃ (g : Nat) (v : Int), en = .returned (.agg #[.int .i64 0, .bool (decide (v < 0)), .pointer (some ⟨g, 0, none⟩), .int .i64 (min E1 E2)]) ∧ sgI (decide (v < 0)) v.natAbs (min E1 E2 + J).toNat = sgI b1 M1 (E1 + J).toNat + sgI b2 M2 (E2 + J).toNat ∧ (dg v.natAbs).length ≤ 1401 ∧ IntB w' g (v.natAbs : Int) ∧ w.heap.size ≤ g ∧ Within w w') := by
  obtain ⟨h1a, h1b, hJ⟩ := h1
  obtain ⟨h2a, h2b, _⟩ := h2
  obtain ⟨e, he⟩ : ∃ e, min E1 E2 = e := ⟨_, rfl⟩
  have r1 := sgI_min b1 M1 (J := J) (E := E1) (e := e) (by omega) (by omega)
  have r2 := sgI_min b2 M2 (J := J) (E := E2) (e := e) (by omega) (by omega)
  have n1 : (dg (sgI b1 M1 (E1 - e).toNat).natAbs).length ≤ 1400 := sgI_len (by omega) l1
  have n2 : (dg (sgI b2 M2 (E2 - e).toNat).natAbs).length ≤ 1400 := sgI_len (by omega) l2
  obtain ⟨v, hv⟩ : ∃ v, sgI b1 M1 (E1 - e).toNat + sgI b2 M2 (E2 - e).toNat = v := ⟨_, rfl⟩
  have n3 : (dg v.natAbs).length ≤ 1401 := hv ▸ dg_sum_len n1 n2
  refine (Rsum_fin k1 k2 E1 E2 b1 b2 g1 g2 e _ _ M1 M2 v hv (Nat.le_trans n3 (by decide)) he n1 n2
    (Lib.hid fun w hI => Rsigned k1 E1 e b1 g1 M1 _ (by omega) (by omega) l1 w hI) (Lib.hid fun w hI => Rsigned k2 E2 e b2 g2 M2 _ (by omega) (by omega) l2 w hI) w hI1 hI2).mono fun en w' h => ?_
  obtain ⟨g, h1, h2, h3, h4⟩ := h
  rw [he]
  refine ⟨g, v, h1, ?_, n3, h2, h3, h4⟩
  rw [sgI_abs, r1, r2, ← hv, Int.add_mul]
end Go.Proofs.YtifgngmebnjfkaaDoor
end
