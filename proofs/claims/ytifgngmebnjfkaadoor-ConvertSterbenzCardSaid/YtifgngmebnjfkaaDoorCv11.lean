/- Package convert: sums that come to 0; the laws' small functions; awake: walks. -/
import Derived.Test.YtifgngmebnjfkaaDoorCv9
import Derived.Test.YtifgngmebnjfkaaDoorCv10
namespace Go.Proofs.YtifgngmebnjfkaaDoor
open Go.RowKit

theorem u64_or_sgn (a : Nat) (ha : a < 9223372036854775808) : bits .or .u64 (a : Int) 9223372036854775808 = ((a + 9223372036854775808 : Nat) : Int) := by
  rw [show (9223372036854775808 : Int) = ((9223372036854775808 : Nat) : Int) from rfl, u64_or_nat a 9223372036854775808 (by omega) (by decide), Nat.or_comm, nat_join 63 9223372036854775808 a (by decide) ha, Nat.add_comm]

set_option maxRecDepth 100000 in
set_option maxHeartbeats 600000 in
theorem m_copysign_neg (a : Nat) (ha : a < 9223372036854775808) (w : World) : Calls Tryd.prog 117 #[.float .f64 a, .float .f64 13830554455654793216] w fun e w' => e = .returned (.float .f64 (a + 9223372036854775808)) ∧ w = w' := by
  have h1 := u64_unsign a (by omega)
  rw [Nat.mod_eq_of_lt ha] at h1
  have h2 : bits .and .u64 13830554455654793216 9223372036854775808 = 9223372036854775808 := by decide +kernel
  have h3 := u64_or_sgn a ha
  generalize hs : a + 9223372036854775808 = s at *
  have HS := Lib.hid hs; clear ha hs
  go_enter Tryd.func117, Tryd.ntmps117
  go_wp2
  go_ret
  exact ⟨rfl, rfl⟩

set_option maxRecDepth 100000 in
set_option maxHeartbeats 600000 in
theorem nought_nn (mode : Int) (w : World) : Calls Tryd.prog 118 #[.bool true, .bool true, .int .i64 mode] w fun e w' => e = .returned (.float .f32 2147483648) ∧ w = w' := by
  have hcv := fun (w : World) => run_convert_float_float (P := Tryd.prog) w 40 31 .f64 .f32 9223372036854775808 2147483648 (by kernel_rfl) (by kernel_rfl) (by decide +kernel)
  have CP : Hid (∀ w, Calls Tryd.prog 117 #[.float .f64 0, .float .f64 13830554455654793216] w fun e w' => e = .returned (.float .f64 9223372036854775808) ∧ w = w') := Lib.hid (fun w => m_copysign_neg 0 (by decide) w)
  go_enter Tryd.func118, Tryd.ntmps118
  go_wp2_with fail
  refine (CP.out _).mono ?_; rintro e1 w1 ⟨rfl, rfl⟩
  go_wp2
  go_ret
  exact ⟨rfl, rfl⟩

set_option maxRecDepth 100000 in
set_option maxHeartbeats 600000 in
theorem nought_pp (mode : Int) (w : World) : Calls Tryd.prog 118 #[.bool false, .bool false, .int .i64 mode] w fun e w' => e = .returned (.float .f32 0) ∧ w = w' := by
  go_enter Tryd.func118, Tryd.ntmps118
  go_wp2
  go_ret
  exact ⟨rfl, rfl⟩

set_option maxRecDepth 100000 in
set_option maxHeartbeats 600000 in
theorem nought_true_down (w : World) : Calls Tryd.prog 118 #[.bool true, .bool false, .int .i64 4] w fun e w' => e = .returned (.float .f32 2147483648) ∧ w = w' := by
  have hcv := fun (w : World) => run_convert_float_float (P := Tryd.prog) w 40 31 .f64 .f32 9223372036854775808 2147483648 (by kernel_rfl) (by kernel_rfl) (by decide +kernel)
  have CP : Hid (∀ w, Calls Tryd.prog 117 #[.float .f64 0, .float .f64 13830554455654793216] w fun e w' => e = .returned (.float .f64 9223372036854775808) ∧ w = w') := Lib.hid (fun w => m_copysign_neg 0 (by decide) w)
  go_enter Tryd.func118, Tryd.ntmps118
  go_wp2_with fail
  refine (CP.out _).mono ?_; rintro e1 w1 ⟨rfl, rfl⟩
  go_wp2
  go_ret
  exact ⟨rfl, rfl⟩

set_option maxRecDepth 100000 in
set_option maxHeartbeats 600000 in
theorem nought_true_other (mode : Int) (hm : (mode == 4) = false) (w : World) : Calls Tryd.prog 118 #[.bool true, .bool false, .int .i64 mode] w fun e w' => e = .returned (.float .f32 0) ∧ w = w' := by
  go_enter Tryd.func118, Tryd.ntmps118
  go_wp2
  go_ret
  exact ⟨rfl, rfl⟩

set_option maxRecDepth 100000 in
set_option maxHeartbeats 600000 in
theorem nought_false_down (w : World) : Calls Tryd.prog 118 #[.bool false, .bool true, .int .i64 4] w fun e w' => e = .returned (.float .f32 2147483648) ∧ w = w' := by
  have hcv := fun (w : World) => run_convert_float_float (P := Tryd.prog) w 40 31 .f64 .f32 9223372036854775808 2147483648 (by kernel_rfl) (by kernel_rfl) (by decide +kernel)
  have CP : Hid (∀ w, Calls Tryd.prog 117 #[.float .f64 0, .float .f64 13830554455654793216] w fun e w' => e = .returned (.float .f64 9223372036854775808) ∧ w = w') := Lib.hid (fun w => m_copysign_neg 0 (by decide) w)
  go_enter Tryd.func118, Tryd.ntmps118
  go_wp2_with fail
  refine (CP.out _).mono ?_; rintro e1 w1 ⟨rfl, rfl⟩
  go_wp2
  go_ret
  exact ⟨rfl, rfl⟩

set_option maxRecDepth 100000 in
set_option maxHeartbeats 600000 in
theorem nought_false_other (mode : Int) (hm : (mode == 4) = false) (w : World) : Calls Tryd.prog 118 #[.bool false, .bool true, .int .i64 mode] w fun e w' => e = .returned (.float .f32 0) ∧ w = w' := by
  go_enter Tryd.func118, Tryd.ntmps118
  go_wp2
  go_ret
  exact ⟨rfl, rfl⟩

set_option maxRecDepth 100000 in
set_option maxHeartbeats 600000 in
theorem finite_core (s z : Nat) (b : Bool) (hs : Ieee.double.sub s s = some z) (hz : (FloatKind.f64.format.order z 0 == some .eq) = b) (w : World) : Calls Tryd.prog 89 #[.float .f64 s] w fun e w' => e = .returned (.bool b) ∧ w = w' := by
  have hf := fun t P w => run_float_arith (P := P) w .sub t .f64 _ _ _ hs
  clear hs
  go_enter Tryd.func89, Tryd.ntmps89
  go_wp2
  go_ret
  exact ⟨rfl, rfl⟩

set_option maxRecDepth 100000 in
set_option maxHeartbeats 600000 in
theorem sum_cancel (a b s r : Nat) (mode : Int) (hxa : (FloatKind.f64.format.order a a != some .eq) = false) (hxb : (FloatKind.f64.format.order b b != some .eq) = false) (hxs : (FloatKind.f64.format.order s s != some .eq) = false) (hadd : Ieee.double.add a b = some s) (FI : Hid (∀ w, Calls Tryd.prog 89 #[.float .f64 s] w fun e' w' => e' = .returned (.bool true) ∧ w = w')) (hz : (FloatKind.f64.format.order s 0 == some .eq) = true) (ha0 : (FloatKind.f64.format.order a 0 != some .eq) = true) (NT : Hid (∀ w, Calls Tryd.prog 118 #[.bool false, .bool true, .int .i64 mode] w fun e w' => e = .returned (.float .f32 r) ∧ w = w')) (w : World) : Calls Tryd.prog 87 #[.float .f64 a, .float .f64 b, .int .i64 mode] w fun e' w' => e' = .returned (.tuple #[.float .f32 r, .int .i64 0]) ∧ Within w w' := by
  have hadd' := fun t P w => run_float_arith (P := P) w .add t .f64 _ _ _ hadd
  clear hadd
  go_enter Tryd.func87, Tryd.ntmps87
  go_wp2_with fail
  refine (FI.out _).mono ?_; rintro e1 w1 ⟨rfl, rfl⟩
  go_wp2_with fail
  refine (NT.out _).mono ?_; rintro e2 w2 ⟨rfl, rfl⟩
  go_wp2
  go_ret2
  exact ⟨rfl, (by repeat (first | with_reducible exact Within.refl _ | with_reducible assumption | with_reducible refine Within.alloc ?_ _ | with_reducible refine Within.drew ?_ | with_reducible refine Within.setCell ?_ (by first | (simp; done) | (simp; omega)) _ | with_reducible refine Within.trans ?_ (by assumption)))⟩

set_option maxRecDepth 100000 in
set_option maxHeartbeats 600000 in
theorem add_core (x y a b r : Nat) (mode fl : Int) (KN : Hid (∀ w, Calls Tryd.prog 66 #[.int .i64 mode] w fun e' w' => e' = .returned (.bool true) ∧ w = w')) (hca : floatToFloatBits .f32 x .f64 = some a) (hcb : floatToFloatBits .f32 y .f64 = some b) (SU : Hid (∀ w, FmS w → Calls Tryd.prog 87 #[.float .f64 a, .float .f64 b, .int .i64 mode] w fun e' w' => e' = .returned (.tuple #[.float .f32 r, .int .i64 fl]) ∧ Within w w')) (w : World) (hT : FmS w) : Calls Tryd.prog 47 #[.float .f32 x, .float .f32 y, .int .i64 mode] w fun e' w' => e' = .returned (.tuple #[.float .f32 r, .int .i64 fl, .int .i64 0]) ∧ Within w w' := by
  have c1 := fun (w : World) => run_convert_float_float (P := Tryd.prog) w 31 40 .f32 .f64 x a (by kernel_rfl) (by kernel_rfl) hca
  have c2 := fun (w : World) => run_convert_float_float (P := Tryd.prog) w 31 40 .f32 .f64 y b (by kernel_rfl) (by kernel_rfl) hcb
  clear hca hcb
  go_enter Tryd.func47, Tryd.ntmps47
  go_wp2_with fail
  refine (KN.out _).mono ?_; rintro e1 w1 ⟨rfl, rfl⟩
  go_wp2_with fail
  refine (SU.out _ (hT.of (by repeat (first | with_reducible exact Within.refl _ | with_reducible assumption | with_reducible refine Within.alloc ?_ _ | with_reducible refine Within.drew ?_ | with_reducible refine Within.setCell ?_ (by first | (simp; done) | (simp; omega)) _ | with_reducible refine Within.trans ?_ (by assumption))))).mono ?_; rintro e2 w2 ⟨rfl, hb2⟩
  go_wp2
  go_ret3
  exact ⟨rfl, (by repeat (first | with_reducible exact Within.refl _ | with_reducible assumption | with_reducible refine Within.alloc ?_ _ | with_reducible refine Within.drew ?_ | with_reducible refine Within.setCell ?_ (by first | (simp; done) | (simp; omega)) _ | with_reducible refine Within.trans ?_ (by assumption)))⟩

set_option maxRecDepth 100000 in
set_option maxHeartbeats 600000 in
theorem is32_any (a b : Nat) (w : World) : Calls Tryd.prog 56 #[.float .f32 a, .int .u32 b] w fun e w' => e = .returned (.bool ((a : Int) == b)) ∧ w = w' := by
  go_enter Tryd.func56, Tryd.ntmps56
  go_wp2
  go_ret
  exact ⟨rfl, rfl⟩

set_option maxRecDepth 100000 in
set_option maxHeartbeats 600000 in
theorem f_any (a : Nat) (w : World) : Calls Tryd.prog 22 #[.int .u64 a] w fun e w' => e = .returned (.float .f64 a) ∧ w = w' := by
  go_enter Tryd.func22, Tryd.ntmps22
  go_wp2
  go_ret
  exact ⟨rfl, rfl⟩

set_option maxRecDepth 100000 in
set_option maxHeartbeats 600000 in
theorem g_any (a : Nat) (w : World) : Calls Tryd.prog 18 #[.int .u32 a] w fun e w' => e = .returned (.float .f32 a) ∧ w = w' := by
  go_enter Tryd.func18, Tryd.ntmps18
  go_wp2
  go_ret
  exact ⟨rfl, rfl⟩

theorem add_awake (w : World) (hT : FmS w) : Calls Tryd.prog 47 #[.float .f32 1065353216, .float .f32 3212836864, .int .i64 4] w fun e w' => e = .returned (.tuple #[.float .f32 2147483648, .int .i64 0, .int .i64 0]) ∧ Within w w' := by
  have FI := Lib.hid (fun w => finite_core 0 0 true (by decide +kernel) (by decide +kernel) w)
  have NT := Lib.hid (fun w => nought_false_down w)
  have SU := Lib.hid (fun (w : World) (_ : FmS w) => sum_cancel 4607182418800017408 13830554455654793216 0 2147483648 4 (by decide +kernel) (by decide +kernel) (by decide +kernel) (by decide +kernel) FI (by decide +kernel) (by decide +kernel) NT w)
  exact add_core 1065353216 3212836864 _ _ _ 4 _ (Lib.hid fun w => known_any 4 w) (by decide +kernel) (by decide +kernel) SU w hT

theorem nar_up (w : World) (hT : FmS w) : Calls Tryd.prog 21 #[.float .f64 4607182419068452864, .int .i64 3] w fun e w' => e = .returned (.tuple #[.float .f32 1065353217, .int .i64 1, .int .i64 0]) ∧ Within w w' := by
  have h := Narrow_any 4607182419068452864 3 (by decide) w hT
  rwa [show nWord 4607182419068452864 3 = 1065353217 by decide +kernel, show nFlags 4607182419068452864 3 = 1 by decide +kernel, show nErr 3 = 0 by decide] at h
theorem nar_near (w : World) (hT : FmS w) : Calls Tryd.prog 21 #[.float .f64 4607182419068452864, .int .i64 0] w fun e w' => e = .returned (.tuple #[.float .f32 1065353216, .int .i64 1, .int .i64 0]) ∧ Within w w' := by
  have h := Narrow_any 4607182419068452864 0 (by decide) w hT
  rwa [show nWord 4607182419068452864 0 = 1065353216 by decide +kernel, show nFlags 4607182419068452864 0 = 1 by decide +kernel, show nErr 0 = 0 by decide] at h
theorem fits_half (w : World) (hT : FmS w) : Calls Tryd.prog 28 #[.float .f64 4602678819172646912] w fun e w' => e = .returned (.bool true) ∧ Within w w' := by
  have h := Fits_any 4602678819172646912 (by decide) w hT
  rwa [show (nFlags 4602678819172646912 0 == 0) = true by decide +kernel] at h
theorem widen_half (w : World) : Calls Tryd.prog 26 #[.float .f32 1056964608] w fun e w' => e = .returned (.float .f64 4602678819172646912) ∧ Within w w' := by
  have h := Widen_any 1056964608 (by decide) w
  rwa [show wWord 1056964608 = 4602678819172646912 by decide +kernel] at h
theorem int_awake (w : World) : Calls Tryd.prog 33 #[.float .f64 4643985272004935680, .int .i64 8, .int .i64 0] w fun e w' => e = .returned (.tuple #[.int .i64 127, .int .i64 8, .int .i64 0]) ∧ Within w w' := by
  have WH := Lib.hid (fun w => Whole_any 4643985272004935680 0 (by decide) w)
  rw [show hWord 4643985272004935680 0 = 4643985272004935680 by decide +kernel, show hFlags 4643985272004935680 0 = 0 by decide +kernel, show nErr 0 = 0 by decide] at WH
  exact Int_8_high 4643985272004935680 4643985272004935680 0 0 WH (by decide +kernel) (by decide +kernel) (by decide +kernel) w

set_option maxRecDepth 100000 in
set_option maxHeartbeats 600000 in
theorem awake_true (w : World) (hT : FmS w) : Calls Tryd.prog 12 #[] w fun e w' => e = .returned (.bool true) ∧ Within w w' := by
  have i1 : ((1065353217 : Int) == 1065353217) = true := by decide
  have i2 : ((1065353216 : Int) == 1065353216) = true := by decide
  have i3 : ((2147483648 : Int) == 2147483648) = true := by decide
  have z : (FloatKind.f64.format.order 4602678819172646912 4602678819172646912 == some .eq) = true := by decide +kernel
  have I1 : Hid (∀ w, Calls Tryd.prog 56 #[.float .f32 1065353217, .int .u32 1065353217] w fun e w' => e = .returned (.bool true) ∧ w = w') := Lib.hid (fun w => is32_any 1065353217 1065353217 w)
  have I2 : Hid (∀ w, Calls Tryd.prog 56 #[.float .f32 1065353216, .int .u32 1065353216] w fun e w' => e = .returned (.bool true) ∧ w = w') := Lib.hid (fun w => is32_any 1065353216 1065353216 w)
  have I3 : Hid (∀ w, Calls Tryd.prog 56 #[.float .f32 2147483648, .int .u32 2147483648] w fun e w' => e = .returned (.bool true) ∧ w = w') := Lib.hid (fun w => is32_any 2147483648 2147483648 w)
  clear i1 i2 i3
  go_enter Tryd.func12, Tryd.ntmps12
  go_wp2_with fail
  refine (nar_up _ (hT.of (by repeat (first | with_reducible exact Within.refl _ | with_reducible assumption | with_reducible refine Within.alloc ?_ _ | with_reducible refine Within.drew ?_ | with_reducible refine Within.setCell ?_ (by first | (simp; done) | (simp; omega)) _ | with_reducible refine Within.trans ?_ (by assumption))))).mono ?_; rintro e1 w1 ⟨rfl, hb1⟩
  go_wp2_with fail
  refine (nar_near _ (hT.of (by repeat (first | with_reducible exact Within.refl _ | with_reducible assumption | with_reducible refine Within.alloc ?_ _ | with_reducible refine Within.drew ?_ | with_reducible refine Within.setCell ?_ (by first | (simp; done) | (simp; omega)) _ | with_reducible refine Within.trans ?_ (by assumption))))).mono ?_; rintro e2 w2 ⟨rfl, hb2⟩
  go_wp2_with fail
  refine (add_awake _ (hT.of (by repeat (first | with_reducible exact Within.refl _ | with_reducible assumption | with_reducible refine Within.alloc ?_ _ | with_reducible refine Within.drew ?_ | with_reducible refine Within.setCell ?_ (by first | (simp; done) | (simp; omega)) _ | with_reducible refine Within.trans ?_ (by assumption))))).mono ?_; rintro e3 w3 ⟨rfl, hb3⟩
  go_wp2_with fail
  refine (int_awake _).mono ?_; rintro e4 w4 ⟨rfl, hb4⟩
  go_wp2_with fail
  refine (I1.out _).mono ?_; rintro e5 w5 ⟨rfl, rfl⟩
  go_wp2_with fail
  refine (I2.out _).mono ?_; rintro e6 w6 ⟨rfl, rfl⟩
  go_wp2_with fail
  refine (I3.out _).mono ?_; rintro e7 w7 ⟨rfl, rfl⟩
  go_wp2_with fail
  refine (fits_half _ (hT.of (by repeat (first | with_reducible exact Within.refl _ | with_reducible assumption | with_reducible refine Within.alloc ?_ _ | with_reducible refine Within.drew ?_ | with_reducible refine Within.setCell ?_ (by first | (simp; done) | (simp; omega)) _ | with_reducible refine Within.trans ?_ (by assumption))))).mono ?_; rintro e8 w8 ⟨rfl, hb8⟩
  go_wp2_with fail
  refine (widen_half _).mono ?_; rintro e9 w9 ⟨rfl, hb9⟩
  go_wp2
  go_ret
  exact ⟨rfl, (by repeat (first | with_reducible exact Within.refl _ | with_reducible assumption | with_reducible refine Within.alloc ?_ _ | with_reducible refine Within.drew ?_ | with_reducible refine Within.setCell ?_ (by first | (simp; done) | (simp; omega)) _ | with_reducible refine Within.trans ?_ (by assumption)))⟩

end Go.Proofs.YtifgngmebnjfkaaDoor
