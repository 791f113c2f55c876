/- Package convert: Int, Uint: walks. -/
import Derived.Test.YtifgngmebnjfkaaDoorCv8
namespace Go.Proofs.YtifgngmebnjfkaaDoor
open Go.RowKit

/-- 2^k, of a count k from 0 on -/
theorem m_pow (k : Nat) (hk : k ≤ 1000) (w : World) : Calls Tryd.prog 79 #[.float .f64 4607182418800017408, .int .i64 (k : Int)] w fun e w' => e = .returned (.float .f64 ((1023 + k) * 4503599627370496)) ∧ w = w' := by
  refine m_ldexp (fun w => ?_) w
  have h := m_ldexp_norm 4607182418800017408 (1023 + k) (k : Int) (by decide) (by decide) (by omega) (by omega) (by omega) (by
    rw [show 4607182418800017408 % 4503599627370496 = 0 by decide, Nat.add_zero]
    exact one_mul (by omega)) w
  rwa [show 4607182418800017408 % 4503599627370496 = 0 by decide, Nat.add_zero] at h

set_option maxRecDepth 100000 in
set_option maxHeartbeats 600000 in
theorem Int_err (a x : Nat) (width mode fl er : Int) (WH : Hid (∀ w, Calls Tryd.prog 37 #[.float .f64 a, .int .i64 mode] w fun e' w' => e' = .returned (.tuple #[.float .f64 x, .int .i64 fl, .int .i64 er]) ∧ Within w w')) (hE : (er != 0) = true) (w : World) : Calls Tryd.prog 33 #[.float .f64 a, .int .i64 width, .int .i64 mode] w fun e' w' => e' = .returned (.tuple #[.int .i64 0, .int .i64 0, .int .i64 er]) ∧ Within w w' := by
  go_enter Tryd.func33, Tryd.ntmps33
  go_wp2_with fail
  refine (WH.out _).mono ?_; rintro e1 w1 ⟨rfl, hb1⟩
  go_wp2
  go_ret3
  exact ⟨rfl, (by repeat (first | with_reducible exact Within.refl _ | with_reducible assumption | with_reducible refine Within.alloc ?_ _ | with_reducible refine Within.drew ?_ | with_reducible refine Within.setCell ?_ (by first | (simp; done) | (simp; omega)) _ | with_reducible refine Within.trans ?_ (by assumption)))⟩

set_option maxRecDepth 100000 in
set_option maxHeartbeats 600000 in
theorem Int_width (a x : Nat) (width mode fl : Int) (WH : Hid (∀ w, Calls Tryd.prog 37 #[.float .f64 a, .int .i64 mode] w fun e' w' => e' = .returned (.tuple #[.float .f64 x, .int .i64 fl, .int .i64 0]) ∧ Within w w')) (FT : Hid (∀ w, Calls Tryd.prog 78 #[.int .i64 width] w fun e' w' => e' = .returned (.bool false) ∧ w = w')) (w : World) : Calls Tryd.prog 33 #[.float .f64 a, .int .i64 width, .int .i64 mode] w fun e' w' => e' = .returned (.tuple #[.int .i64 0, .int .i64 0, .int .i64 21]) ∧ Within w w' := by
  go_enter Tryd.func33, Tryd.ntmps33
  go_wp2_with fail
  refine (WH.out _).mono ?_; rintro e1 w1 ⟨rfl, hb1⟩
  go_wp2_with fail
  refine (FT.out _).mono ?_; rintro e2 w2 ⟨rfl, rfl⟩
  go_wp2
  go_ret3
  exact ⟨rfl, (by repeat (first | with_reducible exact Within.refl _ | with_reducible assumption | with_reducible refine Within.alloc ?_ _ | with_reducible refine Within.drew ?_ | with_reducible refine Within.setCell ?_ (by first | (simp; done) | (simp; omega)) _ | with_reducible refine Within.trans ?_ (by assumption)))⟩

set_option maxRecDepth 100000 in
set_option maxHeartbeats 600000 in
theorem Int_8_nan (a x : Nat) (mode fl : Int) (WH : Hid (∀ w, Calls Tryd.prog 37 #[.float .f64 a, .int .i64 mode] w fun e' w' => e' = .returned (.tuple #[.float .f64 x, .int .i64 fl, .int .i64 0]) ∧ Within w w')) (hx : (FloatKind.f64.format.order x x != some .eq) = true) (w : World) : Calls Tryd.prog 33 #[.float .f64 a, .int .i64 8, .int .i64 mode] w fun e' w' => e' = .returned (.tuple #[.int .i64 0, .int .i64 8, .int .i64 0]) ∧ Within w w' := by
  have LD : Hid (∀ w, Calls Tryd.prog 79 #[.float .f64 4607182418800017408, .int .i64 7] w fun e w' => e = .returned (.float .f64 4638707616191610880) ∧ w = w') := Lib.hid fun w => m_pow 7 (by decide) w
  go_enter Tryd.func33, Tryd.ntmps33
  go_wp2_with fail
  refine (WH.out _).mono ?_; rintro e1 w1 ⟨rfl, hb1⟩
  go_wp2_with fail
  refine (fits_8 _).mono ?_; rintro e2 w2 ⟨rfl, rfl⟩
  go_wp2_with fail
  refine (LD.out _).mono ?_; rintro e3 w3 ⟨rfl, rfl⟩
  go_wp2
  go_ret3
  exact ⟨rfl, (by repeat (first | with_reducible exact Within.refl _ | with_reducible assumption | with_reducible refine Within.alloc ?_ _ | with_reducible refine Within.drew ?_ | with_reducible refine Within.setCell ?_ (by first | (simp; done) | (simp; omega)) _ | with_reducible refine Within.trans ?_ (by assumption)))⟩

set_option maxRecDepth 100000 in
set_option maxHeartbeats 600000 in
theorem Int_8_low (a x : Nat) (mode fl : Int) (WH : Hid (∀ w, Calls Tryd.prog 37 #[.float .f64 a, .int .i64 mode] w fun e' w' => e' = .returned (.tuple #[.float .f64 x, .int .i64 fl, .int .i64 0]) ∧ Within w w')) (hx : (FloatKind.f64.format.order x x != some .eq) = false) (hl : (FloatKind.f64.format.order x 13862079653046386688 == some .lt) = true) (w : World) : Calls Tryd.prog 33 #[.float .f64 a, .int .i64 8, .int .i64 mode] w fun e' w' => e' = .returned (.tuple #[.int .i64 (-128), .int .i64 8, .int .i64 0]) ∧ Within w w' := by
  have LD : Hid (∀ w, Calls Tryd.prog 79 #[.float .f64 4607182418800017408, .int .i64 7] w fun e w' => e = .returned (.float .f64 4638707616191610880) ∧ w = w') := Lib.hid fun w => m_pow 7 (by decide) w
  have hng := neg_pos (a := 4638707616191610880) (by decide)
  rw [show 4638707616191610880 + 9223372036854775808 = 13862079653046386688 by decide] at hng
  go_enter Tryd.func33, Tryd.ntmps33
  go_wp2_with fail
  refine (WH.out _).mono ?_; rintro e1 w1 ⟨rfl, hb1⟩
  go_wp2_with fail
  refine (fits_8 _).mono ?_; rintro e2 w2 ⟨rfl, rfl⟩
  go_wp2_with fail
  refine (LD.out _).mono ?_; rintro e3 w3 ⟨rfl, rfl⟩
  go_wp2
  go_ret3
  exact ⟨rfl, (by repeat (first | with_reducible exact Within.refl _ | with_reducible assumption | with_reducible refine Within.alloc ?_ _ | with_reducible refine Within.drew ?_ | with_reducible refine Within.setCell ?_ (by first | (simp; done) | (simp; omega)) _ | with_reducible refine Within.trans ?_ (by assumption)))⟩

set_option maxRecDepth 100000 in
set_option maxHeartbeats 600000 in
theorem Int_8_high (a x : Nat) (mode fl : Int) (WH : Hid (∀ w, Calls Tryd.prog 37 #[.float .f64 a, .int .i64 mode] w fun e' w' => e' = .returned (.tuple #[.float .f64 x, .int .i64 fl, .int .i64 0]) ∧ Within w w')) (hx : (FloatKind.f64.format.order x x != some .eq) = false) (hl : (FloatKind.f64.format.order x 13862079653046386688 == some .lt) = false) (hg : (FloatKind.f64.format.order x 4638707616191610880 == some .gt || FloatKind.f64.format.order x 4638707616191610880 == some .eq) = true) (w : World) : Calls Tryd.prog 33 #[.float .f64 a, .int .i64 8, .int .i64 mode] w fun e' w' => e' = .returned (.tuple #[.int .i64 127, .int .i64 8, .int .i64 0]) ∧ Within w w' := by
  have LD : Hid (∀ w, Calls Tryd.prog 79 #[.float .f64 4607182418800017408, .int .i64 7] w fun e w' => e = .returned (.float .f64 4638707616191610880) ∧ w = w') := Lib.hid fun w => m_pow 7 (by decide) w
  have hng := neg_pos (a := 4638707616191610880) (by decide)
  rw [show 4638707616191610880 + 9223372036854775808 = 13862079653046386688 by decide] at hng
  go_enter Tryd.func33, Tryd.ntmps33
  go_wp2_with fail
  refine (WH.out _).mono ?_; rintro e1 w1 ⟨rfl, hb1⟩
  go_wp2_with fail
  refine (fits_8 _).mono ?_; rintro e2 w2 ⟨rfl, rfl⟩
  go_wp2_with fail
  refine (LD.out _).mono ?_; rintro e3 w3 ⟨rfl, rfl⟩
  go_wp2
  go_ret3
  exact ⟨rfl, (by repeat (first | with_reducible exact Within.refl _ | with_reducible assumption | with_reducible refine Within.alloc ?_ _ | with_reducible refine Within.drew ?_ | with_reducible refine Within.setCell ?_ (by first | (simp; done) | (simp; omega)) _ | with_reducible refine Within.trans ?_ (by assumption)))⟩

set_option maxRecDepth 100000 in
set_option maxHeartbeats 600000 in
theorem Int_8_in (a x : Nat) (mode fl : Int) (WH : Hid (∀ w, Calls Tryd.prog 37 #[.float .f64 a, .int .i64 mode] w fun e' w' => e' = .returned (.tuple #[.float .f64 x, .int .i64 fl, .int .i64 0]) ∧ Within w w')) (n : Int) (hx : (FloatKind.f64.format.order x x != some .eq) = false) (hl : (FloatKind.f64.format.order x 13862079653046386688 == some .lt) = false) (hg : (FloatKind.f64.format.order x 4638707616191610880 == some .gt || FloatKind.f64.format.order x 4638707616191610880 == some .eq) = false) (hc : floatToIntVal .f64 x .i64 = some n) (w : World) : Calls Tryd.prog 33 #[.float .f64 a, .int .i64 8, .int .i64 mode] w fun e' w' => e' = .returned (.tuple #[.int .i64 n, .int .i64 fl, .int .i64 0]) ∧ Within w w' := by
  have LD : Hid (∀ w, Calls Tryd.prog 79 #[.float .f64 4607182418800017408, .int .i64 7] w fun e w' => e = .returned (.float .f64 4638707616191610880) ∧ w = w') := Lib.hid fun w => m_pow 7 (by decide) w
  have hng := neg_pos (a := 4638707616191610880) (by decide)
  rw [show 4638707616191610880 + 9223372036854775808 = 13862079653046386688 by decide] at hng
  have hcv := fun (w : World) => run_convert_float_int (P := Tryd.prog) w 40 2 .f64 .i64 x n (by kernel_rfl) (by kernel_rfl) hc
  clear hc
  go_enter Tryd.func33, Tryd.ntmps33
  go_wp2_with fail
  refine (WH.out _).mono ?_; rintro e1 w1 ⟨rfl, hb1⟩
  go_wp2_with fail
  refine (fits_8 _).mono ?_; rintro e2 w2 ⟨rfl, rfl⟩
  go_wp2_with fail
  refine (LD.out _).mono ?_; rintro e3 w3 ⟨rfl, rfl⟩
  go_wp2
  go_ret3
  exact ⟨rfl, (by repeat (first | with_reducible exact Within.refl _ | with_reducible assumption | with_reducible refine Within.alloc ?_ _ | with_reducible refine Within.drew ?_ | with_reducible refine Within.setCell ?_ (by first | (simp; done) | (simp; omega)) _ | with_reducible refine Within.trans ?_ (by assumption)))⟩

set_option maxRecDepth 100000 in
set_option maxHeartbeats 600000 in
theorem Int_16_nan (a x : Nat) (mode fl : Int) (WH : Hid (∀ w, Calls Tryd.prog 37 #[.float .f64 a, .int .i64 mode] w fun e' w' => e' = .returned (.tuple #[.float .f64 x, .int .i64 fl, .int .i64 0]) ∧ Within w w')) (hx : (FloatKind.f64.format.order x x != some .eq) = true) (w : World) : Calls Tryd.prog 33 #[.float .f64 a, .int .i64 16, .int .i64 mode] w fun e' w' => e' = .returned (.tuple #[.int .i64 0, .int .i64 8, .int .i64 0]) ∧ Within w w' := by
  have LD : Hid (∀ w, Calls Tryd.prog 79 #[.float .f64 4607182418800017408, .int .i64 15] w fun e w' => e = .returned (.float .f64 4674736413210574848) ∧ w = w') := Lib.hid fun w => m_pow 15 (by decide) w
  go_enter Tryd.func33, Tryd.ntmps33
  go_wp2_with fail
  refine (WH.out _).mono ?_; rintro e1 w1 ⟨rfl, hb1⟩
  go_wp2_with fail
  refine (fits_16 _).mono ?_; rintro e2 w2 ⟨rfl, rfl⟩
  go_wp2_with fail
  refine (LD.out _).mono ?_; rintro e3 w3 ⟨rfl, rfl⟩
  go_wp2
  go_ret3
  exact ⟨rfl, (by repeat (first | with_reducible exact Within.refl _ | with_reducible assumption | with_reducible refine Within.alloc ?_ _ | with_reducible refine Within.drew ?_ | with_reducible refine Within.setCell ?_ (by first | (simp; done) | (simp; omega)) _ | with_reducible refine Within.trans ?_ (by assumption)))⟩

set_option maxRecDepth 100000 in
set_option maxHeartbeats 600000 in
theorem Int_16_low (a x : Nat) (mode fl : Int) (WH : Hid (∀ w, Calls Tryd.prog 37 #[.float .f64 a, .int .i64 mode] w fun e' w' => e' = .returned (.tuple #[.float .f64 x, .int .i64 fl, .int .i64 0]) ∧ Within w w')) (hx : (FloatKind.f64.format.order x x != some .eq) = false) (hl : (FloatKind.f64.format.order x 13898108450065350656 == some .lt) = true) (w : World) : Calls Tryd.prog 33 #[.float .f64 a, .int .i64 16, .int .i64 mode] w fun e' w' => e' = .returned (.tuple #[.int .i64 (-32768), .int .i64 8, .int .i64 0]) ∧ Within w w' := by
  have LD : Hid (∀ w, Calls Tryd.prog 79 #[.float .f64 4607182418800017408, .int .i64 15] w fun e w' => e = .returned (.float .f64 4674736413210574848) ∧ w = w') := Lib.hid fun w => m_pow 15 (by decide) w
  have hng := neg_pos (a := 4674736413210574848) (by decide)
  rw [show 4674736413210574848 + 9223372036854775808 = 13898108450065350656 by decide] at hng
  go_enter Tryd.func33, Tryd.ntmps33
  go_wp2_with fail
  refine (WH.out _).mono ?_; rintro e1 w1 ⟨rfl, hb1⟩
  go_wp2_with fail
  refine (fits_16 _).mono ?_; rintro e2 w2 ⟨rfl, rfl⟩
  go_wp2_with fail
  refine (LD.out _).mono ?_; rintro e3 w3 ⟨rfl, rfl⟩
  go_wp2
  go_ret3
  exact ⟨rfl, (by repeat (first | with_reducible exact Within.refl _ | with_reducible assumption | with_reducible refine Within.alloc ?_ _ | with_reducible refine Within.drew ?_ | with_reducible refine Within.setCell ?_ (by first | (simp; done) | (simp; omega)) _ | with_reducible refine Within.trans ?_ (by assumption)))⟩

set_option maxRecDepth 100000 in
set_option maxHeartbeats 600000 in
theorem Int_16_high (a x : Nat) (mode fl : Int) (WH : Hid (∀ w, Calls Tryd.prog 37 #[.float .f64 a, .int .i64 mode] w fun e' w' => e' = .returned (.tuple #[.float .f64 x, .int .i64 fl, .int .i64 0]) ∧ Within w w')) (hx : (FloatKind.f64.format.order x x != some .eq) = false) (hl : (FloatKind.f64.format.order x 13898108450065350656 == some .lt) = false) (hg : (FloatKind.f64.format.order x 4674736413210574848 == some .gt || FloatKind.f64.format.order x 4674736413210574848 == some .eq) = true) (w : World) : Calls Tryd.prog 33 #[.float .f64 a, .int .i64 16, .int .i64 mode] w fun e' w' => e' = .returned (.tuple #[.int .i64 32767, .int .i64 8, .int .i64 0]) ∧ Within w w' := by
  have LD : Hid (∀ w, Calls Tryd.prog 79 #[.float .f64 4607182418800017408, .int .i64 15] w fun e w' => e = .returned (.float .f64 4674736413210574848) ∧ w = w') := Lib.hid fun w => m_pow 15 (by decide) w
  have hng := neg_pos (a := 4674736413210574848) (by decide)
  rw [show 4674736413210574848 + 9223372036854775808 = 13898108450065350656 by decide] at hng
  go_enter Tryd.func33, Tryd.ntmps33
  go_wp2_with fail
  refine (WH.out _).mono ?_; rintro e1 w1 ⟨rfl, hb1⟩
  go_wp2_with fail
  refine (fits_16 _).mono ?_; rintro e2 w2 ⟨rfl, rfl⟩
  go_wp2_with fail
  refine (LD.out _).mono ?_; rintro e3 w3 ⟨rfl, rfl⟩
  go_wp2
  go_ret3
  exact ⟨rfl, (by repeat (first | with_reducible exact Within.refl _ | with_reducible assumption | with_reducible refine Within.alloc ?_ _ | with_reducible refine Within.drew ?_ | with_reducible refine Within.setCell ?_ (by first | (simp; done) | (simp; omega)) _ | with_reducible refine Within.trans ?_ (by assumption)))⟩

set_option maxRecDepth 100000 in
set_option maxHeartbeats 600000 in
theorem Int_16_in (a x : Nat) (mode fl : Int) (WH : Hid (∀ w, Calls Tryd.prog 37 #[.float .f64 a, .int .i64 mode] w fun e' w' => e' = .returned (.tuple #[.float .f64 x, .int .i64 fl, .int .i64 0]) ∧ Within w w')) (n : Int) (hx : (FloatKind.f64.format.order x x != some .eq) = false) (hl : (FloatKind.f64.format.order x 13898108450065350656 == some .lt) = false) (hg : (FloatKind.f64.format.order x 4674736413210574848 == some .gt || FloatKind.f64.format.order x 4674736413210574848 == some .eq) = false) (hc : floatToIntVal .f64 x .i64 = some n) (w : World) : Calls Tryd.prog 33 #[.float .f64 a, .int .i64 16, .int .i64 mode] w fun e' w' => e' = .returned (.tuple #[.int .i64 n, .int .i64 fl, .int .i64 0]) ∧ Within w w' := by
  have LD : Hid (∀ w, Calls Tryd.prog 79 #[.float .f64 4607182418800017408, .int .i64 15] w fun e w' => e = .returned (.float .f64 4674736413210574848) ∧ w = w') := Lib.hid fun w => m_pow 15 (by decide) w
  have hng := neg_pos (a := 4674736413210574848) (by decide)
  rw [show 4674736413210574848 + 9223372036854775808 = 13898108450065350656 by decide] at hng
  have hcv := fun (w : World) => run_convert_float_int (P := Tryd.prog) w 40 2 .f64 .i64 x n (by kernel_rfl) (by kernel_rfl) hc
  clear hc
  go_enter Tryd.func33, Tryd.ntmps33
  go_wp2_with fail
  refine (WH.out _).mono ?_; rintro e1 w1 ⟨rfl, hb1⟩
  go_wp2_with fail
  refine (fits_16 _).mono ?_; rintro e2 w2 ⟨rfl, rfl⟩
  go_wp2_with fail
  refine (LD.out _).mono ?_; rintro e3 w3 ⟨rfl, rfl⟩
  go_wp2
  go_ret3
  exact ⟨rfl, (by repeat (first | with_reducible exact Within.refl _ | with_reducible assumption | with_reducible refine Within.alloc ?_ _ | with_reducible refine Within.drew ?_ | with_reducible refine Within.setCell ?_ (by first | (simp; done) | (simp; omega)) _ | with_reducible refine Within.trans ?_ (by assumption)))⟩

set_option maxRecDepth 100000 in
set_option maxHeartbeats 600000 in
theorem Int_32_nan (a x : Nat) (mode fl : Int) (WH : Hid (∀ w, Calls Tryd.prog 37 #[.float .f64 a, .int .i64 mode] w fun e' w' => e' = .returned (.tuple #[.float .f64 x, .int .i64 fl, .int .i64 0]) ∧ Within w w')) (hx : (FloatKind.f64.format.order x x != some .eq) = true) (w : World) : Calls Tryd.prog 33 #[.float .f64 a, .int .i64 32, .int .i64 mode] w fun e' w' => e' = .returned (.tuple #[.int .i64 0, .int .i64 8, .int .i64 0]) ∧ Within w w' := by
  have LD : Hid (∀ w, Calls Tryd.prog 79 #[.float .f64 4607182418800017408, .int .i64 31] w fun e w' => e = .returned (.float .f64 4746794007248502784) ∧ w = w') := Lib.hid fun w => m_pow 31 (by decide) w
  go_enter Tryd.func33, Tryd.ntmps33
  go_wp2_with fail
  refine (WH.out _).mono ?_; rintro e1 w1 ⟨rfl, hb1⟩
  go_wp2_with fail
  refine (fits_32 _).mono ?_; rintro e2 w2 ⟨rfl, rfl⟩
  go_wp2_with fail
  refine (LD.out _).mono ?_; rintro e3 w3 ⟨rfl, rfl⟩
  go_wp2
  go_ret3
  exact ⟨rfl, (by repeat (first | with_reducible exact Within.refl _ | with_reducible assumption | with_reducible refine Within.alloc ?_ _ | with_reducible refine Within.drew ?_ | with_reducible refine Within.setCell ?_ (by first | (simp; done) | (simp; omega)) _ | with_reducible refine Within.trans ?_ (by assumption)))⟩

set_option maxRecDepth 100000 in
set_option maxHeartbeats 600000 in
theorem Int_32_low (a x : Nat) (mode fl : Int) (WH : Hid (∀ w, Calls Tryd.prog 37 #[.float .f64 a, .int .i64 mode] w fun e' w' => e' = .returned (.tuple #[.float .f64 x, .int .i64 fl, .int .i64 0]) ∧ Within w w')) (hx : (FloatKind.f64.format.order x x != some .eq) = false) (hl : (FloatKind.f64.format.order x 13970166044103278592 == some .lt) = true) (w : World) : Calls Tryd.prog 33 #[.float .f64 a, .int .i64 32, .int .i64 mode] w fun e' w' => e' = .returned (.tuple #[.int .i64 (-2147483648), .int .i64 8, .int .i64 0]) ∧ Within w w' := by
  have LD : Hid (∀ w, Calls Tryd.prog 79 #[.float .f64 4607182418800017408, .int .i64 31] w fun e w' => e = .returned (.float .f64 4746794007248502784) ∧ w = w') := Lib.hid fun w => m_pow 31 (by decide) w
  have hng := neg_pos (a := 4746794007248502784) (by decide)
  rw [show 4746794007248502784 + 9223372036854775808 = 13970166044103278592 by decide] at hng
  go_enter Tryd.func33, Tryd.ntmps33
  go_wp2_with fail
  refine (WH.out _).mono ?_; rintro e1 w1 ⟨rfl, hb1⟩
  go_wp2_with fail
  refine (fits_32 _).mono ?_; rintro e2 w2 ⟨rfl, rfl⟩
  go_wp2_with fail
  refine (LD.out _).mono ?_; rintro e3 w3 ⟨rfl, rfl⟩
  go_wp2
  go_ret3
  exact ⟨rfl, (by repeat (first | with_reducible exact Within.refl _ | with_reducible assumption | with_reducible refine Within.alloc ?_ _ | with_reducible refine Within.drew ?_ | with_reducible refine Within.setCell ?_ (by first | (simp; done) | (simp; omega)) _ | with_reducible refine Within.trans ?_ (by assumption)))⟩

set_option maxRecDepth 100000 in
set_option maxHeartbeats 600000 in
theorem Int_32_high (a x : Nat) (mode fl : Int) (WH : Hid (∀ w, Calls Tryd.prog 37 #[.float .f64 a, .int .i64 mode] w fun e' w' => e' = .returned (.tuple #[.float .f64 x, .int .i64 fl, .int .i64 0]) ∧ Within w w')) (hx : (FloatKind.f64.format.order x x != some .eq) = false) (hl : (FloatKind.f64.format.order x 13970166044103278592 == some .lt) = false) (hg : (FloatKind.f64.format.order x 4746794007248502784 == some .gt || FloatKind.f64.format.order x 4746794007248502784 == some .eq) = true) (w : World) : Calls Tryd.prog 33 #[.float .f64 a, .int .i64 32, .int .i64 mode] w fun e' w' => e' = .returned (.tuple #[.int .i64 2147483647, .int .i64 8, .int .i64 0]) ∧ Within w w' := by
  have LD : Hid (∀ w, Calls Tryd.prog 79 #[.float .f64 4607182418800017408, .int .i64 31] w fun e w' => e = .returned (.float .f64 4746794007248502784) ∧ w = w') := Lib.hid fun w => m_pow 31 (by decide) w
  have hng := neg_pos (a := 4746794007248502784) (by decide)
  rw [show 4746794007248502784 + 9223372036854775808 = 13970166044103278592 by decide] at hng
  go_enter Tryd.func33, Tryd.ntmps33
  go_wp2_with fail
  refine (WH.out _).mono ?_; rintro e1 w1 ⟨rfl, hb1⟩
  go_wp2_with fail
  refine (fits_32 _).mono ?_; rintro e2 w2 ⟨rfl, rfl⟩
  go_wp2_with fail
  refine (LD.out _).mono ?_; rintro e3 w3 ⟨rfl, rfl⟩
  go_wp2
  go_ret3
  exact ⟨rfl, (by repeat (first | with_reducible exact Within.refl _ | with_reducible assumption | with_reducible refine Within.alloc ?_ _ | with_reducible refine Within.drew ?_ | with_reducible refine Within.setCell ?_ (by first | (simp; done) | (simp; omega)) _ | with_reducible refine Within.trans ?_ (by assumption)))⟩

set_option maxRecDepth 100000 in
set_option maxHeartbeats 600000 in
theorem Int_32_in (a x : Nat) (mode fl : Int) (WH : Hid (∀ w, Calls Tryd.prog 37 #[.float .f64 a, .int .i64 mode] w fun e' w' => e' = .returned (.tuple #[.float .f64 x, .int .i64 fl, .int .i64 0]) ∧ Within w w')) (n : Int) (hx : (FloatKind.f64.format.order x x != some .eq) = false) (hl : (FloatKind.f64.format.order x 13970166044103278592 == some .lt) = false) (hg : (FloatKind.f64.format.order x 4746794007248502784 == some .gt || FloatKind.f64.format.order x 4746794007248502784 == some .eq) = false) (hc : floatToIntVal .f64 x .i64 = some n) (w : World) : Calls Tryd.prog 33 #[.float .f64 a, .int .i64 32, .int .i64 mode] w fun e' w' => e' = .returned (.tuple #[.int .i64 n, .int .i64 fl, .int .i64 0]) ∧ Within w w' := by
  have LD : Hid (∀ w, Calls Tryd.prog 79 #[.float .f64 4607182418800017408, .int .i64 31] w fun e w' => e = .returned (.float .f64 4746794007248502784) ∧ w = w') := Lib.hid fun w => m_pow 31 (by decide) w
  have hng := neg_pos (a := 4746794007248502784) (by decide)
  rw [show 4746794007248502784 + 9223372036854775808 = 13970166044103278592 by decide] at hng
  have hcv := fun (w : World) => run_convert_float_int (P := Tryd.prog) w 40 2 .f64 .i64 x n (by kernel_rfl) (by kernel_rfl) hc
  clear hc
  go_enter Tryd.func33, Tryd.ntmps33
  go_wp2_with fail
  refine (WH.out _).mono ?_; rintro e1 w1 ⟨rfl, hb1⟩
  go_wp2_with fail
  refine (fits_32 _).mono ?_; rintro e2 w2 ⟨rfl, rfl⟩
  go_wp2_with fail
  refine (LD.out _).mono ?_; rintro e3 w3 ⟨rfl, rfl⟩
  go_wp2
  go_ret3
  exact ⟨rfl, (by repeat (first | with_reducible exact Within.refl _ | with_reducible assumption | with_reducible refine Within.alloc ?_ _ | with_reducible refine Within.drew ?_ | with_reducible refine Within.setCell ?_ (by first | (simp; done) | (simp; omega)) _ | with_reducible refine Within.trans ?_ (by assumption)))⟩

set_option maxRecDepth 100000 in
set_option maxHeartbeats 600000 in
theorem Int_64_nan (a x : Nat) (mode fl : Int) (WH : Hid (∀ w, Calls Tryd.prog 37 #[.float .f64 a, .int .i64 mode] w fun e' w' => e' = .returned (.tuple #[.float .f64 x, .int .i64 fl, .int .i64 0]) ∧ Within w w')) (hx : (FloatKind.f64.format.order x x != some .eq) = true) (w : World) : Calls Tryd.prog 33 #[.float .f64 a, .int .i64 64, .int .i64 mode] w fun e' w' => e' = .returned (.tuple #[.int .i64 0, .int .i64 8, .int .i64 0]) ∧ Within w w' := by
  have LD : Hid (∀ w, Calls Tryd.prog 79 #[.float .f64 4607182418800017408, .int .i64 63] w fun e w' => e = .returned (.float .f64 4890909195324358656) ∧ w = w') := Lib.hid fun w => m_pow 63 (by decide) w
  go_enter Tryd.func33, Tryd.ntmps33
  go_wp2_with fail
  refine (WH.out _).mono ?_; rintro e1 w1 ⟨rfl, hb1⟩
  go_wp2_with fail
  refine (fits_64 _).mono ?_; rintro e2 w2 ⟨rfl, rfl⟩
  go_wp2_with fail
  refine (LD.out _).mono ?_; rintro e3 w3 ⟨rfl, rfl⟩
  go_wp2
  go_ret3
  exact ⟨rfl, (by repeat (first | with_reducible exact Within.refl _ | with_reducible assumption | with_reducible refine Within.alloc ?_ _ | with_reducible refine Within.drew ?_ | with_reducible refine Within.setCell ?_ (by first | (simp; done) | (simp; omega)) _ | with_reducible refine Within.trans ?_ (by assumption)))⟩

set_option maxRecDepth 100000 in
set_option maxHeartbeats 600000 in
theorem Int_64_low (a x : Nat) (mode fl : Int) (WH : Hid (∀ w, Calls Tryd.prog 37 #[.float .f64 a, .int .i64 mode] w fun e' w' => e' = .returned (.tuple #[.float .f64 x, .int .i64 fl, .int .i64 0]) ∧ Within w w')) (hx : (FloatKind.f64.format.order x x != some .eq) = false) (hl : (FloatKind.f64.format.order x 14114281232179134464 == some .lt) = true) (w : World) : Calls Tryd.prog 33 #[.float .f64 a, .int .i64 64, .int .i64 mode] w fun e' w' => e' = .returned (.tuple #[.int .i64 (-9223372036854775808), .int .i64 8, .int .i64 0]) ∧ Within w w' := by
  have LD : Hid (∀ w, Calls Tryd.prog 79 #[.float .f64 4607182418800017408, .int .i64 63] w fun e w' => e = .returned (.float .f64 4890909195324358656) ∧ w = w') := Lib.hid fun w => m_pow 63 (by decide) w
  have hng := neg_pos (a := 4890909195324358656) (by decide)
  rw [show 4890909195324358656 + 9223372036854775808 = 14114281232179134464 by decide] at hng
  go_enter Tryd.func33, Tryd.ntmps33
  go_wp2_with fail
  refine (WH.out _).mono ?_; rintro e1 w1 ⟨rfl, hb1⟩
  go_wp2_with fail
  refine (fits_64 _).mono ?_; rintro e2 w2 ⟨rfl, rfl⟩
  go_wp2_with fail
  refine (LD.out _).mono ?_; rintro e3 w3 ⟨rfl, rfl⟩
  go_wp2
  go_ret3
  exact ⟨rfl, (by repeat (first | with_reducible exact Within.refl _ | with_reducible assumption | with_reducible refine Within.alloc ?_ _ | with_reducible refine Within.drew ?_ | with_reducible refine Within.setCell ?_ (by first | (simp; done) | (simp; omega)) _ | with_reducible refine Within.trans ?_ (by assumption)))⟩

set_option maxRecDepth 100000 in
set_option maxHeartbeats 600000 in
theorem Int_64_high (a x : Nat) (mode fl : Int) (WH : Hid (∀ w, Calls Tryd.prog 37 #[.float .f64 a, .int .i64 mode] w fun e' w' => e' = .returned (.tuple #[.float .f64 x, .int .i64 fl, .int .i64 0]) ∧ Within w w')) (hx : (FloatKind.f64.format.order x x != some .eq) = false) (hl : (FloatKind.f64.format.order x 14114281232179134464 == some .lt) = false) (hg : (FloatKind.f64.format.order x 4890909195324358656 == some .gt || FloatKind.f64.format.order x 4890909195324358656 == some .eq) = true) (w : World) : Calls Tryd.prog 33 #[.float .f64 a, .int .i64 64, .int .i64 mode] w fun e' w' => e' = .returned (.tuple #[.int .i64 9223372036854775807, .int .i64 8, .int .i64 0]) ∧ Within w w' := by
  have LD : Hid (∀ w, Calls Tryd.prog 79 #[.float .f64 4607182418800017408, .int .i64 63] w fun e w' => e = .returned (.float .f64 4890909195324358656) ∧ w = w') := Lib.hid fun w => m_pow 63 (by decide) w
  have hng := neg_pos (a := 4890909195324358656) (by decide)
  rw [show 4890909195324358656 + 9223372036854775808 = 14114281232179134464 by decide] at hng
  go_enter Tryd.func33, Tryd.ntmps33
  go_wp2_with fail
  refine (WH.out _).mono ?_; rintro e1 w1 ⟨rfl, hb1⟩
  go_wp2_with fail
  refine (fits_64 _).mono ?_; rintro e2 w2 ⟨rfl, rfl⟩
  go_wp2_with fail
  refine (LD.out _).mono ?_; rintro e3 w3 ⟨rfl, rfl⟩
  go_wp2
  go_ret3
  exact ⟨rfl, (by repeat (first | with_reducible exact Within.refl _ | with_reducible assumption | with_reducible refine Within.alloc ?_ _ | with_reducible refine Within.drew ?_ | with_reducible refine Within.setCell ?_ (by first | (simp; done) | (simp; omega)) _ | with_reducible refine Within.trans ?_ (by assumption)))⟩

set_option maxRecDepth 100000 in
set_option maxHeartbeats 600000 in
theorem Int_64_in (a x : Nat) (mode fl : Int) (WH : Hid (∀ w, Calls Tryd.prog 37 #[.float .f64 a, .int .i64 mode] w fun e' w' => e' = .returned (.tuple #[.float .f64 x, .int .i64 fl, .int .i64 0]) ∧ Within w w')) (n : Int) (hx : (FloatKind.f64.format.order x x != some .eq) = false) (hl : (FloatKind.f64.format.order x 14114281232179134464 == some .lt) = false) (hg : (FloatKind.f64.format.order x 4890909195324358656 == some .gt || FloatKind.f64.format.order x 4890909195324358656 == some .eq) = false) (hc : floatToIntVal .f64 x .i64 = some n) (w : World) : Calls Tryd.prog 33 #[.float .f64 a, .int .i64 64, .int .i64 mode] w fun e' w' => e' = .returned (.tuple #[.int .i64 n, .int .i64 fl, .int .i64 0]) ∧ Within w w' := by
  have LD : Hid (∀ w, Calls Tryd.prog 79 #[.float .f64 4607182418800017408, .int .i64 63] w fun e w' => e = .returned (.float .f64 4890909195324358656) ∧ w = w') := Lib.hid fun w => m_pow 63 (by decide) w
  have hng := neg_pos (a := 4890909195324358656) (by decide)
  rw [show 4890909195324358656 + 9223372036854775808 = 14114281232179134464 by decide] at hng
  have hcv := fun (w : World) => run_convert_float_int (P := Tryd.prog) w 40 2 .f64 .i64 x n (by kernel_rfl) (by kernel_rfl) hc
  clear hc
  go_enter Tryd.func33, Tryd.ntmps33
  go_wp2_with fail
  refine (WH.out _).mono ?_; rintro e1 w1 ⟨rfl, hb1⟩
  go_wp2_with fail
  refine (fits_64 _).mono ?_; rintro e2 w2 ⟨rfl, rfl⟩
  go_wp2_with fail
  refine (LD.out _).mono ?_; rintro e3 w3 ⟨rfl, rfl⟩
  go_wp2
  go_ret3
  exact ⟨rfl, (by repeat (first | with_reducible exact Within.refl _ | with_reducible assumption | with_reducible refine Within.alloc ?_ _ | with_reducible refine Within.drew ?_ | with_reducible refine Within.setCell ?_ (by first | (simp; done) | (simp; omega)) _ | with_reducible refine Within.trans ?_ (by assumption)))⟩

set_option maxRecDepth 100000 in
set_option maxHeartbeats 600000 in
theorem Uint_err (a x : Nat) (width mode fl er : Int) (WH : Hid (∀ w, Calls Tryd.prog 37 #[.float .f64 a, .int .i64 mode] w fun e' w' => e' = .returned (.tuple #[.float .f64 x, .int .i64 fl, .int .i64 er]) ∧ Within w w')) (hE : (er != 0) = true) (w : World) : Calls Tryd.prog 38 #[.float .f64 a, .int .i64 width, .int .i64 mode] w fun e' w' => e' = .returned (.tuple #[.int .u64 0, .int .i64 0, .int .i64 er]) ∧ Within w w' := by
  go_enter Tryd.func38, Tryd.ntmps38
  go_wp2_with fail
  refine (WH.out _).mono ?_; rintro e1 w1 ⟨rfl, hb1⟩
  go_wp2
  go_ret3
  exact ⟨rfl, (by repeat (first | with_reducible exact Within.refl _ | with_reducible assumption | with_reducible refine Within.alloc ?_ _ | with_reducible refine Within.drew ?_ | with_reducible refine Within.setCell ?_ (by first | (simp; done) | (simp; omega)) _ | with_reducible refine Within.trans ?_ (by assumption)))⟩

set_option maxRecDepth 100000 in
set_option maxHeartbeats 600000 in
theorem Uint_width (a x : Nat) (width mode fl : Int) (WH : Hid (∀ w, Calls Tryd.prog 37 #[.float .f64 a, .int .i64 mode] w fun e' w' => e' = .returned (.tuple #[.float .f64 x, .int .i64 fl, .int .i64 0]) ∧ Within w w')) (FT : Hid (∀ w, Calls Tryd.prog 78 #[.int .i64 width] w fun e' w' => e' = .returned (.bool false) ∧ w = w')) (w : World) : Calls Tryd.prog 38 #[.float .f64 a, .int .i64 width, .int .i64 mode] w fun e' w' => e' = .returned (.tuple #[.int .u64 0, .int .i64 0, .int .i64 21]) ∧ Within w w' := by
  go_enter Tryd.func38, Tryd.ntmps38
  go_wp2_with fail
  refine (WH.out _).mono ?_; rintro e1 w1 ⟨rfl, hb1⟩
  go_wp2_with fail
  refine (FT.out _).mono ?_; rintro e2 w2 ⟨rfl, rfl⟩
  go_wp2
  go_ret3
  exact ⟨rfl, (by repeat (first | with_reducible exact Within.refl _ | with_reducible assumption | with_reducible refine Within.alloc ?_ _ | with_reducible refine Within.drew ?_ | with_reducible refine Within.setCell ?_ (by first | (simp; done) | (simp; omega)) _ | with_reducible refine Within.trans ?_ (by assumption)))⟩

set_option maxRecDepth 100000 in
set_option maxHeartbeats 600000 in
theorem Uint_8_nan (a x : Nat) (mode fl : Int) (WH : Hid (∀ w, Calls Tryd.prog 37 #[.float .f64 a, .int .i64 mode] w fun e' w' => e' = .returned (.tuple #[.float .f64 x, .int .i64 fl, .int .i64 0]) ∧ Within w w')) (hx : (FloatKind.f64.format.order x x != some .eq) = true) (w : World) : Calls Tryd.prog 38 #[.float .f64 a, .int .i64 8, .int .i64 mode] w fun e' w' => e' = .returned (.tuple #[.int .u64 0, .int .i64 8, .int .i64 0]) ∧ Within w w' := by
  go_enter Tryd.func38, Tryd.ntmps38
  go_wp2_with fail
  refine (WH.out _).mono ?_; rintro e1 w1 ⟨rfl, hb1⟩
  go_wp2_with fail
  refine (fits_8 _).mono ?_; rintro e2 w2 ⟨rfl, rfl⟩
  go_wp2
  go_ret3
  exact ⟨rfl, (by repeat (first | with_reducible exact Within.refl _ | with_reducible assumption | with_reducible refine Within.alloc ?_ _ | with_reducible refine Within.drew ?_ | with_reducible refine Within.setCell ?_ (by first | (simp; done) | (simp; omega)) _ | with_reducible refine Within.trans ?_ (by assumption)))⟩

set_option maxRecDepth 100000 in
set_option maxHeartbeats 600000 in
theorem Uint_8_low (a x : Nat) (mode fl : Int) (WH : Hid (∀ w, Calls Tryd.prog 37 #[.float .f64 a, .int .i64 mode] w fun e' w' => e' = .returned (.tuple #[.float .f64 x, .int .i64 fl, .int .i64 0]) ∧ Within w w')) (hx : (FloatKind.f64.format.order x x != some .eq) = false) (hl : (FloatKind.f64.format.order x 0 == some .lt) = true) (w : World) : Calls Tryd.prog 38 #[.float .f64 a, .int .i64 8, .int .i64 mode] w fun e' w' => e' = .returned (.tuple #[.int .u64 0, .int .i64 8, .int .i64 0]) ∧ Within w w' := by
  go_enter Tryd.func38, Tryd.ntmps38
  go_wp2_with fail
  refine (WH.out _).mono ?_; rintro e1 w1 ⟨rfl, hb1⟩
  go_wp2_with fail
  refine (fits_8 _).mono ?_; rintro e2 w2 ⟨rfl, rfl⟩
  go_wp2
  go_ret3
  exact ⟨rfl, (by repeat (first | with_reducible exact Within.refl _ | with_reducible assumption | with_reducible refine Within.alloc ?_ _ | with_reducible refine Within.drew ?_ | with_reducible refine Within.setCell ?_ (by first | (simp; done) | (simp; omega)) _ | with_reducible refine Within.trans ?_ (by assumption)))⟩

set_option maxRecDepth 100000 in
set_option maxHeartbeats 600000 in
theorem Uint_8_high (a x : Nat) (mode fl : Int) (WH : Hid (∀ w, Calls Tryd.prog 37 #[.float .f64 a, .int .i64 mode] w fun e' w' => e' = .returned (.tuple #[.float .f64 x, .int .i64 fl, .int .i64 0]) ∧ Within w w')) (hx : (FloatKind.f64.format.order x x != some .eq) = false) (hl : (FloatKind.f64.format.order x 0 == some .lt) = false) (hg : (FloatKind.f64.format.order x 4643211215818981376 == some .gt || FloatKind.f64.format.order x 4643211215818981376 == some .eq) = true) (w : World) : Calls Tryd.prog 38 #[.float .f64 a, .int .i64 8, .int .i64 mode] w fun e' w' => e' = .returned (.tuple #[.int .u64 255, .int .i64 8, .int .i64 0]) ∧ Within w w' := by
  have LD : Hid (∀ w, Calls Tryd.prog 79 #[.float .f64 4607182418800017408, .int .i64 8] w fun e w' => e = .returned (.float .f64 4643211215818981376) ∧ w = w') := Lib.hid fun w => m_pow 8 (by decide) w
  go_enter Tryd.func38, Tryd.ntmps38
  go_wp2_with fail
  refine (WH.out _).mono ?_; rintro e1 w1 ⟨rfl, hb1⟩
  go_wp2_with fail
  refine (fits_8 _).mono ?_; rintro e2 w2 ⟨rfl, rfl⟩
  go_wp2_with fail
  refine (LD.out _).mono ?_; rintro e3 w3 ⟨rfl, rfl⟩
  go_wp2
  go_ret3
  exact ⟨rfl, (by repeat (first | with_reducible exact Within.refl _ | with_reducible assumption | with_reducible refine Within.alloc ?_ _ | with_reducible refine Within.drew ?_ | with_reducible refine Within.setCell ?_ (by first | (simp; done) | (simp; omega)) _ | with_reducible refine Within.trans ?_ (by assumption)))⟩

set_option maxRecDepth 100000 in
set_option maxHeartbeats 600000 in
theorem Uint_8_in (a x : Nat) (mode fl : Int) (WH : Hid (∀ w, Calls Tryd.prog 37 #[.float .f64 a, .int .i64 mode] w fun e' w' => e' = .returned (.tuple #[.float .f64 x, .int .i64 fl, .int .i64 0]) ∧ Within w w')) (n : Int) (hx : (FloatKind.f64.format.order x x != some .eq) = false) (hl : (FloatKind.f64.format.order x 0 == some .lt) = false) (hg : (FloatKind.f64.format.order x 4643211215818981376 == some .gt || FloatKind.f64.format.order x 4643211215818981376 == some .eq) = false) (hc : floatToIntVal .f64 x .u64 = some n) (w : World) : Calls Tryd.prog 38 #[.float .f64 a, .int .i64 8, .int .i64 mode] w fun e' w' => e' = .returned (.tuple #[.int .u64 n, .int .i64 fl, .int .i64 0]) ∧ Within w w' := by
  have LD : Hid (∀ w, Calls Tryd.prog 79 #[.float .f64 4607182418800017408, .int .i64 8] w fun e w' => e = .returned (.float .f64 4643211215818981376) ∧ w = w') := Lib.hid fun w => m_pow 8 (by decide) w
  have hcv := fun (w : World) => run_convert_float_int (P := Tryd.prog) w 40 38 .f64 .u64 x n (by kernel_rfl) (by kernel_rfl) hc
  clear hc
  go_enter Tryd.func38, Tryd.ntmps38
  go_wp2_with fail
  refine (WH.out _).mono ?_; rintro e1 w1 ⟨rfl, hb1⟩
  go_wp2_with fail
  refine (fits_8 _).mono ?_; rintro e2 w2 ⟨rfl, rfl⟩
  go_wp2_with fail
  refine (LD.out _).mono ?_; rintro e3 w3 ⟨rfl, rfl⟩
  go_wp2
  go_ret3
  exact ⟨rfl, (by repeat (first | with_reducible exact Within.refl _ | with_reducible assumption | with_reducible refine Within.alloc ?_ _ | with_reducible refine Within.drew ?_ | with_reducible refine Within.setCell ?_ (by first | (simp; done) | (simp; omega)) _ | with_reducible refine Within.trans ?_ (by assumption)))⟩

set_option maxRecDepth 100000 in
set_option maxHeartbeats 600000 in
theorem Uint_16_nan (a x : Nat) (mode fl : Int) (WH : Hid (∀ w, Calls Tryd.prog 37 #[.float .f64 a, .int .i64 mode] w fun e' w' => e' = .returned (.tuple #[.float .f64 x, .int .i64 fl, .int .i64 0]) ∧ Within w w')) (hx : (FloatKind.f64.format.order x x != some .eq) = true) (w : World) : Calls Tryd.prog 38 #[.float .f64 a, .int .i64 16, .int .i64 mode] w fun e' w' => e' = .returned (.tuple #[.int .u64 0, .int .i64 8, .int .i64 0]) ∧ Within w w' := by
  go_enter Tryd.func38, Tryd.ntmps38
  go_wp2_with fail
  refine (WH.out _).mono ?_; rintro e1 w1 ⟨rfl, hb1⟩
  go_wp2_with fail
  refine (fits_16 _).mono ?_; rintro e2 w2 ⟨rfl, rfl⟩
  go_wp2
  go_ret3
  exact ⟨rfl, (by repeat (first | with_reducible exact Within.refl _ | with_reducible assumption | with_reducible refine Within.alloc ?_ _ | with_reducible refine Within.drew ?_ | with_reducible refine Within.setCell ?_ (by first | (simp; done) | (simp; omega)) _ | with_reducible refine Within.trans ?_ (by assumption)))⟩

set_option maxRecDepth 100000 in
set_option maxHeartbeats 600000 in
theorem Uint_16_low (a x : Nat) (mode fl : Int) (WH : Hid (∀ w, Calls Tryd.prog 37 #[.float .f64 a, .int .i64 mode] w fun e' w' => e' = .returned (.tuple #[.float .f64 x, .int .i64 fl, .int .i64 0]) ∧ Within w w')) (hx : (FloatKind.f64.format.order x x != some .eq) = false) (hl : (FloatKind.f64.format.order x 0 == some .lt) = true) (w : World) : Calls Tryd.prog 38 #[.float .f64 a, .int .i64 16, .int .i64 mode] w fun e' w' => e' = .returned (.tuple #[.int .u64 0, .int .i64 8, .int .i64 0]) ∧ Within w w' := by
  go_enter Tryd.func38, Tryd.ntmps38
  go_wp2_with fail
  refine (WH.out _).mono ?_; rintro e1 w1 ⟨rfl, hb1⟩
  go_wp2_with fail
  refine (fits_16 _).mono ?_; rintro e2 w2 ⟨rfl, rfl⟩
  go_wp2
  go_ret3
  exact ⟨rfl, (by repeat (first | with_reducible exact Within.refl _ | with_reducible assumption | with_reducible refine Within.alloc ?_ _ | with_reducible refine Within.drew ?_ | with_reducible refine Within.setCell ?_ (by first | (simp; done) | (simp; omega)) _ | with_reducible refine Within.trans ?_ (by assumption)))⟩

set_option maxRecDepth 100000 in
set_option maxHeartbeats 600000 in
theorem Uint_16_high (a x : Nat) (mode fl : Int) (WH : Hid (∀ w, Calls Tryd.prog 37 #[.float .f64 a, .int .i64 mode] w fun e' w' => e' = .returned (.tuple #[.float .f64 x, .int .i64 fl, .int .i64 0]) ∧ Within w w')) (hx : (FloatKind.f64.format.order x x != some .eq) = false) (hl : (FloatKind.f64.format.order x 0 == some .lt) = false) (hg : (FloatKind.f64.format.order x 4679240012837945344 == some .gt || FloatKind.f64.format.order x 4679240012837945344 == some .eq) = true) (w : World) : Calls Tryd.prog 38 #[.float .f64 a, .int .i64 16, .int .i64 mode] w fun e' w' => e' = .returned (.tuple #[.int .u64 65535, .int .i64 8, .int .i64 0]) ∧ Within w w' := by
  have LD : Hid (∀ w, Calls Tryd.prog 79 #[.float .f64 4607182418800017408, .int .i64 16] w fun e w' => e = .returned (.float .f64 4679240012837945344) ∧ w = w') := Lib.hid fun w => m_pow 16 (by decide) w
  go_enter Tryd.func38, Tryd.ntmps38
  go_wp2_with fail
  refine (WH.out _).mono ?_; rintro e1 w1 ⟨rfl, hb1⟩
  go_wp2_with fail
  refine (fits_16 _).mono ?_; rintro e2 w2 ⟨rfl, rfl⟩
  go_wp2_with fail
  refine (LD.out _).mono ?_; rintro e3 w3 ⟨rfl, rfl⟩
  go_wp2
  go_ret3
  exact ⟨rfl, (by repeat (first | with_reducible exact Within.refl _ | with_reducible assumption | with_reducible refine Within.alloc ?_ _ | with_reducible refine Within.drew ?_ | with_reducible refine Within.setCell ?_ (by first | (simp; done) | (simp; omega)) _ | with_reducible refine Within.trans ?_ (by assumption)))⟩

set_option maxRecDepth 100000 in
set_option maxHeartbeats 600000 in
theorem Uint_16_in (a x : Nat) (mode fl : Int) (WH : Hid (∀ w, Calls Tryd.prog 37 #[.float .f64 a, .int .i64 mode] w fun e' w' => e' = .returned (.tuple #[.float .f64 x, .int .i64 fl, .int .i64 0]) ∧ Within w w')) (n : Int) (hx : (FloatKind.f64.format.order x x != some .eq) = false) (hl : (FloatKind.f64.format.order x 0 == some .lt) = false) (hg : (FloatKind.f64.format.order x 4679240012837945344 == some .gt || FloatKind.f64.format.order x 4679240012837945344 == some .eq) = false) (hc : floatToIntVal .f64 x .u64 = some n) (w : World) : Calls Tryd.prog 38 #[.float .f64 a, .int .i64 16, .int .i64 mode] w fun e' w' => e' = .returned (.tuple #[.int .u64 n, .int .i64 fl, .int .i64 0]) ∧ Within w w' := by
  have LD : Hid (∀ w, Calls Tryd.prog 79 #[.float .f64 4607182418800017408, .int .i64 16] w fun e w' => e = .returned (.float .f64 4679240012837945344) ∧ w = w') := Lib.hid fun w => m_pow 16 (by decide) w
  have hcv := fun (w : World) => run_convert_float_int (P := Tryd.prog) w 40 38 .f64 .u64 x n (by kernel_rfl) (by kernel_rfl) hc
  clear hc
  go_enter Tryd.func38, Tryd.ntmps38
  go_wp2_with fail
  refine (WH.out _).mono ?_; rintro e1 w1 ⟨rfl, hb1⟩
  go_wp2_with fail
  refine (fits_16 _).mono ?_; rintro e2 w2 ⟨rfl, rfl⟩
  go_wp2_with fail
  refine (LD.out _).mono ?_; rintro e3 w3 ⟨rfl, rfl⟩
  go_wp2
  go_ret3
  exact ⟨rfl, (by repeat (first | with_reducible exact Within.refl _ | with_reducible assumption | with_reducible refine Within.alloc ?_ _ | with_reducible refine Within.drew ?_ | with_reducible refine Within.setCell ?_ (by first | (simp; done) | (simp; omega)) _ | with_reducible refine Within.trans ?_ (by assumption)))⟩

set_option maxRecDepth 100000 in
set_option maxHeartbeats 600000 in
theorem Uint_32_nan (a x : Nat) (mode fl : Int) (WH : Hid (∀ w, Calls Tryd.prog 37 #[.float .f64 a, .int .i64 mode] w fun e' w' => e' = .returned (.tuple #[.float .f64 x, .int .i64 fl, .int .i64 0]) ∧ Within w w')) (hx : (FloatKind.f64.format.order x x != some .eq) = true) (w : World) : Calls Tryd.prog 38 #[.float .f64 a, .int .i64 32, .int .i64 mode] w fun e' w' => e' = .returned (.tuple #[.int .u64 0, .int .i64 8, .int .i64 0]) ∧ Within w w' := by
  go_enter Tryd.func38, Tryd.ntmps38
  go_wp2_with fail
  refine (WH.out _).mono ?_; rintro e1 w1 ⟨rfl, hb1⟩
  go_wp2_with fail
  refine (fits_32 _).mono ?_; rintro e2 w2 ⟨rfl, rfl⟩
  go_wp2
  go_ret3
  exact ⟨rfl, (by repeat (first | with_reducible exact Within.refl _ | with_reducible assumption | with_reducible refine Within.alloc ?_ _ | with_reducible refine Within.drew ?_ | with_reducible refine Within.setCell ?_ (by first | (simp; done) | (simp; omega)) _ | with_reducible refine Within.trans ?_ (by assumption)))⟩

set_option maxRecDepth 100000 in
set_option maxHeartbeats 600000 in
theorem Uint_32_low (a x : Nat) (mode fl : Int) (WH : Hid (∀ w, Calls Tryd.prog 37 #[.float .f64 a, .int .i64 mode] w fun e' w' => e' = .returned (.tuple #[.float .f64 x, .int .i64 fl, .int .i64 0]) ∧ Within w w')) (hx : (FloatKind.f64.format.order x x != some .eq) = false) (hl : (FloatKind.f64.format.order x 0 == some .lt) = true) (w : World) : Calls Tryd.prog 38 #[.float .f64 a, .int .i64 32, .int .i64 mode] w fun e' w' => e' = .returned (.tuple #[.int .u64 0, .int .i64 8, .int .i64 0]) ∧ Within w w' := by
  go_enter Tryd.func38, Tryd.ntmps38
  go_wp2_with fail
  refine (WH.out _).mono ?_; rintro e1 w1 ⟨rfl, hb1⟩
  go_wp2_with fail
  refine (fits_32 _).mono ?_; rintro e2 w2 ⟨rfl, rfl⟩
  go_wp2
  go_ret3
  exact ⟨rfl, (by repeat (first | with_reducible exact Within.refl _ | with_reducible assumption | with_reducible refine Within.alloc ?_ _ | with_reducible refine Within.drew ?_ | with_reducible refine Within.setCell ?_ (by first | (simp; done) | (simp; omega)) _ | with_reducible refine Within.trans ?_ (by assumption)))⟩

set_option maxRecDepth 100000 in
set_option maxHeartbeats 600000 in
theorem Uint_32_high (a x : Nat) (mode fl : Int) (WH : Hid (∀ w, Calls Tryd.prog 37 #[.float .f64 a, .int .i64 mode] w fun e' w' => e' = .returned (.tuple #[.float .f64 x, .int .i64 fl, .int .i64 0]) ∧ Within w w')) (hx : (FloatKind.f64.format.order x x != some .eq) = false) (hl : (FloatKind.f64.format.order x 0 == some .lt) = false) (hg : (FloatKind.f64.format.order x 4751297606875873280 == some .gt || FloatKind.f64.format.order x 4751297606875873280 == some .eq) = true) (w : World) : Calls Tryd.prog 38 #[.float .f64 a, .int .i64 32, .int .i64 mode] w fun e' w' => e' = .returned (.tuple #[.int .u64 4294967295, .int .i64 8, .int .i64 0]) ∧ Within w w' := by
  have LD : Hid (∀ w, Calls Tryd.prog 79 #[.float .f64 4607182418800017408, .int .i64 32] w fun e w' => e = .returned (.float .f64 4751297606875873280) ∧ w = w') := Lib.hid fun w => m_pow 32 (by decide) w
  go_enter Tryd.func38, Tryd.ntmps38
  go_wp2_with fail
  refine (WH.out _).mono ?_; rintro e1 w1 ⟨rfl, hb1⟩
  go_wp2_with fail
  refine (fits_32 _).mono ?_; rintro e2 w2 ⟨rfl, rfl⟩
  go_wp2_with fail
  refine (LD.out _).mono ?_; rintro e3 w3 ⟨rfl, rfl⟩
  go_wp2
  go_ret3
  exact ⟨rfl, (by repeat (first | with_reducible exact Within.refl _ | with_reducible assumption | with_reducible refine Within.alloc ?_ _ | with_reducible refine Within.drew ?_ | with_reducible refine Within.setCell ?_ (by first | (simp; done) | (simp; omega)) _ | with_reducible refine Within.trans ?_ (by assumption)))⟩

set_option maxRecDepth 100000 in
set_option maxHeartbeats 600000 in
theorem Uint_32_in (a x : Nat) (mode fl : Int) (WH : Hid (∀ w, Calls Tryd.prog 37 #[.float .f64 a, .int .i64 mode] w fun e' w' => e' = .returned (.tuple #[.float .f64 x, .int .i64 fl, .int .i64 0]) ∧ Within w w')) (n : Int) (hx : (FloatKind.f64.format.order x x != some .eq) = false) (hl : (FloatKind.f64.format.order x 0 == some .lt) = false) (hg : (FloatKind.f64.format.order x 4751297606875873280 == some .gt || FloatKind.f64.format.order x 4751297606875873280 == some .eq) = false) (hc : floatToIntVal .f64 x .u64 = some n) (w : World) : Calls Tryd.prog 38 #[.float .f64 a, .int .i64 32, .int .i64 mode] w fun e' w' => e' = .returned (.tuple #[.int .u64 n, .int .i64 fl, .int .i64 0]) ∧ Within w w' := by
  have LD : Hid (∀ w, Calls Tryd.prog 79 #[.float .f64 4607182418800017408, .int .i64 32] w fun e w' => e = .returned (.float .f64 4751297606875873280) ∧ w = w') := Lib.hid fun w => m_pow 32 (by decide) w
  have hcv := fun (w : World) => run_convert_float_int (P := Tryd.prog) w 40 38 .f64 .u64 x n (by kernel_rfl) (by kernel_rfl) hc
  clear hc
  go_enter Tryd.func38, Tryd.ntmps38
  go_wp2_with fail
  refine (WH.out _).mono ?_; rintro e1 w1 ⟨rfl, hb1⟩
  go_wp2_with fail
  refine (fits_32 _).mono ?_; rintro e2 w2 ⟨rfl, rfl⟩
  go_wp2_with fail
  refine (LD.out _).mono ?_; rintro e3 w3 ⟨rfl, rfl⟩
  go_wp2
  go_ret3
  exact ⟨rfl, (by repeat (first | with_reducible exact Within.refl _ | with_reducible assumption | with_reducible refine Within.alloc ?_ _ | with_reducible refine Within.drew ?_ | with_reducible refine Within.setCell ?_ (by first | (simp; done) | (simp; omega)) _ | with_reducible refine Within.trans ?_ (by assumption)))⟩

set_option maxRecDepth 100000 in
set_option maxHeartbeats 600000 in
theorem Uint_64_nan (a x : Nat) (mode fl : Int) (WH : Hid (∀ w, Calls Tryd.prog 37 #[.float .f64 a, .int .i64 mode] w fun e' w' => e' = .returned (.tuple #[.float .f64 x, .int .i64 fl, .int .i64 0]) ∧ Within w w')) (hx : (FloatKind.f64.format.order x x != some .eq) = true) (w : World) : Calls Tryd.prog 38 #[.float .f64 a, .int .i64 64, .int .i64 mode] w fun e' w' => e' = .returned (.tuple #[.int .u64 0, .int .i64 8, .int .i64 0]) ∧ Within w w' := by
  go_enter Tryd.func38, Tryd.ntmps38
  go_wp2_with fail
  refine (WH.out _).mono ?_; rintro e1 w1 ⟨rfl, hb1⟩
  go_wp2_with fail
  refine (fits_64 _).mono ?_; rintro e2 w2 ⟨rfl, rfl⟩
  go_wp2
  go_ret3
  exact ⟨rfl, (by repeat (first | with_reducible exact Within.refl _ | with_reducible assumption | with_reducible refine Within.alloc ?_ _ | with_reducible refine Within.drew ?_ | with_reducible refine Within.setCell ?_ (by first | (simp; done) | (simp; omega)) _ | with_reducible refine Within.trans ?_ (by assumption)))⟩

set_option maxRecDepth 100000 in
set_option maxHeartbeats 600000 in
theorem Uint_64_low (a x : Nat) (mode fl : Int) (WH : Hid (∀ w, Calls Tryd.prog 37 #[.float .f64 a, .int .i64 mode] w fun e' w' => e' = .returned (.tuple #[.float .f64 x, .int .i64 fl, .int .i64 0]) ∧ Within w w')) (hx : (FloatKind.f64.format.order x x != some .eq) = false) (hl : (FloatKind.f64.format.order x 0 == some .lt) = true) (w : World) : Calls Tryd.prog 38 #[.float .f64 a, .int .i64 64, .int .i64 mode] w fun e' w' => e' = .returned (.tuple #[.int .u64 0, .int .i64 8, .int .i64 0]) ∧ Within w w' := by
  go_enter Tryd.func38, Tryd.ntmps38
  go_wp2_with fail
  refine (WH.out _).mono ?_; rintro e1 w1 ⟨rfl, hb1⟩
  go_wp2_with fail
  refine (fits_64 _).mono ?_; rintro e2 w2 ⟨rfl, rfl⟩
  go_wp2
  go_ret3
  exact ⟨rfl, (by repeat (first | with_reducible exact Within.refl _ | with_reducible assumption | with_reducible refine Within.alloc ?_ _ | with_reducible refine Within.drew ?_ | with_reducible refine Within.setCell ?_ (by first | (simp; done) | (simp; omega)) _ | with_reducible refine Within.trans ?_ (by assumption)))⟩

set_option maxRecDepth 100000 in
set_option maxHeartbeats 600000 in
theorem Uint_64_high (a x : Nat) (mode fl : Int) (WH : Hid (∀ w, Calls Tryd.prog 37 #[.float .f64 a, .int .i64 mode] w fun e' w' => e' = .returned (.tuple #[.float .f64 x, .int .i64 fl, .int .i64 0]) ∧ Within w w')) (hx : (FloatKind.f64.format.order x x != some .eq) = false) (hl : (FloatKind.f64.format.order x 0 == some .lt) = false) (hg : (FloatKind.f64.format.order x 4895412794951729152 == some .gt || FloatKind.f64.format.order x 4895412794951729152 == some .eq) = true) (w : World) : Calls Tryd.prog 38 #[.float .f64 a, .int .i64 64, .int .i64 mode] w fun e' w' => e' = .returned (.tuple #[.int .u64 18446744073709551615, .int .i64 8, .int .i64 0]) ∧ Within w w' := by
  have LD : Hid (∀ w, Calls Tryd.prog 79 #[.float .f64 4607182418800017408, .int .i64 64] w fun e w' => e = .returned (.float .f64 4895412794951729152) ∧ w = w') := Lib.hid fun w => m_pow 64 (by decide) w
  go_enter Tryd.func38, Tryd.ntmps38
  go_wp2_with fail
  refine (WH.out _).mono ?_; rintro e1 w1 ⟨rfl, hb1⟩
  go_wp2_with fail
  refine (fits_64 _).mono ?_; rintro e2 w2 ⟨rfl, rfl⟩
  go_wp2_with fail
  refine (LD.out _).mono ?_; rintro e3 w3 ⟨rfl, rfl⟩
  go_wp2
  go_ret3
  exact ⟨rfl, (by repeat (first | with_reducible exact Within.refl _ | with_reducible assumption | with_reducible refine Within.alloc ?_ _ | with_reducible refine Within.drew ?_ | with_reducible refine Within.setCell ?_ (by first | (simp; done) | (simp; omega)) _ | with_reducible refine Within.trans ?_ (by assumption)))⟩

set_option maxRecDepth 100000 in
set_option maxHeartbeats 600000 in
theorem Uint_64_in (a x : Nat) (mode fl : Int) (WH : Hid (∀ w, Calls Tryd.prog 37 #[.float .f64 a, .int .i64 mode] w fun e' w' => e' = .returned (.tuple #[.float .f64 x, .int .i64 fl, .int .i64 0]) ∧ Within w w')) (n : Int) (hx : (FloatKind.f64.format.order x x != some .eq) = false) (hl : (FloatKind.f64.format.order x 0 == some .lt) = false) (hg : (FloatKind.f64.format.order x 4895412794951729152 == some .gt || FloatKind.f64.format.order x 4895412794951729152 == some .eq) = false) (hc : floatToIntVal .f64 x .u64 = some n) (w : World) : Calls Tryd.prog 38 #[.float .f64 a, .int .i64 64, .int .i64 mode] w fun e' w' => e' = .returned (.tuple #[.int .u64 n, .int .i64 fl, .int .i64 0]) ∧ Within w w' := by
  have LD : Hid (∀ w, Calls Tryd.prog 79 #[.float .f64 4607182418800017408, .int .i64 64] w fun e w' => e = .returned (.float .f64 4895412794951729152) ∧ w = w') := Lib.hid fun w => m_pow 64 (by decide) w
  have hcv := fun (w : World) => run_convert_float_int (P := Tryd.prog) w 40 38 .f64 .u64 x n (by kernel_rfl) (by kernel_rfl) hc
  clear hc
  go_enter Tryd.func38, Tryd.ntmps38
  go_wp2_with fail
  refine (WH.out _).mono ?_; rintro e1 w1 ⟨rfl, hb1⟩
  go_wp2_with fail
  refine (fits_64 _).mono ?_; rintro e2 w2 ⟨rfl, rfl⟩
  go_wp2_with fail
  refine (LD.out _).mono ?_; rintro e3 w3 ⟨rfl, rfl⟩
  go_wp2
  go_ret3
  exact ⟨rfl, (by repeat (first | with_reducible exact Within.refl _ | with_reducible assumption | with_reducible refine Within.alloc ?_ _ | with_reducible refine Within.drew ?_ | with_reducible refine Within.setCell ?_ (by first | (simp; done) | (simp; omega)) _ | with_reducible refine Within.trans ?_ (by assumption)))⟩

end Go.Proofs.YtifgngmebnjfkaaDoor
