/- the document's answers of chapter 1: bits, classes, fields, places: walks. -/
import Derived.Test.YthjaponkbodooaaDoorAwake
namespace Go.Proofs.YthjaponkbodooaaDoor
open Go.RowKit

set_option maxRecDepth 100000 in
set_option maxHeartbeats 600000 in
theorem Rbits_D (a : Nat) (w : World) : Calls Tryd.prog 82 #[.float .f64 a] w fun e w' => e = .returned (.int .u64 (canonD a)) ∧ w = w' := by
  cases hn : nanD a
  · rw [canonD_id hn]
    have hx : (FloatKind.f64.format.order a a != some .eq) = false := by rw [ne_self64]; exact hn
    clear hn
    go_enter Tryd.func82, Tryd.ntmps82
    go_wp2
    go_ret
    exact ⟨rfl, rfl⟩
  · rw [canonD_nan hn]
    have hx : (FloatKind.f64.format.order a a != some .eq) = true := by rw [ne_self64]; exact hn
    clear hn
    go_enter Tryd.func82, Tryd.ntmps82
    go_wp2
    go_ret
    exact ⟨rfl, rfl⟩

set_option maxRecDepth 100000 in
set_option maxHeartbeats 600000 in
theorem Rcanon_D (a : Nat) (w : World) : Calls Tryd.prog 94 #[.float .f64 a] w fun e w' => e = .returned (.float .f64 (canonD a)) ∧ w = w' := by
  go_enter Tryd.func94, Tryd.ntmps94
  go_wp2_with fail
  refine (Rbits_D a _).mono ?_; rintro e1 w1 ⟨rfl, rfl⟩
  go_wp2
  go_ret
  exact ⟨rfl, rfl⟩

set_option maxRecDepth 100000 in
set_option maxHeartbeats 600000 in
theorem Rsame_D (a b : Nat) (w : World) : Calls Tryd.prog 42 #[.float .f64 a, .float .f64 b] w fun e w' => e = .returned (.bool (decide (canonD a = canonD b))) ∧ w = w' := by
  go_enter Tryd.func42, Tryd.ntmps42
  go_wp2_with fail
  refine (Rbits_D a _).mono ?_; rintro e1 w1 ⟨rfl, rfl⟩
  go_wp2_with fail
  refine (Rbits_D b _).mono ?_; rintro e2 w2 ⟨rfl, rfl⟩
  go_wp2
  go_ret
  refine ⟨ret_bool ?_, rfl⟩
  show ((canonD a : Int) == canonD b) = _
  rw [Bool.eq_iff_iff, beq_iff_eq, decide_eq_true_iff]; omega

set_option maxRecDepth 100000 in
set_option maxHeartbeats 600000 in
theorem same_D (a b : Nat) (w : World) : Calls Tryd.prog 21 #[.float .f64 a, .float .f64 b] w fun e w' => e = .returned (.bool (decide (a = canonD b))) ∧ w = w' := by
  go_enter Tryd.func21, Tryd.ntmps21
  go_wp2_with fail
  refine (Rbits_D b _).mono ?_; rintro e1 w1 ⟨rfl, rfl⟩
  go_wp2
  go_ret
  refine ⟨ret_bool ?_, rfl⟩
  show ((a : Int) == canonD b) = _
  rw [Bool.eq_iff_iff, beq_iff_eq, decide_eq_true_iff]; omega

set_option maxRecDepth 100000 in
set_option maxHeartbeats 600000 in
theorem Rsplit_D (a : Nat) (ha : a < 18446744073709551616) (w : World) : Calls Tryd.prog 36 #[.float .f64 a] w fun e w' => e = .returned (.tuple #[.bool (negD a), .int .i64 (expD a), .int .u64 (fracD a)]) ∧ w = w' := by
  have HL := Lib.hid (canonD_lt ha)
  unfold negD expD fracD
  clear ha
  have HB := Lib.hid (fun w => Rbits_D a w)
  generalize canonD a = c at *
  go_enter Tryd.func36, Tryd.ntmps36
  go_wp2_with fail
  refine (HB.out _).mono ?_; rintro e1 w1 ⟨rfl, rfl⟩
  go_wp2
  go_ret3
  refine ⟨ret3 (v_bool ?_) (v_int ?_) (v_int ?_), rfl⟩
  · show ((c : Int) / 9223372036854775808 == 1) = _
    rw [Bool.eq_iff_iff, beq_iff_eq, decide_eq_true_iff]; have := HL.out; omega
  · show ((c : Int) / 4503599627370496 % 2048) = _
    omega
  · show ((c : Int) % 4503599627370496) = _
    omega

set_option maxRecDepth 100000 in
set_option maxHeartbeats 600000 in
theorem Rbits_S (a : Nat) (w : World) : Calls Tryd.prog 85 #[.float .f32 a] w fun e w' => e = .returned (.int .u32 (canonS a)) ∧ w = w' := by
  cases hn : nanS a
  · rw [canonS_id hn]
    have hx : (FloatKind.f32.format.order a a != some .eq) = false := by rw [ne_self32]; exact hn
    clear hn
    go_enter Tryd.func85, Tryd.ntmps85
    go_wp2
    go_ret
    exact ⟨rfl, rfl⟩
  · rw [canonS_nan hn]
    have hx : (FloatKind.f32.format.order a a != some .eq) = true := by rw [ne_self32]; exact hn
    clear hn
    go_enter Tryd.func85, Tryd.ntmps85
    go_wp2
    go_ret
    exact ⟨rfl, rfl⟩

set_option maxRecDepth 100000 in
set_option maxHeartbeats 600000 in
theorem Rcanon_S (a : Nat) (w : World) : Calls Tryd.prog 88 #[.float .f32 a] w fun e w' => e = .returned (.float .f32 (canonS a)) ∧ w = w' := by
  go_enter Tryd.func88, Tryd.ntmps88
  go_wp2_with fail
  refine (Rbits_S a _).mono ?_; rintro e1 w1 ⟨rfl, rfl⟩
  go_wp2
  go_ret
  exact ⟨rfl, rfl⟩

set_option maxRecDepth 100000 in
set_option maxHeartbeats 600000 in
theorem Rsame_S (a b : Nat) (w : World) : Calls Tryd.prog 33 #[.float .f32 a, .float .f32 b] w fun e w' => e = .returned (.bool (decide (canonS a = canonS b))) ∧ w = w' := by
  go_enter Tryd.func33, Tryd.ntmps33
  go_wp2_with fail
  refine (Rbits_S a _).mono ?_; rintro e1 w1 ⟨rfl, rfl⟩
  go_wp2_with fail
  refine (Rbits_S b _).mono ?_; rintro e2 w2 ⟨rfl, rfl⟩
  go_wp2
  go_ret
  refine ⟨ret_bool ?_, rfl⟩
  show ((canonS a : Int) == canonS b) = _
  rw [Bool.eq_iff_iff, beq_iff_eq, decide_eq_true_iff]; omega

set_option maxRecDepth 100000 in
set_option maxHeartbeats 600000 in
theorem same_S (a b : Nat) (w : World) : Calls Tryd.prog 24 #[.float .f32 a, .float .f32 b] w fun e w' => e = .returned (.bool (decide (a = canonS b))) ∧ w = w' := by
  go_enter Tryd.func24, Tryd.ntmps24
  go_wp2_with fail
  refine (Rbits_S b _).mono ?_; rintro e1 w1 ⟨rfl, rfl⟩
  go_wp2
  go_ret
  refine ⟨ret_bool ?_, rfl⟩
  show ((a : Int) == canonS b) = _
  rw [Bool.eq_iff_iff, beq_iff_eq, decide_eq_true_iff]; omega

set_option maxRecDepth 100000 in
set_option maxHeartbeats 600000 in
theorem Rsplit_S (a : Nat) (ha : a < 4294967296) (w : World) : Calls Tryd.prog 27 #[.float .f32 a] w fun e w' => e = .returned (.tuple #[.bool (negS a), .int .i64 (expS a), .int .u32 (fracS a)]) ∧ w = w' := by
  have HL := Lib.hid (canonS_lt ha)
  unfold negS expS fracS
  clear ha
  have HB := Lib.hid (fun w => Rbits_S a w)
  generalize canonS a = c at *
  go_enter Tryd.func27, Tryd.ntmps27
  go_wp2_with fail
  refine (HB.out _).mono ?_; rintro e1 w1 ⟨rfl, rfl⟩
  go_wp2
  go_ret3
  refine ⟨ret3 (v_bool ?_) (v_int ?_) (v_int ?_), rfl⟩
  · show ((c : Int) / 2147483648 == 1) = _
    rw [Bool.eq_iff_iff, beq_iff_eq, decide_eq_true_iff]; have := HL.out; omega
  · show ((c : Int) / 8388608 % 256) = _
    omega
  · show ((c : Int) % 8388608) = _
    omega

set_option maxRecDepth 100000 in
set_option maxHeartbeats 600000 in
theorem Rnan_D (w : World) : Calls Tryd.prog 104 #[] w fun e w' => e = .returned (.float .f64 9221120237041090561) ∧ w = w' := by
  go_enter Tryd.func104, Tryd.ntmps104
  go_wp2
  go_ret
  exact ⟨rfl, rfl⟩

theorem nat_eq (a b : Nat) : ((a : Int) == (b : Int)) = decide (a = b) := by rw [Bool.eq_iff_iff, beq_iff_eq, decide_eq_true_iff]; omega

set_option maxRecDepth 100000 in
set_option maxHeartbeats 600000 in
theorem Rclassify (e f m : Nat) (w : World) : Calls Tryd.prog 90 #[.int .i64 e, .int .u64 f, .int .i64 m] w fun e' w' => e' = .returned (.int .i64 (classOf e f m)) ∧ w = w' := by
  have b1 : ((e : Int) == (m : Int)) = decide (e = m) := nat_eq e m
  have b2 : ((f : Int) != 0) = decide (f ≠ 0) := by rw [Bool.eq_iff_iff, bne_iff_ne, decide_eq_true_iff]; omega
  have b3 : ((e : Int) == 0) = decide (e = 0) := nat_eq e 0
  have b4 : ((f : Int) == 0) = decide (f = 0) := nat_eq f 0
  generalize hr : classOf e f m = r
  unfold classOf at hr
  by_cases h1 : e = m <;> by_cases h2 : f = 0 <;> by_cases h3 : e = 0
  · rw [decide_eq_true h1] at b1; rw [decide_eq_false (by omega : ¬ f ≠ 0)] at b2; rw [decide_eq_true h3] at b3; rw [decide_eq_true h2] at b4
    have hv : r = 2 := by rw [← hr, if_neg (by omega), if_pos h1]
    subst hv; clear hr h1 h2 h3
    go_enter Tryd.func90, Tryd.ntmps90
    go_wp2
    go_ret
    exact ⟨rfl, rfl⟩
  · rw [decide_eq_true h1] at b1; rw [decide_eq_false (by omega : ¬ f ≠ 0)] at b2; rw [decide_eq_false h3] at b3; rw [decide_eq_true h2] at b4
    have hv : r = 2 := by rw [← hr, if_neg (by omega), if_pos h1]
    subst hv; clear hr h1 h2 h3
    go_enter Tryd.func90, Tryd.ntmps90
    go_wp2
    go_ret
    exact ⟨rfl, rfl⟩
  · rw [decide_eq_true h1] at b1; rw [decide_eq_true (by omega : f ≠ 0)] at b2; rw [decide_eq_true h3] at b3; rw [decide_eq_false h2] at b4
    have hv : r = 1 := by rw [← hr, if_pos ⟨h1, h2⟩]
    subst hv; clear hr h1 h2 h3
    go_enter Tryd.func90, Tryd.ntmps90
    go_wp2
    go_ret
    exact ⟨rfl, rfl⟩
  · rw [decide_eq_true h1] at b1; rw [decide_eq_true (by omega : f ≠ 0)] at b2; rw [decide_eq_false h3] at b3; rw [decide_eq_false h2] at b4
    have hv : r = 1 := by rw [← hr, if_pos ⟨h1, h2⟩]
    subst hv; clear hr h1 h2 h3
    go_enter Tryd.func90, Tryd.ntmps90
    go_wp2
    go_ret
    exact ⟨rfl, rfl⟩
  · rw [decide_eq_false h1] at b1; rw [decide_eq_false (by omega : ¬ f ≠ 0)] at b2; rw [decide_eq_true h3] at b3; rw [decide_eq_true h2] at b4
    have hv : r = 3 := by rw [← hr, if_neg (by omega), if_neg h1, if_pos ⟨h3, h2⟩]
    subst hv; clear hr h1 h2 h3
    go_enter Tryd.func90, Tryd.ntmps90
    go_wp2
    go_ret
    exact ⟨rfl, rfl⟩
  · rw [decide_eq_false h1] at b1; rw [decide_eq_false (by omega : ¬ f ≠ 0)] at b2; rw [decide_eq_false h3] at b3; rw [decide_eq_true h2] at b4
    have hv : r = 5 := by rw [← hr, if_neg (by omega), if_neg h1, if_neg (by omega), if_neg h3]
    subst hv; clear hr h1 h2 h3
    go_enter Tryd.func90, Tryd.ntmps90
    go_wp2
    go_ret
    exact ⟨rfl, rfl⟩
  · rw [decide_eq_false h1] at b1; rw [decide_eq_true (by omega : f ≠ 0)] at b2; rw [decide_eq_true h3] at b3; rw [decide_eq_false h2] at b4
    have hv : r = 4 := by rw [← hr, if_neg (by omega), if_neg h1, if_neg (by omega), if_pos h3]
    subst hv; clear hr h1 h2 h3
    go_enter Tryd.func90, Tryd.ntmps90
    go_wp2
    go_ret
    exact ⟨rfl, rfl⟩
  · rw [decide_eq_false h1] at b1; rw [decide_eq_true (by omega : f ≠ 0)] at b2; rw [decide_eq_false h3] at b3; rw [decide_eq_false h2] at b4
    have hv : r = 5 := by rw [← hr, if_neg (by omega), if_neg h1, if_neg (by omega), if_neg h3]
    subst hv; clear hr h1 h2 h3
    go_enter Tryd.func90, Tryd.ntmps90
    go_wp2
    go_ret
    exact ⟨rfl, rfl⟩

set_option maxRecDepth 100000 in
set_option maxHeartbeats 600000 in
theorem Rclass_D (a : Nat) (ha : a < 18446744073709551616) (w : World) : Calls Tryd.prog 40 #[.float .f64 a] w fun e w' => e = .returned (.int .i64 (classD a)) ∧ w = w' := by
  have SP := Lib.hid (fun w => Rsplit_D a ha w)
  have HF : Hid (fracD a < 4503599627370496) := Nat.mod_lt _ (by decide)
  unfold classD
  clear ha
  generalize fracD a = f at *
  generalize expD a = e at *
  generalize negD a = n at *
  have g1 : IntKind.u64.wrap (f : Int) = f := by rw [IntKind.wrap_u64]; have := HF.out; omega
  go_enter Tryd.func40, Tryd.ntmps40
  go_wp2_with fail
  refine (SP.out _).mono ?_; rintro e1 w1 ⟨rfl, rfl⟩
  go_wp2_with fail
  refine (Rclassify e f 2047 _).mono ?_; rintro e2 w2 ⟨rfl, rfl⟩
  go_wp2
  go_ret
  exact ⟨rfl, rfl⟩

set_option maxRecDepth 100000 in
set_option maxHeartbeats 600000 in
theorem Rclass_S (a : Nat) (ha : a < 4294967296) (w : World) : Calls Tryd.prog 31 #[.float .f32 a] w fun e w' => e = .returned (.int .i64 (classS a)) ∧ w = w' := by
  have SP := Lib.hid (fun w => Rsplit_S a ha w)
  have HF : Hid (fracS a < 8388608) := Nat.mod_lt _ (by decide)
  unfold classS
  clear ha
  generalize fracS a = f at *
  generalize expS a = e at *
  generalize negS a = n at *
  have g1 : IntKind.u64.wrap (f : Int) = f := by rw [IntKind.wrap_u64]; have := HF.out; omega
  go_enter Tryd.func31, Tryd.ntmps31
  go_wp2_with fail
  refine (SP.out _).mono ?_; rintro e1 w1 ⟨rfl, rfl⟩
  go_wp2_with fail
  refine (Rclassify e f 255 _).mono ?_; rintro e2 w2 ⟨rfl, rfl⟩
  go_wp2
  go_ret
  exact ⟨rfl, rfl⟩

set_option maxRecDepth 100000 in
set_option maxHeartbeats 600000 in
theorem Rfinite (a : Nat) (ha : a < 18446744073709551616) (w : World) : Calls Tryd.prog 97 #[.float .f64 a] w fun e w' => e = .returned (.bool (decide (2 < classD a))) ∧ w = w' := by
  have CL := Lib.hid (fun w => Rclass_D a ha w)
  clear ha
  generalize classD a = c at *
  go_enter Tryd.func97, Tryd.ntmps97
  go_wp2_with fail
  refine (CL.out _).mono ?_; rintro e1 w1 ⟨rfl, rfl⟩
  go_wp2
  go_ret
  exact ⟨ret_bool rfl, rfl⟩

set_option maxRecDepth 100000 in
set_option maxHeartbeats 600000 in
theorem Rkey_any (a : Nat) (ha : a < 18446744073709551616) (w : World) : Calls Tryd.prog 64 #[.float .f64 a] w fun e w' => e = .returned (.int .i64 (place a)) ∧ w = w' := by
  have HB := Lib.hid (fun w => Rbits_D a w)
  have HP := Lib.hid ha
  unfold place
  cases hn : nanD a
  · have hx : (FloatKind.f64.format.order a a != some .eq) = false := by rw [ne_self64]; exact hn
    rw [canonD_id hn] at HB
    rw [if_neg (by simp)]
    by_cases h : 9223372036854775808 ≤ a
    · rw [if_pos h]
      have e1 : ((a : Int) / 9223372036854775808 == 1) = true := by rw [beq_iff_eq]; omega
      have e2 : (a : Int) % 9223372036854775808 = ((a - 9223372036854775808 : Nat) : Int) := by omega
      have HQ := Lib.hid (show a - 9223372036854775808 < 9223372036854775808 by omega)
      clear ha hn h
      generalize a - 9223372036854775808 = q at *
      go_enter Tryd.func64, Tryd.ntmps64
      go_wp2_with fail
      refine (HB.out _).mono ?_; rintro e1 w1 ⟨rfl, rfl⟩
      go_wp2
      go_ret
      exact ⟨ret_int (by have := HQ.out; first | rfl | omega | (unfold wrap64; omega) | (simp only [wrap64, IntKind.wrap_i64]; omega)), rfl⟩
    · rw [if_neg h]
      have e1 : ((a : Int) / 9223372036854775808 == 1) = false := by rw [beq_eq_false_iff_ne]; omega
      have ew : IntKind.i64.wrap (a : Int) = a := by rw [IntKind.wrap_i64]; omega
      have HQ := Lib.hid h
      clear ha hn h
      go_enter Tryd.func64, Tryd.ntmps64
      go_wp2_with fail
      refine (HB.out _).mono ?_; rintro e1 w1 ⟨rfl, rfl⟩
      go_wp2
      go_ret
      exact ⟨ret_int (by have := HQ.out; first | rfl | omega | (unfold wrap64; omega) | (simp only [wrap64, IntKind.wrap_i64]; omega)), rfl⟩
  · have hx : (FloatKind.f64.format.order a a != some .eq) = true := by rw [ne_self64]; exact hn
    rw [canonD_nan hn] at HB
    rw [if_pos (by simp)]
    clear ha hn
    go_enter Tryd.func64, Tryd.ntmps64
    go_wp2_with fail
    refine (HB.out _).mono ?_; rintro e1 w1 ⟨rfl, rfl⟩
    go_wp2
    go_ret
    exact ⟨rfl, rfl⟩

set_option maxRecDepth 100000 in
set_option maxHeartbeats 600000 in
theorem RunkeyNan (k : Int) (hk : k = 9218868437227405313) (w : World) : Calls Tryd.prog 61 #[.int .i64 k] w fun e w' => e = .returned (.tuple #[.float .f64 9221120237041090561, .int .i64 0]) ∧ w = w' := by
  obtain rfl : k = 9218868437227405313 := hk
  go_enter Tryd.func61, Tryd.ntmps61
  go_wp2_with fail
  refine (Rnan_D _).mono ?_; rintro e1 w1 ⟨rfl, rfl⟩
  go_wp2
  go_ret2
  exact ⟨ret2 (v_float (by rfl)) rfl, rfl⟩

set_option maxRecDepth 100000 in
set_option maxHeartbeats 600000 in
theorem RunkeyHigh (k : Int) (hk : 9218868437227405313 < k) (w : World) : Calls Tryd.prog 61 #[.int .i64 k] w fun e w' => e = .returned (.tuple #[.float .f64 0, .int .i64 1]) ∧ w = w' := by
  have f1 : True → (k == 9218868437227405313) = false := fun _ => by rw [beq_eq_false_iff_ne]; omega
  have f2 : True → decide (k > 9218868437227405312) = true := fun _ => decide_eq_true (by omega)
  clear hk
  go_enter Tryd.func61, Tryd.ntmps61
  go_wp2
  go_ret2
  exact ⟨ret2 (v_float (by rfl)) rfl, rfl⟩

set_option maxRecDepth 100000 in
set_option maxHeartbeats 600000 in
theorem RunkeyLow (k : Int) (hk : k < -9218868437227405313) (w : World) : Calls Tryd.prog 61 #[.int .i64 k] w fun e w' => e = .returned (.tuple #[.float .f64 0, .int .i64 1]) ∧ w = w' := by
  have f1 : True → (k == 9218868437227405313) = false := fun _ => by rw [beq_eq_false_iff_ne]; omega
  have f2 : True → decide (k > 9218868437227405312) = false := fun _ => decide_eq_false (by omega)
  have f3 : True → decide (k < -9218868437227405313) = true := fun _ => decide_eq_true (by omega)
  clear hk
  go_enter Tryd.func61, Tryd.ntmps61
  go_wp2
  go_ret2
  exact ⟨ret2 (v_float (by rfl)) rfl, rfl⟩

set_option maxRecDepth 100000 in
set_option maxHeartbeats 600000 in
theorem RunkeyNeg (k : Int) (hk : k < 0) (hk2 : -9218868437227405313 ≤ k) (w : World) : Calls Tryd.prog 61 #[.int .i64 k] w fun e w' => e = .returned (.tuple #[.float .f64 ((-1 - k).toNat + 9223372036854775808), .int .i64 0]) ∧ w = w' := by
  have f1 : True → (k == 9218868437227405313) = false := fun _ => by rw [beq_eq_false_iff_ne]; omega
  have f2 : True → decide (k > 9218868437227405312) = false := fun _ => decide_eq_false (by omega)
  have f3 : True → decide (k < -9218868437227405313) = false := fun _ => decide_eq_false (by omega)
  have f4 : decide (k < 0) = true := decide_eq_true (by omega)
  obtain ⟨q, hq, hq2⟩ : ∃ q : Nat, -1 - k = q ∧ q < 9223372036854775808 := ⟨(-1 - k).toNat, by omega, by omega⟩
  have g1 : IntKind.i64.wrap (-1 - k) = q := by rw [IntKind.wrap_i64]; omega
  have g2 : IntKind.u64.wrap (q : Int) = q := by rw [IntKind.wrap_u64]; omega
  rw [show (-1 - k).toNat = q by omega]
  have HQ := Lib.hid (And.intro hq hq2)
  clear hk hk2 hq hq2
  go_enter Tryd.func61, Tryd.ntmps61
  go_wp2
  go_ret2
  exact ⟨ret2 (v_float (by have := HQ.out; rw [IntKind.wrap_u64]; omega)) rfl, rfl⟩

set_option maxRecDepth 100000 in
set_option maxHeartbeats 600000 in
theorem RunkeyPos (k : Int) (hk : 0 ≤ k) (hk2 : k ≤ 9218868437227405312) (w : World) : Calls Tryd.prog 61 #[.int .i64 k] w fun e w' => e = .returned (.tuple #[.float .f64 k.toNat, .int .i64 0]) ∧ w = w' := by
  have f1 : True → (k == 9218868437227405313) = false := fun _ => by rw [beq_eq_false_iff_ne]; omega
  have f2 : True → decide (k > 9218868437227405312) = false := fun _ => decide_eq_false (by omega)
  have f3 : True → decide (k < -9218868437227405313) = false := fun _ => decide_eq_false (by omega)
  have f4 : decide (k < 0) = false := decide_eq_false (by omega)
  obtain ⟨q, rfl⟩ : ∃ q : Nat, k = q := ⟨k.toNat, by omega⟩
  have g2 : IntKind.u64.wrap (q : Int) = q := by rw [IntKind.wrap_u64]; omega
  have HQ := Lib.hid (And.intro hk hk2)
  clear hk hk2
  go_enter Tryd.func61, Tryd.ntmps61
  go_wp2
  go_ret2
  exact ⟨ret2 (v_float (by have := HQ.out; first | rfl | omega)) rfl, rfl⟩

end Go.Proofs.YthjaponkbodooaaDoor
