/- Go's math over the library's own text: Abs, Signbit, IsInf, IsNaN, Copysign, Frexp, Ldexp: what they make of words; and in amounts. -/
import Derived.Test.YtmpcnhiklpahnaaDoorNum
import Derived.Test.YtmpcnhiklpahnaaDoorBase
namespace Go.Proofs.YtmpcnhiklpahnaaDoor
open Go.RowKit

@[go_sem] theorem mx_bits64 (a : Nat) (w : World) : (callFunc 36 #[.float .f64 a]).run Tryd.prog w = .ok (.value (.int .u64 a)) w := by kernel_rfl
@[go_sem] theorem mx_from64 (a : Int) (w : World) : (callFunc 46 #[.int .u64 a]).run Tryd.prog w = .ok (.value (.float .f64 a.toNat)) w := by kernel_rfl

theorem key_pos {r : Nat} (h : r < 9223372036854775808) : Fp.key64 r = r := by unfold Fp.key64; rw [if_neg (by omega), Nat.mod_eq_of_lt h]
theorem notnan {r : Nat} (h : r % 9223372036854775808 ≤ 9218868437227405312) : Fp.isNaN64 r = false := decide_eq_false (by omega)
theorem lt_small {r : Nat} (h : r < 9218868437227405312) : (FloatKind.f64.format.order r 4503599627370496 == some .lt) = decide (r < 4503599627370496) := by
  show (Ieee.double.order r 4503599627370496 == some .lt) = _
  rw [Fp.lt64 _ _ (notnan (by omega)) (notnan (by decide)), key_pos (by omega), key_pos (by decide)]
  exact decide_eq_decide.2 (by omega)
theorem eq_zero {r : Nat} (h : r % 9223372036854775808 ≤ 9218868437227405312) : (FloatKind.f64.format.order r 0 == some .eq) = decide (r % 9223372036854775808 = 0) := by
  show (Ieee.double.order r 0 == some .eq) = _
  rw [Fp.eq64 _ _ (notnan h) (notnan (by decide))]
  unfold Fp.key64
  refine decide_eq_decide.2 ?_
  split <;> omega
theorem gt_max {r : Nat} (h : r < 9223372036854775808) : (FloatKind.f64.format.order r 9218868437227405311 == some .gt) = decide (r = 9218868437227405312) := by
  show (Ieee.double.order r 9218868437227405311 == some .gt) = _
  by_cases hn : r ≤ 9218868437227405312
  · rw [Fp.gt64 _ _ (notnan (by omega)) (notnan (by decide)), key_pos h, key_pos (by decide)]
    exact decide_eq_decide.2 (by omega)
  · rw [Fp.order64_nan _ _ (.inl (decide_eq_true (by omega))), decide_eq_false (by omega)]; rfl
theorem ne_self {a : Nat} : (FloatKind.f64.format.order a a != some .eq) = decide (9218868437227405312 < a % 9223372036854775808) := by
  show (!(Ieee.double.order a a == some .eq)) = _
  rw [Fp.order64_self]; unfold Fp.isNaN64; simp

set_option maxRecDepth 100000 in
set_option maxHeartbeats 600000 in
theorem m_abs (a : Nat) (ha : a < 18446744073709551616) (w : World) : Calls Tryd.prog 69 #[.float .f64 a] w fun e w' => e = .returned (.float .f64 (a % 9223372036854775808)) ∧ w = w' := by
  have h := u64_unsign a ha
  generalize a % 9223372036854775808 = m at *
  clear ha
  go_enter Tryd.func69, Tryd.ntmps69
  go_wp2
  go_ret
  exact ⟨rfl, rfl⟩

set_option maxRecDepth 100000 in
set_option maxHeartbeats 600000 in
theorem m_signbit (a : Nat) (ha : a < 18446744073709551616) (w : World) : Calls Tryd.prog 70 #[.float .f64 a] w fun e w' => e = .returned (.bool (decide (9223372036854775808 ≤ a))) ∧ w = w' := by
  have h2 : decide (wrap64 (a : Int) < 0) = decide (9223372036854775808 ≤ a) := decide_eq_decide.2 (by unfold wrap64; omega)
  rw [← h2]
  clear ha h2
  go_enter Tryd.func70, Tryd.ntmps70
  go_wp2
  go_ret
  exact ⟨rfl, rfl⟩

set_option maxRecDepth 100000 in
set_option maxHeartbeats 600000 in
theorem m_isinf (a : Nat) (ha : a < 18446744073709551616) (w : World) : Calls Tryd.prog 67 #[.float .f64 a, .int .i64 0] w fun e w' => e = .returned (.bool (decide (a % 9223372036854775808 = 9218868437227405312))) ∧ w = w' := by
  have HA := Lib.hid (fun w => m_abs a ha w)
  have h := gt_max (r := a % 9223372036854775808) (by omega)
  rw [← h]
  generalize a % 9223372036854775808 = m at *
  clear ha h
  go_enter Tryd.func67, Tryd.ntmps67
  go_wp2_with fail
  refine (HA.out _).mono ?_; rintro e1 w1 ⟨rfl, rfl⟩
  go_wp2
  go_ret
  exact ⟨rfl, rfl⟩

set_option maxRecDepth 100000 in
set_option maxHeartbeats 600000 in
theorem m_isnan (a : Nat) (w : World) : Calls Tryd.prog 90 #[.float .f64 a] w fun e w' => e = .returned (.bool (decide (9218868437227405312 < a % 9223372036854775808))) ∧ w = w' := by
  have h := ne_self (a := a)
  rw [← h]
  clear h
  go_enter Tryd.func90, Tryd.ntmps90
  go_wp2
  go_ret
  exact ⟨rfl, rfl⟩

set_option maxRecDepth 100000 in
set_option maxHeartbeats 600000 in
theorem m_norm_high (r : Nat) (h : 4503599627370496 ≤ r) (h2 : r < 9218868437227405312) (w : World) : Calls Tryd.prog 91 #[.float .f64 r] w fun e w' => e = .returned (.tuple #[.float .f64 r, .int .i64 0]) ∧ w = w' := by
  have HA := Lib.hid (fun w => m_abs r (by omega) w)
  rw [Nat.mod_eq_of_lt (show r < 9223372036854775808 by omega)] at HA
  have hl := lt_small h2
  rw [decide_eq_false (by omega)] at hl
  clear h h2
  go_enter Tryd.func91, Tryd.ntmps91
  go_wp2_with fail
  refine (HA.out _).mono ?_; rintro e1 w1 ⟨rfl, rfl⟩
  go_wp2
  go_ret2
  exact ⟨rfl, rfl⟩

set_option maxRecDepth 100000 in
set_option maxHeartbeats 600000 in
theorem m_norm_low (r z : Nat) (h2 : r < 4503599627370496) (hz : Ieee.double.mul r 4841369599423283200 = some z) (w : World) : Calls Tryd.prog 91 #[.float .f64 r] w fun e w' => e = .returned (.tuple #[.float .f64 z, .int .i64 (-52)]) ∧ w = w' := by
  have HA := Lib.hid (fun w => m_abs r (by omega) w)
  rw [Nat.mod_eq_of_lt (show r < 9223372036854775808 by omega)] at HA
  have hl := lt_small (r := r) (by omega)
  rw [decide_eq_true h2] at hl
  have hm := fun t P w => run_float_arith (P := P) w .mul t .f64 _ _ _ hz
  clear h2
  go_enter Tryd.func91, Tryd.ntmps91
  go_wp2_with fail
  refine (HA.out _).mono ?_; rintro e1 w1 ⟨rfl, rfl⟩
  go_wp2
  go_ret2
  exact ⟨rfl, rfl⟩

/-- the fields of a word without a sign -/
theorem field_of (z : Nat) (h : z < 9218868437227405312) : bits .and .u64 ((z / 4503599627370496 : Nat) : Int) 2047 = ((z / 4503599627370496 : Nat) : Int) := by
  have := u64_mask 11 (by decide) (z / 4503599627370496) (by omega)
  rw [show ((2 ^ 11 - 1 : Nat) : Int) = 2047 from rfl] at this
  rw [this, Nat.mod_eq_of_lt (by omega)]
theorem field_of_i (z : Nat) (h : z < 9218868437227405312) : bits .and .i64 ((z / 4503599627370496 : Nat) : Int) 2047 = ((z / 4503599627370496 : Nat) : Int) := by
  obtain ⟨q, hq⟩ : ∃ q, z / 4503599627370496 = q := ⟨_, rfl⟩
  have hl : q < 2048 := by omega
  rw [hq]
  have : ∀ n : Fin 2048, bits .and .i64 ((n.val : Nat) : Int) 2047 = ((n.val : Nat) : Int) := by decide +kernel
  exact this ⟨q, hl⟩
theorem frac_of (z : Nat) (h : z < 9218868437227405312) : bits .andNot .u64 (z : Int) 9218868437227405312 = ((z % 4503599627370496 : Nat) : Int) := by
  rw [show (9218868437227405312 : Int) = ((9218868437227405312 : Nat) : Int) from rfl, u64_andNot_nat z 9218868437227405312 (by omega) (by decide)]
  congr 1
  apply Nat.eq_of_testBit_eq
  intro i
  rw [show 18446744073709551615 - 9218868437227405312 = 2 ^ 63 + (2 ^ 52 - 1) by decide, show (4503599627370496 : Nat) = 2 ^ 52 by decide, Nat.testBit_and, Nat.testBit_mod_two_pow]
  by_cases h1 : i < 63
  · have k : ∀ j, j < 63 → Nat.testBit (2 ^ 63 + (2 ^ 52 - 1)) j = decide (j < 52) := by decide +kernel
    rw [k i h1, Bool.and_comm]
  · have : z.testBit i = false := Nat.testBit_lt_two_pow (Nat.lt_of_lt_of_le h (Nat.le_trans (show 9218868437227405312 ≤ 2 ^ 63 by decide) (Nat.pow_le_pow_right (by decide) (by omega))))
    rw [this]; simp
theorem join_of (q x : Nat) (hq : q < 2048) (hx : x < 4503599627370496) : bits .or .u64 (x : Int) ((q * 4503599627370496 : Nat) : Int) = ((q * 4503599627370496 + x : Nat) : Int) := by
  rw [u64_or_nat x (q * 4503599627370496) (by omega) (by omega), Nat.or_comm, nat_join 52 (q * 4503599627370496) x (by omega) hx]

set_option maxRecDepth 100000 in
set_option maxHeartbeats 600000 in
theorem m_frexp_high (z : Nat) (h : 4503599627370496 ≤ z) (hz : z < 9218868437227405312) (w : World) : Calls Tryd.prog 83 #[.float .f64 z] w fun e w' => e = .returned (.tuple #[.float .f64 (4602678819172646912 + z % 4503599627370496), .int .i64 (((z / 4503599627370496 : Nat) : Int) - 1022)]) ∧ w = w' := by
  have HI := Lib.hid (fun w => m_isinf z (by omega) w)
  have HN := Lib.hid (fun w => m_isnan z w)
  rw [decide_eq_false (by omega)] at HI HN
  have hz0 := eq_zero (r := z) (by omega)
  rw [decide_eq_false (by omega)] at hz0
  have NO := Lib.hid (fun w => m_norm_high z h (by omega) w)
  have f1 := field_of z hz
  have f2 := frac_of z hz
  have f3 := join_of 1022 (z % 4503599627370496) (by decide) (Nat.mod_lt _ (by decide))
  rw [show ((1022 * 4503599627370496 + z % 4503599627370496 : Nat)) = 4602678819172646912 + z % 4503599627370496 by omega, show ((1022 * 4503599627370496 : Nat) : Int) = 4602678819172646912 from rfl] at f3
  have s1 : ((z : Int) / 4503599627370496) = ((z / 4503599627370496 : Nat) : Int) := by omega
  have g1 : IntKind.i64.wrap (((z / 4503599627370496 : Nat) : Int) - 1023) = ((z / 4503599627370496 : Nat) : Int) - 1023 := by rw [IntKind.wrap_i64]; omega
  have g2 : IntKind.i64.wrap (((z / 4503599627370496 : Nat) : Int) - 1023 + 1) = ((z / 4503599627370496 : Nat) : Int) - 1023 + 1 := by rw [IntKind.wrap_i64]; omega
  have g3 : IntKind.i64.wrap ((0 : Int) + (((z / 4503599627370496 : Nat) : Int) - 1023 + 1)) = ((z / 4503599627370496 : Nat) : Int) - 1022 := by rw [IntKind.wrap_i64]; omega
  have g4 : IntKind.i64.wrap ((z / 4503599627370496 : Nat) : Int) = ((z / 4503599627370496 : Nat) : Int) := by rw [IntKind.wrap_i64]; omega
  generalize z / 4503599627370496 = q at *
  obtain ⟨y, hy⟩ : ∃ y, 4602678819172646912 + z % 4503599627370496 = y := ⟨_, rfl⟩
  rw [hy] at f3 ⊢
  generalize z % 4503599627370496 = x at *
  have HZ := Lib.hid hz
  clear hz hy h
  go_enter Tryd.func83, Tryd.ntmps83
  go_wp2_with fail
  refine (HI.out _).mono ?_; rintro e1 w1 ⟨rfl, rfl⟩
  go_wp2_with fail
  refine (HN.out _).mono ?_; rintro e2 w2 ⟨rfl, rfl⟩
  go_wp2_with fail
  refine (NO.out _).mono ?_; rintro e3 w3 ⟨rfl, rfl⟩
  go_wp2
  go_ret2
  exact ⟨ret2 rfl (v_int (by omega)), rfl⟩

set_option maxRecDepth 100000 in
set_option maxHeartbeats 600000 in
theorem m_frexp_low (r z : Nat) (h : 0 < r) (h2 : r < 4503599627370496) (hm : Ieee.double.mul r 4841369599423283200 = some z) (hz : z < 9218868437227405312) (w : World) : Calls Tryd.prog 83 #[.float .f64 r] w fun e w' => e = .returned (.tuple #[.float .f64 (4602678819172646912 + z % 4503599627370496), .int .i64 (((z / 4503599627370496 : Nat) : Int) - 1074)]) ∧ w = w' := by
  have HI := Lib.hid (fun w => m_isinf r (by omega) w)
  have HN := Lib.hid (fun w => m_isnan r w)
  rw [decide_eq_false (by omega)] at HI HN
  have hz0 := eq_zero (r := r) (by omega)
  rw [decide_eq_false (by omega)] at hz0
  have NO := Lib.hid (fun w => m_norm_low r z h2 hm w)
  have f1 := field_of z hz
  have f2 := frac_of z hz
  have f3 := join_of 1022 (z % 4503599627370496) (by decide) (Nat.mod_lt _ (by decide))
  rw [show ((1022 * 4503599627370496 + z % 4503599627370496 : Nat)) = 4602678819172646912 + z % 4503599627370496 by omega, show ((1022 * 4503599627370496 : Nat) : Int) = 4602678819172646912 from rfl] at f3
  have s1 : ((z : Int) / 4503599627370496) = ((z / 4503599627370496 : Nat) : Int) := by omega
  have g1 : IntKind.i64.wrap (((z / 4503599627370496 : Nat) : Int) - 1023) = ((z / 4503599627370496 : Nat) : Int) - 1023 := by rw [IntKind.wrap_i64]; omega
  have g2 : IntKind.i64.wrap (((z / 4503599627370496 : Nat) : Int) - 1023 + 1) = ((z / 4503599627370496 : Nat) : Int) - 1023 + 1 := by rw [IntKind.wrap_i64]; omega
  have g3 : IntKind.i64.wrap ((-52 : Int) + (((z / 4503599627370496 : Nat) : Int) - 1023 + 1)) = ((z / 4503599627370496 : Nat) : Int) - 1074 := by rw [IntKind.wrap_i64]; omega
  have g4 : IntKind.i64.wrap ((z / 4503599627370496 : Nat) : Int) = ((z / 4503599627370496 : Nat) : Int) := by rw [IntKind.wrap_i64]; omega
  generalize z / 4503599627370496 = q at *
  obtain ⟨y, hy⟩ : ∃ y, 4602678819172646912 + z % 4503599627370496 = y := ⟨_, rfl⟩
  rw [hy] at f3 ⊢
  generalize z % 4503599627370496 = x at *
  have HZ := Lib.hid hz
  clear hz hy h h2 hm
  go_enter Tryd.func83, Tryd.ntmps83
  go_wp2_with fail
  refine (HI.out _).mono ?_; rintro e1 w1 ⟨rfl, rfl⟩
  go_wp2_with fail
  refine (HN.out _).mono ?_; rintro e2 w2 ⟨rfl, rfl⟩
  go_wp2_with fail
  refine (NO.out _).mono ?_; rintro e3 w3 ⟨rfl, rfl⟩
  go_wp2
  go_ret2
  exact ⟨ret2 rfl (v_int (by omega)), rfl⟩

end Go.Proofs.YtmpcnhiklpahnaaDoor
