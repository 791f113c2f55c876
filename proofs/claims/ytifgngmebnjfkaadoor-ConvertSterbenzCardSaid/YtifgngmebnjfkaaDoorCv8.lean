/- Package convert: Whole, Int, Uint: walks, and what they come to. -/
import Derived.Test.YtifgngmebnjfkaaDoorCv7
namespace Go.Proofs.YtifgngmebnjfkaaDoor
open Go.RowKit

set_option maxRecDepth 100000 in
set_option maxHeartbeats 600000 in
theorem whole_bad (a : Nat) (mode : Int) (KN : Hid (∀ w, Calls Tryd.prog 66 #[.int .i64 mode] w fun e' w' => e' = .returned (.bool false) ∧ w = w')) (w : World) : Calls Tryd.prog 37 #[.float .f64 a, .int .i64 mode] w fun e' w' => e' = .returned (.tuple #[.float .f64 0, .int .i64 0, .int .i64 20]) ∧ Within w w' := by
  go_enter Tryd.func37, Tryd.ntmps37
  go_wp2_with fail
  refine (KN.out _).mono ?_; rintro e1 w1 ⟨rfl, rfl⟩
  go_wp2
  go_ret3
  exact ⟨rfl, (by repeat (first | with_reducible exact Within.refl _ | with_reducible assumption | with_reducible refine Within.alloc ?_ _ | with_reducible refine Within.drew ?_ | with_reducible refine Within.setCell ?_ (by first | (simp; done) | (simp; omega)) _ | with_reducible refine Within.trans ?_ (by assumption)))⟩

set_option maxRecDepth 100000 in
set_option maxHeartbeats 600000 in
theorem whole_nan (a c : Nat) (mode : Int) (KN : Hid (∀ w, Calls Tryd.prog 66 #[.int .i64 mode] w fun e' w' => e' = .returned (.bool true) ∧ w = w')) (hx : (FloatKind.f64.format.order a a != some .eq) = true) (CA : Hid (∀ w, Calls Tryd.prog 75 #[.float .f64 a] w fun e' w' => e' = .returned (.float .f64 c) ∧ Within w w')) (w : World) : Calls Tryd.prog 37 #[.float .f64 a, .int .i64 mode] w fun e' w' => e' = .returned (.tuple #[.float .f64 c, .int .i64 0, .int .i64 0]) ∧ Within w w' := by
  go_enter Tryd.func37, Tryd.ntmps37
  go_wp2_with fail
  refine (KN.out _).mono ?_; rintro e1 w1 ⟨rfl, rfl⟩
  go_wp2_with fail
  refine (CA.out _).mono ?_; rintro e2 w2 ⟨rfl, hb2⟩
  go_wp2
  go_ret3
  exact ⟨rfl, (by repeat (first | with_reducible exact Within.refl _ | with_reducible assumption | with_reducible refine Within.alloc ?_ _ | with_reducible refine Within.drew ?_ | with_reducible refine Within.setCell ?_ (by first | (simp; done) | (simp; omega)) _ | with_reducible refine Within.trans ?_ (by assumption)))⟩

set_option maxRecDepth 100000 in
set_option maxHeartbeats 600000 in
theorem whole_plain (a : Nat) (mode : Int) (KN : Hid (∀ w, Calls Tryd.prog 66 #[.int .i64 mode] w fun e' w' => e' = .returned (.bool true) ∧ w = w')) (hx : (FloatKind.f64.format.order a a != some .eq) = false) (PL : Hid (∀ w, Calls Tryd.prog 68 #[.float .f64 a] w fun e' w' => e' = .returned (.bool true) ∧ w = w')) (w : World) : Calls Tryd.prog 37 #[.float .f64 a, .int .i64 mode] w fun e' w' => e' = .returned (.tuple #[.float .f64 a, .int .i64 0, .int .i64 0]) ∧ Within w w' := by
  go_enter Tryd.func37, Tryd.ntmps37
  go_wp2_with fail
  refine (KN.out _).mono ?_; rintro e1 w1 ⟨rfl, rfl⟩
  go_wp2_with fail
  refine (PL.out _).mono ?_; rintro e2 w2 ⟨rfl, rfl⟩
  go_wp2
  go_ret3
  exact ⟨rfl, (by repeat (first | with_reducible exact Within.refl _ | with_reducible assumption | with_reducible refine Within.alloc ?_ _ | with_reducible refine Within.drew ?_ | with_reducible refine Within.setCell ?_ (by first | (simp; done) | (simp; omega)) _ | with_reducible refine Within.trans ?_ (by assumption)))⟩

set_option maxRecDepth 100000 in
set_option maxHeartbeats 600000 in
theorem whole_is (a m : Nat) (b : Bool) (e mode : Int) (KN : Hid (∀ w, Calls Tryd.prog 66 #[.int .i64 mode] w fun e' w' => e' = .returned (.bool true) ∧ w = w')) (hx : (FloatKind.f64.format.order a a != some .eq) = false) (PL : Hid (∀ w, Calls Tryd.prog 68 #[.float .f64 a] w fun e' w' => e' = .returned (.bool false) ∧ w = w')) (TK : Hid (∀ w, Calls Tryd.prog 69 #[.float .f64 a] w fun e' w' => e' = .returned (.agg #[.bool b, .int .u64 m, .int .i64 e]) ∧ Within w w')) (he : decide (e ≥ 0) = true) (w : World) : Calls Tryd.prog 37 #[.float .f64 a, .int .i64 mode] w fun e' w' => e' = .returned (.tuple #[.float .f64 a, .int .i64 0, .int .i64 0]) ∧ Within w w' := by
  have he' : decide (0 ≤ e) = true := by simpa using he
  go_enter Tryd.func37, Tryd.ntmps37
  go_wp2_with fail
  refine (KN.out _).mono ?_; rintro e1 w1 ⟨rfl, rfl⟩
  go_wp2_with fail
  refine (PL.out _).mono ?_; rintro e2 w2 ⟨rfl, rfl⟩
  go_wp2_with fail
  refine (TK.out _).mono ?_; rintro e3 w3 ⟨rfl, hb3⟩
  go_wp2
  go_ret3
  exact ⟨rfl, (by repeat (first | with_reducible exact Within.refl _ | with_reducible assumption | with_reducible refine Within.alloc ?_ _ | with_reducible refine Within.drew ?_ | with_reducible refine Within.setCell ?_ (by first | (simp; done) | (simp; omega)) _ | with_reducible refine Within.trans ?_ (by assumption)))⟩

set_option maxRecDepth 100000 in
set_option maxHeartbeats 600000 in
theorem whole_cut_false (a m q x z s : Nat) (b : Bool) (e mode : Int) (KN : Hid (∀ w, Calls Tryd.prog 66 #[.int .i64 mode] w fun e' w' => e' = .returned (.bool true) ∧ w = w')) (hx : (FloatKind.f64.format.order a a != some .eq) = false) (PL : Hid (∀ w, Calls Tryd.prog 68 #[.float .f64 a] w fun e' w' => e' = .returned (.bool false) ∧ w = w')) (TK : Hid (∀ w, Calls Tryd.prog 69 #[.float .f64 a] w fun e' w' => e' = .returned (.agg #[.bool b, .int .u64 m, .int .i64 e]) ∧ Within w w')) (he : e = -(s : Int)) (hs : 0 < s) (hs2 : s ≤ 3000) (DR : Hid (∀ w, Calls Tryd.prog 80 #[.agg #[.bool b, .int .u64 m, .int .i64 e], .int .i64 (s : Int), .int .i64 mode] w fun e' w' => e' = .returned (.tuple #[.int .u64 q, .bool false]) ∧ Within w w')) (hcv : floatOfInt .f64 (q : Int) = x) (SG : Hid (∀ w, Calls Tryd.prog 81 #[.float .f64 x, .bool b] w fun e' w' => e' = .returned (.float .f64 z) ∧ w = w')) (w : World) : Calls Tryd.prog 37 #[.float .f64 a, .int .i64 mode] w fun e' w' => e' = .returned (.tuple #[.float .f64 z, .int .i64 0, .int .i64 0]) ∧ Within w w' := by
  subst he
  have d1 : decide (-(s : Int) ≥ 0) = false := decide_eq_false (by omega)
  have d1' : decide (0 ≤ -(s : Int)) = false := decide_eq_false (by omega)
  have g1 : IntKind.i64.wrap (- -(s : Int)) = (s : Int) := by rw [IntKind.wrap_i64]; omega
  have g2 : - -(s : Int) = (s : Int) := by omega
  have hcv' := fun (w : World) => run_convert_int_float (P := Tryd.prog) w 38 40 .u64 .f64 (q : Int) (by kernel_rfl) (by kernel_rfl)
  rw [hcv] at hcv'
  clear hcv
  go_enter Tryd.func37, Tryd.ntmps37
  go_wp2_with fail
  refine (KN.out _).mono ?_; rintro e1 w1 ⟨rfl, rfl⟩
  go_wp2_with fail
  refine (PL.out _).mono ?_; rintro e2 w2 ⟨rfl, rfl⟩
  go_wp2_with fail
  refine (TK.out _).mono ?_; rintro e3 w3 ⟨rfl, hb3⟩
  have t0 : w3.heap.size < (w3.alloc (.cells #[.bool b, .int .u64 m, .int .i64 (-(s : Int))] 99)).heap.size := by simp
  go_wp2_with fail
  refine (DR.out _).mono ?_; rintro e4 w4 ⟨rfl, hb4⟩
  have r0 : w4.cell? ⟨w3.heap.size, 0, none⟩ = some (.bool b) := (hb4.cells _ _ (by simp)).trans (by simp)
  go_wp2_with fail
  refine (SG.out _).mono ?_; rintro e5 w5 ⟨rfl, rfl⟩
  go_wp2
  go_ret3
  exact ⟨rfl, (by repeat (first | with_reducible exact Within.refl _ | with_reducible assumption | with_reducible refine Within.alloc ?_ _ | with_reducible refine Within.drew ?_ | with_reducible refine Within.setCell ?_ (by first | (simp; done) | (simp; omega)) _ | with_reducible refine Within.trans ?_ (by assumption)))⟩

set_option maxRecDepth 100000 in
set_option maxHeartbeats 600000 in
theorem whole_cut_true (a m q x z s : Nat) (b : Bool) (e mode : Int) (KN : Hid (∀ w, Calls Tryd.prog 66 #[.int .i64 mode] w fun e' w' => e' = .returned (.bool true) ∧ w = w')) (hx : (FloatKind.f64.format.order a a != some .eq) = false) (PL : Hid (∀ w, Calls Tryd.prog 68 #[.float .f64 a] w fun e' w' => e' = .returned (.bool false) ∧ w = w')) (TK : Hid (∀ w, Calls Tryd.prog 69 #[.float .f64 a] w fun e' w' => e' = .returned (.agg #[.bool b, .int .u64 m, .int .i64 e]) ∧ Within w w')) (he : e = -(s : Int)) (hs : 0 < s) (hs2 : s ≤ 3000) (DR : Hid (∀ w, Calls Tryd.prog 80 #[.agg #[.bool b, .int .u64 m, .int .i64 e], .int .i64 (s : Int), .int .i64 mode] w fun e' w' => e' = .returned (.tuple #[.int .u64 q, .bool true]) ∧ Within w w')) (hcv : floatOfInt .f64 (q : Int) = x) (SG : Hid (∀ w, Calls Tryd.prog 81 #[.float .f64 x, .bool b] w fun e' w' => e' = .returned (.float .f64 z) ∧ w = w')) (w : World) : Calls Tryd.prog 37 #[.float .f64 a, .int .i64 mode] w fun e' w' => e' = .returned (.tuple #[.float .f64 z, .int .i64 1, .int .i64 0]) ∧ Within w w' := by
  subst he
  have d1 : decide (-(s : Int) ≥ 0) = false := decide_eq_false (by omega)
  have d1' : decide (0 ≤ -(s : Int)) = false := decide_eq_false (by omega)
  have g1 : IntKind.i64.wrap (- -(s : Int)) = (s : Int) := by rw [IntKind.wrap_i64]; omega
  have g2 : - -(s : Int) = (s : Int) := by omega
  have hcv' := fun (w : World) => run_convert_int_float (P := Tryd.prog) w 38 40 .u64 .f64 (q : Int) (by kernel_rfl) (by kernel_rfl)
  rw [hcv] at hcv'
  clear hcv
  go_enter Tryd.func37, Tryd.ntmps37
  go_wp2_with fail
  refine (KN.out _).mono ?_; rintro e1 w1 ⟨rfl, rfl⟩
  go_wp2_with fail
  refine (PL.out _).mono ?_; rintro e2 w2 ⟨rfl, rfl⟩
  go_wp2_with fail
  refine (TK.out _).mono ?_; rintro e3 w3 ⟨rfl, hb3⟩
  have t0 : w3.heap.size < (w3.alloc (.cells #[.bool b, .int .u64 m, .int .i64 (-(s : Int))] 99)).heap.size := by simp
  go_wp2_with fail
  refine (DR.out _).mono ?_; rintro e4 w4 ⟨rfl, hb4⟩
  have r0 : w4.cell? ⟨w3.heap.size, 0, none⟩ = some (.bool b) := (hb4.cells _ _ (by simp)).trans (by simp)
  go_wp2_with fail
  refine (SG.out _).mono ?_; rintro e5 w5 ⟨rfl, rfl⟩
  go_wp2
  go_ret3
  exact ⟨rfl, (by repeat (first | with_reducible exact Within.refl _ | with_reducible assumption | with_reducible refine Within.alloc ?_ _ | with_reducible refine Within.drew ?_ | with_reducible refine Within.setCell ?_ (by first | (simp; done) | (simp; omega)) _ | with_reducible refine Within.trans ?_ (by assumption)))⟩

/-! what it comes to -/
/-- how many digits of a number lie below 1 -/
def dLow (a : Nat) : Nat := 1126 - (magD a).log2
def hWord (a : Nat) (mode : Int) : Nat :=
  if ¬ (0 ≤ mode ∧ mode ≤ 4) then 0
  else if 9218868437227405312 < a % 9223372036854775808 then canonD a
  else if a % 9223372036854775808 = 0 ∨ a % 9223372036854775808 = 9218868437227405312 then a
  else if 1126 ≤ (magD a).log2 then a
  else Fp.num Ieee.double false (cutQ (top53 (magD a)) (dLow a) (ngD a) mode * 2 ^ Fp.deep Ieee.double) + sgnD (ngD a)
def hFlags (a : Nat) (mode : Int) : Int :=
  if ¬ (0 ≤ mode ∧ mode ≤ 4) then 0
  else if 9218868437227405312 < a % 9223372036854775808 then 0
  else if a % 9223372036854775808 = 0 ∨ a % 9223372036854775808 = 9218868437227405312 then 0
  else if 1126 ≤ (magD a).log2 then 0
  else if top53 (magD a) % 2 ^ dLow a ≠ 0 then 1 else 0
theorem cutQ_le {m s : Nat} (neg : Bool) (mode : Int) (hm : m < 9007199254740992) (hs : 1 ≤ s) : cutQ m s neg mode ≤ 4503599627370496 := by
  unfold cutQ
  have h1 : (goes m s neg mode).toNat ≤ 1 := by cases goes m s neg mode <;> decide
  have h2 : m / 2 ^ s ≤ m / 2 := Nat.div_le_div_left (by have := Nat.pow_le_pow_right (n := 2) (by decide) hs; omega) (by decide)
  omega

theorem Whole_any (a : Nat) (mode : Int) (ha : a < 18446744073709551616) (w : World) : Calls Tryd.prog 37 #[.float .f64 a, .int .i64 mode] w fun e' w' => e' = .returned (.tuple #[.float .f64 (hWord a mode), .int .i64 (hFlags a mode), .int .i64 (nErr mode)]) ∧ Within w w' := by
  have KN := Lib.hid (fun w => known_any mode w)
  unfold hWord hFlags nErr
  by_cases hmode : 0 ≤ mode ∧ mode ≤ 4
  · rw [decide_eq_true hmode] at KN
    have hm' : ¬¬(0 ≤ mode ∧ mode ≤ 4) := fun h => h hmode
    rw [if_neg hm', if_neg hm', if_pos hmode]
    have hx := ne_self (a := a)
    by_cases hn : 9218868437227405312 < a % 9223372036854775808
    · rw [decide_eq_true hn] at hx
      rw [if_pos hn, if_pos hn]
      exact whole_nan a _ mode KN hx (Lib.hid fun w => Canon_D a ha w) w
    rw [decide_eq_false hn] at hx
    rw [if_neg hn, if_neg hn]
    have PL := Lib.hid (fun w => plain_any a ha (by omega) w)
    by_cases hz : a % 9223372036854775808 = 0 ∨ a % 9223372036854775808 = 9218868437227405312
    · rw [decide_eq_true hz] at PL
      rw [if_pos hz, if_pos hz]
      exact whole_plain a mode KN hx PL w
    rw [if_neg hz, if_neg hz]
    rw [decide_eq_false hz] at PL
    have h0 : magD a ≠ 0 := fun h => hz (.inl (magD_zero.1 h))
    obtain ⟨t1, t2, t3, _⟩ := top53_bounds h0 (magD_rep (by omega))
    have TK := Lib.hid (fun w => take_any a (magD a) ha h0 (by omega) rfl w)
    by_cases he : 1126 ≤ (magD a).log2
    · rw [if_pos he, if_pos he]
      exact whole_is a _ _ _ mode KN hx PL TK (decide_eq_true (by omega)) w
    rw [if_neg he, if_neg he]
    have hs : dLow a = 1126 - (magD a).log2 := rfl
    have DR := Lib.hid (fun w => drop_down (ngD a) (top53 (magD a)) (dLow a) (((magD a).log2 : Int) - 1126) mode (by omega) (by omega) (by omega) hmode w)
    have hq := cutQ_le (ngD a) mode t2 (show 1 ≤ dLow a by omega)
    have hfi := float_int (q := cutQ (top53 (magD a)) (dLow a) (ngD a) mode) (by omega)
    have SG := Lib.hid (fun w => signed_any (ngD a) (Nat.lt_trans (num_lt hfi.2) (by decide)) w)
    by_cases hl : top53 (magD a) % 2 ^ dLow a ≠ 0
    · rw [decide_eq_true hl] at DR
      rw [if_pos hl]
      exact whole_cut_true a _ _ _ _ (dLow a) _ _ mode KN hx PL TK (by omega) (by omega) (by omega) DR hfi.1 SG w
    · rw [decide_eq_false hl] at DR
      rw [if_neg hl]
      exact whole_cut_false a _ _ _ _ (dLow a) _ _ mode KN hx PL TK (by omega) (by omega) (by omega) DR hfi.1 SG w
  · rw [decide_eq_false hmode] at KN
    rw [if_pos hmode, if_pos hmode, if_neg hmode]
    exact whole_bad a mode KN w

set_option maxRecDepth 100000 in
set_option maxHeartbeats 600000 in
theorem fits_8 (w : World) : Calls Tryd.prog 78 #[.int .i64 8] w fun e w' => e = .returned (.bool true) ∧ w = w' := by
  go_enter Tryd.func78, Tryd.ntmps78
  go_wp2
  refine wp_loop_rounds 1 ?_
  rw [rounds_succ]
  go_wp2
  go_ret
  exact ⟨rfl, rfl⟩

set_option maxRecDepth 100000 in
set_option maxHeartbeats 600000 in
theorem fits_16 (w : World) : Calls Tryd.prog 78 #[.int .i64 16] w fun e w' => e = .returned (.bool true) ∧ w = w' := by
  go_enter Tryd.func78, Tryd.ntmps78
  go_wp2
  refine wp_loop_rounds 2 ?_
  rw [rounds_succ]
  go_wp2
  rw [rounds_succ]
  go_wp2
  go_ret
  exact ⟨rfl, rfl⟩

set_option maxRecDepth 100000 in
set_option maxHeartbeats 600000 in
theorem fits_32 (w : World) : Calls Tryd.prog 78 #[.int .i64 32] w fun e w' => e = .returned (.bool true) ∧ w = w' := by
  go_enter Tryd.func78, Tryd.ntmps78
  go_wp2
  refine wp_loop_rounds 3 ?_
  rw [rounds_succ]
  go_wp2
  rw [rounds_succ]
  go_wp2
  rw [rounds_succ]
  go_wp2
  go_ret
  exact ⟨rfl, rfl⟩

set_option maxRecDepth 100000 in
set_option maxHeartbeats 600000 in
theorem fits_64 (w : World) : Calls Tryd.prog 78 #[.int .i64 64] w fun e w' => e = .returned (.bool true) ∧ w = w' := by
  go_enter Tryd.func78, Tryd.ntmps78
  go_wp2
  refine wp_loop_rounds 4 ?_
  rw [rounds_succ]
  go_wp2
  rw [rounds_succ]
  go_wp2
  rw [rounds_succ]
  go_wp2
  rw [rounds_succ]
  go_wp2
  go_ret
  exact ⟨rfl, rfl⟩

set_option maxRecDepth 100000 in
set_option maxHeartbeats 600000 in
theorem fits_no (width : Int) (b1 : (width == 8) = false) (b2 : (width == 16) = false) (b3 : (width == 32) = false) (b4 : (width == 64) = false) (w : World) : Calls Tryd.prog 78 #[.int .i64 width] w fun e w' => e = .returned (.bool false) ∧ w = w' := by
  go_enter Tryd.func78, Tryd.ntmps78
  go_wp2
  refine wp_loop_rounds 5 ?_
  rw [rounds_succ]
  go_wp2
  rw [rounds_succ]
  go_wp2
  rw [rounds_succ]
  go_wp2
  rw [rounds_succ]
  go_wp2
  rw [rounds_succ]
  go_wp2
  go_ret
  exact ⟨rfl, rfl⟩

end Go.Proofs.YtifgngmebnjfkaaDoor
