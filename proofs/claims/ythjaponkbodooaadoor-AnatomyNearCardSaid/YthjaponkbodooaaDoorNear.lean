/- AnatomyNear: between a number and its Next there is none; Prev undoes Next: the walk. -/
import Derived.Test.YthjaponkbodooaaDoorRef5
namespace Go.Proofs.YthjaponkbodooaaDoor
open Go.RowKit

theorem gt_max (a : Nat) (ha : a < 18446744073709551616) (hn : nanD a = false) : (FloatKind.f64.format.order a 9218868437227405311 == some .gt) = decide (a = 9218868437227405312) := by
  show (Ieee.double.order a 9218868437227405311 == some .gt) = _
  have := nanD_false hn
  rw [Fp.gt64 a _ hn (by decide), Bool.eq_iff_iff, decide_eq_true_iff, decide_eq_true_iff]
  unfold Fp.key64; rw [if_neg (by decide)]; split <;> omega

set_option maxRecDepth 100000 in
set_option maxHeartbeats 600000 in
theorem isInf_pos (a : Nat) (ha : a < 18446744073709551616) (hn : nanD a = false) (w : World) : Calls Tryd.prog 67 #[.float .f64 a, .int .i64 1] w fun e w' => e = .returned (.bool (decide (a = 9218868437227405312))) ∧ w = w' := by
  have h := gt_max a ha hn
  generalize decide (a = 9218868437227405312) = v at *
  clear ha hn
  go_enter Tryd.func67, Tryd.ntmps67
  go_wp2
  go_ret
  exact ⟨ret_bool (by first | rfl | exact h), rfl⟩

set_option maxRecDepth 100000 in
set_option maxHeartbeats 600000 in
theorem isInf_neg (a : Nat) (ha : a < 18446744073709551616) (hn : nanD a = false) (w : World) : Calls Tryd.prog 67 #[.float .f64 a, .int .i64 (-1)] w fun e w' => e = .returned (.bool (decide (a = 18442240474082181120))) ∧ w = w' := by
  have n1 := neg64 a ha
  have h := gt_max (turnD a) (turnD_lt a) (by have := nanD_false hn; unfold nanD turnD; exact decide_eq_false (by omega))
  rw [show decide (turnD a = 9218868437227405312) = decide (a = 18442240474082181120) by rw [Bool.eq_iff_iff, decide_eq_true_iff, decide_eq_true_iff]; unfold turnD; omega] at h
  generalize turnD a = t at *
  generalize decide (a = 18442240474082181120) = v at *
  clear ha hn
  go_enter Tryd.func67, Tryd.ntmps67
  go_wp2
  go_ret
  exact ⟨ret_bool (by first | rfl | exact h), rfl⟩

theorem min_run (x y : Nat) (hx : x < 9218868437227405312) (hy : y < 9218868437227405312) (w : World) :
    (callFunc 109 #[.float .f64 x, .float .f64 y]).run Tryd.prog w = .ok (.value (.float .f64 (if x < y then x else y))) w := by
  have h0 : (callFunc 109 #[.float .f64 x, .float .f64 y]).run Tryd.prog w = ((Go.Extern.MathDim.pick "math.archMin" true .lt #[.float .f64 x, .float .f64 y]).run Tryd.prog w).andThen fun v w' => .ok (.value v) w' := by kernel_rfl
  rw [h0]
  have e1 : Fp.rg Ieee.double x = x := by rw [Fp.rg64]; omega
  have e2 : Fp.rg Ieee.double y = y := by rw [Fp.rg64]; omega
  have s1 : Fp.sg Ieee.double x = false := by rw [Fp.sg64, show x / 9223372036854775808 = 0 by omega]; rfl
  have s2 : Fp.sg Ieee.double y = false := by rw [Fp.sg64, show y / 9223372036854775808 = 0 by omega]; rfl
  obtain ⟨m, i, r1, _, u1⟩ := Fp.read_fin Ieee.double x (by rw [e1, Fp.dI]; exact hx)
  obtain ⟨n, j, r2, _, u2⟩ := Fp.read_fin Ieee.double y (by rw [e2, Fp.dI]; exact hy)
  have ho : (Ieee.double.order x y == some .lt) = decide (x < y) := by
    rw [Fp.lt64 x y (decide_eq_false (by omega)) (decide_eq_false (by omega)), Bool.eq_iff_iff, decide_eq_true_iff, decide_eq_true_iff]
    unfold Fp.key64; rw [if_neg (by omega), if_neg (by omega)]; omega
  rw [s1] at r1; rw [s2] at r2
  have ho' : ((Ieee.Datum.number false m i).order (Ieee.Datum.number false n j) == some .lt) = decide (x < y) := by
    rw [← ho]; unfold Ieee.Format.order; rw [r1, r2]
  have d1 : FloatKind.f64.decode x = .number false m i := r1
  have d2 : FloatKind.f64.decode y = .number false n j := r2
  have hr : (if (FloatKind.f64.decode x == Ieee.Datum.infinity true || FloatKind.f64.decode y == Ieee.Datum.infinity true) = true then FloatKind.f64.encode (.infinity true)
      else if ((FloatKind.f64.decode x).isNaN || (FloatKind.f64.decode y).isNaN) = true then 0x7FF8000000000001
      else if ((FloatKind.f64.decode x).isZero && (FloatKind.f64.decode y).isZero) = true then (if ((FloatKind.f64.decode x).neg == true) = true then x else y)
      else if ((FloatKind.f64.decode x).order (FloatKind.f64.decode y) == some .lt) = true then x else y) = if x < y then x else y := by
    have q1 : (Ieee.Datum.number false m i == Ieee.Datum.infinity true || Ieee.Datum.number false n j == Ieee.Datum.infinity true) = false := rfl
    have q2 : ((Ieee.Datum.number false m i).isNaN || (Ieee.Datum.number false n j).isNaN) = false := rfl
    have q3 : ((Ieee.Datum.number false m i).neg == true) = false := rfl
    rw [d1, d2, ho', q1, q2, q3, if_neg Bool.false_ne_true, if_neg Bool.false_ne_true, if_neg Bool.false_ne_true]
    by_cases hz : ((Ieee.Datum.number false m i).isZero && (Ieee.Datum.number false n j).isZero) = true
    · have hm : m = 0 := by
        cases m with
        | zero => rfl
        | succ m => exact absurd hz (by simp [Ieee.Datum.isZero])
      have hn : n = 0 := by
        cases n with
        | zero => rfl
        | succ n => exact absurd hz (by simp [Ieee.Datum.isZero])
      have h1 := Fp.le_mag Ieee.double (Fp.rg Ieee.double x)
      have h2 := Fp.le_mag Ieee.double (Fp.rg Ieee.double y)
      rw [← u1, hm, Nat.zero_mul, e1] at h1
      rw [← u2, hn, Nat.zero_mul, e2] at h2
      rw [if_pos hz, if_neg (by omega)]
    · rw [if_neg hz]
      by_cases h : x < y
      · rw [decide_eq_true h, if_pos rfl, if_pos h]
      · rw [decide_eq_false h, if_neg (by decide), if_neg h]
  rw [← hr]
  rfl

set_option maxRecDepth 100000 in
set_option maxHeartbeats 600000 in
theorem min_any (x y : Nat) (hx : x < 9218868437227405312) (hy : y < 9218868437227405312) (w : World) : Calls Tryd.prog 68 #[.float .f64 x, .float .f64 y] w fun e w' => e = .returned (.float .f64 (if x < y then x else y)) ∧ w = w' := by
  have h := min_run x y hx hy
  generalize (if x < y then x else y) = r at *
  clear hx hy
  go_enter Tryd.func68, Tryd.ntmps68
  go_wp2
  go_ret
  exact ⟨rfl, rfl⟩

theorem key_pos {a : Nat} (h : a < 9223372036854775808) : Fp.key64 a = a := by unfold Fp.key64; rw [if_neg (by omega)]; omega
theorem key_neg {a : Nat} (h : 9223372036854775808 ≤ a) (h' : a < 18446744073709551616) : Fp.key64 a = -((a - 9223372036854775808 : Nat) : Int) := by unfold Fp.key64; rw [if_pos (by omega)]; omega
theorem next_pos {a : Nat} (h : a < 9218868437227405312) : nextD a = a + 1 := next_finD a h
theorem next_neg {m : Nat} (h : 0 < m) (h' : m ≤ 9218868437227405312) : nextD (9223372036854775808 + m) = 9223372036854775808 + (m - 1) := by
  have hn : nanD (9223372036854775808 + m) = false := decide_eq_false (by omega)
  unfold nextD; rw [canonD_id hn, if_neg (by omega), if_neg (by omega), if_pos (by omega)]; omega
theorem next_negzero : nextD 9223372036854775808 = 1 := by decide
theorem prev_pos {m : Nat} (h' : m < 9218868437227405312) : prevD (m + 1) = m := by
  have hn : nanD (m + 1) = false := decide_eq_false (by omega)
  unfold prevD; rw [if_neg (by rw [hn]; simp)]
  have ht : turnD (m + 1) = 9223372036854775808 + (m + 1) := by unfold turnD; omega
  rw [ht, next_neg (by omega) (by omega)]; unfold turnD; omega
theorem prev_neg {m : Nat} (h : 0 < m) (h' : m ≤ 9218868437227405312) : prevD (9223372036854775808 + (m - 1)) = 9223372036854775808 + m := by
  have hn : nanD (9223372036854775808 + (m - 1)) = false := decide_eq_false (by omega)
  unfold prevD; rw [if_neg (by rw [hn]; simp)]
  have ht : turnD (9223372036854775808 + (m - 1)) = m - 1 := by unfold turnD; omega
  rw [ht, next_pos (by omega)]; unfold turnD; omega
/-- the difference of two neighbours below zero -/
theorem sub_nextN (m : Nat) (h : m + 1 < 9218868437227405312) : Ieee.double.sub (9223372036854775808 + m) (9223372036854775808 + (m + 1)) = some (stepRD m) := by
  have e1 : Fp.rg Ieee.double (9223372036854775808 + (m + 1)) = m + 1 := by rw [Fp.rg64]; omega
  have e2 : Fp.rg Ieee.double (9223372036854775808 + m) = m := by rw [Fp.rg64]; omega
  have s1 : Fp.sg Ieee.double (9223372036854775808 + (m + 1)) = true := by rw [Fp.sg64, show (9223372036854775808 + (m + 1)) / 9223372036854775808 = 1 by omega]; rfl
  have s2 : Fp.sg Ieee.double (9223372036854775808 + m) = true := by rw [Fp.sg64, show (9223372036854775808 + m) / 9223372036854775808 = 1 by omega]; rfl
  rw [Fp.sub_fin Ieee.double _ _ (by rw [e2, Fp.dI]; omega) (by rw [e1, Fp.dI]; exact h)]
  have u : Fp.un Ieee.double (9223372036854775808 + m) - Fp.un Ieee.double (9223372036854775808 + (m + 1)) = (Fp.mag Ieee.double (stepRD m) : Nat) := by
    unfold Fp.un
    rw [s1, s2, e1, e2, mag_stepRD, Fp.mag_succ]
    simp only [if_true]
    omega
  have hp : 0 < Fp.mag Ieee.double (stepRD m) := by rw [mag_stepRD]; exact Fp.step_pos Ieee.double m
  have hle := stepRD_le m (by omega)
  rw [u, if_neg (by omega), decide_eq_false (by omega), Int.natAbs_natCast, Fp.rung_mag Ieee.double Fp.dF _ (by rw [Fp.dI]; omega)]
  rfl
theorem self_eq (a : Nat) (hn : nanD a = false) : (FloatKind.f64.format.order a a == some .eq) = true := by
  show (Ieee.double.order a a == some .eq) = true
  rw [Fp.eq64 a a hn hn]; exact decide_eq_true rfl
theorem gt_of (a b : Nat) (ha : nanD a = false) (hb : nanD b = false) (h : Fp.key64 b < Fp.key64 a) : (FloatKind.f64.format.order a b == some .gt) = true := by
  show (Ieee.double.order a b == some .gt) = true
  rw [Fp.gt64 a b ha hb]; exact decide_eq_true h
/-- nothing stands between two neighbours -/
theorem none_between (a n b : Nat) (ha : nanD a = false) (hn : nanD n = false) (h : Fp.key64 n ≤ Fp.key64 a + 1) :
    (FloatKind.f64.format.order a b == some .lt) = false ∨ ((FloatKind.f64.format.order a b == some .lt) = true ∧ (FloatKind.f64.format.order b n == some .lt) = false) := by
  show (Ieee.double.order a b == some .lt) = false ∨ ((Ieee.double.order a b == some .lt) = true ∧ (Ieee.double.order b n == some .lt) = false)
  cases hb : nanD b
  · rw [Fp.lt64 a b ha hb, Fp.lt64 b n hb hn]
    by_cases h1 : Fp.key64 a < Fp.key64 b
    · exact .inr ⟨decide_eq_true h1, decide_eq_false (by omega)⟩
    · exact .inl (decide_eq_false h1)
  · left; rw [Fp.order64_nan a b (.inr hb)]; rfl

set_option maxRecDepth 100000 in
set_option maxHeartbeats 600000 in
theorem near_nan (a b n : Nat) (w : World) (hT : Tab w) (NX : Hid (∀ w, Calls Tryd.prog 49 #[.float .f64 a] w fun e w' => e = .returned (.float .f64 n) ∧ Within w w')) (xa : (FloatKind.f64.format.order a a != some .eq) = true) (xn : (FloatKind.f64.format.order n n != some .eq) = true) : Calls Tryd.prog 11 #[.int .u64 a, .int .u64 b] w fun e w' => e = .returned (.bool true) ∧ Within w w' := by
  go_enter Tryd.func11, Tryd.ntmps11
  go_wp2_with fail
  refine (f_any a _).mono ?_; rintro e1 w1 ⟨rfl, rfl⟩
  go_wp2_with fail
  refine (f_any b _).mono ?_; rintro e2 w2 ⟨rfl, rfl⟩
  go_wp2_with fail
  refine (NX.out _).mono ?_; rintro e3 w3 ⟨rfl, hb3⟩
  have hc3 := hb3.cells; have hf3 := hb3.frozens
  go_wp2_with fail
  refine (awake_true _ (hT.of (by repeat (first | with_reducible exact Within.refl _ | with_reducible assumption | with_reducible refine Within.alloc ?_ _ | with_reducible refine Within.drew ?_ | with_reducible refine Within.setCell ?_ (by first | (simp; done) | (simp; omega)) _ | with_reducible refine Within.trans ?_ (by assumption))))).mono ?_; rintro e4 w4 ⟨rfl, hb4⟩
  have hc4 := hb4.cells; have hf4 := hb4.frozens
  go_wp2_with fail
  refine (awake_true _ (hT.of (by repeat (first | with_reducible exact Within.refl _ | with_reducible assumption | with_reducible refine Within.alloc ?_ _ | with_reducible refine Within.drew ?_ | with_reducible refine Within.setCell ?_ (by first | (simp; done) | (simp; omega)) _ | with_reducible refine Within.trans ?_ (by assumption))))).mono ?_; rintro e5 w5 ⟨rfl, hb5⟩
  go_wp2
  go_ret
  exact ⟨rfl, (by repeat (first | with_reducible exact Within.refl _ | with_reducible assumption | with_reducible refine Within.alloc ?_ _ | with_reducible refine Within.drew ?_ | with_reducible refine Within.setCell ?_ (by first | (simp; done) | (simp; omega)) _ | with_reducible refine Within.trans ?_ (by assumption)))⟩

set_option maxRecDepth 100000 in
set_option maxHeartbeats 600000 in
theorem near_inf (a b n : Nat) (w : World) (hT : Tab w) (NX : Hid (∀ w, Calls Tryd.prog 49 #[.float .f64 a] w fun e w' => e = .returned (.float .f64 n) ∧ Within w w')) (xa : (FloatKind.f64.format.order a a != some .eq) = false) (IA : Hid (∀ w, Calls Tryd.prog 67 #[.float .f64 a, .int .i64 1] w fun e w' => e = .returned (.bool true) ∧ w = w')) (IN : Hid (∀ w, Calls Tryd.prog 67 #[.float .f64 n, .int .i64 1] w fun e w' => e = .returned (.bool true) ∧ w = w')) : Calls Tryd.prog 11 #[.int .u64 a, .int .u64 b] w fun e w' => e = .returned (.bool true) ∧ Within w w' := by
  go_enter Tryd.func11, Tryd.ntmps11
  go_wp2_with fail
  refine (f_any a _).mono ?_; rintro e1 w1 ⟨rfl, rfl⟩
  go_wp2_with fail
  refine (f_any b _).mono ?_; rintro e2 w2 ⟨rfl, rfl⟩
  go_wp2_with fail
  refine (NX.out _).mono ?_; rintro e3 w3 ⟨rfl, hb3⟩
  have hc3 := hb3.cells; have hf3 := hb3.frozens
  go_wp2_with fail
  refine (awake_true _ (hT.of (by repeat (first | with_reducible exact Within.refl _ | with_reducible assumption | with_reducible refine Within.alloc ?_ _ | with_reducible refine Within.drew ?_ | with_reducible refine Within.setCell ?_ (by first | (simp; done) | (simp; omega)) _ | with_reducible refine Within.trans ?_ (by assumption))))).mono ?_; rintro e4 w4 ⟨rfl, hb4⟩
  have hc4 := hb4.cells; have hf4 := hb4.frozens
  go_wp2_with fail
  refine (IA.out _).mono ?_; rintro e5 w5 ⟨rfl, rfl⟩
  go_wp2_with fail
  refine (IN.out _).mono ?_; rintro e6 w6 ⟨rfl, rfl⟩
  go_wp2
  go_ret
  exact ⟨rfl, (by repeat (first | with_reducible exact Within.refl _ | with_reducible assumption | with_reducible refine Within.alloc ?_ _ | with_reducible refine Within.drew ?_ | with_reducible refine Within.setCell ?_ (by first | (simp; done) | (simp; omega)) _ | with_reducible refine Within.trans ?_ (by assumption)))⟩

set_option maxRecDepth 100000 in
set_option maxHeartbeats 600000 in
theorem near_z_n (a b n k d m1 m2 m3 : Nat) (w : World) (hT : Tab w) (NX : Hid (∀ w, Calls Tryd.prog 49 #[.float .f64 a] w fun e w' => e = .returned (.float .f64 n) ∧ Within w w')) (xa : (FloatKind.f64.format.order a a != some .eq) = false) (IA : Hid (∀ w, Calls Tryd.prog 67 #[.float .f64 a, .int .i64 1] w fun e w' => e = .returned (.bool false) ∧ w = w')) (g : (FloatKind.f64.format.order n a == some .gt) = true) (l : (FloatKind.f64.format.order a b == some .lt) = false) (PV : Hid (∀ w, Calls Tryd.prog 51 #[.float .f64 n] w fun e w' => e = .returned (.float .f64 k) ∧ Within w w')) (e : (FloatKind.f64.format.order k a == some .eq) = true) (z : (FloatKind.f64.format.order a 0 == some .eq) = true) (IN : Hid (∀ w, Calls Tryd.prog 67 #[.float .f64 n, .int .i64 1] w fun e w' => e = .returned (.bool false) ∧ w = w')) (IM : Hid (∀ w, Calls Tryd.prog 67 #[.float .f64 a, .int .i64 (-1)] w fun e w' => e = .returned (.bool false) ∧ w = w')) : Calls Tryd.prog 11 #[.int .u64 a, .int .u64 b] w fun e w' => e = .returned (.bool true) ∧ Within w w' := by
  go_enter Tryd.func11, Tryd.ntmps11
  go_wp2_with fail
  refine (f_any a _).mono ?_; rintro e1 w1 ⟨rfl, rfl⟩
  go_wp2_with fail
  refine (f_any b _).mono ?_; rintro e2 w2 ⟨rfl, rfl⟩
  go_wp2_with fail
  refine (NX.out _).mono ?_; rintro e3 w3 ⟨rfl, hb3⟩
  have hc3 := hb3.cells; have hf3 := hb3.frozens
  go_wp2_with fail
  refine (awake_true _ (hT.of (by repeat (first | with_reducible exact Within.refl _ | with_reducible assumption | with_reducible refine Within.alloc ?_ _ | with_reducible refine Within.drew ?_ | with_reducible refine Within.setCell ?_ (by first | (simp; done) | (simp; omega)) _ | with_reducible refine Within.trans ?_ (by assumption))))).mono ?_; rintro e4 w4 ⟨rfl, hb4⟩
  have hc4 := hb4.cells; have hf4 := hb4.frozens
  go_wp2_with fail
  refine (IA.out _).mono ?_; rintro e5 w5 ⟨rfl, rfl⟩
  go_wp2_with fail
  refine (PV.out _).mono ?_; rintro e6 w6 ⟨rfl, hb6⟩
  have hc6 := hb6.cells; have hf6 := hb6.frozens
  go_wp2_with fail
  refine (IN.out _).mono ?_; rintro e7 w7 ⟨rfl, rfl⟩
  go_wp2_with fail
  refine (IM.out _).mono ?_; rintro e8 w8 ⟨rfl, rfl⟩
  go_wp2
  go_ret
  exact ⟨rfl, (by repeat (first | with_reducible exact Within.refl _ | with_reducible assumption | with_reducible refine Within.alloc ?_ _ | with_reducible refine Within.drew ?_ | with_reducible refine Within.setCell ?_ (by first | (simp; done) | (simp; omega)) _ | with_reducible refine Within.trans ?_ (by assumption)))⟩

set_option maxRecDepth 100000 in
set_option maxHeartbeats 600000 in
theorem near_z_y (a b n k d m1 m2 m3 : Nat) (w : World) (hT : Tab w) (NX : Hid (∀ w, Calls Tryd.prog 49 #[.float .f64 a] w fun e w' => e = .returned (.float .f64 n) ∧ Within w w')) (xa : (FloatKind.f64.format.order a a != some .eq) = false) (IA : Hid (∀ w, Calls Tryd.prog 67 #[.float .f64 a, .int .i64 1] w fun e w' => e = .returned (.bool false) ∧ w = w')) (g : (FloatKind.f64.format.order n a == some .gt) = true) (l : (FloatKind.f64.format.order a b == some .lt) = true) (l2 : (FloatKind.f64.format.order b n == some .lt) = false) (PV : Hid (∀ w, Calls Tryd.prog 51 #[.float .f64 n] w fun e w' => e = .returned (.float .f64 k) ∧ Within w w')) (e : (FloatKind.f64.format.order k a == some .eq) = true) (z : (FloatKind.f64.format.order a 0 == some .eq) = true) (IN : Hid (∀ w, Calls Tryd.prog 67 #[.float .f64 n, .int .i64 1] w fun e w' => e = .returned (.bool false) ∧ w = w')) (IM : Hid (∀ w, Calls Tryd.prog 67 #[.float .f64 a, .int .i64 (-1)] w fun e w' => e = .returned (.bool false) ∧ w = w')) : Calls Tryd.prog 11 #[.int .u64 a, .int .u64 b] w fun e w' => e = .returned (.bool true) ∧ Within w w' := by
  go_enter Tryd.func11, Tryd.ntmps11
  go_wp2_with fail
  refine (f_any a _).mono ?_; rintro e1 w1 ⟨rfl, rfl⟩
  go_wp2_with fail
  refine (f_any b _).mono ?_; rintro e2 w2 ⟨rfl, rfl⟩
  go_wp2_with fail
  refine (NX.out _).mono ?_; rintro e3 w3 ⟨rfl, hb3⟩
  have hc3 := hb3.cells; have hf3 := hb3.frozens
  go_wp2_with fail
  refine (awake_true _ (hT.of (by repeat (first | with_reducible exact Within.refl _ | with_reducible assumption | with_reducible refine Within.alloc ?_ _ | with_reducible refine Within.drew ?_ | with_reducible refine Within.setCell ?_ (by first | (simp; done) | (simp; omega)) _ | with_reducible refine Within.trans ?_ (by assumption))))).mono ?_; rintro e4 w4 ⟨rfl, hb4⟩
  have hc4 := hb4.cells; have hf4 := hb4.frozens
  go_wp2_with fail
  refine (IA.out _).mono ?_; rintro e5 w5 ⟨rfl, rfl⟩
  go_wp2_with fail
  refine (PV.out _).mono ?_; rintro e6 w6 ⟨rfl, hb6⟩
  have hc6 := hb6.cells; have hf6 := hb6.frozens
  go_wp2_with fail
  refine (IN.out _).mono ?_; rintro e7 w7 ⟨rfl, rfl⟩
  go_wp2_with fail
  refine (IM.out _).mono ?_; rintro e8 w8 ⟨rfl, rfl⟩
  go_wp2
  go_ret
  exact ⟨rfl, (by repeat (first | with_reducible exact Within.refl _ | with_reducible assumption | with_reducible refine Within.alloc ?_ _ | with_reducible refine Within.drew ?_ | with_reducible refine Within.setCell ?_ (by first | (simp; done) | (simp; omega)) _ | with_reducible refine Within.trans ?_ (by assumption)))⟩

set_option maxRecDepth 100000 in
set_option maxHeartbeats 600000 in
theorem near_top_n (a b n k d m1 m2 m3 : Nat) (w : World) (hT : Tab w) (NX : Hid (∀ w, Calls Tryd.prog 49 #[.float .f64 a] w fun e w' => e = .returned (.float .f64 n) ∧ Within w w')) (xa : (FloatKind.f64.format.order a a != some .eq) = false) (IA : Hid (∀ w, Calls Tryd.prog 67 #[.float .f64 a, .int .i64 1] w fun e w' => e = .returned (.bool false) ∧ w = w')) (g : (FloatKind.f64.format.order n a == some .gt) = true) (l : (FloatKind.f64.format.order a b == some .lt) = false) (PV : Hid (∀ w, Calls Tryd.prog 51 #[.float .f64 n] w fun e w' => e = .returned (.float .f64 k) ∧ Within w w')) (e : (FloatKind.f64.format.order k a == some .eq) = true) (z : (FloatKind.f64.format.order a 0 == some .eq) = false) (SM : Hid (∀ w, Calls Tryd.prog 21 #[.float .f64 k, .float .f64 a] w fun e w' => e = .returned (.bool true) ∧ w = w')) (IN : Hid (∀ w, Calls Tryd.prog 67 #[.float .f64 n, .int .i64 1] w fun e w' => e = .returned (.bool true) ∧ w = w')) : Calls Tryd.prog 11 #[.int .u64 a, .int .u64 b] w fun e w' => e = .returned (.bool true) ∧ Within w w' := by
  go_enter Tryd.func11, Tryd.ntmps11
  go_wp2_with fail
  refine (f_any a _).mono ?_; rintro e1 w1 ⟨rfl, rfl⟩
  go_wp2_with fail
  refine (f_any b _).mono ?_; rintro e2 w2 ⟨rfl, rfl⟩
  go_wp2_with fail
  refine (NX.out _).mono ?_; rintro e3 w3 ⟨rfl, hb3⟩
  have hc3 := hb3.cells; have hf3 := hb3.frozens
  go_wp2_with fail
  refine (awake_true _ (hT.of (by repeat (first | with_reducible exact Within.refl _ | with_reducible assumption | with_reducible refine Within.alloc ?_ _ | with_reducible refine Within.drew ?_ | with_reducible refine Within.setCell ?_ (by first | (simp; done) | (simp; omega)) _ | with_reducible refine Within.trans ?_ (by assumption))))).mono ?_; rintro e4 w4 ⟨rfl, hb4⟩
  have hc4 := hb4.cells; have hf4 := hb4.frozens
  go_wp2_with fail
  refine (IA.out _).mono ?_; rintro e5 w5 ⟨rfl, rfl⟩
  go_wp2_with fail
  refine (PV.out _).mono ?_; rintro e6 w6 ⟨rfl, hb6⟩
  have hc6 := hb6.cells; have hf6 := hb6.frozens
  go_wp2_with fail
  refine (SM.out _).mono ?_; rintro e7 w7 ⟨rfl, rfl⟩
  go_wp2_with fail
  refine (IN.out _).mono ?_; rintro e8 w8 ⟨rfl, rfl⟩
  go_wp2
  go_ret
  exact ⟨rfl, (by repeat (first | with_reducible exact Within.refl _ | with_reducible assumption | with_reducible refine Within.alloc ?_ _ | with_reducible refine Within.drew ?_ | with_reducible refine Within.setCell ?_ (by first | (simp; done) | (simp; omega)) _ | with_reducible refine Within.trans ?_ (by assumption)))⟩

set_option maxRecDepth 100000 in
set_option maxHeartbeats 600000 in
theorem near_top_y (a b n k d m1 m2 m3 : Nat) (w : World) (hT : Tab w) (NX : Hid (∀ w, Calls Tryd.prog 49 #[.float .f64 a] w fun e w' => e = .returned (.float .f64 n) ∧ Within w w')) (xa : (FloatKind.f64.format.order a a != some .eq) = false) (IA : Hid (∀ w, Calls Tryd.prog 67 #[.float .f64 a, .int .i64 1] w fun e w' => e = .returned (.bool false) ∧ w = w')) (g : (FloatKind.f64.format.order n a == some .gt) = true) (l : (FloatKind.f64.format.order a b == some .lt) = true) (l2 : (FloatKind.f64.format.order b n == some .lt) = false) (PV : Hid (∀ w, Calls Tryd.prog 51 #[.float .f64 n] w fun e w' => e = .returned (.float .f64 k) ∧ Within w w')) (e : (FloatKind.f64.format.order k a == some .eq) = true) (z : (FloatKind.f64.format.order a 0 == some .eq) = false) (SM : Hid (∀ w, Calls Tryd.prog 21 #[.float .f64 k, .float .f64 a] w fun e w' => e = .returned (.bool true) ∧ w = w')) (IN : Hid (∀ w, Calls Tryd.prog 67 #[.float .f64 n, .int .i64 1] w fun e w' => e = .returned (.bool true) ∧ w = w')) : Calls Tryd.prog 11 #[.int .u64 a, .int .u64 b] w fun e w' => e = .returned (.bool true) ∧ Within w w' := by
  go_enter Tryd.func11, Tryd.ntmps11
  go_wp2_with fail
  refine (f_any a _).mono ?_; rintro e1 w1 ⟨rfl, rfl⟩
  go_wp2_with fail
  refine (f_any b _).mono ?_; rintro e2 w2 ⟨rfl, rfl⟩
  go_wp2_with fail
  refine (NX.out _).mono ?_; rintro e3 w3 ⟨rfl, hb3⟩
  have hc3 := hb3.cells; have hf3 := hb3.frozens
  go_wp2_with fail
  refine (awake_true _ (hT.of (by repeat (first | with_reducible exact Within.refl _ | with_reducible assumption | with_reducible refine Within.alloc ?_ _ | with_reducible refine Within.drew ?_ | with_reducible refine Within.setCell ?_ (by first | (simp; done) | (simp; omega)) _ | with_reducible refine Within.trans ?_ (by assumption))))).mono ?_; rintro e4 w4 ⟨rfl, hb4⟩
  have hc4 := hb4.cells; have hf4 := hb4.frozens
  go_wp2_with fail
  refine (IA.out _).mono ?_; rintro e5 w5 ⟨rfl, rfl⟩
  go_wp2_with fail
  refine (PV.out _).mono ?_; rintro e6 w6 ⟨rfl, hb6⟩
  have hc6 := hb6.cells; have hf6 := hb6.frozens
  go_wp2_with fail
  refine (SM.out _).mono ?_; rintro e7 w7 ⟨rfl, rfl⟩
  go_wp2_with fail
  refine (IN.out _).mono ?_; rintro e8 w8 ⟨rfl, rfl⟩
  go_wp2
  go_ret
  exact ⟨rfl, (by repeat (first | with_reducible exact Within.refl _ | with_reducible assumption | with_reducible refine Within.alloc ?_ _ | with_reducible refine Within.drew ?_ | with_reducible refine Within.setCell ?_ (by first | (simp; done) | (simp; omega)) _ | with_reducible refine Within.trans ?_ (by assumption)))⟩

set_option maxRecDepth 100000 in
set_option maxHeartbeats 600000 in
theorem near_low_n (a b n k d m1 m2 m3 : Nat) (w : World) (hT : Tab w) (NX : Hid (∀ w, Calls Tryd.prog 49 #[.float .f64 a] w fun e w' => e = .returned (.float .f64 n) ∧ Within w w')) (xa : (FloatKind.f64.format.order a a != some .eq) = false) (IA : Hid (∀ w, Calls Tryd.prog 67 #[.float .f64 a, .int .i64 1] w fun e w' => e = .returned (.bool false) ∧ w = w')) (g : (FloatKind.f64.format.order n a == some .gt) = true) (l : (FloatKind.f64.format.order a b == some .lt) = false) (PV : Hid (∀ w, Calls Tryd.prog 51 #[.float .f64 n] w fun e w' => e = .returned (.float .f64 k) ∧ Within w w')) (e : (FloatKind.f64.format.order k a == some .eq) = true) (z : (FloatKind.f64.format.order a 0 == some .eq) = false) (SM : Hid (∀ w, Calls Tryd.prog 21 #[.float .f64 k, .float .f64 a] w fun e w' => e = .returned (.bool true) ∧ w = w')) (IN : Hid (∀ w, Calls Tryd.prog 67 #[.float .f64 n, .int .i64 1] w fun e w' => e = .returned (.bool false) ∧ w = w')) (IM : Hid (∀ w, Calls Tryd.prog 67 #[.float .f64 a, .int .i64 (-1)] w fun e w' => e = .returned (.bool true) ∧ w = w')) : Calls Tryd.prog 11 #[.int .u64 a, .int .u64 b] w fun e w' => e = .returned (.bool true) ∧ Within w w' := by
  go_enter Tryd.func11, Tryd.ntmps11
  go_wp2_with fail
  refine (f_any a _).mono ?_; rintro e1 w1 ⟨rfl, rfl⟩
  go_wp2_with fail
  refine (f_any b _).mono ?_; rintro e2 w2 ⟨rfl, rfl⟩
  go_wp2_with fail
  refine (NX.out _).mono ?_; rintro e3 w3 ⟨rfl, hb3⟩
  have hc3 := hb3.cells; have hf3 := hb3.frozens
  go_wp2_with fail
  refine (awake_true _ (hT.of (by repeat (first | with_reducible exact Within.refl _ | with_reducible assumption | with_reducible refine Within.alloc ?_ _ | with_reducible refine Within.drew ?_ | with_reducible refine Within.setCell ?_ (by first | (simp; done) | (simp; omega)) _ | with_reducible refine Within.trans ?_ (by assumption))))).mono ?_; rintro e4 w4 ⟨rfl, hb4⟩
  have hc4 := hb4.cells; have hf4 := hb4.frozens
  go_wp2_with fail
  refine (IA.out _).mono ?_; rintro e5 w5 ⟨rfl, rfl⟩
  go_wp2_with fail
  refine (PV.out _).mono ?_; rintro e6 w6 ⟨rfl, hb6⟩
  have hc6 := hb6.cells; have hf6 := hb6.frozens
  go_wp2_with fail
  refine (SM.out _).mono ?_; rintro e7 w7 ⟨rfl, rfl⟩
  go_wp2_with fail
  refine (IN.out _).mono ?_; rintro e8 w8 ⟨rfl, rfl⟩
  go_wp2_with fail
  refine (IM.out _).mono ?_; rintro e9 w9 ⟨rfl, rfl⟩
  go_wp2
  go_ret
  exact ⟨rfl, (by repeat (first | with_reducible exact Within.refl _ | with_reducible assumption | with_reducible refine Within.alloc ?_ _ | with_reducible refine Within.drew ?_ | with_reducible refine Within.setCell ?_ (by first | (simp; done) | (simp; omega)) _ | with_reducible refine Within.trans ?_ (by assumption)))⟩

set_option maxRecDepth 100000 in
set_option maxHeartbeats 600000 in
theorem near_low_y (a b n k d m1 m2 m3 : Nat) (w : World) (hT : Tab w) (NX : Hid (∀ w, Calls Tryd.prog 49 #[.float .f64 a] w fun e w' => e = .returned (.float .f64 n) ∧ Within w w')) (xa : (FloatKind.f64.format.order a a != some .eq) = false) (IA : Hid (∀ w, Calls Tryd.prog 67 #[.float .f64 a, .int .i64 1] w fun e w' => e = .returned (.bool false) ∧ w = w')) (g : (FloatKind.f64.format.order n a == some .gt) = true) (l : (FloatKind.f64.format.order a b == some .lt) = true) (l2 : (FloatKind.f64.format.order b n == some .lt) = false) (PV : Hid (∀ w, Calls Tryd.prog 51 #[.float .f64 n] w fun e w' => e = .returned (.float .f64 k) ∧ Within w w')) (e : (FloatKind.f64.format.order k a == some .eq) = true) (z : (FloatKind.f64.format.order a 0 == some .eq) = false) (SM : Hid (∀ w, Calls Tryd.prog 21 #[.float .f64 k, .float .f64 a] w fun e w' => e = .returned (.bool true) ∧ w = w')) (IN : Hid (∀ w, Calls Tryd.prog 67 #[.float .f64 n, .int .i64 1] w fun e w' => e = .returned (.bool false) ∧ w = w')) (IM : Hid (∀ w, Calls Tryd.prog 67 #[.float .f64 a, .int .i64 (-1)] w fun e w' => e = .returned (.bool true) ∧ w = w')) : Calls Tryd.prog 11 #[.int .u64 a, .int .u64 b] w fun e w' => e = .returned (.bool true) ∧ Within w w' := by
  go_enter Tryd.func11, Tryd.ntmps11
  go_wp2_with fail
  refine (f_any a _).mono ?_; rintro e1 w1 ⟨rfl, rfl⟩
  go_wp2_with fail
  refine (f_any b _).mono ?_; rintro e2 w2 ⟨rfl, rfl⟩
  go_wp2_with fail
  refine (NX.out _).mono ?_; rintro e3 w3 ⟨rfl, hb3⟩
  have hc3 := hb3.cells; have hf3 := hb3.frozens
  go_wp2_with fail
  refine (awake_true _ (hT.of (by repeat (first | with_reducible exact Within.refl _ | with_reducible assumption | with_reducible refine Within.alloc ?_ _ | with_reducible refine Within.drew ?_ | with_reducible refine Within.setCell ?_ (by first | (simp; done) | (simp; omega)) _ | with_reducible refine Within.trans ?_ (by assumption))))).mono ?_; rintro e4 w4 ⟨rfl, hb4⟩
  have hc4 := hb4.cells; have hf4 := hb4.frozens
  go_wp2_with fail
  refine (IA.out _).mono ?_; rintro e5 w5 ⟨rfl, rfl⟩
  go_wp2_with fail
  refine (PV.out _).mono ?_; rintro e6 w6 ⟨rfl, hb6⟩
  have hc6 := hb6.cells; have hf6 := hb6.frozens
  go_wp2_with fail
  refine (SM.out _).mono ?_; rintro e7 w7 ⟨rfl, rfl⟩
  go_wp2_with fail
  refine (IN.out _).mono ?_; rintro e8 w8 ⟨rfl, rfl⟩
  go_wp2_with fail
  refine (IM.out _).mono ?_; rintro e9 w9 ⟨rfl, rfl⟩
  go_wp2
  go_ret
  exact ⟨rfl, (by repeat (first | with_reducible exact Within.refl _ | with_reducible assumption | with_reducible refine Within.alloc ?_ _ | with_reducible refine Within.drew ?_ | with_reducible refine Within.setCell ?_ (by first | (simp; done) | (simp; omega)) _ | with_reducible refine Within.trans ?_ (by assumption)))⟩

set_option maxRecDepth 100000 in
set_option maxHeartbeats 600000 in
theorem near_mid_n (a b n k d m1 m2 m3 : Nat) (w : World) (hT : Tab w) (NX : Hid (∀ w, Calls Tryd.prog 49 #[.float .f64 a] w fun e w' => e = .returned (.float .f64 n) ∧ Within w w')) (xa : (FloatKind.f64.format.order a a != some .eq) = false) (IA : Hid (∀ w, Calls Tryd.prog 67 #[.float .f64 a, .int .i64 1] w fun e w' => e = .returned (.bool false) ∧ w = w')) (g : (FloatKind.f64.format.order n a == some .gt) = true) (l : (FloatKind.f64.format.order a b == some .lt) = false) (PV : Hid (∀ w, Calls Tryd.prog 51 #[.float .f64 n] w fun e w' => e = .returned (.float .f64 k) ∧ Within w w')) (e : (FloatKind.f64.format.order k a == some .eq) = true) (z : (FloatKind.f64.format.order a 0 == some .eq) = false) (SM : Hid (∀ w, Calls Tryd.prog 21 #[.float .f64 k, .float .f64 a] w fun e w' => e = .returned (.bool true) ∧ w = w')) (IN : Hid (∀ w, Calls Tryd.prog 67 #[.float .f64 n, .int .i64 1] w fun e w' => e = .returned (.bool false) ∧ w = w')) (IM : Hid (∀ w, Calls Tryd.prog 67 #[.float .f64 a, .int .i64 (-1)] w fun e w' => e = .returned (.bool false) ∧ w = w')) (hs : ∀ (t : TypeId) (P : Program) (w : World), (binOp .sub t (.float .f64 n) (.float .f64 a)).run P w = .ok (.float .f64 d) w) (A1 : Hid (∀ w, Calls Tryd.prog 69 #[.float .f64 a] w fun e w' => e = .returned (.float .f64 m1) ∧ w = w')) (A2 : Hid (∀ w, Calls Tryd.prog 69 #[.float .f64 n] w fun e w' => e = .returned (.float .f64 m2) ∧ w = w')) (MN : Hid (∀ w, Calls Tryd.prog 68 #[.float .f64 m1, .float .f64 m2] w fun e w' => e = .returned (.float .f64 m3) ∧ w = w')) (UL : Hid (∀ w, Tab w → Calls Tryd.prog 53 #[.float .f64 m3] w fun e w' => e = .returned (.float .f64 d) ∧ Within w w')) (ed : (FloatKind.f64.format.order d d == some .eq) = true) : Calls Tryd.prog 11 #[.int .u64 a, .int .u64 b] w fun e w' => e = .returned (.bool true) ∧ Within w w' := by
  go_enter Tryd.func11, Tryd.ntmps11
  go_wp2_with fail
  refine (f_any a _).mono ?_; rintro e1 w1 ⟨rfl, rfl⟩
  go_wp2_with fail
  refine (f_any b _).mono ?_; rintro e2 w2 ⟨rfl, rfl⟩
  go_wp2_with fail
  refine (NX.out _).mono ?_; rintro e3 w3 ⟨rfl, hb3⟩
  have hc3 := hb3.cells; have hf3 := hb3.frozens
  go_wp2_with fail
  refine (awake_true _ (hT.of (by repeat (first | with_reducible exact Within.refl _ | with_reducible assumption | with_reducible refine Within.alloc ?_ _ | with_reducible refine Within.drew ?_ | with_reducible refine Within.setCell ?_ (by first | (simp; done) | (simp; omega)) _ | with_reducible refine Within.trans ?_ (by assumption))))).mono ?_; rintro e4 w4 ⟨rfl, hb4⟩
  have hc4 := hb4.cells; have hf4 := hb4.frozens
  go_wp2_with fail
  refine (IA.out _).mono ?_; rintro e5 w5 ⟨rfl, rfl⟩
  go_wp2_with fail
  refine (PV.out _).mono ?_; rintro e6 w6 ⟨rfl, hb6⟩
  have hc6 := hb6.cells; have hf6 := hb6.frozens
  go_wp2_with fail
  refine (SM.out _).mono ?_; rintro e7 w7 ⟨rfl, rfl⟩
  go_wp2_with fail
  refine (IN.out _).mono ?_; rintro e8 w8 ⟨rfl, rfl⟩
  go_wp2_with fail
  refine (IM.out _).mono ?_; rintro e9 w9 ⟨rfl, rfl⟩
  go_wp2_with fail
  refine (A1.out _).mono ?_; rintro e10 w10 ⟨rfl, rfl⟩
  go_wp2_with fail
  refine (A2.out _).mono ?_; rintro e11 w11 ⟨rfl, rfl⟩
  go_wp2_with fail
  refine (MN.out _).mono ?_; rintro e12 w12 ⟨rfl, rfl⟩
  go_wp2_with fail
  refine (UL.out _ (hT.of (by repeat (first | with_reducible exact Within.refl _ | with_reducible assumption | with_reducible refine Within.alloc ?_ _ | with_reducible refine Within.drew ?_ | with_reducible refine Within.setCell ?_ (by first | (simp; done) | (simp; omega)) _ | with_reducible refine Within.trans ?_ (by assumption))))).mono ?_; rintro e13 w13 ⟨rfl, hb13⟩
  go_wp2
  go_ret
  exact ⟨rfl, (by repeat (first | with_reducible exact Within.refl _ | with_reducible assumption | with_reducible refine Within.alloc ?_ _ | with_reducible refine Within.drew ?_ | with_reducible refine Within.setCell ?_ (by first | (simp; done) | (simp; omega)) _ | with_reducible refine Within.trans ?_ (by assumption)))⟩

set_option maxRecDepth 100000 in
set_option maxHeartbeats 600000 in
theorem near_mid_y (a b n k d m1 m2 m3 : Nat) (w : World) (hT : Tab w) (NX : Hid (∀ w, Calls Tryd.prog 49 #[.float .f64 a] w fun e w' => e = .returned (.float .f64 n) ∧ Within w w')) (xa : (FloatKind.f64.format.order a a != some .eq) = false) (IA : Hid (∀ w, Calls Tryd.prog 67 #[.float .f64 a, .int .i64 1] w fun e w' => e = .returned (.bool false) ∧ w = w')) (g : (FloatKind.f64.format.order n a == some .gt) = true) (l : (FloatKind.f64.format.order a b == some .lt) = true) (l2 : (FloatKind.f64.format.order b n == some .lt) = false) (PV : Hid (∀ w, Calls Tryd.prog 51 #[.float .f64 n] w fun e w' => e = .returned (.float .f64 k) ∧ Within w w')) (e : (FloatKind.f64.format.order k a == some .eq) = true) (z : (FloatKind.f64.format.order a 0 == some .eq) = false) (SM : Hid (∀ w, Calls Tryd.prog 21 #[.float .f64 k, .float .f64 a] w fun e w' => e = .returned (.bool true) ∧ w = w')) (IN : Hid (∀ w, Calls Tryd.prog 67 #[.float .f64 n, .int .i64 1] w fun e w' => e = .returned (.bool false) ∧ w = w')) (IM : Hid (∀ w, Calls Tryd.prog 67 #[.float .f64 a, .int .i64 (-1)] w fun e w' => e = .returned (.bool false) ∧ w = w')) (hs : ∀ (t : TypeId) (P : Program) (w : World), (binOp .sub t (.float .f64 n) (.float .f64 a)).run P w = .ok (.float .f64 d) w) (A1 : Hid (∀ w, Calls Tryd.prog 69 #[.float .f64 a] w fun e w' => e = .returned (.float .f64 m1) ∧ w = w')) (A2 : Hid (∀ w, Calls Tryd.prog 69 #[.float .f64 n] w fun e w' => e = .returned (.float .f64 m2) ∧ w = w')) (MN : Hid (∀ w, Calls Tryd.prog 68 #[.float .f64 m1, .float .f64 m2] w fun e w' => e = .returned (.float .f64 m3) ∧ w = w')) (UL : Hid (∀ w, Tab w → Calls Tryd.prog 53 #[.float .f64 m3] w fun e w' => e = .returned (.float .f64 d) ∧ Within w w')) (ed : (FloatKind.f64.format.order d d == some .eq) = true) : Calls Tryd.prog 11 #[.int .u64 a, .int .u64 b] w fun e w' => e = .returned (.bool true) ∧ Within w w' := by
  go_enter Tryd.func11, Tryd.ntmps11
  go_wp2_with fail
  refine (f_any a _).mono ?_; rintro e1 w1 ⟨rfl, rfl⟩
  go_wp2_with fail
  refine (f_any b _).mono ?_; rintro e2 w2 ⟨rfl, rfl⟩
  go_wp2_with fail
  refine (NX.out _).mono ?_; rintro e3 w3 ⟨rfl, hb3⟩
  have hc3 := hb3.cells; have hf3 := hb3.frozens
  go_wp2_with fail
  refine (awake_true _ (hT.of (by repeat (first | with_reducible exact Within.refl _ | with_reducible assumption | with_reducible refine Within.alloc ?_ _ | with_reducible refine Within.drew ?_ | with_reducible refine Within.setCell ?_ (by first | (simp; done) | (simp; omega)) _ | with_reducible refine Within.trans ?_ (by assumption))))).mono ?_; rintro e4 w4 ⟨rfl, hb4⟩
  have hc4 := hb4.cells; have hf4 := hb4.frozens
  go_wp2_with fail
  refine (IA.out _).mono ?_; rintro e5 w5 ⟨rfl, rfl⟩
  go_wp2_with fail
  refine (PV.out _).mono ?_; rintro e6 w6 ⟨rfl, hb6⟩
  have hc6 := hb6.cells; have hf6 := hb6.frozens
  go_wp2_with fail
  refine (SM.out _).mono ?_; rintro e7 w7 ⟨rfl, rfl⟩
  go_wp2_with fail
  refine (IN.out _).mono ?_; rintro e8 w8 ⟨rfl, rfl⟩
  go_wp2_with fail
  refine (IM.out _).mono ?_; rintro e9 w9 ⟨rfl, rfl⟩
  go_wp2_with fail
  refine (A1.out _).mono ?_; rintro e10 w10 ⟨rfl, rfl⟩
  go_wp2_with fail
  refine (A2.out _).mono ?_; rintro e11 w11 ⟨rfl, rfl⟩
  go_wp2_with fail
  refine (MN.out _).mono ?_; rintro e12 w12 ⟨rfl, rfl⟩
  go_wp2_with fail
  refine (UL.out _ (hT.of (by repeat (first | with_reducible exact Within.refl _ | with_reducible assumption | with_reducible refine Within.alloc ?_ _ | with_reducible refine Within.drew ?_ | with_reducible refine Within.setCell ?_ (by first | (simp; done) | (simp; omega)) _ | with_reducible refine Within.trans ?_ (by assumption))))).mono ?_; rintro e13 w13 ⟨rfl, hb13⟩
  go_wp2
  go_ret
  exact ⟨rfl, (by repeat (first | with_reducible exact Within.refl _ | with_reducible assumption | with_reducible refine Within.alloc ?_ _ | with_reducible refine Within.drew ?_ | with_reducible refine Within.setCell ?_ (by first | (simp; done) | (simp; omega)) _ | with_reducible refine Within.trans ?_ (by assumption)))⟩

set_option maxRecDepth 100000 in
set_option maxHeartbeats 600000 in
theorem near_walk (a b : Nat) (ha : a < 18446744073709551616) (_ : b < 18446744073709551616) (w : World) (hT : Tab w) : Calls Tryd.prog 11 #[.int .u64 a, .int .u64 b] w fun e w' => e = .returned (.bool true) ∧ Within w w' := by
  have NX := Lib.hid (fun w => Next_D a ha w)
  have xa := ne_self64 a
  cases hn : nanD a
  · rw [hn] at xa
    have hr := nanD_false hn
    by_cases hi : a = 9218868437227405312
    · have IA : Hid (∀ w, Calls Tryd.prog 67 #[.float .f64 (a), .int .i64 1] w fun e w' => e = .returned (.bool true) ∧ w = w') := fun w => by have h := isInf_pos (a) (by omega) (decide_eq_false (by omega)) w; rw [decide_eq_true (by omega)] at h; exact h
      have hnx : nextD a = a := by rw [hi]; decide
      rw [hnx] at NX
      exact near_inf a b a w hT NX xa IA IA
    have IA : Hid (∀ w, Calls Tryd.prog 67 #[.float .f64 (a), .int .i64 1] w fun e w' => e = .returned (.bool false) ∧ w = w') := fun w => by have h := isInf_pos (a) (by omega) (decide_eq_false (by omega)) w; rw [decide_eq_false (by omega)] at h; exact h
    by_cases hs : a < 9223372036854775808
    · rw [next_pos (by omega)] at NX
      have hnn : nanD (a + 1) = false := decide_eq_false (by omega)
      have g := gt_of (a + 1) a hnn hn (by rw [key_pos hs, key_pos (by omega)]; omega)
      have NB := none_between a (a + 1) b hn hnn (by rw [key_pos hs, key_pos (by omega)]; omega)
      have PV : Hid (∀ w, Calls Tryd.prog 51 #[.float .f64 (a + 1)] w fun e w' => e = .returned (.float .f64 (a)) ∧ Within w w') := fun w => by have h := Prev_D (a + 1) (by omega) w; rw [prev_pos (by omega)] at h; exact h
      have e := self_eq a hn
      have z := zero64 a hn
      by_cases h0 : a = 0
      · rw [decide_eq_true (by omega)] at z
        have IN : Hid (∀ w, Calls Tryd.prog 67 #[.float .f64 (a + 1), .int .i64 1] w fun e w' => e = .returned (.bool false) ∧ w = w') := fun w => by have h := isInf_pos (a + 1) (by omega) (decide_eq_false (by omega)) w; rw [decide_eq_false (by omega)] at h; exact h
        have IM : Hid (∀ w, Calls Tryd.prog 67 #[.float .f64 (a), .int .i64 (-1)] w fun e w' => e = .returned (.bool false) ∧ w = w') := fun w => by have h := isInf_neg (a) (by omega) (decide_eq_false (by omega)) w; rw [decide_eq_false (by omega)] at h; exact h
        rcases NB with l | ⟨l, l2⟩
        · exact near_z_n a b _ a 0 0 0 0 w hT NX xa IA g l PV e z IN IM
        · exact near_z_y a b _ a 0 0 0 0 w hT NX xa IA g l l2 PV e z IN IM
      rw [decide_eq_false (by omega)] at z
      have SM : Hid (∀ w, Calls Tryd.prog 21 #[.float .f64 a, .float .f64 a] w fun e w' => e = .returned (.bool true) ∧ w = w') := fun w => by have h := same_D a a w; rw [canonD_id hn, decide_eq_true rfl] at h; exact h
      by_cases ht : a = 9218868437227405311
      · have IN : Hid (∀ w, Calls Tryd.prog 67 #[.float .f64 (a + 1), .int .i64 1] w fun e w' => e = .returned (.bool true) ∧ w = w') := fun w => by have h := isInf_pos (a + 1) (by omega) (decide_eq_false (by omega)) w; rw [decide_eq_true (by omega)] at h; exact h
        rcases NB with l | ⟨l, l2⟩
        · exact near_top_n a b _ a 0 0 0 0 w hT NX xa IA g l PV e z SM IN
        · exact near_top_y a b _ a 0 0 0 0 w hT NX xa IA g l l2 PV e z SM IN
      have IN : Hid (∀ w, Calls Tryd.prog 67 #[.float .f64 (a + 1), .int .i64 1] w fun e w' => e = .returned (.bool false) ∧ w = w') := fun w => by have h := isInf_pos (a + 1) (by omega) (decide_eq_false (by omega)) w; rw [decide_eq_false (by omega)] at h; exact h
      have IM : Hid (∀ w, Calls Tryd.prog 67 #[.float .f64 (a), .int .i64 (-1)] w fun e w' => e = .returned (.bool false) ∧ w = w') := fun w => by have h := isInf_neg (a) (by omega) (decide_eq_false (by omega)) w; rw [decide_eq_false (by omega)] at h; exact h
      have hd := run_sub64 (sub_nextD a (by omega))
      have A1 : Hid (∀ w, Calls Tryd.prog 69 #[.float .f64 (a)] w fun e w' => e = .returned (.float .f64 (a)) ∧ w = w') := fun w => by have h := abs_any (a) (by omega) w; rw [show (a) % 9223372036854775808 = a by omega] at h; exact h
      have A2 : Hid (∀ w, Calls Tryd.prog 69 #[.float .f64 (a + 1)] w fun e w' => e = .returned (.float .f64 (a + 1)) ∧ w = w') := fun w => by have h := abs_any (a + 1) (by omega) w; rw [show (a + 1) % 9223372036854775808 = a + 1 by omega] at h; exact h
      have MN : Hid (∀ w, Calls Tryd.prog 68 #[.float .f64 (a), .float .f64 (a + 1)] w fun e w' => e = .returned (.float .f64 (a)) ∧ w = w') := fun w => by have h := min_any (a) (a + 1) (by omega) (by omega) w; rw [if_pos (by omega)] at h; exact h
      have UL : Hid (∀ w, Tab w → Calls Tryd.prog 53 #[.float .f64 (a)] w fun e w' => e = .returned (.float .f64 (stepRD (a))) ∧ Within w w') := fun w hT => by have h := Ulp_D (a) (by omega) w hT; rw [ulp_finD (a) (by omega) (by omega), show (a) % 9223372036854775808 = a by omega] at h; exact h
      have ed := self_eq (stepRD (a)) (decide_eq_false (by have := stepRD_le (a) (by omega); omega))
      rcases NB with l | ⟨l, l2⟩
      · exact near_mid_n a b _ a _ _ _ _ w hT NX xa IA g l PV e z SM IN IM hd A1 A2 MN UL ed
      · exact near_mid_y a b _ a _ _ _ _ w hT NX xa IA g l l2 PV e z SM IN IM hd A1 A2 MN UL ed
    obtain ⟨m, rfl⟩ : ∃ m, a = 9223372036854775808 + m := ⟨a - 9223372036854775808, by omega⟩
    have z := zero64 (9223372036854775808 + m) hn
    by_cases h0 : m = 0
    · subst h0
      rw [Nat.add_zero] at *
      rw [next_negzero] at NX
      rw [decide_eq_true (by omega)] at z
      have g : (FloatKind.f64.format.order 1 9223372036854775808 == some .gt) = true := gt_of 1 9223372036854775808 (by decide) (by decide) (by decide)
      have NB := none_between 9223372036854775808 1 b hn (by decide) (by decide)
      have PV : Hid (∀ w, Calls Tryd.prog 51 #[.float .f64 1] w fun e w' => e = .returned (.float .f64 0) ∧ Within w w') := fun w => by have h := Prev_D 1 (by omega) w; rw [show prevD 1 = 0 by decide] at h; exact h
      have e : (FloatKind.f64.format.order 0 9223372036854775808 == some .eq) = true := by
        show (Ieee.double.order 0 9223372036854775808 == some .eq) = true
        rw [Fp.eq64 _ _ (by decide) (by decide)]; decide
      have IN : Hid (∀ w, Calls Tryd.prog 67 #[.float .f64 (1), .int .i64 1] w fun e w' => e = .returned (.bool false) ∧ w = w') := fun w => by have h := isInf_pos (1) (by omega) (decide_eq_false (by omega)) w; rw [decide_eq_false (by omega)] at h; exact h
      have IM : Hid (∀ w, Calls Tryd.prog 67 #[.float .f64 (9223372036854775808), .int .i64 (-1)] w fun e w' => e = .returned (.bool false) ∧ w = w') := fun w => by have h := isInf_neg (9223372036854775808) (by omega) (decide_eq_false (by omega)) w; rw [decide_eq_false (by omega)] at h; exact h
      rcases NB with l | ⟨l, l2⟩
      · exact near_z_n 9223372036854775808 b _ 0 0 0 0 0 w hT NX xa IA g l PV e z IN IM
      · exact near_z_y 9223372036854775808 b _ 0 0 0 0 0 w hT NX xa IA g l l2 PV e z IN IM
    rw [decide_eq_false (by omega)] at z
    rw [next_neg (by omega) (by omega)] at NX
    have hnn : nanD (9223372036854775808 + (m - 1)) = false := decide_eq_false (by omega)
    have g := gt_of (9223372036854775808 + (m - 1)) (9223372036854775808 + m) hnn hn (by rw [key_neg (by omega) (by omega), key_neg (by omega) (by omega)]; omega)
    have NB := none_between (9223372036854775808 + m) (9223372036854775808 + (m - 1)) b hn hnn (by rw [key_neg (by omega) (by omega), key_neg (by omega) (by omega)]; omega)
    have PV : Hid (∀ w, Calls Tryd.prog 51 #[.float .f64 (9223372036854775808 + (m - 1))] w fun e w' => e = .returned (.float .f64 (9223372036854775808 + m)) ∧ Within w w') := fun w => by have h := Prev_D (9223372036854775808 + (m - 1)) (by omega) w; rw [prev_neg (by omega) (by omega)] at h; exact h
    have e := self_eq (9223372036854775808 + m) hn
    have SM : Hid (∀ w, Calls Tryd.prog 21 #[.float .f64 (9223372036854775808 + m), .float .f64 (9223372036854775808 + m)] w fun e w' => e = .returned (.bool true) ∧ w = w') := fun w => by have h := same_D (9223372036854775808 + m) (9223372036854775808 + m) w; rw [canonD_id hn, decide_eq_true rfl] at h; exact h
    have IN : Hid (∀ w, Calls Tryd.prog 67 #[.float .f64 (9223372036854775808 + (m - 1)), .int .i64 1] w fun e w' => e = .returned (.bool false) ∧ w = w') := fun w => by have h := isInf_pos (9223372036854775808 + (m - 1)) (by omega) (decide_eq_false (by omega)) w; rw [decide_eq_false (by omega)] at h; exact h
    by_cases ht : m = 9218868437227405312
    · have IM : Hid (∀ w, Calls Tryd.prog 67 #[.float .f64 (9223372036854775808 + m), .int .i64 (-1)] w fun e w' => e = .returned (.bool true) ∧ w = w') := fun w => by have h := isInf_neg (9223372036854775808 + m) (by omega) (decide_eq_false (by omega)) w; rw [decide_eq_true (by omega)] at h; exact h
      rcases NB with l | ⟨l, l2⟩
      · exact near_low_n (9223372036854775808 + m) b _ (9223372036854775808 + m) 0 0 0 0 w hT NX xa IA g l PV e z SM IN IM
      · exact near_low_y (9223372036854775808 + m) b _ (9223372036854775808 + m) 0 0 0 0 w hT NX xa IA g l l2 PV e z SM IN IM
    have IM : Hid (∀ w, Calls Tryd.prog 67 #[.float .f64 (9223372036854775808 + m), .int .i64 (-1)] w fun e w' => e = .returned (.bool false) ∧ w = w') := fun w => by have h := isInf_neg (9223372036854775808 + m) (by omega) (decide_eq_false (by omega)) w; rw [decide_eq_false (by omega)] at h; exact h
    have hd := run_sub64 (sub_nextN (m - 1) (by omega))
    rw [show m - 1 + 1 = m by omega] at hd
    have A1 : Hid (∀ w, Calls Tryd.prog 69 #[.float .f64 (9223372036854775808 + m)] w fun e w' => e = .returned (.float .f64 (m)) ∧ w = w') := fun w => by have h := abs_any (9223372036854775808 + m) (by omega) w; rw [show (9223372036854775808 + m) % 9223372036854775808 = m by omega] at h; exact h
    have A2 : Hid (∀ w, Calls Tryd.prog 69 #[.float .f64 (9223372036854775808 + (m - 1))] w fun e w' => e = .returned (.float .f64 (m - 1)) ∧ w = w') := fun w => by have h := abs_any (9223372036854775808 + (m - 1)) (by omega) w; rw [show (9223372036854775808 + (m - 1)) % 9223372036854775808 = m - 1 by omega] at h; exact h
    have MN : Hid (∀ w, Calls Tryd.prog 68 #[.float .f64 (m), .float .f64 (m - 1)] w fun e w' => e = .returned (.float .f64 (m - 1)) ∧ w = w') := fun w => by have h := min_any (m) (m - 1) (by omega) (by omega) w; rw [if_neg (by omega)] at h; exact h
    have UL : Hid (∀ w, Tab w → Calls Tryd.prog 53 #[.float .f64 (m - 1)] w fun e w' => e = .returned (.float .f64 (stepRD (m - 1))) ∧ Within w w') := fun w hT => by have h := Ulp_D (m - 1) (by omega) w hT; rw [ulp_finD (m - 1) (by omega) (by omega), show (m - 1) % 9223372036854775808 = m - 1 by omega] at h; exact h
    have ed := self_eq (stepRD (m - 1)) (decide_eq_false (by have := stepRD_le (m - 1) (by omega); omega))
    rcases NB with l | ⟨l, l2⟩
    · exact near_mid_n (9223372036854775808 + m) b _ (9223372036854775808 + m) _ _ _ _ w hT NX xa IA g l PV e z SM IN IM hd A1 A2 MN UL ed
    · exact near_mid_y (9223372036854775808 + m) b _ (9223372036854775808 + m) _ _ _ _ w hT NX xa IA g l l2 PV e z SM IN IM hd A1 A2 MN UL ed
  · rw [hn] at xa
    have hnx : nextD a = 9221120237041090561 := by unfold nextD; rw [canonD_nan hn, if_pos (.inl rfl)]
    rw [hnx] at NX
    have xn := ne_self64 9221120237041090561
    exact near_nan a b _ w hT NX xa (xn.trans (by decide))

end Go.Proofs.YthjaponkbodooaaDoor
