/- AnatomyOrder: the walk: for any three numbers the law returns true. -/
import Derived.Test.YthjaponkbodooaaDoorAwake
namespace Go.Proofs.YthjaponkbodooaaDoor
open Go.RowKit

theorem cmp_lt' {x y : Int} (h : x < y) : cmpOf x y = -1 ∧ cmpOf y x = 1 := by unfold cmpOf; exact ⟨if_pos h, by rw [if_neg (by omega), if_pos h]⟩
theorem cmp_self' (x : Int) : cmpOf x x = 0 := by unfold cmpOf; rw [if_neg (by omega), if_neg (by omega)]

/-- the places tell numbers apart -/
theorem place_canon (a b : Nat) (ha : a < 18446744073709551616) (hb : b < 18446744073709551616) : canonD a = canonD b ↔ place a = place b := by
  unfold place
  cases h1 : nanD a <;> cases h2 : nanD b
  · rw [canonD_id h1, canonD_id h2]
    have := nanD_false h1; have := nanD_false h2
    simp only [Bool.false_eq_true, if_false]
    split <;> split <;> omega
  · rw [canonD_id h1, canonD_nan h2]
    have := nanD_false h1
    simp only [Bool.false_eq_true, if_false, if_true]
    split <;> omega
  · rw [canonD_nan h1, canonD_id h2]
    have := nanD_false h2
    simp only [Bool.false_eq_true, if_false, if_true]
    split <;> omega
  · rw [canonD_nan h1, canonD_nan h2]; simp

/-- where < tells, the places tell so too -/
theorem lt_place (a b : Nat) (ha : a < 18446744073709551616) (hb : b < 18446744073709551616) (h : (FloatKind.f64.format.order a b == some .lt) = true) : place a < place b := by
  cases h1 : nanD a
  · cases h2 : nanD b
    · have e : (Ieee.double.order a b == some .lt) = true := h
      rw [Fp.lt64 a b h1 h2] at e
      have e' : Fp.key64 a < Fp.key64 b := of_decide_eq_true e
      have := nanD_false h1; have := nanD_false h2
      unfold Fp.key64 at e'
      unfold place
      rw [h1, h2]
      simp only [Bool.false_eq_true, if_false]
      split at e' <;> split at e' <;> split <;> split <;> omega
    · have : Ieee.double.order a b = none := Fp.order64_nan a b (.inr h2)
      exact absurd (show (Ieee.double.order a b == some .lt) = true from h) (by rw [this]; decide)
  · have : Ieee.double.order a b = none := Fp.order64_nan a b (.inl h1)
    exact absurd (show (Ieee.double.order a b == some .lt) = true from h) (by rw [this]; decide)
theorem gt_lt (a b : Nat) : (FloatKind.f64.format.order a b == some .gt) = (FloatKind.f64.format.order b a == some .lt) := by
  show (Ieee.double.order a b == some .gt) = (Ieee.double.order b a == some .lt)
  by_cases h1 : Fp.isNaN64 a = true
  · rw [Fp.order64_nan a b (.inl h1), Fp.order64_nan b a (.inr h1)]; rfl
  · by_cases h2 : Fp.isNaN64 b = true
    · rw [Fp.order64_nan a b (.inr h2), Fp.order64_nan b a (.inl h2)]; rfl
    · rw [Fp.gt64 a b (by simpa using h1) (by simpa using h2), Fp.lt64 b a (by simpa using h2) (by simpa using h1)]

set_option maxRecDepth 100000 in
set_option maxHeartbeats 600000 in
theorem order_m_m_t (a b c : Nat) (w : World) (hT : Tab w)
    (AB : Hid (∀ w, Calls Tryd.prog 46 #[.float .f64 a, .float .f64 b] w fun e w' => e = .returned (.int .i64 (-1)) ∧ Within w w'))
    (BA : Hid (∀ w, Calls Tryd.prog 46 #[.float .f64 b, .float .f64 a] w fun e w' => e = .returned (.int .i64 (1)) ∧ Within w w'))
    (AA : Hid (∀ w, Calls Tryd.prog 46 #[.float .f64 a, .float .f64 a] w fun e w' => e = .returned (.int .i64 0) ∧ Within w w'))
    (BC : Hid (∀ w, Calls Tryd.prog 46 #[.float .f64 b, .float .f64 c] w fun e w' => e = .returned (.int .i64 (-1)) ∧ Within w w'))
    (AC : Hid (∀ w, Calls Tryd.prog 46 #[.float .f64 a, .float .f64 c] w fun e w' => e = .returned (.int .i64 (-1)) ∧ Within w w'))
    (SM : Hid (∀ w, Calls Tryd.prog 41 #[.float .f64 a, .float .f64 b] w fun e w' => e = .returned (.bool false) ∧ Within w w'))
    (x y : Int) (KA : Hid (∀ w, Calls Tryd.prog 47 #[.float .f64 a] w fun e w' => e = .returned (.int .i64 x) ∧ Within w w'))
    (KB : Hid (∀ w, Calls Tryd.prog 47 #[.float .f64 b] w fun e w' => e = .returned (.int .i64 y) ∧ Within w w'))
    (hxy : decide (x < y) = true) (lt : (FloatKind.f64.format.order a b == some .lt) = true) (gt : (FloatKind.f64.format.order a b == some .gt) = false) :
    Calls Tryd.prog 6 #[.int .u64 a, .int .u64 b, .int .u64 c] w fun e w' => e = .returned (.bool true) ∧ Within w w' := by
  go_enter Tryd.func6, Tryd.ntmps6
  go_wp2_with fail
  refine (f_any a _).mono ?_; rintro e1 w1 ⟨rfl, rfl⟩
  go_wp2_with fail
  refine (f_any b _).mono ?_; rintro e2 w2 ⟨rfl, rfl⟩
  go_wp2_with fail
  refine (f_any c _).mono ?_; rintro e3 w3 ⟨rfl, rfl⟩
  go_wp2_with fail
  refine (AB.out _).mono ?_; rintro e4 w4 ⟨rfl, hb4⟩
  go_wp2_with fail
  refine (BA.out _).mono ?_; rintro e5 w5 ⟨rfl, hb5⟩
  go_wp2_with fail
  refine (AA.out _).mono ?_; rintro e6 w6 ⟨rfl, hb6⟩
  go_wp2_with fail
  refine (awake_true _ (hT.of (by repeat (first | with_reducible exact Within.refl _ | with_reducible assumption | with_reducible refine Within.alloc ?_ _ | with_reducible refine Within.drew ?_ | with_reducible refine Within.setCell ?_ (by first | (simp; done) | (simp; omega)) _ | with_reducible refine Within.trans ?_ (by assumption))))).mono ?_; rintro e7 w7 ⟨rfl, hb7⟩
  go_wp2_with fail
  refine (BC.out _).mono ?_; rintro e8 w8 ⟨rfl, hb8⟩
  go_wp2_with fail
  refine (AC.out _).mono ?_; rintro e9 w9 ⟨rfl, hb9⟩
  go_wp2_with fail
  refine (SM.out _).mono ?_; rintro e10 w10 ⟨rfl, hb10⟩
  go_wp2_with fail
  refine (KA.out _).mono ?_; rintro e11 w11 ⟨rfl, hb11⟩
  go_wp2_with fail
  refine (KB.out _).mono ?_; rintro e12 w12 ⟨rfl, hb12⟩
  go_wp2
  go_ret
  exact ⟨rfl, (by repeat (first | with_reducible exact Within.refl _ | with_reducible assumption | with_reducible refine Within.alloc ?_ _ | with_reducible refine Within.drew ?_ | with_reducible refine Within.setCell ?_ (by first | (simp; done) | (simp; omega)) _ | with_reducible refine Within.trans ?_ (by assumption)))⟩


set_option maxRecDepth 100000 in
set_option maxHeartbeats 600000 in
theorem order_m_m_f (a b c : Nat) (w : World) (hT : Tab w)
    (AB : Hid (∀ w, Calls Tryd.prog 46 #[.float .f64 a, .float .f64 b] w fun e w' => e = .returned (.int .i64 (-1)) ∧ Within w w'))
    (BA : Hid (∀ w, Calls Tryd.prog 46 #[.float .f64 b, .float .f64 a] w fun e w' => e = .returned (.int .i64 (1)) ∧ Within w w'))
    (AA : Hid (∀ w, Calls Tryd.prog 46 #[.float .f64 a, .float .f64 a] w fun e w' => e = .returned (.int .i64 0) ∧ Within w w'))
    (BC : Hid (∀ w, Calls Tryd.prog 46 #[.float .f64 b, .float .f64 c] w fun e w' => e = .returned (.int .i64 (-1)) ∧ Within w w'))
    (AC : Hid (∀ w, Calls Tryd.prog 46 #[.float .f64 a, .float .f64 c] w fun e w' => e = .returned (.int .i64 (-1)) ∧ Within w w'))
    (SM : Hid (∀ w, Calls Tryd.prog 41 #[.float .f64 a, .float .f64 b] w fun e w' => e = .returned (.bool false) ∧ Within w w'))
    (x y : Int) (KA : Hid (∀ w, Calls Tryd.prog 47 #[.float .f64 a] w fun e w' => e = .returned (.int .i64 x) ∧ Within w w'))
    (KB : Hid (∀ w, Calls Tryd.prog 47 #[.float .f64 b] w fun e w' => e = .returned (.int .i64 y) ∧ Within w w'))
    (hxy : decide (x < y) = true) (lt : (FloatKind.f64.format.order a b == some .lt) = false) (gt : (FloatKind.f64.format.order a b == some .gt) = false) :
    Calls Tryd.prog 6 #[.int .u64 a, .int .u64 b, .int .u64 c] w fun e w' => e = .returned (.bool true) ∧ Within w w' := by
  go_enter Tryd.func6, Tryd.ntmps6
  go_wp2_with fail
  refine (f_any a _).mono ?_; rintro e1 w1 ⟨rfl, rfl⟩
  go_wp2_with fail
  refine (f_any b _).mono ?_; rintro e2 w2 ⟨rfl, rfl⟩
  go_wp2_with fail
  refine (f_any c _).mono ?_; rintro e3 w3 ⟨rfl, rfl⟩
  go_wp2_with fail
  refine (AB.out _).mono ?_; rintro e4 w4 ⟨rfl, hb4⟩
  go_wp2_with fail
  refine (BA.out _).mono ?_; rintro e5 w5 ⟨rfl, hb5⟩
  go_wp2_with fail
  refine (AA.out _).mono ?_; rintro e6 w6 ⟨rfl, hb6⟩
  go_wp2_with fail
  refine (awake_true _ (hT.of (by repeat (first | with_reducible exact Within.refl _ | with_reducible assumption | with_reducible refine Within.alloc ?_ _ | with_reducible refine Within.drew ?_ | with_reducible refine Within.setCell ?_ (by first | (simp; done) | (simp; omega)) _ | with_reducible refine Within.trans ?_ (by assumption))))).mono ?_; rintro e7 w7 ⟨rfl, hb7⟩
  go_wp2_with fail
  refine (BC.out _).mono ?_; rintro e8 w8 ⟨rfl, hb8⟩
  go_wp2_with fail
  refine (AC.out _).mono ?_; rintro e9 w9 ⟨rfl, hb9⟩
  go_wp2_with fail
  refine (SM.out _).mono ?_; rintro e10 w10 ⟨rfl, hb10⟩
  go_wp2_with fail
  refine (KA.out _).mono ?_; rintro e11 w11 ⟨rfl, hb11⟩
  go_wp2_with fail
  refine (KB.out _).mono ?_; rintro e12 w12 ⟨rfl, hb12⟩
  go_wp2
  go_ret
  exact ⟨rfl, (by repeat (first | with_reducible exact Within.refl _ | with_reducible assumption | with_reducible refine Within.alloc ?_ _ | with_reducible refine Within.drew ?_ | with_reducible refine Within.setCell ?_ (by first | (simp; done) | (simp; omega)) _ | with_reducible refine Within.trans ?_ (by assumption)))⟩


set_option maxRecDepth 100000 in
set_option maxHeartbeats 600000 in
theorem order_m_z_t (a b c : Nat) (w : World) (hT : Tab w)
    (AB : Hid (∀ w, Calls Tryd.prog 46 #[.float .f64 a, .float .f64 b] w fun e w' => e = .returned (.int .i64 (-1)) ∧ Within w w'))
    (BA : Hid (∀ w, Calls Tryd.prog 46 #[.float .f64 b, .float .f64 a] w fun e w' => e = .returned (.int .i64 (1)) ∧ Within w w'))
    (AA : Hid (∀ w, Calls Tryd.prog 46 #[.float .f64 a, .float .f64 a] w fun e w' => e = .returned (.int .i64 0) ∧ Within w w'))
    (BC : Hid (∀ w, Calls Tryd.prog 46 #[.float .f64 b, .float .f64 c] w fun e w' => e = .returned (.int .i64 (0)) ∧ Within w w'))
    (AC : Hid (∀ w, Calls Tryd.prog 46 #[.float .f64 a, .float .f64 c] w fun e w' => e = .returned (.int .i64 (-1)) ∧ Within w w'))
    (SM : Hid (∀ w, Calls Tryd.prog 41 #[.float .f64 a, .float .f64 b] w fun e w' => e = .returned (.bool false) ∧ Within w w'))
    (x y : Int) (KA : Hid (∀ w, Calls Tryd.prog 47 #[.float .f64 a] w fun e w' => e = .returned (.int .i64 x) ∧ Within w w'))
    (KB : Hid (∀ w, Calls Tryd.prog 47 #[.float .f64 b] w fun e w' => e = .returned (.int .i64 y) ∧ Within w w'))
    (hxy : decide (x < y) = true) (lt : (FloatKind.f64.format.order a b == some .lt) = true) (gt : (FloatKind.f64.format.order a b == some .gt) = false) :
    Calls Tryd.prog 6 #[.int .u64 a, .int .u64 b, .int .u64 c] w fun e w' => e = .returned (.bool true) ∧ Within w w' := by
  go_enter Tryd.func6, Tryd.ntmps6
  go_wp2_with fail
  refine (f_any a _).mono ?_; rintro e1 w1 ⟨rfl, rfl⟩
  go_wp2_with fail
  refine (f_any b _).mono ?_; rintro e2 w2 ⟨rfl, rfl⟩
  go_wp2_with fail
  refine (f_any c _).mono ?_; rintro e3 w3 ⟨rfl, rfl⟩
  go_wp2_with fail
  refine (AB.out _).mono ?_; rintro e4 w4 ⟨rfl, hb4⟩
  go_wp2_with fail
  refine (BA.out _).mono ?_; rintro e5 w5 ⟨rfl, hb5⟩
  go_wp2_with fail
  refine (AA.out _).mono ?_; rintro e6 w6 ⟨rfl, hb6⟩
  go_wp2_with fail
  refine (awake_true _ (hT.of (by repeat (first | with_reducible exact Within.refl _ | with_reducible assumption | with_reducible refine Within.alloc ?_ _ | with_reducible refine Within.drew ?_ | with_reducible refine Within.setCell ?_ (by first | (simp; done) | (simp; omega)) _ | with_reducible refine Within.trans ?_ (by assumption))))).mono ?_; rintro e7 w7 ⟨rfl, hb7⟩
  go_wp2_with fail
  refine (BC.out _).mono ?_; rintro e8 w8 ⟨rfl, hb8⟩
  go_wp2_with fail
  refine (AC.out _).mono ?_; rintro e9 w9 ⟨rfl, hb9⟩
  go_wp2_with fail
  refine (SM.out _).mono ?_; rintro e10 w10 ⟨rfl, hb10⟩
  go_wp2_with fail
  refine (KA.out _).mono ?_; rintro e11 w11 ⟨rfl, hb11⟩
  go_wp2_with fail
  refine (KB.out _).mono ?_; rintro e12 w12 ⟨rfl, hb12⟩
  go_wp2
  go_ret
  exact ⟨rfl, (by repeat (first | with_reducible exact Within.refl _ | with_reducible assumption | with_reducible refine Within.alloc ?_ _ | with_reducible refine Within.drew ?_ | with_reducible refine Within.setCell ?_ (by first | (simp; done) | (simp; omega)) _ | with_reducible refine Within.trans ?_ (by assumption)))⟩


set_option maxRecDepth 100000 in
set_option maxHeartbeats 600000 in
theorem order_m_z_f (a b c : Nat) (w : World) (hT : Tab w)
    (AB : Hid (∀ w, Calls Tryd.prog 46 #[.float .f64 a, .float .f64 b] w fun e w' => e = .returned (.int .i64 (-1)) ∧ Within w w'))
    (BA : Hid (∀ w, Calls Tryd.prog 46 #[.float .f64 b, .float .f64 a] w fun e w' => e = .returned (.int .i64 (1)) ∧ Within w w'))
    (AA : Hid (∀ w, Calls Tryd.prog 46 #[.float .f64 a, .float .f64 a] w fun e w' => e = .returned (.int .i64 0) ∧ Within w w'))
    (BC : Hid (∀ w, Calls Tryd.prog 46 #[.float .f64 b, .float .f64 c] w fun e w' => e = .returned (.int .i64 (0)) ∧ Within w w'))
    (AC : Hid (∀ w, Calls Tryd.prog 46 #[.float .f64 a, .float .f64 c] w fun e w' => e = .returned (.int .i64 (-1)) ∧ Within w w'))
    (SM : Hid (∀ w, Calls Tryd.prog 41 #[.float .f64 a, .float .f64 b] w fun e w' => e = .returned (.bool false) ∧ Within w w'))
    (x y : Int) (KA : Hid (∀ w, Calls Tryd.prog 47 #[.float .f64 a] w fun e w' => e = .returned (.int .i64 x) ∧ Within w w'))
    (KB : Hid (∀ w, Calls Tryd.prog 47 #[.float .f64 b] w fun e w' => e = .returned (.int .i64 y) ∧ Within w w'))
    (hxy : decide (x < y) = true) (lt : (FloatKind.f64.format.order a b == some .lt) = false) (gt : (FloatKind.f64.format.order a b == some .gt) = false) :
    Calls Tryd.prog 6 #[.int .u64 a, .int .u64 b, .int .u64 c] w fun e w' => e = .returned (.bool true) ∧ Within w w' := by
  go_enter Tryd.func6, Tryd.ntmps6
  go_wp2_with fail
  refine (f_any a _).mono ?_; rintro e1 w1 ⟨rfl, rfl⟩
  go_wp2_with fail
  refine (f_any b _).mono ?_; rintro e2 w2 ⟨rfl, rfl⟩
  go_wp2_with fail
  refine (f_any c _).mono ?_; rintro e3 w3 ⟨rfl, rfl⟩
  go_wp2_with fail
  refine (AB.out _).mono ?_; rintro e4 w4 ⟨rfl, hb4⟩
  go_wp2_with fail
  refine (BA.out _).mono ?_; rintro e5 w5 ⟨rfl, hb5⟩
  go_wp2_with fail
  refine (AA.out _).mono ?_; rintro e6 w6 ⟨rfl, hb6⟩
  go_wp2_with fail
  refine (awake_true _ (hT.of (by repeat (first | with_reducible exact Within.refl _ | with_reducible assumption | with_reducible refine Within.alloc ?_ _ | with_reducible refine Within.drew ?_ | with_reducible refine Within.setCell ?_ (by first | (simp; done) | (simp; omega)) _ | with_reducible refine Within.trans ?_ (by assumption))))).mono ?_; rintro e7 w7 ⟨rfl, hb7⟩
  go_wp2_with fail
  refine (BC.out _).mono ?_; rintro e8 w8 ⟨rfl, hb8⟩
  go_wp2_with fail
  refine (AC.out _).mono ?_; rintro e9 w9 ⟨rfl, hb9⟩
  go_wp2_with fail
  refine (SM.out _).mono ?_; rintro e10 w10 ⟨rfl, hb10⟩
  go_wp2_with fail
  refine (KA.out _).mono ?_; rintro e11 w11 ⟨rfl, hb11⟩
  go_wp2_with fail
  refine (KB.out _).mono ?_; rintro e12 w12 ⟨rfl, hb12⟩
  go_wp2
  go_ret
  exact ⟨rfl, (by repeat (first | with_reducible exact Within.refl _ | with_reducible assumption | with_reducible refine Within.alloc ?_ _ | with_reducible refine Within.drew ?_ | with_reducible refine Within.setCell ?_ (by first | (simp; done) | (simp; omega)) _ | with_reducible refine Within.trans ?_ (by assumption)))⟩


set_option maxRecDepth 100000 in
set_option maxHeartbeats 600000 in
theorem order_m_p_t (k3 : Int) (a b c : Nat) (w : World) (hT : Tab w)
    (AB : Hid (∀ w, Calls Tryd.prog 46 #[.float .f64 a, .float .f64 b] w fun e w' => e = .returned (.int .i64 (-1)) ∧ Within w w'))
    (BA : Hid (∀ w, Calls Tryd.prog 46 #[.float .f64 b, .float .f64 a] w fun e w' => e = .returned (.int .i64 (1)) ∧ Within w w'))
    (AA : Hid (∀ w, Calls Tryd.prog 46 #[.float .f64 a, .float .f64 a] w fun e w' => e = .returned (.int .i64 0) ∧ Within w w'))
    (BC : Hid (∀ w, Calls Tryd.prog 46 #[.float .f64 b, .float .f64 c] w fun e w' => e = .returned (.int .i64 (1)) ∧ Within w w'))
    (AC : Hid (∀ w, Calls Tryd.prog 46 #[.float .f64 a, .float .f64 c] w fun e w' => e = .returned (.int .i64 (k3)) ∧ Within w w'))
    (SM : Hid (∀ w, Calls Tryd.prog 41 #[.float .f64 a, .float .f64 b] w fun e w' => e = .returned (.bool false) ∧ Within w w'))
    (x y : Int) (KA : Hid (∀ w, Calls Tryd.prog 47 #[.float .f64 a] w fun e w' => e = .returned (.int .i64 x) ∧ Within w w'))
    (KB : Hid (∀ w, Calls Tryd.prog 47 #[.float .f64 b] w fun e w' => e = .returned (.int .i64 y) ∧ Within w w'))
    (hxy : decide (x < y) = true) (lt : (FloatKind.f64.format.order a b == some .lt) = true) (gt : (FloatKind.f64.format.order a b == some .gt) = false) :
    Calls Tryd.prog 6 #[.int .u64 a, .int .u64 b, .int .u64 c] w fun e w' => e = .returned (.bool true) ∧ Within w w' := by
  go_enter Tryd.func6, Tryd.ntmps6
  go_wp2_with fail
  refine (f_any a _).mono ?_; rintro e1 w1 ⟨rfl, rfl⟩
  go_wp2_with fail
  refine (f_any b _).mono ?_; rintro e2 w2 ⟨rfl, rfl⟩
  go_wp2_with fail
  refine (f_any c _).mono ?_; rintro e3 w3 ⟨rfl, rfl⟩
  go_wp2_with fail
  refine (AB.out _).mono ?_; rintro e4 w4 ⟨rfl, hb4⟩
  go_wp2_with fail
  refine (BA.out _).mono ?_; rintro e5 w5 ⟨rfl, hb5⟩
  go_wp2_with fail
  refine (AA.out _).mono ?_; rintro e6 w6 ⟨rfl, hb6⟩
  go_wp2_with fail
  refine (awake_true _ (hT.of (by repeat (first | with_reducible exact Within.refl _ | with_reducible assumption | with_reducible refine Within.alloc ?_ _ | with_reducible refine Within.drew ?_ | with_reducible refine Within.setCell ?_ (by first | (simp; done) | (simp; omega)) _ | with_reducible refine Within.trans ?_ (by assumption))))).mono ?_; rintro e7 w7 ⟨rfl, hb7⟩
  go_wp2_with fail
  refine (BC.out _).mono ?_; rintro e8 w8 ⟨rfl, hb8⟩
  go_wp2_with fail
  refine (SM.out _).mono ?_; rintro e9 w9 ⟨rfl, hb9⟩
  go_wp2_with fail
  refine (KA.out _).mono ?_; rintro e10 w10 ⟨rfl, hb10⟩
  go_wp2_with fail
  refine (KB.out _).mono ?_; rintro e11 w11 ⟨rfl, hb11⟩
  go_wp2
  go_ret
  exact ⟨rfl, (by repeat (first | with_reducible exact Within.refl _ | with_reducible assumption | with_reducible refine Within.alloc ?_ _ | with_reducible refine Within.drew ?_ | with_reducible refine Within.setCell ?_ (by first | (simp; done) | (simp; omega)) _ | with_reducible refine Within.trans ?_ (by assumption)))⟩


set_option maxRecDepth 100000 in
set_option maxHeartbeats 600000 in
theorem order_m_p_f (k3 : Int) (a b c : Nat) (w : World) (hT : Tab w)
    (AB : Hid (∀ w, Calls Tryd.prog 46 #[.float .f64 a, .float .f64 b] w fun e w' => e = .returned (.int .i64 (-1)) ∧ Within w w'))
    (BA : Hid (∀ w, Calls Tryd.prog 46 #[.float .f64 b, .float .f64 a] w fun e w' => e = .returned (.int .i64 (1)) ∧ Within w w'))
    (AA : Hid (∀ w, Calls Tryd.prog 46 #[.float .f64 a, .float .f64 a] w fun e w' => e = .returned (.int .i64 0) ∧ Within w w'))
    (BC : Hid (∀ w, Calls Tryd.prog 46 #[.float .f64 b, .float .f64 c] w fun e w' => e = .returned (.int .i64 (1)) ∧ Within w w'))
    (AC : Hid (∀ w, Calls Tryd.prog 46 #[.float .f64 a, .float .f64 c] w fun e w' => e = .returned (.int .i64 (k3)) ∧ Within w w'))
    (SM : Hid (∀ w, Calls Tryd.prog 41 #[.float .f64 a, .float .f64 b] w fun e w' => e = .returned (.bool false) ∧ Within w w'))
    (x y : Int) (KA : Hid (∀ w, Calls Tryd.prog 47 #[.float .f64 a] w fun e w' => e = .returned (.int .i64 x) ∧ Within w w'))
    (KB : Hid (∀ w, Calls Tryd.prog 47 #[.float .f64 b] w fun e w' => e = .returned (.int .i64 y) ∧ Within w w'))
    (hxy : decide (x < y) = true) (lt : (FloatKind.f64.format.order a b == some .lt) = false) (gt : (FloatKind.f64.format.order a b == some .gt) = false) :
    Calls Tryd.prog 6 #[.int .u64 a, .int .u64 b, .int .u64 c] w fun e w' => e = .returned (.bool true) ∧ Within w w' := by
  go_enter Tryd.func6, Tryd.ntmps6
  go_wp2_with fail
  refine (f_any a _).mono ?_; rintro e1 w1 ⟨rfl, rfl⟩
  go_wp2_with fail
  refine (f_any b _).mono ?_; rintro e2 w2 ⟨rfl, rfl⟩
  go_wp2_with fail
  refine (f_any c _).mono ?_; rintro e3 w3 ⟨rfl, rfl⟩
  go_wp2_with fail
  refine (AB.out _).mono ?_; rintro e4 w4 ⟨rfl, hb4⟩
  go_wp2_with fail
  refine (BA.out _).mono ?_; rintro e5 w5 ⟨rfl, hb5⟩
  go_wp2_with fail
  refine (AA.out _).mono ?_; rintro e6 w6 ⟨rfl, hb6⟩
  go_wp2_with fail
  refine (awake_true _ (hT.of (by repeat (first | with_reducible exact Within.refl _ | with_reducible assumption | with_reducible refine Within.alloc ?_ _ | with_reducible refine Within.drew ?_ | with_reducible refine Within.setCell ?_ (by first | (simp; done) | (simp; omega)) _ | with_reducible refine Within.trans ?_ (by assumption))))).mono ?_; rintro e7 w7 ⟨rfl, hb7⟩
  go_wp2_with fail
  refine (BC.out _).mono ?_; rintro e8 w8 ⟨rfl, hb8⟩
  go_wp2_with fail
  refine (SM.out _).mono ?_; rintro e9 w9 ⟨rfl, hb9⟩
  go_wp2_with fail
  refine (KA.out _).mono ?_; rintro e10 w10 ⟨rfl, hb10⟩
  go_wp2_with fail
  refine (KB.out _).mono ?_; rintro e11 w11 ⟨rfl, hb11⟩
  go_wp2
  go_ret
  exact ⟨rfl, (by repeat (first | with_reducible exact Within.refl _ | with_reducible assumption | with_reducible refine Within.alloc ?_ _ | with_reducible refine Within.drew ?_ | with_reducible refine Within.setCell ?_ (by first | (simp; done) | (simp; omega)) _ | with_reducible refine Within.trans ?_ (by assumption)))⟩


set_option maxRecDepth 100000 in
set_option maxHeartbeats 600000 in
theorem order_z_m_f (a b c : Nat) (w : World) (hT : Tab w)
    (AB : Hid (∀ w, Calls Tryd.prog 46 #[.float .f64 a, .float .f64 b] w fun e w' => e = .returned (.int .i64 (0)) ∧ Within w w'))
    (BA : Hid (∀ w, Calls Tryd.prog 46 #[.float .f64 b, .float .f64 a] w fun e w' => e = .returned (.int .i64 (0)) ∧ Within w w'))
    (AA : Hid (∀ w, Calls Tryd.prog 46 #[.float .f64 a, .float .f64 a] w fun e w' => e = .returned (.int .i64 0) ∧ Within w w'))
    (BC : Hid (∀ w, Calls Tryd.prog 46 #[.float .f64 b, .float .f64 c] w fun e w' => e = .returned (.int .i64 (-1)) ∧ Within w w'))
    (AC : Hid (∀ w, Calls Tryd.prog 46 #[.float .f64 a, .float .f64 c] w fun e w' => e = .returned (.int .i64 (-1)) ∧ Within w w'))
    (SM : Hid (∀ w, Calls Tryd.prog 41 #[.float .f64 a, .float .f64 b] w fun e w' => e = .returned (.bool true) ∧ Within w w'))
    (x y : Int) (KA : Hid (∀ w, Calls Tryd.prog 47 #[.float .f64 a] w fun e w' => e = .returned (.int .i64 x) ∧ Within w w'))
    (KB : Hid (∀ w, Calls Tryd.prog 47 #[.float .f64 b] w fun e w' => e = .returned (.int .i64 y) ∧ Within w w'))
    (hxy : decide (x < y) = false) (lt : (FloatKind.f64.format.order a b == some .lt) = false) (gt : (FloatKind.f64.format.order a b == some .gt) = false) :
    Calls Tryd.prog 6 #[.int .u64 a, .int .u64 b, .int .u64 c] w fun e w' => e = .returned (.bool true) ∧ Within w w' := by
  go_enter Tryd.func6, Tryd.ntmps6
  go_wp2_with fail
  refine (f_any a _).mono ?_; rintro e1 w1 ⟨rfl, rfl⟩
  go_wp2_with fail
  refine (f_any b _).mono ?_; rintro e2 w2 ⟨rfl, rfl⟩
  go_wp2_with fail
  refine (f_any c _).mono ?_; rintro e3 w3 ⟨rfl, rfl⟩
  go_wp2_with fail
  refine (AB.out _).mono ?_; rintro e4 w4 ⟨rfl, hb4⟩
  go_wp2_with fail
  refine (BA.out _).mono ?_; rintro e5 w5 ⟨rfl, hb5⟩
  go_wp2_with fail
  refine (AA.out _).mono ?_; rintro e6 w6 ⟨rfl, hb6⟩
  go_wp2_with fail
  refine (awake_true _ (hT.of (by repeat (first | with_reducible exact Within.refl _ | with_reducible assumption | with_reducible refine Within.alloc ?_ _ | with_reducible refine Within.drew ?_ | with_reducible refine Within.setCell ?_ (by first | (simp; done) | (simp; omega)) _ | with_reducible refine Within.trans ?_ (by assumption))))).mono ?_; rintro e7 w7 ⟨rfl, hb7⟩
  go_wp2_with fail
  refine (BC.out _).mono ?_; rintro e8 w8 ⟨rfl, hb8⟩
  go_wp2_with fail
  refine (AC.out _).mono ?_; rintro e9 w9 ⟨rfl, hb9⟩
  go_wp2_with fail
  refine (SM.out _).mono ?_; rintro e10 w10 ⟨rfl, hb10⟩
  go_wp2_with fail
  refine (KA.out _).mono ?_; rintro e11 w11 ⟨rfl, hb11⟩
  go_wp2_with fail
  refine (KB.out _).mono ?_; rintro e12 w12 ⟨rfl, hb12⟩
  go_wp2
  go_ret
  exact ⟨rfl, (by repeat (first | with_reducible exact Within.refl _ | with_reducible assumption | with_reducible refine Within.alloc ?_ _ | with_reducible refine Within.drew ?_ | with_reducible refine Within.setCell ?_ (by first | (simp; done) | (simp; omega)) _ | with_reducible refine Within.trans ?_ (by assumption)))⟩


set_option maxRecDepth 100000 in
set_option maxHeartbeats 600000 in
theorem order_z_z_f (a b c : Nat) (w : World) (hT : Tab w)
    (AB : Hid (∀ w, Calls Tryd.prog 46 #[.float .f64 a, .float .f64 b] w fun e w' => e = .returned (.int .i64 (0)) ∧ Within w w'))
    (BA : Hid (∀ w, Calls Tryd.prog 46 #[.float .f64 b, .float .f64 a] w fun e w' => e = .returned (.int .i64 (0)) ∧ Within w w'))
    (AA : Hid (∀ w, Calls Tryd.prog 46 #[.float .f64 a, .float .f64 a] w fun e w' => e = .returned (.int .i64 0) ∧ Within w w'))
    (BC : Hid (∀ w, Calls Tryd.prog 46 #[.float .f64 b, .float .f64 c] w fun e w' => e = .returned (.int .i64 (0)) ∧ Within w w'))
    (AC : Hid (∀ w, Calls Tryd.prog 46 #[.float .f64 a, .float .f64 c] w fun e w' => e = .returned (.int .i64 (0)) ∧ Within w w'))
    (SM : Hid (∀ w, Calls Tryd.prog 41 #[.float .f64 a, .float .f64 b] w fun e w' => e = .returned (.bool true) ∧ Within w w'))
    (x y : Int) (KA : Hid (∀ w, Calls Tryd.prog 47 #[.float .f64 a] w fun e w' => e = .returned (.int .i64 x) ∧ Within w w'))
    (KB : Hid (∀ w, Calls Tryd.prog 47 #[.float .f64 b] w fun e w' => e = .returned (.int .i64 y) ∧ Within w w'))
    (hxy : decide (x < y) = false) (lt : (FloatKind.f64.format.order a b == some .lt) = false) (gt : (FloatKind.f64.format.order a b == some .gt) = false) :
    Calls Tryd.prog 6 #[.int .u64 a, .int .u64 b, .int .u64 c] w fun e w' => e = .returned (.bool true) ∧ Within w w' := by
  go_enter Tryd.func6, Tryd.ntmps6
  go_wp2_with fail
  refine (f_any a _).mono ?_; rintro e1 w1 ⟨rfl, rfl⟩
  go_wp2_with fail
  refine (f_any b _).mono ?_; rintro e2 w2 ⟨rfl, rfl⟩
  go_wp2_with fail
  refine (f_any c _).mono ?_; rintro e3 w3 ⟨rfl, rfl⟩
  go_wp2_with fail
  refine (AB.out _).mono ?_; rintro e4 w4 ⟨rfl, hb4⟩
  go_wp2_with fail
  refine (BA.out _).mono ?_; rintro e5 w5 ⟨rfl, hb5⟩
  go_wp2_with fail
  refine (AA.out _).mono ?_; rintro e6 w6 ⟨rfl, hb6⟩
  go_wp2_with fail
  refine (awake_true _ (hT.of (by repeat (first | with_reducible exact Within.refl _ | with_reducible assumption | with_reducible refine Within.alloc ?_ _ | with_reducible refine Within.drew ?_ | with_reducible refine Within.setCell ?_ (by first | (simp; done) | (simp; omega)) _ | with_reducible refine Within.trans ?_ (by assumption))))).mono ?_; rintro e7 w7 ⟨rfl, hb7⟩
  go_wp2_with fail
  refine (BC.out _).mono ?_; rintro e8 w8 ⟨rfl, hb8⟩
  go_wp2_with fail
  refine (AC.out _).mono ?_; rintro e9 w9 ⟨rfl, hb9⟩
  go_wp2_with fail
  refine (SM.out _).mono ?_; rintro e10 w10 ⟨rfl, hb10⟩
  go_wp2_with fail
  refine (KA.out _).mono ?_; rintro e11 w11 ⟨rfl, hb11⟩
  go_wp2_with fail
  refine (KB.out _).mono ?_; rintro e12 w12 ⟨rfl, hb12⟩
  go_wp2
  go_ret
  exact ⟨rfl, (by repeat (first | with_reducible exact Within.refl _ | with_reducible assumption | with_reducible refine Within.alloc ?_ _ | with_reducible refine Within.drew ?_ | with_reducible refine Within.setCell ?_ (by first | (simp; done) | (simp; omega)) _ | with_reducible refine Within.trans ?_ (by assumption)))⟩


set_option maxRecDepth 100000 in
set_option maxHeartbeats 600000 in
theorem order_z_p_f (k3 : Int) (a b c : Nat) (w : World) (hT : Tab w)
    (AB : Hid (∀ w, Calls Tryd.prog 46 #[.float .f64 a, .float .f64 b] w fun e w' => e = .returned (.int .i64 (0)) ∧ Within w w'))
    (BA : Hid (∀ w, Calls Tryd.prog 46 #[.float .f64 b, .float .f64 a] w fun e w' => e = .returned (.int .i64 (0)) ∧ Within w w'))
    (AA : Hid (∀ w, Calls Tryd.prog 46 #[.float .f64 a, .float .f64 a] w fun e w' => e = .returned (.int .i64 0) ∧ Within w w'))
    (BC : Hid (∀ w, Calls Tryd.prog 46 #[.float .f64 b, .float .f64 c] w fun e w' => e = .returned (.int .i64 (1)) ∧ Within w w'))
    (AC : Hid (∀ w, Calls Tryd.prog 46 #[.float .f64 a, .float .f64 c] w fun e w' => e = .returned (.int .i64 (k3)) ∧ Within w w'))
    (SM : Hid (∀ w, Calls Tryd.prog 41 #[.float .f64 a, .float .f64 b] w fun e w' => e = .returned (.bool true) ∧ Within w w'))
    (x y : Int) (KA : Hid (∀ w, Calls Tryd.prog 47 #[.float .f64 a] w fun e w' => e = .returned (.int .i64 x) ∧ Within w w'))
    (KB : Hid (∀ w, Calls Tryd.prog 47 #[.float .f64 b] w fun e w' => e = .returned (.int .i64 y) ∧ Within w w'))
    (hxy : decide (x < y) = false) (lt : (FloatKind.f64.format.order a b == some .lt) = false) (gt : (FloatKind.f64.format.order a b == some .gt) = false) :
    Calls Tryd.prog 6 #[.int .u64 a, .int .u64 b, .int .u64 c] w fun e w' => e = .returned (.bool true) ∧ Within w w' := by
  go_enter Tryd.func6, Tryd.ntmps6
  go_wp2_with fail
  refine (f_any a _).mono ?_; rintro e1 w1 ⟨rfl, rfl⟩
  go_wp2_with fail
  refine (f_any b _).mono ?_; rintro e2 w2 ⟨rfl, rfl⟩
  go_wp2_with fail
  refine (f_any c _).mono ?_; rintro e3 w3 ⟨rfl, rfl⟩
  go_wp2_with fail
  refine (AB.out _).mono ?_; rintro e4 w4 ⟨rfl, hb4⟩
  go_wp2_with fail
  refine (BA.out _).mono ?_; rintro e5 w5 ⟨rfl, hb5⟩
  go_wp2_with fail
  refine (AA.out _).mono ?_; rintro e6 w6 ⟨rfl, hb6⟩
  go_wp2_with fail
  refine (awake_true _ (hT.of (by repeat (first | with_reducible exact Within.refl _ | with_reducible assumption | with_reducible refine Within.alloc ?_ _ | with_reducible refine Within.drew ?_ | with_reducible refine Within.setCell ?_ (by first | (simp; done) | (simp; omega)) _ | with_reducible refine Within.trans ?_ (by assumption))))).mono ?_; rintro e7 w7 ⟨rfl, hb7⟩
  go_wp2_with fail
  refine (BC.out _).mono ?_; rintro e8 w8 ⟨rfl, hb8⟩
  go_wp2_with fail
  refine (SM.out _).mono ?_; rintro e9 w9 ⟨rfl, hb9⟩
  go_wp2_with fail
  refine (KA.out _).mono ?_; rintro e10 w10 ⟨rfl, hb10⟩
  go_wp2_with fail
  refine (KB.out _).mono ?_; rintro e11 w11 ⟨rfl, hb11⟩
  go_wp2
  go_ret
  exact ⟨rfl, (by repeat (first | with_reducible exact Within.refl _ | with_reducible assumption | with_reducible refine Within.alloc ?_ _ | with_reducible refine Within.drew ?_ | with_reducible refine Within.setCell ?_ (by first | (simp; done) | (simp; omega)) _ | with_reducible refine Within.trans ?_ (by assumption)))⟩


set_option maxRecDepth 100000 in
set_option maxHeartbeats 600000 in
theorem order_p_x_t (k2 k3 : Int) (a b c : Nat) (w : World) (hT : Tab w)
    (AB : Hid (∀ w, Calls Tryd.prog 46 #[.float .f64 a, .float .f64 b] w fun e w' => e = .returned (.int .i64 (1)) ∧ Within w w'))
    (BA : Hid (∀ w, Calls Tryd.prog 46 #[.float .f64 b, .float .f64 a] w fun e w' => e = .returned (.int .i64 (-1)) ∧ Within w w'))
    (AA : Hid (∀ w, Calls Tryd.prog 46 #[.float .f64 a, .float .f64 a] w fun e w' => e = .returned (.int .i64 0) ∧ Within w w'))
    (BC : Hid (∀ w, Calls Tryd.prog 46 #[.float .f64 b, .float .f64 c] w fun e w' => e = .returned (.int .i64 (k2)) ∧ Within w w'))
    (AC : Hid (∀ w, Calls Tryd.prog 46 #[.float .f64 a, .float .f64 c] w fun e w' => e = .returned (.int .i64 (k3)) ∧ Within w w'))
    (SM : Hid (∀ w, Calls Tryd.prog 41 #[.float .f64 a, .float .f64 b] w fun e w' => e = .returned (.bool false) ∧ Within w w'))
    (x y : Int) (KA : Hid (∀ w, Calls Tryd.prog 47 #[.float .f64 a] w fun e w' => e = .returned (.int .i64 x) ∧ Within w w'))
    (KB : Hid (∀ w, Calls Tryd.prog 47 #[.float .f64 b] w fun e w' => e = .returned (.int .i64 y) ∧ Within w w'))
    (hxy : decide (x < y) = false) (lt : (FloatKind.f64.format.order a b == some .lt) = false) (gt : (FloatKind.f64.format.order a b == some .gt) = true) :
    Calls Tryd.prog 6 #[.int .u64 a, .int .u64 b, .int .u64 c] w fun e w' => e = .returned (.bool true) ∧ Within w w' := by
  go_enter Tryd.func6, Tryd.ntmps6
  go_wp2_with fail
  refine (f_any a _).mono ?_; rintro e1 w1 ⟨rfl, rfl⟩
  go_wp2_with fail
  refine (f_any b _).mono ?_; rintro e2 w2 ⟨rfl, rfl⟩
  go_wp2_with fail
  refine (f_any c _).mono ?_; rintro e3 w3 ⟨rfl, rfl⟩
  go_wp2_with fail
  refine (AB.out _).mono ?_; rintro e4 w4 ⟨rfl, hb4⟩
  go_wp2_with fail
  refine (BA.out _).mono ?_; rintro e5 w5 ⟨rfl, hb5⟩
  go_wp2_with fail
  refine (AA.out _).mono ?_; rintro e6 w6 ⟨rfl, hb6⟩
  go_wp2_with fail
  refine (awake_true _ (hT.of (by repeat (first | with_reducible exact Within.refl _ | with_reducible assumption | with_reducible refine Within.alloc ?_ _ | with_reducible refine Within.drew ?_ | with_reducible refine Within.setCell ?_ (by first | (simp; done) | (simp; omega)) _ | with_reducible refine Within.trans ?_ (by assumption))))).mono ?_; rintro e7 w7 ⟨rfl, hb7⟩
  go_wp2_with fail
  refine (SM.out _).mono ?_; rintro e8 w8 ⟨rfl, hb8⟩
  go_wp2_with fail
  refine (KA.out _).mono ?_; rintro e9 w9 ⟨rfl, hb9⟩
  go_wp2_with fail
  refine (KB.out _).mono ?_; rintro e10 w10 ⟨rfl, hb10⟩
  go_wp2
  go_ret
  exact ⟨rfl, (by repeat (first | with_reducible exact Within.refl _ | with_reducible assumption | with_reducible refine Within.alloc ?_ _ | with_reducible refine Within.drew ?_ | with_reducible refine Within.setCell ?_ (by first | (simp; done) | (simp; omega)) _ | with_reducible refine Within.trans ?_ (by assumption)))⟩


set_option maxRecDepth 100000 in
set_option maxHeartbeats 600000 in
theorem order_p_x_f (k2 k3 : Int) (a b c : Nat) (w : World) (hT : Tab w)
    (AB : Hid (∀ w, Calls Tryd.prog 46 #[.float .f64 a, .float .f64 b] w fun e w' => e = .returned (.int .i64 (1)) ∧ Within w w'))
    (BA : Hid (∀ w, Calls Tryd.prog 46 #[.float .f64 b, .float .f64 a] w fun e w' => e = .returned (.int .i64 (-1)) ∧ Within w w'))
    (AA : Hid (∀ w, Calls Tryd.prog 46 #[.float .f64 a, .float .f64 a] w fun e w' => e = .returned (.int .i64 0) ∧ Within w w'))
    (BC : Hid (∀ w, Calls Tryd.prog 46 #[.float .f64 b, .float .f64 c] w fun e w' => e = .returned (.int .i64 (k2)) ∧ Within w w'))
    (AC : Hid (∀ w, Calls Tryd.prog 46 #[.float .f64 a, .float .f64 c] w fun e w' => e = .returned (.int .i64 (k3)) ∧ Within w w'))
    (SM : Hid (∀ w, Calls Tryd.prog 41 #[.float .f64 a, .float .f64 b] w fun e w' => e = .returned (.bool false) ∧ Within w w'))
    (x y : Int) (KA : Hid (∀ w, Calls Tryd.prog 47 #[.float .f64 a] w fun e w' => e = .returned (.int .i64 x) ∧ Within w w'))
    (KB : Hid (∀ w, Calls Tryd.prog 47 #[.float .f64 b] w fun e w' => e = .returned (.int .i64 y) ∧ Within w w'))
    (hxy : decide (x < y) = false) (lt : (FloatKind.f64.format.order a b == some .lt) = false) (gt : (FloatKind.f64.format.order a b == some .gt) = false) :
    Calls Tryd.prog 6 #[.int .u64 a, .int .u64 b, .int .u64 c] w fun e w' => e = .returned (.bool true) ∧ Within w w' := by
  go_enter Tryd.func6, Tryd.ntmps6
  go_wp2_with fail
  refine (f_any a _).mono ?_; rintro e1 w1 ⟨rfl, rfl⟩
  go_wp2_with fail
  refine (f_any b _).mono ?_; rintro e2 w2 ⟨rfl, rfl⟩
  go_wp2_with fail
  refine (f_any c _).mono ?_; rintro e3 w3 ⟨rfl, rfl⟩
  go_wp2_with fail
  refine (AB.out _).mono ?_; rintro e4 w4 ⟨rfl, hb4⟩
  go_wp2_with fail
  refine (BA.out _).mono ?_; rintro e5 w5 ⟨rfl, hb5⟩
  go_wp2_with fail
  refine (AA.out _).mono ?_; rintro e6 w6 ⟨rfl, hb6⟩
  go_wp2_with fail
  refine (awake_true _ (hT.of (by repeat (first | with_reducible exact Within.refl _ | with_reducible assumption | with_reducible refine Within.alloc ?_ _ | with_reducible refine Within.drew ?_ | with_reducible refine Within.setCell ?_ (by first | (simp; done) | (simp; omega)) _ | with_reducible refine Within.trans ?_ (by assumption))))).mono ?_; rintro e7 w7 ⟨rfl, hb7⟩
  go_wp2_with fail
  refine (SM.out _).mono ?_; rintro e8 w8 ⟨rfl, hb8⟩
  go_wp2_with fail
  refine (KA.out _).mono ?_; rintro e9 w9 ⟨rfl, hb9⟩
  go_wp2_with fail
  refine (KB.out _).mono ?_; rintro e10 w10 ⟨rfl, hb10⟩
  go_wp2
  go_ret
  exact ⟨rfl, (by repeat (first | with_reducible exact Within.refl _ | with_reducible assumption | with_reducible refine Within.alloc ?_ _ | with_reducible refine Within.drew ?_ | with_reducible refine Within.setCell ?_ (by first | (simp; done) | (simp; omega)) _ | with_reducible refine Within.trans ?_ (by assumption)))⟩


theorem order_over (a b c : Nat) (w : World) (hT : Tab w) (x y z : Int)
    (AB : Hid (∀ w, Calls Tryd.prog 46 #[.float .f64 a, .float .f64 b] w fun e w' => e = .returned (.int .i64 (cmpOf x y)) ∧ Within w w'))
    (BA : Hid (∀ w, Calls Tryd.prog 46 #[.float .f64 b, .float .f64 a] w fun e w' => e = .returned (.int .i64 (cmpOf y x)) ∧ Within w w'))
    (AA : Hid (∀ w, Calls Tryd.prog 46 #[.float .f64 a, .float .f64 a] w fun e w' => e = .returned (.int .i64 0) ∧ Within w w'))
    (BC : Hid (∀ w, Calls Tryd.prog 46 #[.float .f64 b, .float .f64 c] w fun e w' => e = .returned (.int .i64 (cmpOf y z)) ∧ Within w w'))
    (AC : Hid (∀ w, Calls Tryd.prog 46 #[.float .f64 a, .float .f64 c] w fun e w' => e = .returned (.int .i64 (cmpOf x z)) ∧ Within w w'))
    (SM : Hid (∀ w, Calls Tryd.prog 41 #[.float .f64 a, .float .f64 b] w fun e w' => e = .returned (.bool (decide (x = y))) ∧ Within w w'))
    (KA : Hid (∀ w, Calls Tryd.prog 47 #[.float .f64 a] w fun e w' => e = .returned (.int .i64 x) ∧ Within w w'))
    (KB : Hid (∀ w, Calls Tryd.prog 47 #[.float .f64 b] w fun e w' => e = .returned (.int .i64 y) ∧ Within w w'))
    (hlt : (FloatKind.f64.format.order a b == some .lt) = true → x < y) (hgt : (FloatKind.f64.format.order a b == some .gt) = true → y < x) :
    Calls Tryd.prog 6 #[.int .u64 a, .int .u64 b, .int .u64 c] w fun e w' => e = .returned (.bool true) ∧ Within w w' := by
  rcases Int.lt_trichotomy x y with h1 | h1 | h1
  · rw [(cmp_lt' h1).1] at AB; rw [(cmp_lt' h1).2] at BA
    rw [decide_eq_false (show ¬ x = y by omega)] at SM
    have gt : (FloatKind.f64.format.order a b == some .gt) = false := Bool.eq_false_iff.2 (fun h => by have := hgt h; omega)
    cases lt : (FloatKind.f64.format.order a b == some .lt)
    · rcases Int.lt_trichotomy y z with h2 | h2 | h2
      · rw [(cmp_lt' h2).1] at BC; rw [(cmp_lt' (show x < z by omega)).1] at AC
        exact order_m_m_f a b c w hT AB BA AA BC AC SM _ _ KA KB (decide_eq_true (by omega)) lt gt
      · subst h2
        rw [cmp_self'] at BC; rw [(cmp_lt' h1).1] at AC
        exact order_m_z_f a b c w hT AB BA AA BC AC SM _ _ KA KB (decide_eq_true (by omega)) lt gt
      · rw [(cmp_lt' h2).2] at BC
        exact order_m_p_f _ a b c w hT AB BA AA BC AC SM _ _ KA KB (decide_eq_true (by omega)) lt gt
    · rcases Int.lt_trichotomy y z with h2 | h2 | h2
      · rw [(cmp_lt' h2).1] at BC; rw [(cmp_lt' (show x < z by omega)).1] at AC
        exact order_m_m_t a b c w hT AB BA AA BC AC SM _ _ KA KB (decide_eq_true (by omega)) lt gt
      · subst h2
        rw [cmp_self'] at BC; rw [(cmp_lt' h1).1] at AC
        exact order_m_z_t a b c w hT AB BA AA BC AC SM _ _ KA KB (decide_eq_true (by omega)) lt gt
      · rw [(cmp_lt' h2).2] at BC
        exact order_m_p_t _ a b c w hT AB BA AA BC AC SM _ _ KA KB (decide_eq_true (by omega)) lt gt
  · subst h1
    rw [cmp_self'] at AB BA
    rw [decide_eq_true (rfl : x = x)] at SM
    have gt : (FloatKind.f64.format.order a b == some .gt) = false := Bool.eq_false_iff.2 (fun h => by have := hgt h; omega)
    have lt : (FloatKind.f64.format.order a b == some .lt) = false := Bool.eq_false_iff.2 (fun h => by have := hlt h; omega)
    rcases Int.lt_trichotomy x z with h2 | h2 | h2
    · rw [(cmp_lt' h2).1] at BC; rw [(cmp_lt' (show x < z by omega)).1] at AC
      exact order_z_m_f a b c w hT AB BA AA BC AC SM _ _ KA KB (decide_eq_false (by omega)) lt gt
    · subst h2
      rw [cmp_self'] at BC; rw [cmp_self'] at AC
      exact order_z_z_f a b c w hT AB BA AA BC AC SM _ _ KA KB (decide_eq_false (by omega)) lt gt
    · rw [(cmp_lt' h2).2] at BC
      exact order_z_p_f _ a b c w hT AB BA AA BC AC SM _ _ KA KB (decide_eq_false (by omega)) lt gt
  · rw [(cmp_lt' h1).2] at AB; rw [(cmp_lt' h1).1] at BA
    rw [decide_eq_false (show ¬ x = y by omega)] at SM
    have lt : (FloatKind.f64.format.order a b == some .lt) = false := Bool.eq_false_iff.2 (fun h => by have := hlt h; omega)
    cases gt : (FloatKind.f64.format.order a b == some .gt)
    · exact order_p_x_f _ _ a b c w hT AB BA AA BC AC SM x y KA KB (decide_eq_false (by omega)) lt gt
    · exact order_p_x_t _ _ a b c w hT AB BA AA BC AC SM x y KA KB (decide_eq_false (by omega)) lt gt

theorem order_walk (a b c : Nat) (ha : a < 18446744073709551616) (hb : b < 18446744073709551616) (hc : c < 18446744073709551616) (w : World) (hT : Tab w) :
    Calls Tryd.prog 6 #[.int .u64 a, .int .u64 b, .int .u64 c] w fun e w' => e = .returned (.bool true) ∧ Within w w' := by
  have hlt := lt_place a b ha hb
  have hgt := lt_place b a hb ha
  rw [← gt_lt] at hgt
  exact order_over a b c w hT (place a) (place b) (place c) (fun w => Compare_any a b ha hb w) (fun w => Compare_any b a hb ha w)
    (fun w => by have h := Compare_any a a ha ha w; rw [cmp_self'] at h; exact h)
    (fun w => Compare_any b c hb hc w) (fun w => Compare_any a c ha hc w)
    (fun w => by have h := Same_D a b ha hb w; rw [decide_eq_decide.2 (place_canon a b ha hb)] at h; exact h)
    (fun w => Key_any a ha w) (fun w => Key_any b hb w) hlt hgt

end Go.Proofs.YthjaponkbodooaaDoor
