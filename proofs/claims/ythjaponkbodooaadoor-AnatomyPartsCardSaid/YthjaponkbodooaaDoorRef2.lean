/- places there and back, steps between them: walks. -/
import Derived.Test.YthjaponkbodooaaDoorRef1
import Derived.Test.YthjaponkbodooaaDoorPlaces
namespace Go.Proofs.YthjaponkbodooaaDoor
open Go.RowKit

theorem u64_join63 (q : Nat) (h : q < 9223372036854775808) : bits .or .u64 (q : Int) 9223372036854775808 = ((q + 9223372036854775808 : Nat) : Int) := by
  rw [show (9223372036854775808 : Int) = ((9223372036854775808 : Nat) : Int) from rfl, u64_or_nat q _ (by omega) (by decide), Nat.or_comm, nat_join 63 _ q (by decide) h, Nat.add_comm]

theorem Runkey_any (k : Int) (hlo : -9223372036854775808 ≤ k) (hhi : k < 9223372036854775808) (w : World) : Calls Tryd.prog 61 #[.int .i64 k] w fun e w' => e = .returned (.tuple #[.float .f64 (unkeyB k), .int .i64 (unkeyE k)]) ∧ w = w' := by
  unfold unkeyB unkeyE
  by_cases h1 : 9218868437227405313 < k
  · rw [if_pos (.inl h1), if_pos (.inl h1)]; exact RunkeyHigh k h1 w
  by_cases h2 : k < -9218868437227405313
  · rw [if_pos (.inr h2), if_pos (.inr h2)]; exact RunkeyLow k h2 w
  have h0 : ¬ (9218868437227405313 < k ∨ k < -9218868437227405313) := by omega
  rw [if_neg h0, if_neg h0]
  by_cases h3 : 9218868437227405312 < k
  · rw [if_pos h3]; exact RunkeyNan k (by omega) w
  rw [if_neg h3]
  by_cases h4 : k < 0
  · rw [if_pos h4]; exact RunkeyNeg k h4 (by omega) w
  · rw [if_neg h4]; exact RunkeyPos k (by omega) (by omega) w

set_option maxRecDepth 100000 in
set_option maxHeartbeats 600000 in
theorem UnkeyHigh (k : Int) (hk : 9218868437227405313 < k) (w : World) : Calls Tryd.prog 48 #[.int .i64 k] w fun e w' => e = .returned (.tuple #[.float .f64 0, .int .i64 1]) ∧ Within w w' := by
  have f1 : True → decide (k > 9218868437227405313) = true := fun _ => decide_eq_true (by omega)
  clear hk
  go_enter Tryd.func48, Tryd.ntmps48
  go_wp2_with fail
  refine (top_any _).mono ?_; rintro e1 w1 ⟨rfl, hb1⟩
  go_wp2
  go_ret2
  exact ⟨ret2 (v_float (by rfl)) rfl, (by repeat (first | with_reducible exact Within.refl _ | with_reducible assumption | with_reducible refine Within.alloc ?_ _ | with_reducible refine Within.drew ?_ | with_reducible refine Within.setCell ?_ (by first | (simp; done) | (simp; omega)) _ | with_reducible refine Within.trans ?_ (by assumption)))⟩

set_option maxRecDepth 100000 in
set_option maxHeartbeats 600000 in
theorem UnkeyLow (k : Int) (hk : k < -9218868437227405313) (w : World) : Calls Tryd.prog 48 #[.int .i64 k] w fun e w' => e = .returned (.tuple #[.float .f64 0, .int .i64 1]) ∧ Within w w' := by
  have f1 : True → decide (k > 9218868437227405313) = false := fun _ => decide_eq_false (by omega)
  have f3 : True → decide (k < -9218868437227405313) = true := fun _ => decide_eq_true (by omega)
  clear hk
  go_enter Tryd.func48, Tryd.ntmps48
  go_wp2_with fail
  refine (top_any _).mono ?_; rintro e1 w1 ⟨rfl, hb1⟩
  go_wp2_with fail
  refine (top_any _).mono ?_; rintro e2 w2 ⟨rfl, hb2⟩
  go_wp2
  go_ret2
  exact ⟨ret2 (v_float (by rfl)) rfl, (by repeat (first | with_reducible exact Within.refl _ | with_reducible assumption | with_reducible refine Within.alloc ?_ _ | with_reducible refine Within.drew ?_ | with_reducible refine Within.setCell ?_ (by first | (simp; done) | (simp; omega)) _ | with_reducible refine Within.trans ?_ (by assumption)))⟩

set_option maxRecDepth 100000 in
set_option maxHeartbeats 600000 in
theorem UnkeyNan (k : Int) (hk : k = 9218868437227405313) (w : World) : Calls Tryd.prog 48 #[.int .i64 k] w fun e w' => e = .returned (.tuple #[.float .f64 9221120237041090561, .int .i64 0]) ∧ Within w w' := by
  subst hk
  go_enter Tryd.func48, Tryd.ntmps48
  go_wp2_with fail
  refine (top_any _).mono ?_; rintro e1 w1 ⟨rfl, hb1⟩
  go_wp2_with fail
  refine (top_any _).mono ?_; rintro e2 w2 ⟨rfl, hb2⟩
  go_wp2_with fail
  refine (top_any _).mono ?_; rintro e3 w3 ⟨rfl, hb3⟩
  go_wp2_with fail
  refine (of_D _).mono ?_; rintro e4 w4 ⟨rfl, hb4⟩
  go_wp2_with fail
  refine (none_D _).mono ?_; rintro e5 w5 ⟨rfl, hb5⟩
  go_wp2
  go_ret2
  exact ⟨ret2 (v_float (by rfl)) rfl, (by repeat (first | with_reducible exact Within.refl _ | with_reducible assumption | with_reducible refine Within.alloc ?_ _ | with_reducible refine Within.drew ?_ | with_reducible refine Within.setCell ?_ (by first | (simp; done) | (simp; omega)) _ | with_reducible refine Within.trans ?_ (by assumption)))⟩

set_option maxRecDepth 100000 in
set_option maxHeartbeats 600000 in
theorem UnkeyNeg (k : Int) (hk : k < 0) (hk2 : -9218868437227405313 ≤ k) (w : World) : Calls Tryd.prog 48 #[.int .i64 k] w fun e w' => e = .returned (.tuple #[.float .f64 ((-1 - k).toNat + 9223372036854775808), .int .i64 0]) ∧ Within w w' := by
  have f1 : True → decide (k > 9218868437227405313) = false := fun _ => decide_eq_false (by omega)
  have f3 : True → decide (k < -9218868437227405313) = false := fun _ => decide_eq_false (by omega)
  have f2 : True → decide (k > 9218868437227405312) = false := fun _ => decide_eq_false (by omega)
  have f4 : True → decide (k < 0) = true := fun _ => decide_eq_true (by omega)
  obtain ⟨q, hq, hq2⟩ : ∃ q : Nat, -1 - k = q ∧ q < 9223372036854775808 := ⟨(-1 - k).toNat, by omega, by omega⟩
  have g1 : IntKind.i64.wrap (-1 - k) = q := by rw [IntKind.wrap_i64]; omega
  have g2 : IntKind.u64.wrap (q : Int) = q := by rw [IntKind.wrap_u64]; omega
  have g3 := u64_join63 q hq2
  rw [show (-1 - k).toNat = q by omega]
  have HQ := Lib.hid (And.intro hq hq2)
  clear hk hk2 hq hq2
  go_enter Tryd.func48, Tryd.ntmps48
  go_wp2_with fail
  refine (top_any _).mono ?_; rintro e1 w1 ⟨rfl, hb1⟩
  go_wp2_with fail
  refine (top_any _).mono ?_; rintro e2 w2 ⟨rfl, hb2⟩
  go_wp2_with fail
  refine (top_any _).mono ?_; rintro e3 w3 ⟨rfl, hb3⟩
  go_wp2_with fail
  refine (of_D _).mono ?_; rintro e4 w4 ⟨rfl, hb4⟩
  go_wp2_with fail
  refine (sign_D _).mono ?_; rintro e5 w5 ⟨rfl, hb5⟩
  go_wp2
  go_ret2
  exact ⟨ret2 (v_float (by have := HQ.out; first | rfl | omega)) rfl, (by repeat (first | with_reducible exact Within.refl _ | with_reducible assumption | with_reducible refine Within.alloc ?_ _ | with_reducible refine Within.drew ?_ | with_reducible refine Within.setCell ?_ (by first | (simp; done) | (simp; omega)) _ | with_reducible refine Within.trans ?_ (by assumption)))⟩

set_option maxRecDepth 100000 in
set_option maxHeartbeats 600000 in
theorem UnkeyPos (k : Int) (hk : 0 ≤ k) (hk2 : k ≤ 9218868437227405312) (w : World) : Calls Tryd.prog 48 #[.int .i64 k] w fun e w' => e = .returned (.tuple #[.float .f64 k.toNat, .int .i64 0]) ∧ Within w w' := by
  have f1 : True → decide (k > 9218868437227405313) = false := fun _ => decide_eq_false (by omega)
  have f3 : True → decide (k < -9218868437227405313) = false := fun _ => decide_eq_false (by omega)
  have f2 : True → decide (k > 9218868437227405312) = false := fun _ => decide_eq_false (by omega)
  have f4 : True → decide (k < 0) = false := fun _ => decide_eq_false (by omega)
  obtain ⟨q, rfl⟩ : ∃ q : Nat, k = q := ⟨k.toNat, by omega⟩
  have g2 : IntKind.u64.wrap (q : Int) = q := by rw [IntKind.wrap_u64]; omega
  have HQ := Lib.hid (And.intro hk hk2)
  clear hk hk2
  go_enter Tryd.func48, Tryd.ntmps48
  go_wp2_with fail
  refine (top_any _).mono ?_; rintro e1 w1 ⟨rfl, hb1⟩
  go_wp2_with fail
  refine (top_any _).mono ?_; rintro e2 w2 ⟨rfl, hb2⟩
  go_wp2_with fail
  refine (top_any _).mono ?_; rintro e3 w3 ⟨rfl, hb3⟩
  go_wp2
  go_ret2
  exact ⟨ret2 (v_float (by have := HQ.out; first | rfl | omega)) rfl, (by repeat (first | with_reducible exact Within.refl _ | with_reducible assumption | with_reducible refine Within.alloc ?_ _ | with_reducible refine Within.drew ?_ | with_reducible refine Within.setCell ?_ (by first | (simp; done) | (simp; omega)) _ | with_reducible refine Within.trans ?_ (by assumption)))⟩

theorem Unkey_any (k : Int) (hlo : -9223372036854775808 ≤ k) (hhi : k < 9223372036854775808) (w : World) : Calls Tryd.prog 48 #[.int .i64 k] w fun e w' => e = .returned (.tuple #[.float .f64 (unkeyB k), .int .i64 (unkeyE k)]) ∧ Within w w' := by
  unfold unkeyB unkeyE
  by_cases h1 : 9218868437227405313 < k
  · rw [if_pos (.inl h1), if_pos (.inl h1)]; exact UnkeyHigh k h1 w
  by_cases h2 : k < -9218868437227405313
  · rw [if_pos (.inr h2), if_pos (.inr h2)]; exact UnkeyLow k h2 w
  have h0 : ¬ (9218868437227405313 < k ∨ k < -9218868437227405313) := by omega
  rw [if_neg h0, if_neg h0]
  by_cases h3 : 9218868437227405312 < k
  · rw [if_pos h3]; exact UnkeyNan k (by omega) w
  rw [if_neg h3]
  by_cases h4 : k < 0
  · rw [if_pos h4]; exact UnkeyNeg k h4 (by omega) w
  · rw [if_neg h4]; exact UnkeyPos k (by omega) (by omega) w

set_option maxRecDepth 100000 in
set_option maxHeartbeats 600000 in
theorem Rcompare_any (a b : Nat) (ha : a < 18446744073709551616) (hb : b < 18446744073709551616) (w : World) : Calls Tryd.prog 65 #[.float .f64 a, .float .f64 b] w fun e w' => e = .returned (.int .i64 (cmpOf (place a) (place b))) ∧ w = w' := by
  have HA := Lib.hid (fun w => Rkey_any a ha w); have HB := Lib.hid (fun w => Rkey_any b hb w); clear ha hb
  generalize place a = x at *
  generalize place b = y at *
  generalize hv : cmpOf x y = r
  unfold cmpOf at hv
  by_cases h1 : x < y
  · rw [if_pos h1] at hv; subst hv
    go_enter Tryd.func65, Tryd.ntmps65
    go_wp2_with fail
    refine (HA.out _).mono ?_; rintro e1 w1 ⟨rfl, rfl⟩
    go_wp2_with fail
    refine (HB.out _).mono ?_; rintro e2 w2 ⟨rfl, rfl⟩
    go_wp2
    go_ret
    exact ⟨rfl, rfl⟩
  rw [if_neg h1] at hv
  by_cases h2 : y < x
  · rw [if_pos h2] at hv; subst hv
    go_enter Tryd.func65, Tryd.ntmps65
    go_wp2_with fail
    refine (HA.out _).mono ?_; rintro e1 w1 ⟨rfl, rfl⟩
    go_wp2_with fail
    refine (HB.out _).mono ?_; rintro e2 w2 ⟨rfl, rfl⟩
    go_wp2
    go_ret
    exact ⟨rfl, rfl⟩
  · rw [if_neg h2] at hv; subst hv
    go_enter Tryd.func65, Tryd.ntmps65
    go_wp2_with fail
    refine (HA.out _).mono ?_; rintro e1 w1 ⟨rfl, rfl⟩
    go_wp2_with fail
    refine (HB.out _).mono ?_; rintro e2 w2 ⟨rfl, rfl⟩
    go_wp2
    go_ret
    exact ⟨rfl, rfl⟩

theorem steps_big {x y : Int} (hx : -9218868437227405313 ≤ x) (hx' : x ≤ 9218868437227405313) (hy : -9218868437227405313 ≤ y) (hy' : y ≤ 9218868437227405313) (h : y ≤ x) :
    IntKind.u64.wrap (IntKind.u64.wrap x - IntKind.u64.wrap y) = ((x - y).natAbs : Nat) := by
  rw [IntKind.wrap_u64, IntKind.wrap_u64, IntKind.wrap_u64]; omega

set_option maxRecDepth 100000 in
set_option maxHeartbeats 600000 in
theorem Steps_any (a b : Nat) (ha : a < 18446744073709551616) (hb : b < 18446744073709551616) (w : World) : Calls Tryd.prog 62 #[.float .f64 a, .float .f64 b] w fun e w' => e = .returned (.tuple #[.int .u64 (stepsB a b), .int .i64 (stepsE a b)]) ∧ Within w w' := by
  have e1 := ne_self64 a
  have e2 := ne_self64 b
  unfold stepsB stepsE
  have ra := place_range a ha; have rb := place_range b hb
  have HA := Lib.hid (fun w => Key_any a ha w); have HB := Lib.hid (fun w => Key_any b hb w); clear ha hb
  cases hna : nanD a
  · rw [hna] at e1
    cases hnb : nanD b
    · rw [hnb] at e2
      simp only [Bool.or_self, Bool.false_eq_true, if_false]
      clear hna hnb
      generalize place a = x at *
      generalize place b = y at *
      by_cases h : x < y
      · have hd : True → decide (x < y) = true := fun _ => decide_eq_true h
        have hs := steps_big rb.1 rb.2 ra.1 ra.2 (by omega)
        have HS := Lib.hid (And.intro ra rb); clear ra rb h
        go_enter Tryd.func62, Tryd.ntmps62
        go_wp2_with fail
        refine (HA.out _).mono ?_; rintro e1 w1 ⟨rfl, hb1⟩
        go_wp2_with fail
        refine (HB.out _).mono ?_; rintro e2 w2 ⟨rfl, hb2⟩
        go_wp2
        go_ret2
        exact ⟨ret2 (v_int (by first | exact hs | rfl | omega)) rfl, (by repeat (first | with_reducible exact Within.refl _ | with_reducible assumption | with_reducible refine Within.alloc ?_ _ | with_reducible refine Within.drew ?_ | with_reducible refine Within.setCell ?_ (by first | (simp; done) | (simp; omega)) _ | with_reducible refine Within.trans ?_ (by assumption)))⟩
      · have hd : True → decide (x < y) = false := fun _ => decide_eq_false h
        have hs := steps_big ra.1 ra.2 rb.1 rb.2 (by omega)
        have HS := Lib.hid (And.intro ra rb); clear ra rb h
        go_enter Tryd.func62, Tryd.ntmps62
        go_wp2_with fail
        refine (HA.out _).mono ?_; rintro e1 w1 ⟨rfl, hb1⟩
        go_wp2_with fail
        refine (HB.out _).mono ?_; rintro e2 w2 ⟨rfl, hb2⟩
        go_wp2
        go_ret2
        exact ⟨ret2 (v_int (by first | exact hs | rfl | omega)) rfl, (by repeat (first | with_reducible exact Within.refl _ | with_reducible assumption | with_reducible refine Within.alloc ?_ _ | with_reducible refine Within.drew ?_ | with_reducible refine Within.setCell ?_ (by first | (simp; done) | (simp; omega)) _ | with_reducible refine Within.trans ?_ (by assumption)))⟩
    · rw [hnb] at e2
      simp only [Bool.or_true, if_true]
      clear hna hnb ra rb
      go_enter Tryd.func62, Tryd.ntmps62
      go_wp2
      go_ret2
      exact ⟨rfl, (by repeat (first | with_reducible exact Within.refl _ | with_reducible assumption | with_reducible refine Within.alloc ?_ _ | with_reducible refine Within.drew ?_ | with_reducible refine Within.setCell ?_ (by first | (simp; done) | (simp; omega)) _ | with_reducible refine Within.trans ?_ (by assumption)))⟩
  · rw [hna] at e1
    simp only [Bool.true_or, if_true]
    clear hna ra rb
    go_enter Tryd.func62, Tryd.ntmps62
    go_wp2
    go_ret2
    exact ⟨rfl, (by repeat (first | with_reducible exact Within.refl _ | with_reducible assumption | with_reducible refine Within.alloc ?_ _ | with_reducible refine Within.drew ?_ | with_reducible refine Within.setCell ?_ (by first | (simp; done) | (simp; omega)) _ | with_reducible refine Within.trans ?_ (by assumption)))⟩

set_option maxRecDepth 100000 in
set_option maxHeartbeats 600000 in
theorem Rsteps_any (a b : Nat) (ha : a < 18446744073709551616) (hb : b < 18446744073709551616) (w : World) : Calls Tryd.prog 63 #[.float .f64 a, .float .f64 b] w fun e w' => e = .returned (.tuple #[.int .u64 (stepsB a b), .int .i64 (stepsE a b)]) ∧ w = w' := by
  have e1 := ne_self64 a
  have e2 := ne_self64 b
  unfold stepsB stepsE
  have ra := place_range a ha; have rb := place_range b hb
  have HA := Lib.hid (fun w => Rkey_any a ha w); have HB := Lib.hid (fun w => Rkey_any b hb w); clear ha hb
  cases hna : nanD a
  · rw [hna] at e1
    cases hnb : nanD b
    · rw [hnb] at e2
      simp only [Bool.or_self, Bool.false_eq_true, if_false]
      clear hna hnb
      generalize place a = x at *
      generalize place b = y at *
      by_cases h : x > y
      · have hd : True → decide (x > y) = true := fun _ => decide_eq_true h
        have hs := steps_big ra.1 ra.2 rb.1 rb.2 (by omega)
        have HS := Lib.hid (And.intro ra rb); clear ra rb h
        go_enter Tryd.func63, Tryd.ntmps63
        go_wp2_with fail
        refine (HA.out _).mono ?_; rintro e1 w1 ⟨rfl, rfl⟩
        go_wp2_with fail
        refine (HB.out _).mono ?_; rintro e2 w2 ⟨rfl, rfl⟩
        go_wp2
        go_ret2
        exact ⟨ret2 (v_int (by first | exact hs | rfl | omega)) rfl, rfl⟩
      · have hd : True → decide (x > y) = false := fun _ => decide_eq_false h
        have hs := steps_big rb.1 rb.2 ra.1 ra.2 (by omega)
        have HS := Lib.hid (And.intro ra rb); clear ra rb h
        go_enter Tryd.func63, Tryd.ntmps63
        go_wp2_with fail
        refine (HA.out _).mono ?_; rintro e1 w1 ⟨rfl, rfl⟩
        go_wp2_with fail
        refine (HB.out _).mono ?_; rintro e2 w2 ⟨rfl, rfl⟩
        go_wp2
        go_ret2
        exact ⟨ret2 (v_int (by first | exact hs | rfl | omega)) rfl, rfl⟩
    · rw [hnb] at e2
      simp only [Bool.or_true, if_true]
      clear hna hnb ra rb
      go_enter Tryd.func63, Tryd.ntmps63
      go_wp2
      go_ret2
      exact ⟨rfl, rfl⟩
  · rw [hna] at e1
    simp only [Bool.true_or, if_true]
    clear hna ra rb
    go_enter Tryd.func63, Tryd.ntmps63
    go_wp2
    go_ret2
    exact ⟨rfl, rfl⟩

end Go.Proofs.YthjaponkbodooaaDoor
