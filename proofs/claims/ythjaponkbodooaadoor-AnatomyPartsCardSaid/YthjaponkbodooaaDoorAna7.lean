/- anatomy's places in the total order: walks; what tells a NaN. -/
import Derived.Test.YthjaponkbodooaaDoorAna6
namespace Go.Proofs.YthjaponkbodooaaDoor
open Go.RowKit

/-- x != x -/
theorem ne_self64 (a : Nat) : (FloatKind.f64.format.order a a != some .eq) = nanD a := by
  have := Fp.order64_self a
  show (!(Ieee.double.order a a == some .eq)) = _
  rw [this, Bool.not_not]; rfl
theorem ne_self32 (a : Nat) : (FloatKind.f32.format.order a a != some .eq) = nanS a := by
  have := Fp.order32_self a
  show (!(Ieee.single.order a a == some .eq)) = _
  rw [this, Bool.not_not]; rfl
theorem canonD_nan {a : Nat} (h : nanD a = true) : canonD a = 9221120237041090561 := if_pos h
theorem canonD_id {a : Nat} (h : nanD a = false) : canonD a = a := by unfold canonD; rw [if_neg (by simp [h])]
theorem canonS_nan {a : Nat} (h : nanS a = true) : canonS a = 2143289344 := if_pos h
theorem canonS_id {a : Nat} (h : nanS a = false) : canonS a = a := by unfold canonS; rw [if_neg (by simp [h])]
theorem nan_canonD (a : Nat) : nanD (canonD a) = nanD a := by
  cases h : nanD a
  · rw [canonD_id h, h]
  · rw [canonD_nan h]; decide
theorem nan_canonS (a : Nat) : nanS (canonS a) = nanS a := by
  cases h : nanS a
  · rw [canonS_id h, h]
  · rw [canonS_nan h]; decide
theorem nanD_false {a : Nat} (h : nanD a = false) : a % 9223372036854775808 ≤ 9218868437227405312 := by unfold nanD at h; simp at h; exact h
theorem nanD_true {a : Nat} (h : nanD a = true) : 9218868437227405312 < a % 9223372036854775808 := by unfold nanD at h; simpa using h
theorem nanS_false {a : Nat} (h : nanS a = false) : a % 2147483648 ≤ 2139095040 := by unfold nanS at h; simp at h; exact h

/-- the place of a number -/
def place (a : Nat) : Int := if nanD a then 9218868437227405313 else if 9223372036854775808 ≤ a then -1 - ((a - 9223372036854775808 : Nat) : Int) else a
theorem place_range (a : Nat) (ha : a < 18446744073709551616) : -9218868437227405313 ≤ place a ∧ place a ≤ 9218868437227405313 := by
  unfold place
  cases h : nanD a
  · have := nanD_false h
    rw [if_neg (by simp)]
    split <;> omega
  · rw [if_pos (by simp)]; omega
def unkeyB (k : Int) : Nat := if 9218868437227405313 < k ∨ k < -9218868437227405313 then 0 else if 9218868437227405312 < k then 9221120237041090561 else if k < 0 then (-1 - k).toNat + 9223372036854775808 else k.toNat
def unkeyE (k : Int) : Int := if 9218868437227405313 < k ∨ k < -9218868437227405313 then 1 else 0
def stepsB (a b : Nat) : Nat := if nanD a || nanD b then 0 else (place a - place b).natAbs
def stepsE (a b : Nat) : Int := if nanD a || nanD b then 4 else 0
def cmpOf (x y : Int) : Int := if x < y then -1 else if y < x then 1 else 0

set_option maxRecDepth 100000 in
set_option maxHeartbeats 600000 in
theorem top_any (w : World) : Calls Tryd.prog 99 #[] w fun e w' => e = .returned (.int .i64 9218868437227405312) ∧ Within w w' := by
  go_enter Tryd.func99, Tryd.ntmps99
  go_wp2_with fail
  refine (of_D _).mono ?_; rintro e1 w1 ⟨rfl, hb1⟩
  go_wp2_with fail
  refine (infinite_D _).mono ?_; rintro e2 w2 ⟨rfl, hb2⟩
  go_wp2
  go_ret
  exact ⟨rfl, (by repeat (first | with_reducible exact Within.refl _ | with_reducible assumption | with_reducible refine Within.alloc ?_ _ | with_reducible refine Within.drew ?_ | with_reducible refine Within.setCell ?_ (by first | (simp; done) | (simp; omega)) _ | with_reducible refine Within.trans ?_ (by assumption)))⟩


set_option maxRecDepth 100000 in
set_option maxHeartbeats 600000 in
theorem KeyNan (a : Nat) (ha : a < 18446744073709551616) (hn : nanD a = true) (w : World) : Calls Tryd.prog 47 #[.float .f64 a] w fun e w' => e = .returned (.int .i64 9218868437227405313) ∧ Within w w' := by
  have HA := Lib.hid ha; clear ha
  have HL := Lib.hid (canonD_lt HA.out)
  have NN := Lib.hid (nan_D (canonD a) HL.out)
  rw [nan_canonD, hn] at NN
  clear hn
  go_enter Tryd.func47, Tryd.ntmps47
  go_wp2_with fail
  refine (of_D _).mono ?_; rintro e1 w1 ⟨rfl, hb1⟩
  go_wp2
  refine wp_region_within (by kernel_rfl) (by kernel_rfl) ?_
  repeat
    apply wpq_step rfl
    · intro wq hCq
      have hcq := hCq.cells
      go_simp
      first | rfl | exact hCq.call (canon_D a HA.out _) | (trace_state; fail)
    simp only [Act.put, List.setIfInBounds_toArray, List.set_cons_zero, List.set_cons_succ]
  refine wpQuiet_nil ?_
  intro w2 hb2
  have hc2 := hb2.cells
  have hz2 : w1.heap.size < w2.heap.size := (by have := hb2.sizes; simp at this; omega)
  go_wp2_with fail
  refine (NN.out _).mono ?_; rintro e3 w3 ⟨rfl, hb3⟩
  have hc3 := hb3.cells; have hz3 : w1.heap.size < w3.heap.size := (by have := hb3.sizes; omega)
  go_wp2_with fail
  refine (top_any _).mono ?_; rintro e4 w4 ⟨rfl, hb4⟩
  go_wp2
  go_ret
  exact ⟨rfl, (by repeat (first | with_reducible exact Within.refl _ | with_reducible assumption | with_reducible refine Within.alloc ?_ _ | with_reducible refine Within.drew ?_ | with_reducible refine Within.setCell ?_ (by first | (simp; done) | (simp; omega)) _ | with_reducible refine Within.trans ?_ (by assumption)))⟩


set_option maxRecDepth 100000 in
set_option maxHeartbeats 600000 in
theorem KeyPos (a : Nat) (ha : a < 18446744073709551616) (hn : nanD a = false) (h : a < 9223372036854775808) (w : World) : Calls Tryd.prog 47 #[.float .f64 a] w fun e w' => e = .returned (.int .i64 a) ∧ Within w w' := by
  have HA := Lib.hid ha; clear ha
  have HL := Lib.hid h
  have CC := Lib.hid (fun w => canon_D a HA.out w)
  rw [canonD_id hn] at CC
  have NN := Lib.hid (nan_D a HA.out)
  rw [hn] at NN
  have e1 := u64_sign a HA.out
  rw [show a / 9223372036854775808 * 9223372036854775808 = 0 by omega] at e1
  have ew : IntKind.i64.wrap (a : Int) = a := by rw [IntKind.wrap_i64]; omega
  clear hn h
  go_enter Tryd.func47, Tryd.ntmps47
  go_wp2_with fail
  refine (of_D _).mono ?_; rintro e1 w1 ⟨rfl, hb1⟩
  go_wp2
  refine wp_region_within (by kernel_rfl) (by kernel_rfl) ?_
  repeat
    apply wpq_step rfl
    · intro wq hCq
      have hcq := hCq.cells
      go_simp
      first | rfl | exact hCq.call (CC.out _) | (trace_state; fail)
    simp only [Act.put, List.setIfInBounds_toArray, List.set_cons_zero, List.set_cons_succ]
  refine wpQuiet_nil ?_
  intro w2 hb2
  have hc2 := hb2.cells
  have hz2 : w1.heap.size < w2.heap.size := (by have := hb2.sizes; simp at this; omega)
  go_wp2_with fail
  refine (NN.out _).mono ?_; rintro e3 w3 ⟨rfl, hb3⟩
  have hc3 := hb3.cells; have hz3 : w1.heap.size < w3.heap.size := (by have := hb3.sizes; omega)
  go_wp2_with fail
  refine (sign_D _).mono ?_; rintro e4 w4 ⟨rfl, hb4⟩
  go_wp2
  go_ret
  exact ⟨ret_int (by have := HL.out; first | rfl | omega | (unfold wrap64; omega)), (by repeat (first | with_reducible exact Within.refl _ | with_reducible assumption | with_reducible refine Within.alloc ?_ _ | with_reducible refine Within.drew ?_ | with_reducible refine Within.setCell ?_ (by first | (simp; done) | (simp; omega)) _ | with_reducible refine Within.trans ?_ (by assumption)))⟩


set_option maxRecDepth 100000 in
set_option maxHeartbeats 600000 in
theorem KeyNeg (a : Nat) (ha : a < 18446744073709551616) (hn : nanD a = false) (h : 9223372036854775808 ≤ a) (w : World) : Calls Tryd.prog 47 #[.float .f64 a] w fun e w' => e = .returned (.int .i64 (-1 - ((a - 9223372036854775808 : Nat) : Int))) ∧ Within w w' := by
  have HA := Lib.hid ha; clear ha
  have HL := Lib.hid h
  have CC := Lib.hid (fun w => canon_D a HA.out w)
  rw [canonD_id hn] at CC
  have NN := Lib.hid (nan_D a HA.out)
  rw [hn] at NN
  have e1 := u64_sign a HA.out
  rw [show a / 9223372036854775808 * 9223372036854775808 = 9223372036854775808 by have := HA.out; omega] at e1
  have e2 := u64_xsign a HA.out
  rw [show (a + 9223372036854775808) % 18446744073709551616 = a - 9223372036854775808 by have := HA.out; omega] at e2
  have t1 : (((9223372036854775808 : Nat) : Int) != 0) = true := by decide
  have HQ := Lib.hid (show a - 9223372036854775808 < 9223372036854775808 by have := HA.out; omega)
  generalize a - 9223372036854775808 = q at *
  clear hn h
  go_enter Tryd.func47, Tryd.ntmps47
  go_wp2_with fail
  refine (of_D _).mono ?_; rintro e1 w1 ⟨rfl, hb1⟩
  go_wp2
  refine wp_region_within (by kernel_rfl) (by kernel_rfl) ?_
  repeat
    apply wpq_step rfl
    · intro wq hCq
      have hcq := hCq.cells
      go_simp
      first | rfl | exact hCq.call (CC.out _) | (trace_state; fail)
    simp only [Act.put, List.setIfInBounds_toArray, List.set_cons_zero, List.set_cons_succ]
  refine wpQuiet_nil ?_
  intro w2 hb2
  have hc2 := hb2.cells
  have hz2 : w1.heap.size < w2.heap.size := (by have := hb2.sizes; simp at this; omega)
  go_wp2_with fail
  refine (NN.out _).mono ?_; rintro e3 w3 ⟨rfl, hb3⟩
  have hc3 := hb3.cells; have hz3 : w1.heap.size < w3.heap.size := (by have := hb3.sizes; omega)
  go_wp2_with fail
  refine (sign_D _).mono ?_; rintro e4 w4 ⟨rfl, hb4⟩
  have hc4 := hb4.cells; have hz4 : w1.heap.size < w4.heap.size := (by have := hb4.sizes; omega)
  go_wp2_with fail
  refine (sign_D _).mono ?_; rintro e5 w5 ⟨rfl, hb5⟩
  go_wp2
  go_ret
  exact ⟨ret_int (by have := HQ.out; first | rfl | omega | (unfold wrap64; omega) | (simp only [wrap64, IntKind.wrap_i64]; omega)), (by repeat (first | with_reducible exact Within.refl _ | with_reducible assumption | with_reducible refine Within.alloc ?_ _ | with_reducible refine Within.drew ?_ | with_reducible refine Within.setCell ?_ (by first | (simp; done) | (simp; omega)) _ | with_reducible refine Within.trans ?_ (by assumption)))⟩


theorem Key_any (a : Nat) (ha : a < 18446744073709551616) (w : World) : Calls Tryd.prog 47 #[.float .f64 a] w fun e w' => e = .returned (.int .i64 (place a)) ∧ Within w w' := by
  unfold place
  cases hn : nanD a
  · rw [if_neg (by simp)]
    by_cases h : 9223372036854775808 ≤ a
    · rw [if_pos h]; exact KeyNeg a ha hn h w
    · rw [if_neg h]; exact KeyPos a ha hn (by omega) w
  · rw [if_pos (by simp)]; exact KeyNan a ha hn w

set_option maxRecDepth 100000 in
set_option maxHeartbeats 600000 in
theorem Compare_any (a b : Nat) (ha : a < 18446744073709551616) (hb : b < 18446744073709551616) (w : World) : Calls Tryd.prog 46 #[.float .f64 a, .float .f64 b] w fun e w' => e = .returned (.int .i64 (cmpOf (place a) (place b))) ∧ Within w w' := by
  have HA := Lib.hid (fun w => Key_any a ha w); have HB := Lib.hid (fun w => Key_any b hb w); clear ha hb
  generalize place a = x at *
  generalize place b = y at *
  generalize hv : cmpOf x y = r
  unfold cmpOf at hv
  by_cases h1 : x < y
  · rw [if_pos h1] at hv; subst hv
    go_enter Tryd.func46, Tryd.ntmps46
    go_wp2_with fail
    refine (HA.out _).mono ?_; rintro e1 w1 ⟨rfl, hb1⟩
    go_wp2_with fail
    refine (HB.out _).mono ?_; rintro e2 w2 ⟨rfl, hb2⟩
    go_wp2
    go_ret
    exact ⟨rfl, (by repeat (first | with_reducible exact Within.refl _ | with_reducible assumption | with_reducible refine Within.alloc ?_ _ | with_reducible refine Within.drew ?_ | with_reducible refine Within.setCell ?_ (by first | (simp; done) | (simp; omega)) _ | with_reducible refine Within.trans ?_ (by assumption)))⟩
  
  rw [if_neg h1] at hv
  by_cases h2 : y < x
  · rw [if_pos h2] at hv; subst hv
    go_enter Tryd.func46, Tryd.ntmps46
    go_wp2_with fail
    refine (HA.out _).mono ?_; rintro e1 w1 ⟨rfl, hb1⟩
    go_wp2_with fail
    refine (HB.out _).mono ?_; rintro e2 w2 ⟨rfl, hb2⟩
    go_wp2
    go_ret
    exact ⟨rfl, (by repeat (first | with_reducible exact Within.refl _ | with_reducible assumption | with_reducible refine Within.alloc ?_ _ | with_reducible refine Within.drew ?_ | with_reducible refine Within.setCell ?_ (by first | (simp; done) | (simp; omega)) _ | with_reducible refine Within.trans ?_ (by assumption)))⟩
  
  · rw [if_neg h2] at hv; subst hv
    go_enter Tryd.func46, Tryd.ntmps46
    go_wp2_with fail
    refine (HA.out _).mono ?_; rintro e1 w1 ⟨rfl, hb1⟩
    go_wp2_with fail
    refine (HB.out _).mono ?_; rintro e2 w2 ⟨rfl, hb2⟩
    go_wp2
    go_ret
    exact ⟨rfl, (by repeat (first | with_reducible exact Within.refl _ | with_reducible assumption | with_reducible refine Within.alloc ?_ _ | with_reducible refine Within.drew ?_ | with_reducible refine Within.setCell ?_ (by first | (simp; done) | (simp; omega)) _ | with_reducible refine Within.trans ?_ (by assumption)))⟩
  

end Go.Proofs.YthjaponkbodooaaDoor
