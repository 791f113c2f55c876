/- WHAT anatomy's INNER FUNCTIONS COME TO, over the bits of numbers and of singles: walks. -/
import Derived.Test.YthjaponkbodooaaDoorBase
import Derived.Test.YthjaponkbodooaaDoorIeee
namespace Go.Proofs.YthjaponkbodooaaDoor
open Go.RowKit

/-- the two formats, as the program has them -/
abbrev dbl : Value := .agg #[.int .u64 52, .int .i64 2047, .int .i64 1075]
abbrev sgl : Value := .agg #[.int .u64 23, .int .i64 255, .int .i64 150]

def classOf (e fr most : Nat) : Int := if e = most ∧ fr ≠ 0 then 1 else if e = most then 2 else if e = 0 ∧ fr = 0 then 3 else if e = 0 then 4 else 5


def nanD (b : Nat) : Bool := decide (9218868437227405312 < b % 9223372036854775808)
def canonD (b : Nat) : Nat := if nanD b then 9221120237041090561 else b
theorem canonD_lt {b : Nat} (h : b < 18446744073709551616) : canonD b < 18446744073709551616 := by unfold canonD; split <;> omega
def expD (b : Nat) : Nat := canonD b / 4503599627370496 % 2048
def fracD (b : Nat) : Nat := canonD b % 4503599627370496
def negD (b : Nat) : Bool := decide (9223372036854775808 ≤ canonD b)
def classD (b : Nat) : Int := classOf (expD b) (fracD b) 2047

set_option maxHeartbeats 400000 in
theorem hidden_D (w : World) : Calls Tryd.prog 111 #[dbl] w fun e w' => e = .returned (.int .u64 4503599627370496) ∧ Within w w' := by
  go_enter Tryd.func111, Tryd.ntmps111
  go_wp2
  go_ret
  exact ⟨rfl, (Within.refl _).alloc _⟩


set_option maxHeartbeats 400000 in
theorem sign_D (w : World) : Calls Tryd.prog 100 #[dbl] w fun e w' => e = .returned (.int .u64 9223372036854775808) ∧ Within w w' := by
  go_enter Tryd.func100, Tryd.ntmps100
  go_wp2
  go_ret
  exact ⟨rfl, (Within.refl _).alloc _⟩


set_option maxHeartbeats 400000 in
theorem infinite_D (w : World) : Calls Tryd.prog 116 #[dbl] w fun e w' => e = .returned (.int .u64 9218868437227405312) ∧ Within w w' := by
  go_enter Tryd.func116, Tryd.ntmps116
  go_wp2
  go_ret
  exact ⟨rfl, (Within.refl _).alloc _⟩


set_option maxHeartbeats 400000 in
theorem none_D (w : World) : Calls Tryd.prog 101 #[dbl] w fun e w' => e = .returned (.int .u64 9221120237041090561) ∧ Within w w' := by
  go_enter Tryd.func101, Tryd.ntmps101
  go_wp2
  refine wp_region_within (by kernel_rfl) (by kernel_rfl) ?_
  repeat
    apply wpq_step rfl
    · intro wq hCq
      have hcq := hCq.cells
      go_simp
      first | rfl | exact hCq.call (infinite_D _) | exact hCq.call (hidden_D _) | (trace_state; fail)
    simp only [Act.put, List.setIfInBounds_toArray, List.set_cons_zero, List.set_cons_succ]
  refine wpQuiet_nil ?_
  intro w1 hC1
  go_wp2
  go_ret
  exact ⟨ret_int (by decide +kernel), (by repeat (first | exact Within.refl _ | assumption | refine Within.alloc ?_ _ | refine Within.drew ?_ | refine Within.trans ?_ (by assumption)))⟩


set_option maxHeartbeats 400000 in
theorem nan_D (b : Nat) (hb : b < 18446744073709551616) (w : World) : Calls Tryd.prog 98 #[.int .u64 b, dbl] w fun e w' => e = .returned (.bool (nanD b)) ∧ Within w w' := by
  have e1 := u64_unsign b hb
  have ew : IntKind.u64.wrap (b : Int) = b := by rw [IntKind.wrap_u64]; omega
  go_enter Tryd.func98, Tryd.ntmps98
  go_wp2
  refine wp_region_within (by kernel_rfl) (by kernel_rfl) ?_
  repeat
    apply wpq_step rfl
    · intro wq hCq
      have hcq := hCq.cells
      go_simp
      first | rfl | exact hCq.call (infinite_D _) | exact hCq.call (sign_D _) | (trace_state; fail)
    simp only [Act.put, List.setIfInBounds_toArray, List.set_cons_zero, List.set_cons_succ]
  refine wpQuiet_nil ?_
  intro w1 hC1
  go_wp2
  go_ret
  exact ⟨ret_dec (by omega), (by repeat (first | exact Within.refl _ | assumption | refine Within.alloc ?_ _ | refine Within.drew ?_ | refine Within.trans ?_ (by assumption)))⟩


set_option maxHeartbeats 400000 in
theorem canon_D (b : Nat) (hb : b < 18446744073709551616) (w : World) : Calls Tryd.prog 96 #[.int .u64 b, dbl] w fun e w' => e = .returned (.int .u64 (canonD b)) ∧ Within w w' := by
  by_cases hn : nanD b = true
  · have hv : (canonD b : Int) = 9221120237041090561 := by unfold canonD; rw [if_pos hn]; rfl
    rw [hv]; clear hv
    go_enter Tryd.func96, Tryd.ntmps96
    go_wp2_with fail
    refine (nan_D b hb _).mono ?_; rintro e w1 ⟨rfl, hb1⟩
    have hc1 := hb1.cells; have hz1 : w.heap.size < w1.heap.size := by have := hb1.sizes; simp at this; omega
    go_wp2_with fail
    refine (none_D _).mono ?_; rintro e w2 ⟨rfl, hb2⟩
    go_wp2
    go_ret
    exact ⟨rfl, (by repeat (first | exact Within.refl _ | assumption | refine Within.alloc ?_ _ | refine Within.drew ?_ | refine Within.trans ?_ (by assumption)))⟩
  · have hn' : nanD b = false := by simpa using hn
    have hv : (canonD b : Int) = b := by unfold canonD; rw [if_neg hn]
    rw [hv]; clear hv hn
    go_enter Tryd.func96, Tryd.ntmps96
    go_wp2_with fail
    refine (nan_D b hb _).mono ?_; rintro e w1 ⟨rfl, hb1⟩
    have hc1 := hb1.cells; have hz1 : w.heap.size < w1.heap.size := by have := hb1.sizes; simp at this; omega
    go_wp2
    go_ret
    exact ⟨rfl, (by repeat (first | exact Within.refl _ | assumption | refine Within.alloc ?_ _ | refine Within.drew ?_ | refine Within.trans ?_ (by assumption)))⟩


set_option maxHeartbeats 400000 in
theorem split_D (b : Nat) (hb : b < 18446744073709551616) (w : World) : Calls Tryd.prog 92 #[.int .u64 b, dbl] w fun e w' => e = .returned (.tuple #[.bool (negD b), .int .i64 (expD b), .int .u64 (fracD b)]) ∧ Within w w' := by
  have hc := canonD_lt hb
  have e1 := u64_sign (canonD b) hc
  have e2 := u64_mask 11 (by decide) (canonD b / 4503599627370496) (by omega)
  have e3 := u64_mask 52 (by decide) (canonD b) (by omega)
  simp only [show (2 ^ 11 - 1 : Nat) = 2047 from rfl, show (2 ^ 11 : Nat) = 2048 from rfl, show (2 ^ 52 - 1 : Nat) = 4503599627370495 from rfl, show (2 ^ 52 : Nat) = 4503599627370496 from rfl, Int.natCast_ediv, Int.natCast_emod, Int.natCast_mul, Int.cast_ofNat_Int] at e1 e2 e3
  have ew : IntKind.u64.wrap (canonD b : Int) = canonD b := by rw [IntKind.wrap_u64]; omega
  have e4 : IntKind.u64.wrap 4503599627370495 = 4503599627370495 := by decide
  have e5 : IntKind.u64.wrap 2047 = 2047 := by decide
  have e6 : IntKind.i64.wrap ((canonD b : Int) / 4503599627370496 % 2048) = (canonD b : Int) / 4503599627370496 % 2048 := by rw [IntKind.wrap_i64]; omega
  have e7 : IntKind.u64.wrap ((canonD b : Int) % 4503599627370496) = (canonD b : Int) % 4503599627370496 := by first | (rw [IntKind.wrap_u64]; omega) | (rw [IntKind.wrap_u32]; omega)
  go_enter Tryd.func92, Tryd.ntmps92
  go_wp2_with fail
  refine (canon_D b hb _).mono ?_; rintro e w1 ⟨rfl, hb1⟩
  have hc1 := hb1.cells; have hz1 : w.heap.size < w1.heap.size := by have := hb1.sizes; simp at this; omega
  go_wp2
  refine wp_region_within (by kernel_rfl) (by kernel_rfl) ?_
  repeat
    apply wpq_step rfl
    · intro wq hCq
      have hcq := hCq.cells
      go_simp
      first | rfl | exact hCq.call (hidden_D _) | exact hCq.call (sign_D _) | (trace_state; fail)
    simp only [Act.put, List.setIfInBounds_toArray, List.set_cons_zero, List.set_cons_succ]
  refine wpQuiet_nil ?_
  intro w2 hC2
  go_wp2
  go_ret3
  refine ⟨ret3 (v_bool (b := negD b) ?_) (v_int (b := expD b) ?_) (v_int (b := fracD b) ?_), (by repeat (first | exact Within.refl _ | assumption | refine Within.alloc ?_ _ | refine Within.drew ?_ | refine Within.trans ?_ (by assumption)))⟩
  · show ((canonD b : Int) / 9223372036854775808 * 9223372036854775808 != 0) = negD b
    unfold negD
    rw [Bool.eq_iff_iff, bne_iff_ne, decide_eq_true_iff]; omega
  · show ((canonD b : Int) / 4503599627370496 % 2048) = _
    unfold expD; omega
  · show ((canonD b : Int) % 4503599627370496) = _
    unfold fracD; omega



def nanS (b : Nat) : Bool := decide (2139095040 < b % 2147483648)
def canonS (b : Nat) : Nat := if nanS b then 2143289344 else b
theorem canonS_lt {b : Nat} (h : b < 4294967296) : canonS b < 4294967296 := by unfold canonS; split <;> omega
def expS (b : Nat) : Nat := canonS b / 8388608 % 256
def fracS (b : Nat) : Nat := canonS b % 8388608
def negS (b : Nat) : Bool := decide (2147483648 ≤ canonS b)
def classS (b : Nat) : Int := classOf (expS b) (fracS b) 255

set_option maxHeartbeats 400000 in
theorem hidden_S (w : World) : Calls Tryd.prog 111 #[sgl] w fun e w' => e = .returned (.int .u64 8388608) ∧ Within w w' := by
  go_enter Tryd.func111, Tryd.ntmps111
  go_wp2
  go_ret
  exact ⟨rfl, (Within.refl _).alloc _⟩


set_option maxHeartbeats 400000 in
theorem sign_S (w : World) : Calls Tryd.prog 100 #[sgl] w fun e w' => e = .returned (.int .u64 2147483648) ∧ Within w w' := by
  go_enter Tryd.func100, Tryd.ntmps100
  go_wp2
  go_ret
  exact ⟨rfl, (Within.refl _).alloc _⟩


set_option maxHeartbeats 400000 in
theorem infinite_S (w : World) : Calls Tryd.prog 116 #[sgl] w fun e w' => e = .returned (.int .u64 2139095040) ∧ Within w w' := by
  go_enter Tryd.func116, Tryd.ntmps116
  go_wp2
  go_ret
  exact ⟨rfl, (Within.refl _).alloc _⟩


set_option maxHeartbeats 400000 in
theorem none_S (w : World) : Calls Tryd.prog 101 #[sgl] w fun e w' => e = .returned (.int .u64 2143289344) ∧ Within w w' := by
  go_enter Tryd.func101, Tryd.ntmps101
  go_wp2
  refine wp_region_within (by kernel_rfl) (by kernel_rfl) ?_
  repeat
    apply wpq_step rfl
    · intro wq hCq
      have hcq := hCq.cells
      go_simp
      first | rfl | exact hCq.call (infinite_S _) | exact hCq.call (hidden_S _) | (trace_state; fail)
    simp only [Act.put, List.setIfInBounds_toArray, List.set_cons_zero, List.set_cons_succ]
  refine wpQuiet_nil ?_
  intro w1 hC1
  go_wp2
  go_ret
  exact ⟨ret_int (by decide +kernel), (by repeat (first | exact Within.refl _ | assumption | refine Within.alloc ?_ _ | refine Within.drew ?_ | refine Within.trans ?_ (by assumption)))⟩


set_option maxHeartbeats 400000 in
theorem nan_S (b : Nat) (hb : b < 4294967296) (w : World) : Calls Tryd.prog 115 #[.int .u32 b, sgl] w fun e w' => e = .returned (.bool (nanS b)) ∧ Within w w' := by
  have e1 := u64_unsign32 b hb
  have ew : IntKind.u64.wrap (b : Int) = b := by rw [IntKind.wrap_u64]; omega
  go_enter Tryd.func115, Tryd.ntmps115
  go_wp2
  refine wp_region_within (by kernel_rfl) (by kernel_rfl) ?_
  repeat
    apply wpq_step rfl
    · intro wq hCq
      have hcq := hCq.cells
      go_simp
      first | rfl | exact hCq.call (infinite_S _) | exact hCq.call (sign_S _) | (trace_state; fail)
    simp only [Act.put, List.setIfInBounds_toArray, List.set_cons_zero, List.set_cons_succ]
  refine wpQuiet_nil ?_
  intro w1 hC1
  go_wp2
  go_ret
  exact ⟨ret_dec (by omega), (by repeat (first | exact Within.refl _ | assumption | refine Within.alloc ?_ _ | refine Within.drew ?_ | refine Within.trans ?_ (by assumption)))⟩


set_option maxHeartbeats 400000 in
theorem canon_S (b : Nat) (hb : b < 4294967296) (w : World) : Calls Tryd.prog 91 #[.int .u32 b, sgl] w fun e w' => e = .returned (.int .u32 (canonS b)) ∧ Within w w' := by
  by_cases hn : nanS b = true
  · have hv : (canonS b : Int) = 2143289344 := by unfold canonS; rw [if_pos hn]; rfl
    rw [hv]; clear hv
    go_enter Tryd.func91, Tryd.ntmps91
    go_wp2_with fail
    refine (nan_S b hb _).mono ?_; rintro e w1 ⟨rfl, hb1⟩
    have hc1 := hb1.cells; have hz1 : w.heap.size < w1.heap.size := by have := hb1.sizes; simp at this; omega
    go_wp2_with fail
    refine (none_S _).mono ?_; rintro e w2 ⟨rfl, hb2⟩
    go_wp2
    go_ret
    exact ⟨rfl, (by repeat (first | exact Within.refl _ | assumption | refine Within.alloc ?_ _ | refine Within.drew ?_ | refine Within.trans ?_ (by assumption)))⟩
  · have hn' : nanS b = false := by simpa using hn
    have hv : (canonS b : Int) = b := by unfold canonS; rw [if_neg hn]
    rw [hv]; clear hv hn
    go_enter Tryd.func91, Tryd.ntmps91
    go_wp2_with fail
    refine (nan_S b hb _).mono ?_; rintro e w1 ⟨rfl, hb1⟩
    have hc1 := hb1.cells; have hz1 : w.heap.size < w1.heap.size := by have := hb1.sizes; simp at this; omega
    go_wp2
    go_ret
    exact ⟨rfl, (by repeat (first | exact Within.refl _ | assumption | refine Within.alloc ?_ _ | refine Within.drew ?_ | refine Within.trans ?_ (by assumption)))⟩


set_option maxHeartbeats 400000 in
theorem split_S (b : Nat) (hb : b < 4294967296) (w : World) : Calls Tryd.prog 86 #[.int .u32 b, sgl] w fun e w' => e = .returned (.tuple #[.bool (negS b), .int .i64 (expS b), .int .u32 (fracS b)]) ∧ Within w w' := by
  have hc := canonS_lt hb
  have e1 := u64_sign32 (canonS b) hc
  have e2 := u64_mask 8 (by decide) (canonS b / 8388608) (by omega)
  have e3 := u64_mask 23 (by decide) (canonS b) (by omega)
  simp only [show (2 ^ 8 - 1 : Nat) = 255 from rfl, show (2 ^ 8 : Nat) = 256 from rfl, show (2 ^ 23 - 1 : Nat) = 8388607 from rfl, show (2 ^ 23 : Nat) = 8388608 from rfl, Int.natCast_ediv, Int.natCast_emod, Int.natCast_mul, Int.cast_ofNat_Int] at e1 e2 e3
  have ew : IntKind.u64.wrap (canonS b : Int) = canonS b := by rw [IntKind.wrap_u64]; omega
  have e4 : IntKind.u64.wrap 8388607 = 8388607 := by decide
  have e5 : IntKind.u64.wrap 255 = 255 := by decide
  have e6 : IntKind.i64.wrap ((canonS b : Int) / 8388608 % 256) = (canonS b : Int) / 8388608 % 256 := by rw [IntKind.wrap_i64]; omega
  have e7 : IntKind.u32.wrap ((canonS b : Int) % 8388608) = (canonS b : Int) % 8388608 := by first | (rw [IntKind.wrap_u64]; omega) | (rw [IntKind.wrap_u32]; omega)
  go_enter Tryd.func86, Tryd.ntmps86
  go_wp2_with fail
  refine (canon_S b hb _).mono ?_; rintro e w1 ⟨rfl, hb1⟩
  have hc1 := hb1.cells; have hz1 : w.heap.size < w1.heap.size := by have := hb1.sizes; simp at this; omega
  go_wp2
  refine wp_region_within (by kernel_rfl) (by kernel_rfl) ?_
  repeat
    apply wpq_step rfl
    · intro wq hCq
      have hcq := hCq.cells
      go_simp
      first | rfl | exact hCq.call (hidden_S _) | exact hCq.call (sign_S _) | (trace_state; fail)
    simp only [Act.put, List.setIfInBounds_toArray, List.set_cons_zero, List.set_cons_succ]
  refine wpQuiet_nil ?_
  intro w2 hC2
  go_wp2
  go_ret3
  refine ⟨ret3 (v_bool (b := negS b) ?_) (v_int (b := expS b) ?_) (v_int (b := fracS b) ?_), (by repeat (first | exact Within.refl _ | assumption | refine Within.alloc ?_ _ | refine Within.drew ?_ | refine Within.trans ?_ (by assumption)))⟩
  · show ((canonS b : Int) / 2147483648 * 2147483648 != 0) = negS b
    unfold negS
    rw [Bool.eq_iff_iff, bne_iff_ne, decide_eq_true_iff]; omega
  · show ((canonS b : Int) / 8388608 % 256) = _
    unfold expS; omega
  · show ((canonS b : Int) % 8388608) = _
    unfold fracS; omega


set_option maxHeartbeats 400000 in
theorem class_D (b : Nat) (hb : b < 18446744073709551616) (w : World) : Calls Tryd.prog 95 #[.int .u64 b, dbl] w fun e w' => e = .returned (.int .i64 (classD b)) ∧ Within w w' := by
  generalize hce : classD b = c
  unfold classD classOf at hce
  by_cases h1 : expD b = 2047
  · have f1 : ((expD b : Int) == 2047) = true := beq_iff_eq.2 (by omega)
    by_cases h2 : fracD b = 0
    · have f2 : ((fracD b : Int) != 0) = false := by rw [bne_eq_false_iff_eq]; omega
      rw [if_neg (by omega), if_pos h1] at hce
      subst hce
      clear h1 h2
      go_enter Tryd.func95, Tryd.ntmps95
      go_wp2_with fail
      refine (split_D b hb _).mono ?_; rintro e w1 ⟨rfl, hb1⟩
      have hc1 := hb1.cells; have hz1 : w.heap.size < w1.heap.size := by have := hb1.sizes; simp at this; omega
      go_wp2
      go_ret
      exact ⟨rfl, (by repeat (first | exact Within.refl _ | assumption | refine Within.alloc ?_ _ | refine Within.drew ?_ | refine Within.trans ?_ (by assumption)))⟩
    · have f2 : ((fracD b : Int) != 0) = true := by rw [bne_iff_ne]; omega
      rw [if_pos ⟨h1, h2⟩] at hce
      subst hce
      clear h1 h2
      go_enter Tryd.func95, Tryd.ntmps95
      go_wp2_with fail
      refine (split_D b hb _).mono ?_; rintro e w1 ⟨rfl, hb1⟩
      have hc1 := hb1.cells; have hz1 : w.heap.size < w1.heap.size := by have := hb1.sizes; simp at this; omega
      go_wp2
      go_ret
      exact ⟨rfl, (by repeat (first | exact Within.refl _ | assumption | refine Within.alloc ?_ _ | refine Within.drew ?_ | refine Within.trans ?_ (by assumption)))⟩
  · have f1 : ((expD b : Int) == 2047) = false := beq_eq_false_iff_ne.2 (by omega)
    by_cases h3 : expD b = 0
    · have f3 : ((expD b : Int) == 0) = true := beq_iff_eq.2 (by omega)
      by_cases h2 : fracD b = 0
      · have f2 : ((fracD b : Int) == 0) = true := beq_iff_eq.2 (by omega)
        rw [if_neg (by omega), if_neg h1, if_pos ⟨h3, h2⟩] at hce
        subst hce
        clear h1 h2 h3
        go_enter Tryd.func95, Tryd.ntmps95
        go_wp2_with fail
        refine (split_D b hb _).mono ?_; rintro e w1 ⟨rfl, hb1⟩
        have hc1 := hb1.cells; have hz1 : w.heap.size < w1.heap.size := by have := hb1.sizes; simp at this; omega
        go_wp2
        go_ret
        exact ⟨rfl, (by repeat (first | exact Within.refl _ | assumption | refine Within.alloc ?_ _ | refine Within.drew ?_ | refine Within.trans ?_ (by assumption)))⟩
      · have f2 : ((fracD b : Int) == 0) = false := beq_eq_false_iff_ne.2 (by omega)
        rw [if_neg (by omega), if_neg h1, if_neg (by omega), if_pos h3] at hce
        subst hce
        clear h1 h2 h3
        go_enter Tryd.func95, Tryd.ntmps95
        go_wp2_with fail
        refine (split_D b hb _).mono ?_; rintro e w1 ⟨rfl, hb1⟩
        have hc1 := hb1.cells; have hz1 : w.heap.size < w1.heap.size := by have := hb1.sizes; simp at this; omega
        go_wp2
        go_ret
        exact ⟨rfl, (by repeat (first | exact Within.refl _ | assumption | refine Within.alloc ?_ _ | refine Within.drew ?_ | refine Within.trans ?_ (by assumption)))⟩
    · have f3 : ((expD b : Int) == 0) = false := beq_eq_false_iff_ne.2 (by omega)
      rw [if_neg (by omega), if_neg h1, if_neg (by omega), if_neg h3] at hce
      subst hce
      clear h1 h3
      go_enter Tryd.func95, Tryd.ntmps95
      go_wp2_with fail
      refine (split_D b hb _).mono ?_; rintro e w1 ⟨rfl, hb1⟩
      have hc1 := hb1.cells; have hz1 : w.heap.size < w1.heap.size := by have := hb1.sizes; simp at this; omega
      go_wp2
      go_ret
      exact ⟨rfl, (by repeat (first | exact Within.refl _ | assumption | refine Within.alloc ?_ _ | refine Within.drew ?_ | refine Within.trans ?_ (by assumption)))⟩


set_option maxHeartbeats 400000 in
theorem class_S (b : Nat) (hb : b < 4294967296) (w : World) : Calls Tryd.prog 89 #[.int .u32 b, sgl] w fun e w' => e = .returned (.int .i64 (classS b)) ∧ Within w w' := by
  generalize hce : classS b = c
  unfold classS classOf at hce
  by_cases h1 : expS b = 255
  · have f1 : ((expS b : Int) == 255) = true := beq_iff_eq.2 (by omega)
    by_cases h2 : fracS b = 0
    · have f2 : ((fracS b : Int) != 0) = false := by rw [bne_eq_false_iff_eq]; omega
      rw [if_neg (by omega), if_pos h1] at hce
      subst hce
      clear h1 h2
      go_enter Tryd.func89, Tryd.ntmps89
      go_wp2_with fail
      refine (split_S b hb _).mono ?_; rintro e w1 ⟨rfl, hb1⟩
      have hc1 := hb1.cells; have hz1 : w.heap.size < w1.heap.size := by have := hb1.sizes; simp at this; omega
      go_wp2
      go_ret
      exact ⟨rfl, (by repeat (first | exact Within.refl _ | assumption | refine Within.alloc ?_ _ | refine Within.drew ?_ | refine Within.trans ?_ (by assumption)))⟩
    · have f2 : ((fracS b : Int) != 0) = true := by rw [bne_iff_ne]; omega
      rw [if_pos ⟨h1, h2⟩] at hce
      subst hce
      clear h1 h2
      go_enter Tryd.func89, Tryd.ntmps89
      go_wp2_with fail
      refine (split_S b hb _).mono ?_; rintro e w1 ⟨rfl, hb1⟩
      have hc1 := hb1.cells; have hz1 : w.heap.size < w1.heap.size := by have := hb1.sizes; simp at this; omega
      go_wp2
      go_ret
      exact ⟨rfl, (by repeat (first | exact Within.refl _ | assumption | refine Within.alloc ?_ _ | refine Within.drew ?_ | refine Within.trans ?_ (by assumption)))⟩
  · have f1 : ((expS b : Int) == 255) = false := beq_eq_false_iff_ne.2 (by omega)
    by_cases h3 : expS b = 0
    · have f3 : ((expS b : Int) == 0) = true := beq_iff_eq.2 (by omega)
      by_cases h2 : fracS b = 0
      · have f2 : ((fracS b : Int) == 0) = true := beq_iff_eq.2 (by omega)
        rw [if_neg (by omega), if_neg h1, if_pos ⟨h3, h2⟩] at hce
        subst hce
        clear h1 h2 h3
        go_enter Tryd.func89, Tryd.ntmps89
        go_wp2_with fail
        refine (split_S b hb _).mono ?_; rintro e w1 ⟨rfl, hb1⟩
        have hc1 := hb1.cells; have hz1 : w.heap.size < w1.heap.size := by have := hb1.sizes; simp at this; omega
        go_wp2
        go_ret
        exact ⟨rfl, (by repeat (first | exact Within.refl _ | assumption | refine Within.alloc ?_ _ | refine Within.drew ?_ | refine Within.trans ?_ (by assumption)))⟩
      · have f2 : ((fracS b : Int) == 0) = false := beq_eq_false_iff_ne.2 (by omega)
        rw [if_neg (by omega), if_neg h1, if_neg (by omega), if_pos h3] at hce
        subst hce
        clear h1 h2 h3
        go_enter Tryd.func89, Tryd.ntmps89
        go_wp2_with fail
        refine (split_S b hb _).mono ?_; rintro e w1 ⟨rfl, hb1⟩
        have hc1 := hb1.cells; have hz1 : w.heap.size < w1.heap.size := by have := hb1.sizes; simp at this; omega
        go_wp2
        go_ret
        exact ⟨rfl, (by repeat (first | exact Within.refl _ | assumption | refine Within.alloc ?_ _ | refine Within.drew ?_ | refine Within.trans ?_ (by assumption)))⟩
    · have f3 : ((expS b : Int) == 0) = false := beq_eq_false_iff_ne.2 (by omega)
      rw [if_neg (by omega), if_neg h1, if_neg (by omega), if_neg h3] at hce
      subst hce
      clear h1 h3
      go_enter Tryd.func89, Tryd.ntmps89
      go_wp2_with fail
      refine (split_S b hb _).mono ?_; rintro e w1 ⟨rfl, hb1⟩
      have hc1 := hb1.cells; have hz1 : w.heap.size < w1.heap.size := by have := hb1.sizes; simp at this; omega
      go_wp2
      go_ret
      exact ⟨rfl, (by repeat (first | exact Within.refl _ | assumption | refine Within.alloc ?_ _ | refine Within.drew ?_ | refine Within.trans ?_ (by assumption)))⟩


end Go.Proofs.YthjaponkbodooaaDoor
