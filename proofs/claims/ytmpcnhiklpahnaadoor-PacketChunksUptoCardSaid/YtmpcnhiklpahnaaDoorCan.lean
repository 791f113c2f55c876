/- anatomy's masks, the NaN of NaNs: walks. -/
import Derived.Test.YtmpcnhiklpahnaaDoorBase
import Derived.Test.YtmpcnhiklpahnaaDoorIeee
namespace Go.Proofs.YtmpcnhiklpahnaaDoor
open Go.RowKit

/-- the two formats, as the program has them -/
abbrev dbl : Value := .agg #[.int .u64 52, .int .i64 2047, .int .i64 1075]
abbrev sgl : Value := .agg #[.int .u64 23, .int .i64 255, .int .i64 150]

def nanD (b : Nat) : Bool := decide (9218868437227405312 < b % 9223372036854775808)
def canonD (b : Nat) : Nat := if nanD b then 9221120237041090561 else b
theorem canonD_lt {b : Nat} (h : b < 18446744073709551616) : canonD b < 18446744073709551616 := by unfold canonD; split <;> omega
set_option maxHeartbeats 400000 in
theorem hidden_D (w : World) : Calls Tryd.prog 88 #[dbl] w fun e w' => e = .returned (.int .u64 4503599627370496) ∧ Within w w' := by
  go_enter Tryd.func88, Tryd.ntmps88
  go_wp2
  go_ret
  exact ⟨rfl, (Within.refl _).alloc _⟩


set_option maxHeartbeats 400000 in
theorem sign_D (w : World) : Calls Tryd.prog 86 #[dbl] w fun e w' => e = .returned (.int .u64 9223372036854775808) ∧ Within w w' := by
  go_enter Tryd.func86, Tryd.ntmps86
  go_wp2
  go_ret
  exact ⟨rfl, (Within.refl _).alloc _⟩


set_option maxHeartbeats 400000 in
theorem infinite_D (w : World) : Calls Tryd.prog 87 #[dbl] w fun e w' => e = .returned (.int .u64 9218868437227405312) ∧ Within w w' := by
  go_enter Tryd.func87, Tryd.ntmps87
  go_wp2
  go_ret
  exact ⟨rfl, (Within.refl _).alloc _⟩


set_option maxHeartbeats 400000 in
theorem none_D (w : World) : Calls Tryd.prog 77 #[dbl] w fun e w' => e = .returned (.int .u64 9221120237041090561) ∧ Within w w' := by
  go_enter Tryd.func77, Tryd.ntmps77
  go_wp2
  refine wp_region_within (by kernel_rfl) (by kernel_rfl) ?_
  repeat
    apply wpq_step rfl
    · intro wq hCq
      have hcq := hCq.cells
      go_simp
      first | rfl | exact hCq.call (infinite_D _) | exact hCq.call (hidden_D _) | (trace_state; fail)
    simp only [Act.put, List.setIfInBounds_toArray, List.set_cons_zero, List.set_cons_succ]
  refine wpQuiet_nil ?_
  intro w1 hC1
  go_wp2
  go_ret
  exact ⟨ret_int (by decide +kernel), (by repeat (first | exact Within.refl _ | assumption | refine Within.alloc ?_ _ | refine Within.drew ?_ | refine Within.trans ?_ (by assumption)))⟩


set_option maxHeartbeats 400000 in
theorem nan_D (b : Nat) (hb : b < 18446744073709551616) (w : World) : Calls Tryd.prog 76 #[.int .u64 b, dbl] w fun e w' => e = .returned (.bool (nanD b)) ∧ Within w w' := by
  have e1 := u64_unsign b hb
  have ew : IntKind.u64.wrap (b : Int) = b := by rw [IntKind.wrap_u64]; omega
  go_enter Tryd.func76, Tryd.ntmps76
  go_wp2
  refine wp_region_within (by kernel_rfl) (by kernel_rfl) ?_
  repeat
    apply wpq_step rfl
    · intro wq hCq
      have hcq := hCq.cells
      go_simp
      first | rfl | exact hCq.call (infinite_D _) | exact hCq.call (sign_D _) | (trace_state; fail)
    simp only [Act.put, List.setIfInBounds_toArray, List.set_cons_zero, List.set_cons_succ]
  refine wpQuiet_nil ?_
  intro w1 hC1
  go_wp2
  go_ret
  exact ⟨ret_dec (by omega), (by repeat (first | exact Within.refl _ | assumption | refine Within.alloc ?_ _ | refine Within.drew ?_ | refine Within.trans ?_ (by assumption)))⟩


set_option maxHeartbeats 400000 in
theorem canon_D (b : Nat) (hb : b < 18446744073709551616) (w : World) : Calls Tryd.prog 59 #[.int .u64 b, dbl] w fun e w' => e = .returned (.int .u64 (canonD b)) ∧ Within w w' := by
  by_cases hn : nanD b = true
  · have hv : (canonD b : Int) = 9221120237041090561 := by unfold canonD; rw [if_pos hn]; rfl
    rw [hv]; clear hv
    go_enter Tryd.func59, Tryd.ntmps59
    go_wp2_with fail
    refine (nan_D b hb _).mono ?_; rintro e w1 ⟨rfl, hb1⟩
    have hc1 := hb1.cells; have hz1 : w.heap.size < w1.heap.size := by have := hb1.sizes; simp at this; omega
    go_wp2_with fail
    refine (none_D _).mono ?_; rintro e w2 ⟨rfl, hb2⟩
    go_wp2
    go_ret
    exact ⟨rfl, (by repeat (first | exact Within.refl _ | assumption | refine Within.alloc ?_ _ | refine Within.drew ?_ | refine Within.trans ?_ (by assumption)))⟩
  · have hn' : nanD b = false := by simpa using hn
    have hv : (canonD b : Int) = b := by unfold canonD; rw [if_neg hn]
    rw [hv]; clear hv hn
    go_enter Tryd.func59, Tryd.ntmps59
    go_wp2_with fail
    refine (nan_D b hb _).mono ?_; rintro e w1 ⟨rfl, hb1⟩
    have hc1 := hb1.cells; have hz1 : w.heap.size < w1.heap.size := by have := hb1.sizes; simp at this; omega
    go_wp2
    go_ret
    exact ⟨rfl, (by repeat (first | exact Within.refl _ | assumption | refine Within.alloc ?_ _ | refine Within.drew ?_ | refine Within.trans ?_ (by assumption)))⟩


def nanS (b : Nat) : Bool := decide (2139095040 < b % 2147483648)
def canonS (b : Nat) : Nat := if nanS b then 2143289344 else b
theorem canonS_lt {b : Nat} (h : b < 4294967296) : canonS b < 4294967296 := by unfold canonS; split <;> omega
set_option maxHeartbeats 400000 in
theorem hidden_S (w : World) : Calls Tryd.prog 88 #[sgl] w fun e w' => e = .returned (.int .u64 8388608) ∧ Within w w' := by
  go_enter Tryd.func88, Tryd.ntmps88
  go_wp2
  go_ret
  exact ⟨rfl, (Within.refl _).alloc _⟩


set_option maxHeartbeats 400000 in
theorem sign_S (w : World) : Calls Tryd.prog 86 #[sgl] w fun e w' => e = .returned (.int .u64 2147483648) ∧ Within w w' := by
  go_enter Tryd.func86, Tryd.ntmps86
  go_wp2
  go_ret
  exact ⟨rfl, (Within.refl _).alloc _⟩


set_option maxHeartbeats 400000 in
theorem infinite_S (w : World) : Calls Tryd.prog 87 #[sgl] w fun e w' => e = .returned (.int .u64 2139095040) ∧ Within w w' := by
  go_enter Tryd.func87, Tryd.ntmps87
  go_wp2
  go_ret
  exact ⟨rfl, (Within.refl _).alloc _⟩


set_option maxHeartbeats 400000 in
theorem none_S (w : World) : Calls Tryd.prog 77 #[sgl] w fun e w' => e = .returned (.int .u64 2143289344) ∧ Within w w' := by
  go_enter Tryd.func77, Tryd.ntmps77
  go_wp2
  refine wp_region_within (by kernel_rfl) (by kernel_rfl) ?_
  repeat
    apply wpq_step rfl
    · intro wq hCq
      have hcq := hCq.cells
      go_simp
      first | rfl | exact hCq.call (infinite_S _) | exact hCq.call (hidden_S _) | (trace_state; fail)
    simp only [Act.put, List.setIfInBounds_toArray, List.set_cons_zero, List.set_cons_succ]
  refine wpQuiet_nil ?_
  intro w1 hC1
  go_wp2
  go_ret
  exact ⟨ret_int (by decide +kernel), (by repeat (first | exact Within.refl _ | assumption | refine Within.alloc ?_ _ | refine Within.drew ?_ | refine Within.trans ?_ (by assumption)))⟩


set_option maxHeartbeats 400000 in
theorem nan_S (b : Nat) (hb : b < 4294967296) (w : World) : Calls Tryd.prog 89 #[.int .u32 b, sgl] w fun e w' => e = .returned (.bool (nanS b)) ∧ Within w w' := by
  have e1 := u64_unsign32 b hb
  have ew : IntKind.u64.wrap (b : Int) = b := by rw [IntKind.wrap_u64]; omega
  go_enter Tryd.func89, Tryd.ntmps89
  go_wp2
  refine wp_region_within (by kernel_rfl) (by kernel_rfl) ?_
  repeat
    apply wpq_step rfl
    · intro wq hCq
      have hcq := hCq.cells
      go_simp
      first | rfl | exact hCq.call (infinite_S _) | exact hCq.call (sign_S _) | (trace_state; fail)
    simp only [Act.put, List.setIfInBounds_toArray, List.set_cons_zero, List.set_cons_succ]
  refine wpQuiet_nil ?_
  intro w1 hC1
  go_wp2
  go_ret
  exact ⟨ret_dec (by omega), (by repeat (first | exact Within.refl _ | assumption | refine Within.alloc ?_ _ | refine Within.drew ?_ | refine Within.trans ?_ (by assumption)))⟩


set_option maxHeartbeats 400000 in
theorem canon_S (b : Nat) (hb : b < 4294967296) (w : World) : Calls Tryd.prog 81 #[.int .u32 b, sgl] w fun e w' => e = .returned (.int .u32 (canonS b)) ∧ Within w w' := by
  by_cases hn : nanS b = true
  · have hv : (canonS b : Int) = 2143289344 := by unfold canonS; rw [if_pos hn]; rfl
    rw [hv]; clear hv
    go_enter Tryd.func81, Tryd.ntmps81
    go_wp2_with fail
    refine (nan_S b hb _).mono ?_; rintro e w1 ⟨rfl, hb1⟩
    have hc1 := hb1.cells; have hz1 : w.heap.size < w1.heap.size := by have := hb1.sizes; simp at this; omega
    go_wp2_with fail
    refine (none_S _).mono ?_; rintro e w2 ⟨rfl, hb2⟩
    go_wp2
    go_ret
    exact ⟨rfl, (by repeat (first | exact Within.refl _ | assumption | refine Within.alloc ?_ _ | refine Within.drew ?_ | refine Within.trans ?_ (by assumption)))⟩
  · have hn' : nanS b = false := by simpa using hn
    have hv : (canonS b : Int) = b := by unfold canonS; rw [if_neg hn]
    rw [hv]; clear hv hn
    go_enter Tryd.func81, Tryd.ntmps81
    go_wp2_with fail
    refine (nan_S b hb _).mono ?_; rintro e w1 ⟨rfl, hb1⟩
    have hc1 := hb1.cells; have hz1 : w.heap.size < w1.heap.size := by have := hb1.sizes; simp at this; omega
    go_wp2
    go_ret
    exact ⟨rfl, (by repeat (first | exact Within.refl _ | assumption | refine Within.alloc ?_ _ | refine Within.drew ?_ | refine Within.trans ?_ (by assumption)))⟩


@[go_sem] theorem ext_bits64 (a : Nat) (w : World) : (callFunc 36 #[.float .f64 a]).run Tryd.prog w = .ok (.value (.int .u64 a)) w := by kernel_rfl
@[go_sem] theorem ext_from64 (a : Int) (w : World) : (callFunc 46 #[.int .u64 a]).run Tryd.prog w = .ok (.value (.float .f64 a.toNat)) w := by kernel_rfl
@[go_sem] theorem ext_bits32 (a : Nat) (w : World) : (callFunc 37 #[.float .f32 a]).run Tryd.prog w = .ok (.value (.int .u32 a)) w := by kernel_rfl
@[go_sem] theorem ext_from32 (a : Int) (w : World) : (callFunc 47 #[.int .u32 a]).run Tryd.prog w = .ok (.value (.float .f32 a.toNat)) w := by kernel_rfl

set_option maxRecDepth 100000 in
set_option maxHeartbeats 600000 in
theorem of_D (w : World) : Calls Tryd.prog 60 #[.int .i64 0] w fun e w' => e = .returned dbl ∧ Within w w' := by
  go_enter Tryd.func60, Tryd.ntmps60
  have hi : ∀ w, (Instr.index 124 (.agg #[.int .u64 52, .int .i64 2047, .int .i64 1075, .int .u64 23, .int .i64 255, .int .i64 150]) (.int .i64 0)).run Tryd.prog w = .ok dbl w := fun _ => by kernel_rfl
  go_wp2
  refine bodyPost_ret (v := dbl) (by simp [results, Tryd.results60, go_sem]) rfl ⟨rfl, ?_⟩
  exact (by repeat (first | with_reducible exact Within.refl _ | with_reducible assumption | with_reducible refine Within.alloc ?_ _ | with_reducible refine Within.drew ?_ | with_reducible refine Within.setCell ?_ (by first | (simp; done) | (simp; omega)) _ | with_reducible refine Within.trans ?_ (by assumption)))


set_option maxRecDepth 100000 in
set_option maxHeartbeats 600000 in
theorem of_S (w : World) : Calls Tryd.prog 60 #[.int .i64 1] w fun e w' => e = .returned sgl ∧ Within w w' := by
  go_enter Tryd.func60, Tryd.ntmps60
  have hi : ∀ w, (Instr.index 124 (.agg #[.int .u64 52, .int .i64 2047, .int .i64 1075, .int .u64 23, .int .i64 255, .int .i64 150]) (.int .i64 1)).run Tryd.prog w = .ok sgl w := fun _ => by kernel_rfl
  go_wp2
  refine bodyPost_ret (v := sgl) (by simp [results, Tryd.results60, go_sem]) rfl ⟨rfl, ?_⟩
  exact (by repeat (first | with_reducible exact Within.refl _ | with_reducible assumption | with_reducible refine Within.alloc ?_ _ | with_reducible refine Within.drew ?_ | with_reducible refine Within.setCell ?_ (by first | (simp; done) | (simp; omega)) _ | with_reducible refine Within.trans ?_ (by assumption)))


set_option maxRecDepth 100000 in
set_option maxHeartbeats 600000 in
theorem Canon_D (a : Nat) (ha : a < 18446744073709551616) (w : World) : Calls Tryd.prog 61 #[.float .f64 a] w fun e w' => e = .returned (.float .f64 (canonD a)) ∧ Within w w' := by
  have HA := Lib.hid ha; clear ha
  go_enter Tryd.func61, Tryd.ntmps61
  go_wp2_with fail
  refine (of_D _).mono ?_; rintro e1 w1 ⟨rfl, hb1⟩
  go_wp2_with fail
  refine (canon_D a HA.out _).mono ?_; rintro e2 w2 ⟨rfl, hb2⟩
  go_wp2
  go_ret
  exact ⟨rfl, (by repeat (first | with_reducible exact Within.refl _ | with_reducible assumption | with_reducible refine Within.alloc ?_ _ | with_reducible refine Within.drew ?_ | with_reducible refine Within.setCell ?_ (by first | (simp; done) | (simp; omega)) _ | with_reducible refine Within.trans ?_ (by assumption)))⟩


set_option maxRecDepth 100000 in
set_option maxHeartbeats 600000 in
theorem Canon_S (a : Nat) (ha : a < 4294967296) (w : World) : Calls Tryd.prog 65 #[.float .f32 a] w fun e w' => e = .returned (.float .f32 (canonS a)) ∧ Within w w' := by
  have HA := Lib.hid ha; clear ha
  go_enter Tryd.func65, Tryd.ntmps65
  go_wp2_with fail
  refine (of_S _).mono ?_; rintro e1 w1 ⟨rfl, hb1⟩
  go_wp2_with fail
  refine (canon_S a HA.out _).mono ?_; rintro e2 w2 ⟨rfl, hb2⟩
  go_wp2
  go_ret
  exact ⟨rfl, (by repeat (first | with_reducible exact Within.refl _ | with_reducible assumption | with_reducible refine Within.alloc ?_ _ | with_reducible refine Within.drew ?_ | with_reducible refine Within.setCell ?_ (by first | (simp; done) | (simp; omega)) _ | with_reducible refine Within.trans ?_ (by assumption)))⟩

end Go.Proofs.YtmpcnhiklpahnaaDoor
