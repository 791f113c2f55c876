/- anatomy's functions over numbers and singles: walks. -/
import Derived.Test.YthjaponkbodooaaDoorAna5
namespace Go.Proofs.YthjaponkbodooaaDoor
open Go.RowKit

@[go_sem] theorem ext_bits64 (a : Nat) (w : World) : (callFunc 71 #[.float .f64 a]).run Tryd.prog w = .ok (.value (.int .u64 a)) w := by kernel_rfl
@[go_sem] theorem ext_from64 (a : Int) (w : World) : (callFunc 73 #[.int .u64 a]).run Tryd.prog w = .ok (.value (.float .f64 a.toNat)) w := by kernel_rfl
@[go_sem] theorem ext_bits32 (a : Nat) (w : World) : (callFunc 76 #[.float .f32 a]).run Tryd.prog w = .ok (.value (.int .u32 a)) w := by kernel_rfl
@[go_sem] theorem ext_from32 (a : Int) (w : World) : (callFunc 77 #[.int .u32 a]).run Tryd.prog w = .ok (.value (.float .f32 a.toNat)) w := by kernel_rfl

set_option maxRecDepth 100000 in
set_option maxHeartbeats 600000 in
theorem of_D (w : World) : Calls Tryd.prog 72 #[.int .i64 0] w fun e w' => e = .returned dbl ∧ Within w w' := by
  go_enter Tryd.func72, Tryd.ntmps72
  have hi : ∀ w, (Instr.index 115 (.agg #[.int .u64 52, .int .i64 2047, .int .i64 1075, .int .u64 23, .int .i64 255, .int .i64 150]) (.int .i64 0)).run Tryd.prog w = .ok dbl w := fun _ => by kernel_rfl
  go_wp2
  refine bodyPost_ret (v := dbl) (by simp [results, Tryd.results72, go_sem]) rfl ⟨rfl, ?_⟩
  exact (by repeat (first | with_reducible exact Within.refl _ | with_reducible assumption | with_reducible refine Within.alloc ?_ _ | with_reducible refine Within.drew ?_ | with_reducible refine Within.setCell ?_ (by first | (simp; done) | (simp; omega)) _ | with_reducible refine Within.trans ?_ (by assumption)))


set_option maxRecDepth 100000 in
set_option maxHeartbeats 600000 in
theorem of_S (w : World) : Calls Tryd.prog 72 #[.int .i64 1] w fun e w' => e = .returned sgl ∧ Within w w' := by
  go_enter Tryd.func72, Tryd.ntmps72
  have hi : ∀ w, (Instr.index 115 (.agg #[.int .u64 52, .int .i64 2047, .int .i64 1075, .int .u64 23, .int .i64 255, .int .i64 150]) (.int .i64 1)).run Tryd.prog w = .ok sgl w := fun _ => by kernel_rfl
  go_wp2
  refine bodyPost_ret (v := sgl) (by simp [results, Tryd.results72, go_sem]) rfl ⟨rfl, ?_⟩
  exact (by repeat (first | with_reducible exact Within.refl _ | with_reducible assumption | with_reducible refine Within.alloc ?_ _ | with_reducible refine Within.drew ?_ | with_reducible refine Within.setCell ?_ (by first | (simp; done) | (simp; omega)) _ | with_reducible refine Within.trans ?_ (by assumption)))


set_option maxRecDepth 100000 in
set_option maxHeartbeats 600000 in
theorem Same_D (a b : Nat) (ha : a < 18446744073709551616) (hb : b < 18446744073709551616) (w : World) : Calls Tryd.prog 41 #[.float .f64 a, .float .f64 b] w fun e w' => e = .returned (.bool (decide (canonD a = canonD b))) ∧ Within w w' := by
  have HA := Lib.hid ha; have HB := Lib.hid hb; clear ha hb
  go_enter Tryd.func41, Tryd.ntmps41
  go_wp2_with fail
  refine (of_D _).mono ?_; rintro e1 w1 ⟨rfl, hb1⟩
  go_wp2_with fail
  refine (canon_D a HA.out _).mono ?_; rintro e2 w2 ⟨rfl, hb2⟩
  go_wp2_with fail
  refine (of_D _).mono ?_; rintro e3 w3 ⟨rfl, hb3⟩
  go_wp2_with fail
  refine (canon_D b HB.out _).mono ?_; rintro e4 w4 ⟨rfl, hb4⟩
  go_wp2
  go_ret
  refine ⟨ret_bool ?_, (by repeat (first | with_reducible exact Within.refl _ | with_reducible assumption | with_reducible refine Within.alloc ?_ _ | with_reducible refine Within.drew ?_ | with_reducible refine Within.setCell ?_ (by first | (simp; done) | (simp; omega)) _ | with_reducible refine Within.trans ?_ (by assumption)))⟩
  show ((canonD a : Int) == canonD b) = _
  rw [Bool.eq_iff_iff, beq_iff_eq, decide_eq_true_iff]; omega


set_option maxRecDepth 100000 in
set_option maxHeartbeats 600000 in
theorem Canon_D (a : Nat) (ha : a < 18446744073709551616) (w : World) : Calls Tryd.prog 43 #[.float .f64 a] w fun e w' => e = .returned (.float .f64 (canonD a)) ∧ Within w w' := by
  have HA := Lib.hid ha; clear ha
  go_enter Tryd.func43, Tryd.ntmps43
  go_wp2_with fail
  refine (of_D _).mono ?_; rintro e1 w1 ⟨rfl, hb1⟩
  go_wp2_with fail
  refine (canon_D a HA.out _).mono ?_; rintro e2 w2 ⟨rfl, hb2⟩
  go_wp2
  go_ret
  exact ⟨rfl, (by repeat (first | with_reducible exact Within.refl _ | with_reducible assumption | with_reducible refine Within.alloc ?_ _ | with_reducible refine Within.drew ?_ | with_reducible refine Within.setCell ?_ (by first | (simp; done) | (simp; omega)) _ | with_reducible refine Within.trans ?_ (by assumption)))⟩


set_option maxRecDepth 100000 in
set_option maxHeartbeats 600000 in
theorem Class_D (a : Nat) (ha : a < 18446744073709551616) (w : World) : Calls Tryd.prog 39 #[.float .f64 a] w fun e w' => e = .returned (.int .i64 (classD a)) ∧ Within w w' := by
  have HA := Lib.hid ha; clear ha
  go_enter Tryd.func39, Tryd.ntmps39
  go_wp2_with fail
  refine (of_D _).mono ?_; rintro e1 w1 ⟨rfl, hb1⟩
  go_wp2_with fail
  refine (class_D a HA.out _).mono ?_; rintro e2 w2 ⟨rfl, hb2⟩
  go_wp2
  go_ret
  exact ⟨rfl, (by repeat (first | with_reducible exact Within.refl _ | with_reducible assumption | with_reducible refine Within.alloc ?_ _ | with_reducible refine Within.drew ?_ | with_reducible refine Within.setCell ?_ (by first | (simp; done) | (simp; omega)) _ | with_reducible refine Within.trans ?_ (by assumption)))⟩


set_option maxRecDepth 100000 in
set_option maxHeartbeats 600000 in
theorem Split_D (a : Nat) (ha : a < 18446744073709551616) (w : World) : Calls Tryd.prog 35 #[.float .f64 a] w fun e w' => e = .returned (.tuple #[.bool (negD a), .int .i64 (expD a), .int .u64 (fracD a)]) ∧ Within w w' := by
  have HA := Lib.hid ha; clear ha
  go_enter Tryd.func35, Tryd.ntmps35
  go_wp2_with fail
  refine (of_D _).mono ?_; rintro e1 w1 ⟨rfl, hb1⟩
  go_wp2_with fail
  refine (split_D a HA.out _).mono ?_; rintro e2 w2 ⟨rfl, hb2⟩
  go_wp2
  go_ret3
  exact ⟨rfl, (by repeat (first | with_reducible exact Within.refl _ | with_reducible assumption | with_reducible refine Within.alloc ?_ _ | with_reducible refine Within.drew ?_ | with_reducible refine Within.setCell ?_ (by first | (simp; done) | (simp; omega)) _ | with_reducible refine Within.trans ?_ (by assumption)))⟩


set_option maxRecDepth 100000 in
set_option maxHeartbeats 600000 in
theorem number_D (b : Nat) (e : Int) (w : World) : Calls Tryd.prog 78 #[.int .u64 b, .int .i64 e] w fun e' w' => e' = .returned (.tuple #[.float .f64 b, .int .i64 e]) ∧ Within w w' := by
  go_enter Tryd.func78, Tryd.ntmps78
  go_wp2
  go_ret2
  exact ⟨rfl, (by repeat (first | with_reducible exact Within.refl _ | with_reducible assumption | with_reducible refine Within.alloc ?_ _ | with_reducible refine Within.drew ?_ | with_reducible refine Within.setCell ?_ (by first | (simp; done) | (simp; omega)) _ | with_reducible refine Within.trans ?_ (by assumption)))⟩


set_option maxRecDepth 100000 in
set_option maxHeartbeats 600000 in
theorem Join_D (neg : Bool) (e : Int) (fr : Nat) (hlo : -9223372036854775808 ≤ e) (hhi : e ≤ 9223372036854775807) (hb : fr < 18446744073709551616) (w : World) : Calls Tryd.prog 37 #[.bool neg, .int .i64 e, .int .u64 fr] w fun e' w' => e' = .returned (.tuple #[.float .f64 (joinD neg e fr), .int .i64 (joinED e fr)]) ∧ Within w w' := by
  have JJ := Lib.hid (join_D neg e fr hlo hhi hb); clear hlo hhi hb
  go_enter Tryd.func37, Tryd.ntmps37
  go_wp2_with fail
  refine (of_D _).mono ?_; rintro e1 w1 ⟨rfl, hb1⟩
  go_wp2_with fail
  refine (JJ.out _).mono ?_; rintro e2 w2 ⟨rfl, hb2⟩
  go_wp2_with fail
  refine (number_D _ _ _).mono ?_; rintro e3 w3 ⟨rfl, hb3⟩
  go_wp2
  go_ret2
  exact ⟨rfl, (by repeat (first | with_reducible exact Within.refl _ | with_reducible assumption | with_reducible refine Within.alloc ?_ _ | with_reducible refine Within.drew ?_ | with_reducible refine Within.setCell ?_ (by first | (simp; done) | (simp; omega)) _ | with_reducible refine Within.trans ?_ (by assumption)))⟩


set_option maxRecDepth 100000 in
set_option maxHeartbeats 600000 in
theorem Parts_D (a : Nat) (ha : a < 18446744073709551616) (w : World) (hT : Tab w) : Calls Tryd.prog 12 #[.float .f64 a] w fun e w' => e = .returned (.tuple #[.agg #[.bool (pNegD a), .int .u64 (pMantD a), .int .i64 (pExpD a)], .int .i64 (pErrD a)]) ∧ Within w w' := by
  have HA := Lib.hid ha; clear ha
  go_enter Tryd.func12, Tryd.ntmps12
  go_wp2_with fail
  refine (of_D _).mono ?_; rintro e1 w1 ⟨rfl, hb1⟩
  go_wp2_with fail
  refine (parts_D a HA.out _ (hT.of (by repeat (first | with_reducible exact Within.refl _ | with_reducible assumption | with_reducible refine Within.alloc ?_ _ | with_reducible refine Within.drew ?_ | with_reducible refine Within.setCell ?_ (by first | (simp; done) | (simp; omega)) _ | with_reducible refine Within.trans ?_ (by assumption))))).mono ?_; rintro e2 w2 ⟨rfl, hb2⟩
  have hf1 := hb1.frozens; have hc1 := hb1.cells; have hf2 := hb2.frozens; have hc2 := hb2.cells
  have hz1 : w.heap.size < w1.heap.size := (by have := hb1.sizes; simp at this; omega)
  have hz2 : w.heap.size < w2.heap.size := (by have := hb2.sizes; omega)
  go_wp2
  refine bodyPost_ret (v := .tuple #[.agg #[.bool (pNegD a), .int .u64 (pMantD a), .int .i64 (pExpD a)], .int .i64 (pErrD a)]) (by simp [results, Tryd.results12, go_sem, hc1, hc2, hz1]) rfl ⟨rfl, ?_⟩
  exact (by repeat (first | with_reducible exact Within.refl _ | with_reducible assumption | with_reducible refine Within.alloc ?_ _ | with_reducible refine Within.drew ?_ | with_reducible refine Within.setCell ?_ (by first | (simp; done) | (simp; omega)) _ | with_reducible refine Within.trans ?_ (by assumption)))


set_option maxRecDepth 100000 in
set_option maxHeartbeats 600000 in
theorem Of_D (neg : Bool) (mant : Nat) (e : Int) (hm : mant < 18446744073709551616) (w : World) (hT : Tab w) : Calls Tryd.prog 19 #[.agg #[.bool neg, .int .u64 mant, .int .i64 e]] w fun e' w' => e' = .returned (.tuple #[.float .f64 (madeD neg mant e), .int .i64 (madeED mant e)]) ∧ Within w w' := by
  have HA := Lib.hid hm; clear hm
  go_enter Tryd.func19, Tryd.ntmps19
  go_wp2
  refine wp_region_within (by kernel_rfl) (by kernel_rfl) ?_
  repeat
    apply wpq_step rfl
    · intro wq hCq
      have hcq := hCq.cells
      go_simp
      first | rfl | exact hCq.call (of_D _) | exact hCq.call (made_D neg mant e HA.out _ (hT.of (((Within.refl _).alloc _).trans hCq))) | exact hCq.call (number_D _ _ _) | (trace_state; fail)
    simp only [Act.put, List.setIfInBounds_toArray, List.set_cons_zero, List.set_cons_succ]
  refine wpQuiet_nil ?_
  intro w1 hC1
  go_wp2
  go_ret2
  exact ⟨rfl, (by repeat (first | with_reducible exact Within.refl _ | with_reducible assumption | with_reducible refine Within.alloc ?_ _ | with_reducible refine Within.drew ?_ | with_reducible refine Within.setCell ?_ (by first | (simp; done) | (simp; omega)) _ | with_reducible refine Within.trans ?_ (by assumption)))⟩


set_option maxRecDepth 100000 in
set_option maxHeartbeats 600000 in
theorem Next_D (a : Nat) (ha : a < 18446744073709551616) (w : World) : Calls Tryd.prog 49 #[.float .f64 a] w fun e w' => e = .returned (.float .f64 (nextD a)) ∧ Within w w' := by
  have HA := Lib.hid ha; clear ha
  go_enter Tryd.func49, Tryd.ntmps49
  go_wp2_with fail
  refine (of_D _).mono ?_; rintro e1 w1 ⟨rfl, hb1⟩
  go_wp2_with fail
  refine (next_D a HA.out _).mono ?_; rintro e2 w2 ⟨rfl, hb2⟩
  go_wp2
  go_ret
  exact ⟨rfl, (by repeat (first | with_reducible exact Within.refl _ | with_reducible assumption | with_reducible refine Within.alloc ?_ _ | with_reducible refine Within.drew ?_ | with_reducible refine Within.setCell ?_ (by first | (simp; done) | (simp; omega)) _ | with_reducible refine Within.trans ?_ (by assumption)))⟩


set_option maxRecDepth 100000 in
set_option maxHeartbeats 600000 in
theorem Prev_D (a : Nat) (ha : a < 18446744073709551616) (w : World) : Calls Tryd.prog 51 #[.float .f64 a] w fun e w' => e = .returned (.float .f64 (prevD a)) ∧ Within w w' := by
  have HA := Lib.hid ha; clear ha
  go_enter Tryd.func51, Tryd.ntmps51
  go_wp2_with fail
  refine (of_D _).mono ?_; rintro e1 w1 ⟨rfl, hb1⟩
  go_wp2_with fail
  refine (prev_D a HA.out _).mono ?_; rintro e2 w2 ⟨rfl, hb2⟩
  go_wp2
  go_ret
  exact ⟨rfl, (by repeat (first | with_reducible exact Within.refl _ | with_reducible assumption | with_reducible refine Within.alloc ?_ _ | with_reducible refine Within.drew ?_ | with_reducible refine Within.setCell ?_ (by first | (simp; done) | (simp; omega)) _ | with_reducible refine Within.trans ?_ (by assumption)))⟩


set_option maxRecDepth 100000 in
set_option maxHeartbeats 600000 in
theorem Ulp_D (a : Nat) (ha : a < 18446744073709551616) (w : World) (hT : Tab w) : Calls Tryd.prog 53 #[.float .f64 a] w fun e w' => e = .returned (.float .f64 (ulpD a)) ∧ Within w w' := by
  have HA := Lib.hid ha; clear ha
  go_enter Tryd.func53, Tryd.ntmps53
  go_wp2_with fail
  refine (of_D _).mono ?_; rintro e1 w1 ⟨rfl, hb1⟩
  go_wp2_with fail
  refine (ulp_D a HA.out _ (hT.of (by repeat (first | with_reducible exact Within.refl _ | with_reducible assumption | with_reducible refine Within.alloc ?_ _ | with_reducible refine Within.drew ?_ | with_reducible refine Within.setCell ?_ (by first | (simp; done) | (simp; omega)) _ | with_reducible refine Within.trans ?_ (by assumption))))).mono ?_; rintro e2 w2 ⟨rfl, hb2⟩
  go_wp2
  go_ret
  exact ⟨rfl, (by repeat (first | with_reducible exact Within.refl _ | with_reducible assumption | with_reducible refine Within.alloc ?_ _ | with_reducible refine Within.drew ?_ | with_reducible refine Within.setCell ?_ (by first | (simp; done) | (simp; omega)) _ | with_reducible refine Within.trans ?_ (by assumption)))⟩


set_option maxRecDepth 100000 in
set_option maxHeartbeats 600000 in
theorem Same_S (a b : Nat) (ha : a < 4294967296) (hb : b < 4294967296) (w : World) : Calls Tryd.prog 32 #[.float .f32 a, .float .f32 b] w fun e w' => e = .returned (.bool (decide (canonS a = canonS b))) ∧ Within w w' := by
  have HA := Lib.hid ha; have HB := Lib.hid hb; clear ha hb
  go_enter Tryd.func32, Tryd.ntmps32
  go_wp2_with fail
  refine (of_S _).mono ?_; rintro e1 w1 ⟨rfl, hb1⟩
  go_wp2_with fail
  refine (canon_S a HA.out _).mono ?_; rintro e2 w2 ⟨rfl, hb2⟩
  go_wp2_with fail
  refine (of_S _).mono ?_; rintro e3 w3 ⟨rfl, hb3⟩
  go_wp2_with fail
  refine (canon_S b HB.out _).mono ?_; rintro e4 w4 ⟨rfl, hb4⟩
  go_wp2
  go_ret
  refine ⟨ret_bool ?_, (by repeat (first | with_reducible exact Within.refl _ | with_reducible assumption | with_reducible refine Within.alloc ?_ _ | with_reducible refine Within.drew ?_ | with_reducible refine Within.setCell ?_ (by first | (simp; done) | (simp; omega)) _ | with_reducible refine Within.trans ?_ (by assumption)))⟩
  show ((canonS a : Int) == canonS b) = _
  rw [Bool.eq_iff_iff, beq_iff_eq, decide_eq_true_iff]; omega


set_option maxRecDepth 100000 in
set_option maxHeartbeats 600000 in
theorem Canon_S (a : Nat) (ha : a < 4294967296) (w : World) : Calls Tryd.prog 34 #[.float .f32 a] w fun e w' => e = .returned (.float .f32 (canonS a)) ∧ Within w w' := by
  have HA := Lib.hid ha; clear ha
  go_enter Tryd.func34, Tryd.ntmps34
  go_wp2_with fail
  refine (of_S _).mono ?_; rintro e1 w1 ⟨rfl, hb1⟩
  go_wp2_with fail
  refine (canon_S a HA.out _).mono ?_; rintro e2 w2 ⟨rfl, hb2⟩
  go_wp2
  go_ret
  exact ⟨rfl, (by repeat (first | with_reducible exact Within.refl _ | with_reducible assumption | with_reducible refine Within.alloc ?_ _ | with_reducible refine Within.drew ?_ | with_reducible refine Within.setCell ?_ (by first | (simp; done) | (simp; omega)) _ | with_reducible refine Within.trans ?_ (by assumption)))⟩


set_option maxRecDepth 100000 in
set_option maxHeartbeats 600000 in
theorem Class_S (a : Nat) (ha : a < 4294967296) (w : World) : Calls Tryd.prog 30 #[.float .f32 a] w fun e w' => e = .returned (.int .i64 (classS a)) ∧ Within w w' := by
  have HA := Lib.hid ha; clear ha
  go_enter Tryd.func30, Tryd.ntmps30
  go_wp2_with fail
  refine (of_S _).mono ?_; rintro e1 w1 ⟨rfl, hb1⟩
  go_wp2_with fail
  refine (class_S a HA.out _).mono ?_; rintro e2 w2 ⟨rfl, hb2⟩
  go_wp2
  go_ret
  exact ⟨rfl, (by repeat (first | with_reducible exact Within.refl _ | with_reducible assumption | with_reducible refine Within.alloc ?_ _ | with_reducible refine Within.drew ?_ | with_reducible refine Within.setCell ?_ (by first | (simp; done) | (simp; omega)) _ | with_reducible refine Within.trans ?_ (by assumption)))⟩


set_option maxRecDepth 100000 in
set_option maxHeartbeats 600000 in
theorem Split_S (a : Nat) (ha : a < 4294967296) (w : World) : Calls Tryd.prog 26 #[.float .f32 a] w fun e w' => e = .returned (.tuple #[.bool (negS a), .int .i64 (expS a), .int .u32 (fracS a)]) ∧ Within w w' := by
  have HA := Lib.hid ha; clear ha
  go_enter Tryd.func26, Tryd.ntmps26
  go_wp2_with fail
  refine (of_S _).mono ?_; rintro e1 w1 ⟨rfl, hb1⟩
  go_wp2_with fail
  refine (split_S a HA.out _).mono ?_; rintro e2 w2 ⟨rfl, hb2⟩
  go_wp2
  go_ret3
  exact ⟨rfl, (by repeat (first | with_reducible exact Within.refl _ | with_reducible assumption | with_reducible refine Within.alloc ?_ _ | with_reducible refine Within.drew ?_ | with_reducible refine Within.setCell ?_ (by first | (simp; done) | (simp; omega)) _ | with_reducible refine Within.trans ?_ (by assumption)))⟩


set_option maxRecDepth 100000 in
set_option maxHeartbeats 600000 in
theorem number_S (b : Nat) (e : Int) (w : World) : Calls Tryd.prog 83 #[.int .u32 b, .int .i64 e] w fun e' w' => e' = .returned (.tuple #[.float .f32 b, .int .i64 e]) ∧ Within w w' := by
  go_enter Tryd.func83, Tryd.ntmps83
  go_wp2
  go_ret2
  exact ⟨rfl, (by repeat (first | with_reducible exact Within.refl _ | with_reducible assumption | with_reducible refine Within.alloc ?_ _ | with_reducible refine Within.drew ?_ | with_reducible refine Within.setCell ?_ (by first | (simp; done) | (simp; omega)) _ | with_reducible refine Within.trans ?_ (by assumption)))⟩


set_option maxRecDepth 100000 in
set_option maxHeartbeats 600000 in
theorem Join_S (neg : Bool) (e : Int) (fr : Nat) (hlo : -9223372036854775808 ≤ e) (hhi : e ≤ 9223372036854775807) (hb : fr < 4294967296) (w : World) : Calls Tryd.prog 28 #[.bool neg, .int .i64 e, .int .u32 fr] w fun e' w' => e' = .returned (.tuple #[.float .f32 (joinS neg e fr), .int .i64 (joinES e fr)]) ∧ Within w w' := by
  have JJ := Lib.hid (join_S neg e fr hlo hhi hb); clear hlo hhi hb
  go_enter Tryd.func28, Tryd.ntmps28
  go_wp2_with fail
  refine (of_S _).mono ?_; rintro e1 w1 ⟨rfl, hb1⟩
  go_wp2_with fail
  refine (JJ.out _).mono ?_; rintro e2 w2 ⟨rfl, hb2⟩
  go_wp2_with fail
  refine (number_S _ _ _).mono ?_; rintro e3 w3 ⟨rfl, hb3⟩
  go_wp2
  go_ret2
  exact ⟨rfl, (by repeat (first | with_reducible exact Within.refl _ | with_reducible assumption | with_reducible refine Within.alloc ?_ _ | with_reducible refine Within.drew ?_ | with_reducible refine Within.setCell ?_ (by first | (simp; done) | (simp; omega)) _ | with_reducible refine Within.trans ?_ (by assumption)))⟩


set_option maxRecDepth 100000 in
set_option maxHeartbeats 600000 in
theorem Parts_S (a : Nat) (ha : a < 4294967296) (w : World) (hT : Tab w) : Calls Tryd.prog 16 #[.float .f32 a] w fun e w' => e = .returned (.tuple #[.agg #[.bool (pNegS a), .int .u64 (pMantS a), .int .i64 (pExpS a)], .int .i64 (pErrS a)]) ∧ Within w w' := by
  have HA := Lib.hid ha; clear ha
  go_enter Tryd.func16, Tryd.ntmps16
  go_wp2_with fail
  refine (of_S _).mono ?_; rintro e1 w1 ⟨rfl, hb1⟩
  go_wp2_with fail
  refine (parts_S a HA.out _ (hT.of (by repeat (first | with_reducible exact Within.refl _ | with_reducible assumption | with_reducible refine Within.alloc ?_ _ | with_reducible refine Within.drew ?_ | with_reducible refine Within.setCell ?_ (by first | (simp; done) | (simp; omega)) _ | with_reducible refine Within.trans ?_ (by assumption))))).mono ?_; rintro e2 w2 ⟨rfl, hb2⟩
  have hf1 := hb1.frozens; have hc1 := hb1.cells; have hf2 := hb2.frozens; have hc2 := hb2.cells
  have hz1 : w.heap.size < w1.heap.size := (by have := hb1.sizes; simp at this; omega)
  have hz2 : w.heap.size < w2.heap.size := (by have := hb2.sizes; omega)
  go_wp2
  refine bodyPost_ret (v := .tuple #[.agg #[.bool (pNegS a), .int .u64 (pMantS a), .int .i64 (pExpS a)], .int .i64 (pErrS a)]) (by simp [results, Tryd.results16, go_sem, hc1, hc2, hz1]) rfl ⟨rfl, ?_⟩
  exact (by repeat (first | with_reducible exact Within.refl _ | with_reducible assumption | with_reducible refine Within.alloc ?_ _ | with_reducible refine Within.drew ?_ | with_reducible refine Within.setCell ?_ (by first | (simp; done) | (simp; omega)) _ | with_reducible refine Within.trans ?_ (by assumption)))


set_option maxRecDepth 100000 in
set_option maxHeartbeats 600000 in
theorem Of_S (neg : Bool) (mant : Nat) (e : Int) (hm : mant < 18446744073709551616) (w : World) (hT : Tab w) : Calls Tryd.prog 22 #[.agg #[.bool neg, .int .u64 mant, .int .i64 e]] w fun e' w' => e' = .returned (.tuple #[.float .f32 (madeS neg mant e), .int .i64 (madeES mant e)]) ∧ Within w w' := by
  have HA := Lib.hid hm; clear hm
  go_enter Tryd.func22, Tryd.ntmps22
  go_wp2
  refine wp_region_within (by kernel_rfl) (by kernel_rfl) ?_
  repeat
    apply wpq_step rfl
    · intro wq hCq
      have hcq := hCq.cells
      go_simp
      first | rfl | exact hCq.call (of_S _) | exact hCq.call (made_S neg mant e HA.out _ (hT.of (((Within.refl _).alloc _).trans hCq))) | exact hCq.call (number_S _ _ _) | (trace_state; fail)
    simp only [Act.put, List.setIfInBounds_toArray, List.set_cons_zero, List.set_cons_succ]
  refine wpQuiet_nil ?_
  intro w1 hC1
  go_wp2
  go_ret2
  exact ⟨rfl, (by repeat (first | with_reducible exact Within.refl _ | with_reducible assumption | with_reducible refine Within.alloc ?_ _ | with_reducible refine Within.drew ?_ | with_reducible refine Within.setCell ?_ (by first | (simp; done) | (simp; omega)) _ | with_reducible refine Within.trans ?_ (by assumption)))⟩


set_option maxRecDepth 100000 in
set_option maxHeartbeats 600000 in
theorem Next_S (a : Nat) (ha : a < 4294967296) (w : World) : Calls Tryd.prog 55 #[.float .f32 a] w fun e w' => e = .returned (.float .f32 (nextS a)) ∧ Within w w' := by
  have HA := Lib.hid ha; clear ha
  go_enter Tryd.func55, Tryd.ntmps55
  go_wp2_with fail
  refine (of_S _).mono ?_; rintro e1 w1 ⟨rfl, hb1⟩
  go_wp2_with fail
  refine (next_S a HA.out _).mono ?_; rintro e2 w2 ⟨rfl, hb2⟩
  go_wp2
  go_ret
  exact ⟨rfl, (by repeat (first | with_reducible exact Within.refl _ | with_reducible assumption | with_reducible refine Within.alloc ?_ _ | with_reducible refine Within.drew ?_ | with_reducible refine Within.setCell ?_ (by first | (simp; done) | (simp; omega)) _ | with_reducible refine Within.trans ?_ (by assumption)))⟩


set_option maxRecDepth 100000 in
set_option maxHeartbeats 600000 in
theorem Prev_S (a : Nat) (ha : a < 4294967296) (w : World) : Calls Tryd.prog 57 #[.float .f32 a] w fun e w' => e = .returned (.float .f32 (prevS a)) ∧ Within w w' := by
  have HA := Lib.hid ha; clear ha
  go_enter Tryd.func57, Tryd.ntmps57
  go_wp2_with fail
  refine (of_S _).mono ?_; rintro e1 w1 ⟨rfl, hb1⟩
  go_wp2_with fail
  refine (prev_S a HA.out _).mono ?_; rintro e2 w2 ⟨rfl, hb2⟩
  go_wp2
  go_ret
  exact ⟨rfl, (by repeat (first | with_reducible exact Within.refl _ | with_reducible assumption | with_reducible refine Within.alloc ?_ _ | with_reducible refine Within.drew ?_ | with_reducible refine Within.setCell ?_ (by first | (simp; done) | (simp; omega)) _ | with_reducible refine Within.trans ?_ (by assumption)))⟩


set_option maxRecDepth 100000 in
set_option maxHeartbeats 600000 in
theorem Ulp_S (a : Nat) (ha : a < 4294967296) (w : World) (hT : Tab w) : Calls Tryd.prog 59 #[.float .f32 a] w fun e w' => e = .returned (.float .f32 (ulpS a)) ∧ Within w w' := by
  have HA := Lib.hid ha; clear ha
  go_enter Tryd.func59, Tryd.ntmps59
  go_wp2_with fail
  refine (of_S _).mono ?_; rintro e1 w1 ⟨rfl, hb1⟩
  go_wp2_with fail
  refine (ulp_S a HA.out _ (hT.of (by repeat (first | with_reducible exact Within.refl _ | with_reducible assumption | with_reducible refine Within.alloc ?_ _ | with_reducible refine Within.drew ?_ | with_reducible refine Within.setCell ?_ (by first | (simp; done) | (simp; omega)) _ | with_reducible refine Within.trans ?_ (by assumption))))).mono ?_; rintro e2 w2 ⟨rfl, hb2⟩
  go_wp2
  go_ret
  exact ⟨rfl, (by repeat (first | with_reducible exact Within.refl _ | with_reducible assumption | with_reducible refine Within.alloc ?_ _ | with_reducible refine Within.drew ?_ | with_reducible refine Within.setCell ?_ (by first | (simp; done) | (simp; omega)) _ | with_reducible refine Within.trans ?_ (by assumption)))⟩


end Go.Proofs.YthjaponkbodooaaDoor
