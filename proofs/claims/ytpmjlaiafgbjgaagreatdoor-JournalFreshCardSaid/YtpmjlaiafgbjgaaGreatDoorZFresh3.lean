/- What the law's walk rests on, part 3: contracts of functions and plain facts. -/
import Derived.Test.YtpmjlaiafgbjgaaGreatDoorRows
import Derived.WalkKit
import Derived.WalkSpells
import Derived.WalkLawsBesides
import Derived.BigQuiet
import Derived.Lib.Hide
import Ieee.Arith
import Derived.Lib.TrailingZeros
import Derived.Lib.BitFns
import Derived.Lib.Strings
import Derived.Lib.Slices
import Derived.Lib.Small
import Derived.Lib.Walk
import Derived.OwnWalk
import Derived.Maps.AppendAt
import Derived.Laws.OwnMore
import Derived.Deep.AppendLies
import Derived.Deep.Draws
import Derived.OrdersHeld
import Derived.StillTail
import Derived.Deep.RegionHeld3
import Derived.Deep.DeepCutAuto
import Derived.IntWalk
import Derived.Maps.Range
import Derived.Maps.RangeWalk
import Derived.Laws.BytesArg
import Derived.Laws.Strings
import Derived.Lib.SlBytesConst
import Derived.RangeFuncNested
import Derived.RangeFuncBound
import Derived.RangeFuncCalls
import Derived.RangeFuncLeaves
import Derived.OwnWalkIn
import Derived.Shelf.Abstract
import Derived.Shelf.RegionOpen
import Derived.TacticsInMore
import Derived.LoopNIn
import Derived.LoopIn
import Derived.RangeFuncBox
import Derived.Laws.IdiomStrings
import Derived.ProofKit
import Derived.OpenShut
import Derived.ShutString
import Derived.ChangeOld
import Derived.ChangeSlices
import Derived.Below
import Derived.Carry
import Derived.SizedLaws
import Derived.Deep.DeepHandedRow
import Derived.Deep.Strs
import Derived.Lib.LaidTab
import Derived.Lib.SmallJoins
import Derived.Deep.Slices
import Derived.Test.YtpmjlaiafgbjgaaGreatDoorZFresh2
set_option linter.unusedVariables false
set_option linter.unusedSimpArgs false
section
namespace Go.Proofs.YtpmjlaiafgbjgaaGreatDoor
open Go.RowKit
def classOf (e fr most : Nat) : Int := if e = most ∧ fr ≠ 0 then 1 else if e = most then 2 else if e = 0 ∧ fr = 0 then 3 else if e = 0 then 4 else 5
def expD (b : Nat) : Nat := canonD b / 4503599627370496 % 2048
def fracD (b : Nat) : Nat := canonD b % 4503599627370496
def negD (b : Nat) : Bool := decide (9223372036854775808 ≤ canonD b)
def classD (b : Nat) : Int := classOf (expD b) (fracD b) 2047
set_option maxHeartbeats 400000 in
theorem split_D (b : Nat) (hb : b < 18446744073709551616) (w : World) : Calls Tryz.prog 98 #[.int .u64 b, dbl] w fun e w' => e = .returned (.tuple #[.bool (negD b), .int .i64 (expD b), .int .u64 (fracD b)]) ∧ Within w w' := by
  have hc := canonD_lt hb
  have e1 := u64_sign (canonD b) hc
  have e2 := u64_mask 11 (by decide) (canonD b / 4503599627370496) (by omega)
  have e3 := u64_mask 52 (by decide) (canonD b) (by omega)
  simp only [show (2 ^ 11 - 1 : Nat) = 2047 from rfl, show (2 ^ 11 : Nat) = 2048 from rfl, show (2 ^ 52 - 1 : Nat) = 4503599627370495 from rfl, show (2 ^ 52 : Nat) = 4503599627370496 from rfl, Int.natCast_ediv, Int.natCast_emod, Int.natCast_mul, Int.cast_ofNat_Int] at e1 e2 e3
  have ew : IntKind.u64.wrap (canonD b : Int) = canonD b := by rw [IntKind.wrap_u64]; omega
  have e4 : IntKind.u64.wrap 4503599627370495 = 4503599627370495 := by decide
  have e5 : IntKind.u64.wrap 2047 = 2047 := by decide
  have e6 : IntKind.i64.wrap ((canonD b : Int) / 4503599627370496 % 2048) = (canonD b : Int) / 4503599627370496 % 2048 := by rw [IntKind.wrap_i64]; omega
  have e7 : IntKind.u64.wrap ((canonD b : Int) % 4503599627370496) = (canonD b : Int) % 4503599627370496 := by first | (rw [IntKind.wrap_u64]; omega) | (rw [IntKind.wrap_u32]; omega)
  go_enter Tryz.func98, Tryz.ntmps98
  go_wp2_with fail
  refine (canon_D b hb _).mono ?_; rintro e w1 ⟨rfl, hb1⟩
  have hc1 := hb1.cells; have hz1 : w.heap.size < w1.heap.size := by have := hb1.sizes; simp at this; omega
  go_wp2
  refine wp_region_within (by kernel_rfl) (by kernel_rfl) ?_
  repeat
    apply wpq_step rfl
    · intro wq hCq
      have hcq := hCq.cells
      go_simp
      first | rfl | exact hCq.call (hidden_D _) | exact hCq.call (sign_D _) | (trace_state; fail)
    simp only [Act.put, List.setIfInBounds_toArray, List.set_cons_zero, List.set_cons_succ]
  refine wpQuiet_nil ?_
  intro w2 hC2
  go_wp2
  go_ret3
  refine ⟨ret3 (v_bool (b := negD b) ?_) (v_int (b := expD b) ?_) (v_int (b := fracD b) ?_), (by repeat (first | exact Within.refl _ | assumption | refine Within.alloc ?_ _ | refine Within.drew ?_ | refine Within.trans ?_ (by assumption)))⟩
  · show ((canonD b : Int) / 9223372036854775808 * 9223372036854775808 != 0) = negD b
    unfold negD
    rw [Bool.eq_iff_iff, bne_iff_ne, decide_eq_true_iff]; omega
  · show ((canonD b : Int) / 4503599627370496 % 2048) = _
    unfold expD; omega
  · show ((canonD b : Int) % 4503599627370496) = _
    unfold fracD; omega
set_option maxHeartbeats 400000 in
theorem class_D (b : Nat) (hb : b < 18446744073709551616) (w : World) : Calls Tryz.prog 88 #[.int .u64 b, dbl] w fun e w' => e = .returned (.int .i64 (classD b)) ∧ Within w w' := by
  generalize hce : classD b = c
  unfold classD classOf at hce
  by_cases h1 : expD b = 2047
  · have f1 : ((expD b : Int) == 2047) = true := beq_iff_eq.2 (by omega)
    by_cases h2 : fracD b = 0
    · have f2 : ((fracD b : Int) != 0) = false := by rw [bne_eq_false_iff_eq]; omega
      rw [if_neg (by omega), if_pos h1] at hce
      subst hce
      clear h1 h2
      go_enter Tryz.func88, Tryz.ntmps88
      go_wp2_with fail
      refine (split_D b hb _).mono ?_; rintro e w1 ⟨rfl, hb1⟩
      have hc1 := hb1.cells; have hz1 : w.heap.size < w1.heap.size := by have := hb1.sizes; simp at this; omega
      go_wp2
      go_ret
      exact ⟨rfl, (by repeat (first | exact Within.refl _ | assumption | refine Within.alloc ?_ _ | refine Within.drew ?_ | refine Within.trans ?_ (by assumption)))⟩
    · have f2 : ((fracD b : Int) != 0) = true := by rw [bne_iff_ne]; omega
      rw [if_pos ⟨h1, h2⟩] at hce
      subst hce
      clear h1 h2
      go_enter Tryz.func88, Tryz.ntmps88
      go_wp2_with fail
      refine (split_D b hb _).mono ?_; rintro e w1 ⟨rfl, hb1⟩
      have hc1 := hb1.cells; have hz1 : w.heap.size < w1.heap.size := by have := hb1.sizes; simp at this; omega
      go_wp2
      go_ret
      exact ⟨rfl, (by repeat (first | exact Within.refl _ | assumption | refine Within.alloc ?_ _ | refine Within.drew ?_ | refine Within.trans ?_ (by assumption)))⟩
  · have f1 : ((expD b : Int) == 2047) = false := beq_eq_false_iff_ne.2 (by omega)
    by_cases h3 : expD b = 0
    · have f3 : ((expD b : Int) == 0) = true := beq_iff_eq.2 (by omega)
      by_cases h2 : fracD b = 0
      · have f2 : ((fracD b : Int) == 0) = true := beq_iff_eq.2 (by omega)
        rw [if_neg (by omega), if_neg h1, if_pos ⟨h3, h2⟩] at hce
        subst hce
        clear h1 h2 h3
        go_enter Tryz.func88, Tryz.ntmps88
        go_wp2_with fail
        refine (split_D b hb _).mono ?_; rintro e w1 ⟨rfl, hb1⟩
        have hc1 := hb1.cells; have hz1 : w.heap.size < w1.heap.size := by have := hb1.sizes; simp at this; omega
        go_wp2
        go_ret
        exact ⟨rfl, (by repeat (first | exact Within.refl _ | assumption | refine Within.alloc ?_ _ | refine Within.drew ?_ | refine Within.trans ?_ (by assumption)))⟩
      · have f2 : ((fracD b : Int) == 0) = false := beq_eq_false_iff_ne.2 (by omega)
        rw [if_neg (by omega), if_neg h1, if_neg (by omega), if_pos h3] at hce
        subst hce
        clear h1 h2 h3
        go_enter Tryz.func88, Tryz.ntmps88
        go_wp2_with fail
        refine (split_D b hb _).mono ?_; rintro e w1 ⟨rfl, hb1⟩
        have hc1 := hb1.cells; have hz1 : w.heap.size < w1.heap.size := by have := hb1.sizes; simp at this; omega
        go_wp2
        go_ret
        exact ⟨rfl, (by repeat (first | exact Within.refl _ | assumption | refine Within.alloc ?_ _ | refine Within.drew ?_ | refine Within.trans ?_ (by assumption)))⟩
    · have f3 : ((expD b : Int) == 0) = false := beq_eq_false_iff_ne.2 (by omega)
      rw [if_neg (by omega), if_neg h1, if_neg (by omega), if_neg h3] at hce
      subst hce
      clear h1 h3
      go_enter Tryz.func88, Tryz.ntmps88
      go_wp2_with fail
      refine (split_D b hb _).mono ?_; rintro e w1 ⟨rfl, hb1⟩
      have hc1 := hb1.cells; have hz1 : w.heap.size < w1.heap.size := by have := hb1.sizes; simp at this; omega
      go_wp2
      go_ret
      exact ⟨rfl, (by repeat (first | exact Within.refl _ | assumption | refine Within.alloc ?_ _ | refine Within.drew ?_ | refine Within.trans ?_ (by assumption)))⟩
set_option maxRecDepth 100000 in
set_option maxHeartbeats 600000 in
theorem Same_D (a b : Nat) (ha : a < 18446744073709551616) (hb : b < 18446744073709551616) (w : World) : Calls Tryz.prog 84 #[.float .f64 a, .float .f64 b] w fun e w' => e = .returned (.bool (decide (canonD a = canonD b))) ∧ Within w w' := by
  have HA := Lib.hid ha; have HB := Lib.hid hb; clear ha hb
  go_enter Tryz.func84, Tryz.ntmps84
  go_wp2_with fail
  refine (of_D _).mono ?_; rintro e1 w1 ⟨rfl, hb1⟩
  go_wp2_with fail
  refine (canon_D a HA.out _).mono ?_; rintro e2 w2 ⟨rfl, hb2⟩
  go_wp2_with fail
  refine (of_D _).mono ?_; rintro e3 w3 ⟨rfl, hb3⟩
  go_wp2_with fail
  refine (canon_D b HB.out _).mono ?_; rintro e4 w4 ⟨rfl, hb4⟩
  go_wp2
  go_ret
  refine ⟨ret_bool ?_, (by repeat (first | with_reducible exact Within.refl _ | with_reducible assumption | with_reducible refine Within.alloc ?_ _ | with_reducible refine Within.drew ?_ | with_reducible refine Within.setCell ?_ (by first | (simp; done) | (simp; omega)) _ | with_reducible refine Within.trans ?_ (by assumption)))⟩
  show ((canonD a : Int) == canonD b) = _
  rw [Bool.eq_iff_iff, beq_iff_eq, decide_eq_true_iff]; omega
set_option maxRecDepth 100000 in
set_option maxHeartbeats 600000 in
theorem Class_D (a : Nat) (ha : a < 18446744073709551616) (w : World) : Calls Tryz.prog 82 #[.float .f64 a] w fun e w' => e = .returned (.int .i64 (classD a)) ∧ Within w w' := by
  have HA := Lib.hid ha; clear ha
  go_enter Tryz.func82, Tryz.ntmps82
  go_wp2_with fail
  refine (of_D _).mono ?_; rintro e1 w1 ⟨rfl, hb1⟩
  go_wp2_with fail
  refine (class_D a HA.out _).mono ?_; rintro e2 w2 ⟨rfl, hb2⟩
  go_wp2
  go_ret
  exact ⟨rfl, (by repeat (first | with_reducible exact Within.refl _ | with_reducible assumption | with_reducible refine Within.alloc ?_ _ | with_reducible refine Within.drew ?_ | with_reducible refine Within.setCell ?_ (by first | (simp; done) | (simp; omega)) _ | with_reducible refine Within.trans ?_ (by assumption)))⟩
theorem canonD_nan {a : Nat} (h : nanD a = true) : canonD a = 9221120237041090561 := if_pos h
theorem canonD_id {a : Nat} (h : nanD a = false) : canonD a = a := by unfold canonD; rw [if_neg (by simp [h])]
theorem ne_self64 (a : Nat) : (FloatKind.f64.format.order a a != some .eq) = nanD a := by
  have := Fp.order64_self a
  show (!(Ieee.double.order a a == some .eq)) = _
  rw [this, Bool.not_not]; rfl
set_option maxRecDepth 100000 in
set_option maxHeartbeats 600000 in
theorem Rbits_D (a : Nat) (w : World) : Calls Tryz.prog 87 #[.float .f64 a] w fun e w' => e = .returned (.int .u64 (canonD a)) ∧ w = w' := by
  cases hn : nanD a
  · rw [canonD_id hn]
    have hx : (FloatKind.f64.format.order a a != some .eq) = false := by rw [ne_self64]; exact hn
    clear hn
    go_enter Tryz.func87, Tryz.ntmps87
    go_wp2
    go_ret
    exact ⟨rfl, rfl⟩
  · rw [canonD_nan hn]
    have hx : (FloatKind.f64.format.order a a != some .eq) = true := by rw [ne_self64]; exact hn
    clear hn
    go_enter Tryz.func87, Tryz.ntmps87
    go_wp2
    go_ret
    exact ⟨rfl, rfl⟩
set_option maxRecDepth 100000 in
set_option maxHeartbeats 600000 in
theorem Rsame_D (a b : Nat) (w : World) : Calls Tryz.prog 78 #[.float .f64 a, .float .f64 b] w fun e w' => e = .returned (.bool (decide (canonD a = canonD b))) ∧ w = w' := by
  go_enter Tryz.func78, Tryz.ntmps78
  go_wp2_with fail
  refine (Rbits_D a _).mono ?_; rintro e1 w1 ⟨rfl, rfl⟩
  go_wp2_with fail
  refine (Rbits_D b _).mono ?_; rintro e2 w2 ⟨rfl, rfl⟩
  go_wp2
  go_ret
  refine ⟨ret_bool ?_, rfl⟩
  show ((canonD a : Int) == canonD b) = _
  rw [Bool.eq_iff_iff, beq_iff_eq, decide_eq_true_iff]; omega
set_option maxRecDepth 100000 in
set_option maxHeartbeats 600000 in
theorem Rsplit_D (a : Nat) (ha : a < 18446744073709551616) (w : World) : Calls Tryz.prog 112 #[.float .f64 a] w fun e w' => e = .returned (.tuple #[.bool (negD a), .int .i64 (expD a), .int .u64 (fracD a)]) ∧ w = w' := by
  have HL := Lib.hid (canonD_lt ha)
  unfold negD expD fracD
  clear ha
  have HB := Lib.hid (fun w => Rbits_D a w)
  generalize canonD a = c at *
  go_enter Tryz.func112, Tryz.ntmps112
  go_wp2_with fail
  refine (HB.out _).mono ?_; rintro e1 w1 ⟨rfl, rfl⟩
  go_wp2
  go_ret3
  refine ⟨ret3 (v_bool ?_) (v_int ?_) (v_int ?_), rfl⟩
  · show ((c : Int) / 9223372036854775808 == 1) = _
    rw [Bool.eq_iff_iff, beq_iff_eq, decide_eq_true_iff]; have := HL.out; omega
  · show ((c : Int) / 4503599627370496 % 2048) = _
    omega
  · show ((c : Int) % 4503599627370496) = _
    omega
theorem nat_eq (a b : Nat) : ((a : Int) == (b : Int)) = decide (a = b) := by rw [Bool.eq_iff_iff, beq_iff_eq, decide_eq_true_iff]; omega
set_option maxRecDepth 100000 in
set_option maxHeartbeats 600000 in
theorem Rclassify (e f m : Nat) (w : World) : Calls Tryz.prog 113 #[.int .i64 e, .int .u64 f, .int .i64 m] w fun e' w' => e' = .returned (.int .i64 (classOf e f m)) ∧ w = w' := by
  have b1 : ((e : Int) == (m : Int)) = decide (e = m) := nat_eq e m
  have b2 : ((f : Int) != 0) = decide (f ≠ 0) := by rw [Bool.eq_iff_iff, bne_iff_ne, decide_eq_true_iff]; omega
  have b3 : ((e : Int) == 0) = decide (e = 0) := nat_eq e 0
  have b4 : ((f : Int) == 0) = decide (f = 0) := nat_eq f 0
  generalize hr : classOf e f m = r
  unfold classOf at hr
  by_cases h1 : e = m <;> by_cases h2 : f = 0 <;> by_cases h3 : e = 0
  · rw [decide_eq_true h1] at b1; rw [decide_eq_false (by omega : ¬ f ≠ 0)] at b2; rw [decide_eq_true h3] at b3; rw [decide_eq_true h2] at b4
    have hv : r = 2 := by rw [← hr, if_neg (by omega), if_pos h1]
    subst hv; clear hr h1 h2 h3
    go_enter Tryz.func113, Tryz.ntmps113
    go_wp2
    go_ret
    exact ⟨rfl, rfl⟩
  · rw [decide_eq_true h1] at b1; rw [decide_eq_false (by omega : ¬ f ≠ 0)] at b2; rw [decide_eq_false h3] at b3; rw [decide_eq_true h2] at b4
    have hv : r = 2 := by rw [← hr, if_neg (by omega), if_pos h1]
    subst hv; clear hr h1 h2 h3
    go_enter Tryz.func113, Tryz.ntmps113
    go_wp2
    go_ret
    exact ⟨rfl, rfl⟩
  · rw [decide_eq_true h1] at b1; rw [decide_eq_true (by omega : f ≠ 0)] at b2; rw [decide_eq_true h3] at b3; rw [decide_eq_false h2] at b4
    have hv : r = 1 := by rw [← hr, if_pos ⟨h1, h2⟩]
    subst hv; clear hr h1 h2 h3
    go_enter Tryz.func113, Tryz.ntmps113
    go_wp2
    go_ret
    exact ⟨rfl, rfl⟩
  · rw [decide_eq_true h1] at b1; rw [decide_eq_true (by omega : f ≠ 0)] at b2; rw [decide_eq_false h3] at b3; rw [decide_eq_false h2] at b4
    have hv : r = 1 := by rw [← hr, if_pos ⟨h1, h2⟩]
    subst hv; clear hr h1 h2 h3
    go_enter Tryz.func113, Tryz.ntmps113
    go_wp2
    go_ret
    exact ⟨rfl, rfl⟩
  · rw [decide_eq_false h1] at b1; rw [decide_eq_false (by omega : ¬ f ≠ 0)] at b2; rw [decide_eq_true h3] at b3; rw [decide_eq_true h2] at b4
    have hv : r = 3 := by rw [← hr, if_neg (by omega), if_neg h1, if_pos ⟨h3, h2⟩]
    subst hv; clear hr h1 h2 h3
    go_enter Tryz.func113, Tryz.ntmps113
    go_wp2
    go_ret
    exact ⟨rfl, rfl⟩
  · rw [decide_eq_false h1] at b1; rw [decide_eq_false (by omega : ¬ f ≠ 0)] at b2; rw [decide_eq_false h3] at b3; rw [decide_eq_true h2] at b4
    have hv : r = 5 := by rw [← hr, if_neg (by omega), if_neg h1, if_neg (by omega), if_neg h3]
    subst hv; clear hr h1 h2 h3
    go_enter Tryz.func113, Tryz.ntmps113
    go_wp2
    go_ret
    exact ⟨rfl, rfl⟩
  · rw [decide_eq_false h1] at b1; rw [decide_eq_true (by omega : f ≠ 0)] at b2; rw [decide_eq_true h3] at b3; rw [decide_eq_false h2] at b4
    have hv : r = 4 := by rw [← hr, if_neg (by omega), if_neg h1, if_neg (by omega), if_pos h3]
    subst hv; clear hr h1 h2 h3
    go_enter Tryz.func113, Tryz.ntmps113
    go_wp2
    go_ret
    exact ⟨rfl, rfl⟩
  · rw [decide_eq_false h1] at b1; rw [decide_eq_true (by omega : f ≠ 0)] at b2; rw [decide_eq_false h3] at b3; rw [decide_eq_false h2] at b4
    have hv : r = 5 := by rw [← hr, if_neg (by omega), if_neg h1, if_neg (by omega), if_neg h3]
    subst hv; clear hr h1 h2 h3
    go_enter Tryz.func113, Tryz.ntmps113
    go_wp2
    go_ret
    exact ⟨rfl, rfl⟩
set_option maxRecDepth 100000 in
set_option maxHeartbeats 600000 in
theorem Rclass_D (a : Nat) (ha : a < 18446744073709551616) (w : World) : Calls Tryz.prog 97 #[.float .f64 a] w fun e w' => e = .returned (.int .i64 (classD a)) ∧ w = w' := by
  have SP := Lib.hid (fun w => Rsplit_D a ha w)
  have HF : Hid (fracD a < 4503599627370496) := Nat.mod_lt _ (by decide)
  unfold classD
  clear ha
  generalize fracD a = f at *
  generalize expD a = e at *
  generalize negD a = n at *
  have g1 : IntKind.u64.wrap (f : Int) = f := by rw [IntKind.wrap_u64]; have := HF.out; omega
  go_enter Tryz.func97, Tryz.ntmps97
  go_wp2_with fail
  refine (SP.out _).mono ?_; rintro e1 w1 ⟨rfl, rfl⟩
  go_wp2_with fail
  refine (Rclassify e f 2047 _).mono ?_; rintro e2 w2 ⟨rfl, rfl⟩
  go_wp2
  go_ret
  exact ⟨rfl, rfl⟩
set_option maxRecDepth 100000 in
set_option maxHeartbeats 600000 in
theorem Rfinite (a : Nat) (ha : a < 18446744073709551616) (w : World) : Calls Tryz.prog 86 #[.float .f64 a] w fun e w' => e = .returned (.bool (decide (2 < classD a))) ∧ w = w' := by
  have CL := Lib.hid (fun w => Rclass_D a ha w)
  clear ha
  generalize classD a = c at *
  go_enter Tryz.func86, Tryz.ntmps86
  go_wp2_with fail
  refine (CL.out _).mono ?_; rintro e1 w1 ⟨rfl, rfl⟩
  go_wp2
  go_ret
  exact ⟨ret_bool rfl, rfl⟩
theorem classD_range (a : Nat) : 1 ≤ classD a ∧ classD a ≤ 5 := by
  unfold classD classOf; split <;> (try split) <;> (try split) <;> (try split) <;> omega
theorem bl_top53 {n : Nat} (h0 : n ≠ 0) (hr : Fp.Rep Ieee.double n) : Lib.bitLen (top53 n) = 53 := by
  obtain ⟨t1, t2, _⟩ := top53_bounds h0 hr
  exact bitLen_of 52 _ (by decide) t1 t2
theorem rK_top {n : Nat} (h0 : n ≠ 0) (hr : Fp.Rep Ieee.double n) (D lo : Int) : rK D lo (top53 n) ((n.log2 : Int) - 1126) = max ((n.log2 : Int) - 1073 - D) lo := by
  unfold rK
  rw [bl_top53 h0 hr]
  have : (n.log2 : Int) - 1126 + ((53 : Nat) : Int) - D = (n.log2 : Int) - 1073 - D := by omega
  rw [this]
theorem lost_iff {n : Nat} (h0 : n ≠ 0) (hr : Fp.Rep Ieee.double n) (D lo : Int) (hlo : -1074 ≤ lo) (neg : Bool) (mode : Int) :
    (rLost D lo (top53 n) ((n.log2 : Int) - 1126) = false → rAmt D lo neg (top53 n) ((n.log2 : Int) - 1126) mode = n) ∧
    (∀ Q, n = Q * 2 ^ (rK D lo (top53 n) ((n.log2 : Int) - 1126) + 1074).toNat → rLost D lo (top53 n) ((n.log2 : Int) - 1126) = false ∧ rQ D lo neg (top53 n) ((n.log2 : Int) - 1126) mode = Q) := by
  obtain ⟨t1, t2, t3, t4⟩ := top53_bounds h0 hr
  have hk : lo ≤ rK D lo (top53 n) ((n.log2 : Int) - 1126) := by unfold rK; omega
  unfold rAmt rQ rLost
  generalize rK D lo (top53 n) ((n.log2 : Int) - 1126) = k at *
  generalize top53 n = m at *
  generalize n.log2 = L at *
  have c52 : 0 < 2 ^ 52 := by decide
  by_cases hs : k - ((L : Int) - 1126) ≤ 0
  · rw [if_pos hs, if_pos hs]
    obtain ⟨d, hd⟩ : ∃ d : Nat, d = (-(k - ((L : Int) - 1126))).toNat := ⟨_, rfl⟩
    obtain ⟨K, hK⟩ : ∃ K : Nat, K = (k + 1074).toNat := ⟨_, rfl⟩
    rw [← hd, ← hK]
    have hL : d + K + 52 = L := by omega
    have e1 : m * 2 ^ d * 2 ^ K * 2 ^ 52 = n * 2 ^ 52 := by
      rw [← t4, ← hL, Nat.pow_add, Nat.pow_add, Nat.mul_assoc, Nat.mul_assoc, Nat.mul_assoc]
    have e2 : m * 2 ^ d * 2 ^ K = n := Nat.eq_of_mul_eq_mul_right c52 e1
    refine ⟨fun _ => e2, fun Q hQ => ⟨rfl, ?_⟩⟩
    rw [hQ] at e2
    exact Nat.eq_of_mul_eq_mul_right (Nat.two_pow_pos K) e2
  · rw [if_neg hs, if_neg hs]
    obtain ⟨s, hs'⟩ : ∃ s : Nat, s = (k - ((L : Int) - 1126)).toNat := ⟨_, rfl⟩
    obtain ⟨K, hK⟩ : ∃ K : Nat, K = (k + 1074).toNat := ⟨_, rfl⟩
    rw [← hs', ← hK]
    have hL : s + L = K + 52 := by omega
    have hp := Nat.two_pow_pos s
    refine ⟨fun h => ?_, fun Q hQ => ?_⟩
    · have h1 : m % 2 ^ s = 0 := by simpa using h
      have h2 : cutQ m s neg mode = m / 2 ^ s := by unfold cutQ goes; rw [if_pos h1]; rfl
      rw [h2]
      have h3 := Nat.div_add_mod m (2 ^ s)
      rw [h1, Nat.add_zero] at h3
      have e1 : m / 2 ^ s * 2 ^ K * 2 ^ 52 = n * 2 ^ 52 := by
        rw [← t4, Nat.mul_assoc, ← Nat.pow_add, ← hL, Nat.pow_add, ← Nat.mul_assoc, Nat.mul_comm (m / 2 ^ s), h3]
      exact Nat.eq_of_mul_eq_mul_right c52 e1
    · have e1 : m * 2 ^ L = Q * 2 ^ s * 2 ^ L := by rw [t4, hQ, Nat.mul_assoc, ← Nat.pow_add, ← hL, Nat.mul_assoc, ← Nat.pow_add]
      have e2 : m = Q * 2 ^ s := Nat.eq_of_mul_eq_mul_right (Nat.two_pow_pos L) e1
      have h1 : m % 2 ^ s = 0 := by rw [e2]; exact Nat.mul_mod_left _ _
      refine ⟨by rw [h1]; rfl, ?_⟩
      have h2 : cutQ m s neg mode = m / 2 ^ s := by unfold cutQ goes; rw [if_pos h1]; rfl
      rw [h2, e2, Nat.mul_div_cancel _ hp]
theorem flags_zero {D lo most : Int} {neg : Bool} {m : Nat} {e mode : Int} : rFlags D lo most neg m e mode = 0 ↔ rOver D lo most neg m e mode = false ∧ rLost D lo m e = false := by
  unfold rFlags
  cases rOver D lo most neg m e mode <;> cases rLost D lo m e <;> simp
  split <;> omega
theorem single_exact {n N c j : Nat} (b : Bool) (mode : Int) (_hmode : 0 ≤ mode ∧ mode ≤ 4) (h0 : n ≠ 0) (hR : Fp.Rep Ieee.double n) (hn : N * 2 ^ Fp.sgap = n) (hN : N = c * 2 ^ j) (h2 : N.log2 ≤ 23 + j) (h3 : N.log2 ≤ 276) (hlog : (N * 2 ^ Fp.sgap).log2 = N.log2 + Fp.sgap) :
    rFlags 24 (-149) 127 b (top53 n) ((n.log2 : Int) - 1126) mode = 0 ∧ sWord b (top53 n) ((n.log2 : Int) - 1126) mode = Fp.num Ieee.single false N + sgnS b := by
  rw [hn] at hlog
  have hsg := Fp.sgap_eq
  generalize Fp.sgap = g at *
  have hK := rK_top h0 hR 24 (-149)
  have hLI := lost_iff h0 hR 24 (-149) (by decide) b mode
  obtain ⟨t1, t2, _⟩ := top53_bounds h0 hR
  have hqs : rQ 24 (-149) b (top53 n) ((n.log2 : Int) - 1126) mode ≤ 16777216 := (rQ_le (D := 24) (lo := -149) b ((n.log2 : Int) - 1126) mode (m := top53 n) (by omega) (by omega) (by decide)).1
  have hlogn : ∀ q K, n = q * 2 ^ K → q.log2 + K = n.log2 := fun q K h => by
    have hq0 : q ≠ 0 := fun h1 => by rw [h1, Nat.zero_mul] at h; exact h0 h
    rw [h, Fp.log2_mul_pow q K hq0]
  unfold sWord
  have hov : rOver 24 (-149) 127 b (top53 n) ((n.log2 : Int) - 1126) mode = decide ((127 : Int) + 1 < rK 24 (-149) (top53 n) ((n.log2 : Int) - 1126) + (Lib.bitLen (rQ 24 (-149) b (top53 n) ((n.log2 : Int) - 1126) mode) : Nat)) := rfl
  have hfl := flags_zero (D := 24) (lo := -149) (most := 127) (neg := b) (m := top53 n) (e := (n.log2 : Int) - 1126) (mode := mode)
  generalize rFlags 24 (-149) 127 b (top53 n) ((n.log2 : Int) - 1126) mode = fl at *
  generalize rOver 24 (-149) 127 b (top53 n) ((n.log2 : Int) - 1126) mode = ov at *
  generalize rQ 24 (-149) b (top53 n) ((n.log2 : Int) - 1126) mode = q at *
  generalize rK 24 (-149) (top53 n) ((n.log2 : Int) - 1126) = k at *
  generalize rLost 24 (-149) (top53 n) ((n.log2 : Int) - 1126) = lo at *
  obtain ⟨K, hKe⟩ : ∃ K : Nat, K = (k + 1074).toNat := ⟨_, rfl⟩
  have hK1 : 925 ≤ K ∧ K ≤ j + 925 ∧ (K : Int) = k + 1074 := by omega
  have hQ : n = c * 2 ^ (j + g - K) * 2 ^ K := by
    rw [Nat.mul_assoc, ← Nat.pow_add, show j + g - K + K = j + g by omega, Nat.pow_add, ← Nat.mul_assoc, ← hN, hn]
  obtain ⟨l1, l2⟩ := hLI.2 _ (by rw [← hKe]; exact hQ)
  have hlq := hlogn _ _ hQ
  have hq0 : c * 2 ^ (j + g - K) ≠ 0 := fun h => by rw [h, Nat.zero_mul] at hQ; exact h0 hQ
  have hNN : c * 2 ^ (j + g - K) * 2 ^ (k + 149).toNat = N := by
    rw [show (k + 149).toNat = K - g by omega]
    have e4 : c * 2 ^ (j + g - K) * 2 ^ (K - g) * 2 ^ g = N * 2 ^ g := by
      rw [Nat.mul_assoc (c * 2 ^ (j + g - K)), ← Nat.pow_add, show K - g + g = K by omega, hn]; exact hQ.symm
    exact Nat.eq_of_mul_eq_mul_right (Nat.two_pow_pos _) e4
  rw [← l2] at hlq hq0 hNN
  have hbl : Lib.bitLen q = q.log2 + 1 := bitLen_log2 _ hq0 (by omega)
  rw [hbl] at hov
  have hov' : ov = false := by rw [hov]; exact decide_eq_false (by omega)
  refine ⟨hfl.2 ⟨hov', l1⟩, ?_⟩
  rw [hov', if_neg Bool.false_ne_true, hNN]
theorem narrow_wide {y : Nat} (hy : y < 4294967296) {mode : Int} (hmode : 0 ≤ mode ∧ mode ≤ 4) : nWord (wWord y) mode = canonS y ∧ nFlags (wWord y) mode = 0 := by
  have hm' : ¬¬(0 ≤ mode ∧ mode ≤ 4) := fun h => h hmode
  by_cases hn : 2139095040 < y % 2147483648
  · have hc : canonS y = 2143289344 := if_pos (decide_eq_true hn)
    have hw : wWord y = 9221120237041090561 := if_pos hn
    rw [hc, hw]
    unfold nWord nFlags
    rw [if_neg hm', if_neg hm']
    exact ⟨by rw [if_pos (by decide)], by rw [if_pos (by decide)]⟩
  have hc : canonS y = y := by unfold canonS nanS; rw [decide_eq_false hn]; exact if_neg Bool.false_ne_true
  have hsp : y = y % 2147483648 + sgnS (decide (2147483648 ≤ y)) := by
    unfold sgnS
    by_cases h : 2147483648 ≤ y
    · rw [decide_eq_true h, if_pos rfl]; omega
    · rw [decide_eq_false h, if_neg Bool.false_ne_true]; omega
  rw [hc]
  generalize hb : decide (2147483648 ≤ y) = b at hsp
  have hng : ∀ x, x < 9223372036854775808 → ngD (x + sgnD b) = b ∧ (x + sgnD b) % 9223372036854775808 = x := fun x hx => by
    unfold ngD sgnD
    cases b
    · rw [if_neg Bool.false_ne_true]; exact ⟨decide_eq_false (by omega), by omega⟩
    · rw [if_pos rfl]; exact ⟨decide_eq_true (by omega), by omega⟩
  by_cases hi : y % 2147483648 = 2139095040
  · have hw : wWord y = 9218868437227405312 + sgnD b := by unfold wWord; rw [if_neg hn, if_pos hi, hb]
    obtain ⟨g1, g2⟩ := hng 9218868437227405312 (by decide)
    rw [hw]
    unfold nWord nFlags
    rw [if_neg hm', if_neg hm', g1, g2]
    refine ⟨?_, rfl⟩
    rw [if_neg (by decide), if_neg (by decide), if_pos rfl, ← hi]
    exact hsp.symm
  have hI := single_is hy (by omega)
  rw [hb] at hI
  have hN := hI.rep Fp.sF
  have hw : wWord y = Fp.num Ieee.double b (Fp.mag Ieee.single (y % 2147483648) * 2 ^ Fp.sgap) := by unfold wWord; rw [if_neg hn, if_neg hi, hb]
  have hyn : y = Fp.num Ieee.single b (Fp.mag Ieee.single (y % 2147483648)) := hI.eq Fp.sF
  have hR := (Fp.widen_is hI).2
  have hmagq := Fp.mag_eq Ieee.single (y % 2147483648)
  have hlog : ∀ N, Fp.mag Ieee.single (y % 2147483648) = N → N ≠ 0 → ∃ c j, N = c * 2 ^ j ∧ N.log2 ≤ 23 + j ∧ N.log2 ≤ 276 := fun N hN0 h0 => by
    rw [hN0] at hmagq
    generalize hq : (if y % 2147483648 < Ieee.single.binade then y % 2147483648 else Ieee.single.binade + y % 2147483648 % Ieee.single.binade) = q at hmagq
    have hq2 : q < 2 ^ 24 := by
      rw [← hq, Fp.sB]
      have : (8388608 : Nat) + 8388608 = 2 ^ 24 := by decide
      split <;> omega
    refine ⟨q, y % 2147483648 / Ieee.single.binade - 1, hmagq, ?_, ?_⟩
    · have hq0 : q ≠ 0 := fun h => by rw [h, Nat.zero_mul] at hmagq; exact h0 hmagq
      rw [hmagq]
      unfold Fp.step
      rw [Fp.log2_mul_pow q _ hq0]
      have := (Nat.log2_lt hq0).2 hq2
      omega
    · have h1 : N < 2 ^ 24 * 2 ^ 253 := by
        have e1 : Fp.mag Ieee.single Ieee.single.infRung = 2 ^ 24 * 2 ^ 253 := by decide +kernel
        rw [← e1, ← hN0]
        exact Fp.mag_mono_lt Ieee.single (by rw [Fp.sI]; omega)
      rw [← Nat.pow_add] at h1
      have := (Nat.log2_lt h0).2 h1
      omega
  generalize Fp.mag Ieee.single (y % 2147483648) = N at *
  have hl := num_lt hR
  rw [num_sgn] at hw
  obtain ⟨g1, g2⟩ := hng (Fp.num Ieee.double false (N * 2 ^ Fp.sgap)) (by omega)
  have hmag : magD (wWord y) = N * 2 ^ Fp.sgap := by unfold magD; rw [hw, g2]; exact (rep_lt hR).2
  unfold nWord nFlags
  have hnn : ¬ 9218868437227405312 < Fp.num Ieee.double false (N * 2 ^ Fp.sgap) := by omega
  have hne : ¬ Fp.num Ieee.double false (N * 2 ^ Fp.sgap) = 9218868437227405312 := by omega
  rw [if_neg hm', if_neg hm', hmag, hw, g1, g2, if_neg hnn, if_neg hnn]
  by_cases h0 : N = 0
  · subst h0
    have e0 : Fp.num Ieee.double false (0 * 2 ^ Fp.sgap) = 0 := by rw [Nat.zero_mul]; exact Fp.grid_zero Ieee.double 0
    rw [if_pos e0, if_pos e0]
    refine ⟨?_, rfl⟩
    rw [hyn, num_sgnS]
    have e1 : Fp.num Ieee.single false 0 = 0 := Fp.grid_zero Ieee.single 0
    rw [e1, Nat.zero_add]
  · have hn0 : N * 2 ^ Fp.sgap ≠ 0 := Nat.mul_ne_zero h0 (Nat.ne_of_gt (Nat.two_pow_pos _))
    have e0 : ¬ Fp.num Ieee.double false (N * 2 ^ Fp.sgap) = 0 := fun h => by
      have := (rep_lt hR).2
      rw [h, Fp.mag_zero] at this
      exact hn0 this.symm
    rw [if_neg e0, if_neg e0, if_neg hne, if_neg hne]
    obtain ⟨c, j, h1, h2, h3⟩ := hlog N rfl h0
    obtain ⟨x1, x2⟩ := single_exact b mode hmode hn0 hR rfl h1 h2 h3 (Fp.log2_mul_pow N Fp.sgap h0)
    exact ⟨x2.trans (hyn.trans (num_sgnS b N)).symm, x1⟩
theorem wWord_lt (b : Nat) (hb : b < 4294967296) : wWord b < 18446744073709551616 := by
  unfold wWord
  split
  · decide
  · split
    · unfold sgnD; split <;> omega
    · rename_i h1 h2
      exact (Fp.Rep.is (Fp.widen_is (single_is hb (by omega))).2 _).1
theorem nWord_lt (a : Nat) (_ha : a < 18446744073709551616) (mode : Int) : nWord a mode < 4294967296 := by
  have hs : ∀ b, sgnS b ≤ 2147483648 := fun b => by unfold sgnS; split <;> omega
  have := hs (ngD a)
  unfold nWord
  split
  · decide
  split
  · decide
  split
  · omega
  split
  · omega
  rename_i h1 h2 h3 h4
  have h0 : magD a ≠ 0 := fun h => h3 (magD_zero.1 h)
  obtain ⟨t1, t2, _⟩ := top53_bounds h0 (magD_rep (a := a) (by omega))
  unfold sWord
  split
  · split <;> omega
  · rename_i ho
    have := num_ltS (sAmt_rep (ngD a) (((magD a).log2 : Int) - 1126) mode (m := top53 (magD a)) (by omega) (by omega) (by simpa using ho)).1
    omega
/-! what a single is, of numbers -/
def finD (x : Nat) : Bool := decide (2 < classD x)
def isSD (x : Nat) : Bool := decide (canonD (wWord (nWord x 0)) = canonD x)
def pf : Fl := ⟨finD, isSD, fun x => nWord x 0, wWord⟩
theorem nan_iff (x : Nat) : nanD x = true ↔ 9218868437227405312 < x % 9223372036854775808 := decide_eq_true_iff
theorem wide_canon {r : Nat} : canonD (wWord r) = wWord r := by
  unfold wWord
  split
  · decide
  · split
    · cases decide (2147483648 ≤ r) <;> decide
    · rename_i h1 h2
      have hr : r % 2147483648 < 4294967296 := by omega
      have hI := single_is (b := r % 2147483648) hr (by omega)
      have := (Fp.Rep.is (Fp.widen_is hI).2 (decide (2147483648 ≤ r)))
      have e : r % 2147483648 % 2147483648 = r % 2147483648 := Nat.mod_mod _ _
      rw [e] at this
      refine canonD_id ?_
      unfold nanD
      refine decide_eq_false ?_
      have h4 := this.2.1
      rw [Fp.rg64, Fp.dI] at h4
      omega
theorem canonD_fin {x : Nat} (h : finD x = true) : canonD x = x := by
  refine canonD_id ?_
  cases hn : nanD x
  · rfl
  · exfalso
    unfold finD classD expD fracD at h
    rw [canonD_nan hn] at h
    exact absurd h (by decide)
theorem finD_canon (x : Nat) : finD (canonD x) = finD x := by
  have h : canonD (canonD x) = canonD x := by
    cases hn : nanD x
    · rw [canonD_id hn, canonD_id hn]
    · rw [canonD_nan hn]; decide
  unfold finD classD expD fracD
  rw [h]
theorem finD_same {x y : Nat} (h : canonD x = canonD y) : finD x = finD y := by rw [← finD_canon x, h, finD_canon]
theorem nWord_nan {x : Nat} (h : nanD x = true) : nWord x 0 = 2143289344 := by
  unfold nWord
  rw [if_neg (by decide), if_pos ((nan_iff x).1 h)]
theorem isSD_nan {x : Nat} (h : nanD x = true) : isSD x = true := by
  unfold isSD
  rw [nWord_nan h, canonD_nan h]; decide
theorem isSD_same {x y : Nat} (h : canonD x = canonD y) : isSD x = isSD y := by
  cases hx : nanD x <;> cases hy : nanD y
  · rw [canonD_id hx, canonD_id hy] at h; rw [h]
  · exfalso
    rw [canonD_id hx, canonD_nan hy] at h
    rw [h] at hx; revert hx; decide
  · exfalso
    rw [canonD_nan hx, canonD_id hy] at h
    rw [← h] at hy; revert hy; decide
  · rw [isSD_nan hx, isSD_nan hy]
theorem canonS_id' {r : Nat} (h : ¬ 2139095040 < r % 2147483648) : canonS r = r := by unfold canonS nanS; rw [decide_eq_false h]; exact if_neg Bool.false_ne_true
theorem pf_ok : pf.Ok where
  thr x hx hf hs := by
    have h : canonD (wWord (nWord x 0)) = canonD x := of_decide_eq_true hs
    rw [wide_canon, canonD_fin hf] at h
    exact ⟨nWord_lt x hx 0, h⟩
  back u hu hf := by
    have hn : ¬ 2139095040 < u % 2147483648 := fun h => by
      have : wWord u = 9221120237041090561 := if_pos h
      have hf' : finD (wWord u) = true := hf
      rw [this] at hf'; revert hf'; decide
    have h := (narrow_wide hu (mode := 0) (by decide)).1
    rw [canonS_id' hn] at h
    exact ⟨decide_eq_true (by show canonD (wWord (nWord (wWord u) 0)) = canonD (wWord u); rw [h]), h⟩
  lt u hu := wWord_lt u hu
/-! the model's own conversions, whatever they draw -/
def narV (x : Nat) (w : World) : Nat := match floatToFloatBits .f64 x .f32 with
  | some r => r
  | none => if nanD x then (Question.nanConv .f32 x).cut (w.tape w.drawn (.nanConv .f32 x)) else (Question.floatToFloat x).cut (w.tape w.drawn (.floatToFloat x))
def narW (x : Nat) (w : World) : World := match floatToFloatBits .f64 x .f32 with
  | some _ => w
  | none => w.drew
def wideV (r : Nat) (w : World) : Nat := match floatToFloatBits .f32 r .f64 with
  | some a => a
  | none => (Question.nanConv .f64 r).cut (w.tape w.drawn (.nanConv .f64 r))
def wideW (r : Nat) (w : World) : World := match floatToFloatBits .f32 r .f64 with
  | some _ => w
  | none => w.drew
theorem decode_nanD {x : Nat} (h : 9218868437227405312 < x % 9223372036854775808) : ∃ g i, FloatKind.f64.decode x = .nan g i := ⟨_, _, Fp.read_nan Ieee.double x (by rw [Fp.rg64, Fp.dI]; exact h) Fp.dBI⟩
theorem decode_nanS {x : Nat} (h : 2139095040 < x % 2147483648) : ∃ g i, FloatKind.f32.decode x = .nan g i := ⟨_, _, Fp.read_nan Ieee.single x (by rw [Fp.rg32, Fp.sI]; exact h) Fp.sBI⟩
theorem conv_nar {P : Program} {src dst : TypeId} (hs : (P.underlying src).isSome = true) (hd : P.underlying dst = some (.float .f32)) (x : Nat) (hx : x < 18446744073709551616) (w : World) :
    (convert src dst (.float .f64 x)).run P w = .ok (.float .f32 (narV x w)) (narW x w) := by
  unfold narV narW
  cases h : floatToFloatBits .f64 x .f32 with
  | some r => exact run_convert_float_float (P := P) w src dst .f64 .f32 x r hs hd h
  | none =>
    by_cases hn : nanD x = true
    · obtain ⟨g, i, hdc⟩ := decode_nanD ((nan_iff x).1 hn)
      simp only [if_pos hn]
      exact run_widen_nan src dst .f64 .f32 x P w (by decide) hs hd g i hdc
    · have hdc : ∀ g i, FloatKind.f64.decode x ≠ .nan g i := fun g i e => by
        have hle : x % 9223372036854775808 ≤ 9218868437227405312 := by
          have : ¬ 9218868437227405312 < x % 9223372036854775808 := fun h => hn ((nan_iff x).2 h)
          omega
        rcases Nat.lt_or_ge (x % 9223372036854775808) 9218868437227405312 with h1 | h1
        · obtain ⟨m, e', r1, _⟩ := Fp.read_fin Ieee.double x (by rw [Fp.rg64, Fp.dI]; exact h1)
          have : FloatKind.f64.decode x = Ieee.double.read x := rfl
          rw [this, r1] at e; cases e
        · have hsp : x = 9218868437227405312 + sgnD (decide (9223372036854775808 ≤ x)) := by
            unfold sgnD
            by_cases g : 9223372036854775808 ≤ x
            · rw [decide_eq_true g, if_pos rfl]; omega
            · rw [decide_eq_false g, if_neg Bool.false_ne_true]; omega
          rw [hsp, nbits_inf] at h; cases h
      unfold floatToFloatBits at h
      rw [if_neg (by decide)] at h
      obtain ⟨u, hs'⟩ := Option.isSome_iff_exists.1 hs
      cases hdx : FloatKind.f64.decode x with
      | nan g i => exact absurd hdx (hdc g i)
      | infinity s => rw [hdx] at h; cases h
      | number s m e =>
        rw [hdx] at h
        simp only at h
        split at h
        · rename_i hov
          simp only [if_neg hn]
          cases u <;> simp [convert, run_underlying hs', run_underlying hd, Conv.floatToFloat, hdx, hov, Question.forced]
        · cases h
theorem conv_wide {P : Program} {src dst : TypeId} (hs : (P.underlying src).isSome = true) (hd : P.underlying dst = some (.float .f64)) (r : Nat) (hr : r < 4294967296) (w : World) :
    (convert src dst (.float .f32 r)).run P w = .ok (.float .f64 (wideV r w)) (wideW r w) := by
  unfold wideV wideW
  cases h : floatToFloatBits .f32 r .f64 with
  | some a => exact run_convert_float_float (P := P) w src dst .f32 .f64 r a hs hd h
  | none =>
    by_cases hn : 2139095040 < r % 2147483648
    · obtain ⟨g, i, hdc⟩ := decode_nanS hn
      exact run_widen_nan src dst .f32 .f64 r P w (by decide) hs hd g i hdc
    · exfalso
      by_cases hi : r % 2147483648 = 2139095040
      · have hsp : r = 2139095040 + sgnS (decide (2147483648 ≤ r)) := by
          unfold sgnS
          by_cases g : 2147483648 ≤ r
          · rw [decide_eq_true g, if_pos rfl]; omega
          · rw [decide_eq_false g, if_neg Bool.false_ne_true]; omega
        rw [hsp, wbits_inf] at h; cases h
      · have hI := single_is hr (by omega)
        have hl := (Fp.Rep.is (Fp.widen_is hI).2 (decide (2147483648 ≤ r))).2.1
        rw [Fp.rg64, Fp.dI] at hl
        rw [wbits_num (by omega) hl (Fp.widen_is hI).1] at h
        cases h
theorem wideV_canon {r : Nat} (hr : r < 4294967296) (w : World) : canonD (wideV r w) = wWord r := by
  unfold wideV
  by_cases hn : 2139095040 < r % 2147483648
  · obtain ⟨g, i, hdc⟩ := decode_nanS hn
    have h : floatToFloatBits .f32 r .f64 = none := by unfold floatToFloatBits; rw [if_neg (by decide), hdc]
    rw [h]
    have e : wWord r = 9221120237041090561 := if_pos hn
    rw [e]
    exact (nan_cutD r _).1
  · by_cases hi : r % 2147483648 = 2139095040
    · have hsp : r = 2139095040 + sgnS (decide (2147483648 ≤ r)) := by
        unfold sgnS
        by_cases g : 2147483648 ≤ r
        · rw [decide_eq_true g, if_pos rfl]; omega
        · rw [decide_eq_false g, if_neg Bool.false_ne_true]; omega
      have h : floatToFloatBits .f32 r .f64 = some (9218868437227405312 + sgnD (decide (2147483648 ≤ r))) := by
        conv => lhs; rw [hsp]
        exact wbits_inf _
      rw [h]
      have e : wWord r = 9218868437227405312 + sgnD (decide (2147483648 ≤ r)) := by unfold wWord; rw [if_neg hn, if_pos hi]
      rw [e]
      show canonD (9218868437227405312 + sgnD (decide (2147483648 ≤ r))) = _
      cases decide (2147483648 ≤ r) <;> decide
    · have hI := single_is hr (by omega)
      have hl := (Fp.Rep.is (Fp.widen_is hI).2 (decide (2147483648 ≤ r))).2.1
      rw [Fp.rg64, Fp.dI] at hl
      rw [wbits_num (by omega) hl (Fp.widen_is hI).1]
      have e : wWord r = Fp.num Ieee.double (decide (2147483648 ≤ r)) (Fp.mag Ieee.single (r % 2147483648) * 2 ^ Fp.sgap) := by unfold wWord; rw [if_neg hn, if_neg hi]
      rw [← e]; exact wide_canon
theorem nar_wide {s : Nat} (hs : s < 4294967296) (hn : ¬ 2139095040 < s % 2147483648) : floatToFloatBits .f64 (wWord s) .f32 = some s := by
  by_cases hi : s % 2147483648 = 2139095040
  · have hsp : s = 2139095040 + sgnS (decide (2147483648 ≤ s)) := by
      unfold sgnS
      by_cases g : 2147483648 ≤ s
      · rw [decide_eq_true g, if_pos rfl]; omega
      · rw [decide_eq_false g, if_neg Bool.false_ne_true]; omega
    have e : wWord s = 9218868437227405312 + sgnD (decide (2147483648 ≤ s)) := by unfold wWord; rw [if_neg hn, if_pos hi]
    rw [e, nbits_inf, ← hsp]
  · have hI := single_is hs (by omega)
    have hR := (Fp.widen_is hI).2
    have e : wWord s = Fp.num Ieee.double (decide (2147483648 ≤ s)) (Fp.mag Ieee.single (s % 2147483648) * 2 ^ Fp.sgap) := by unfold wWord; rw [if_neg hn, if_neg hi]
    have hJ := hR.is (decide (2147483648 ≤ s))
    have hl := hJ.2.1
    rw [Fp.rg64, Fp.dI] at hl
    have hw := Fp.narrow_is hJ (hI.rep Fp.sF)
    rw [← hI.eq Fp.sF] at hw
    rw [e]
    exact nbits_num hl (by omega) hw
theorem narV_lt {x : Nat} (hx : x < 18446744073709551616) (w : World) : narV x w < 4294967296 := by
  unfold narV
  cases h : floatToFloatBits .f64 x .f32 with
  | some r =>
    have := floatToFloatBits_wf (src := .f64) (bits := x) (dst := .f32) (r := r) (by show decide (x < 2 ^ 64) = true; exact decide_eq_true hx) h
    have h2 : decide (r < 2 ^ 32) = true := this
    exact of_decide_eq_true h2
  | none =>
    simp only
    split
    · exact (nan_cutS _ _).2
    · exact Nat.mod_lt _ (by decide)
theorem single_iff {x : Nat} (hx : x < 18446744073709551616) (w w' : World) : decide (canonD (wideV (narV x w) w') = canonD x) = isSD x := by
  have hr := narV_lt hx w
  rw [wideV_canon hr]
  unfold isSD
  rw [decide_eq_decide, wide_canon]
  by_cases hn : nanD x = true
  · rw [canonD_nan hn, nWord_nan hn]
    have e : ∃ c, narV x w = (Question.nanConv .f32 x).cut c := by
      obtain ⟨g, i, hdc⟩ := decode_nanD ((nan_iff x).1 hn)
      have h : floatToFloatBits .f64 x .f32 = none := by unfold floatToFloatBits; rw [if_neg (by decide), hdc]
      refine ⟨w.tape w.drawn (.nanConv .f32 x), ?_⟩
      unfold narV
      rw [h]
      simp only [if_pos hn]
    obtain ⟨c, e⟩ := e
    have h1 := (nan_cutS x c).1
    rw [← e] at h1
    have h2 : 2139095040 < narV x w % 2147483648 := by
      apply Decidable.byContradiction
      intro h
      rw [canonS_id' h] at h1
      rw [h1] at h
      exact h (by decide)
    have h3 : wWord (narV x w) = 9221120237041090561 := if_pos h2
    rw [h3]
    exact ⟨fun _ => by decide, fun _ => rfl⟩
  · have hn' : nanD x = false := by simpa using hn
    rw [canonD_id hn']
    constructor
    · intro h
      have h1 : ¬ 2139095040 < narV x w % 2147483648 := fun hh => by
        have : wWord (narV x w) = 9221120237041090561 := if_pos hh
        rw [this] at h
        rw [← h] at hn'; revert hn'; decide
      have h2 := (narrow_wide hr (mode := 0) (by decide)).1
      rw [h, canonS_id' h1] at h2
      rw [h2]; exact h
    · intro h
      have h0 := nWord_lt x hx 0
      have h1 : ¬ 2139095040 < nWord x 0 % 2147483648 := fun hh => by
        have : wWord (nWord x 0) = 9221120237041090561 := if_pos hh
        rw [this] at h
        rw [← h] at hn'; revert hn'; decide
      have h2 := nar_wide h0 h1
      rw [h] at h2
      have h3 : narV x w = nWord x 0 := by unfold narV; rw [h2]
      rw [h3]; exact h
theorem nar_single {x : Nat} (hx : x < 18446744073709551616) (hf : finD x = true) (hs : isSD x = true) (w : World) : narV x w = nWord x 0 ∧ narW x w = w := by
  have h := (pf_ok.thr x hx hf hs).2
  have h' : wWord (nWord x 0) = x := h
  have h0 := nWord_lt x hx 0
  have h1 : ¬ 2139095040 < nWord x 0 % 2147483648 := fun hh => by
    have : wWord (nWord x 0) = 9221120237041090561 := if_pos hh
    rw [this] at h'
    rw [← h'] at hf; revert hf; decide
  have h2 := nar_wide h0 h1
  rw [h'] at h2
  unfold narV narW
  rw [h2]; exact ⟨rfl, rfl⟩
theorem narW_in {x : Nat} (w : World) : Within w (narW x w) := by
  unfold narW; split
  · exact Within.refl _
  · exact (Within.refl _).drew
theorem wideW_in {r : Nat} (w : World) : Within w (wideW r w) := by
  unfold wideW; split
  · exact Within.refl _
  · exact (Within.refl _).drew
theorem wideV_lt {r : Nat} (hr : r < 4294967296) (w : World) : wideV r w < 18446744073709551616 := by
  unfold wideV
  cases h : floatToFloatBits .f32 r .f64 with
  | some a =>
    have := floatToFloatBits_wf (src := .f32) (bits := r) (dst := .f64) (r := a) (by show decide (r < 2 ^ 32) = true; exact decide_eq_true hr) h
    have h2 : decide (a < 2 ^ 64) = true := this
    exact of_decide_eq_true h2
  | none =>
    exact (nan_cutD r _).2
end Go.Proofs.YtpmjlaiafgbjgaaGreatDoor
end

section
namespace Go.Proofs.YtpmjlaiafgbjgaaGreatDoor
open Go.RowKit
set_option maxRecDepth 100000 in
set_option maxHeartbeats 600000 in
theorem put_any (base : Nat) (v : Value) (l : List Nat) (x many : Nat) (hx : x < 18446744073709551616) (hm : many ≤ 8) (hl : l.length + 8 ≤ 140737488355328) (w : World) (hb : base ≤ w.heap.size) (hown : OwnB w base v l) :
    Calls Tryz.prog 77 #[v, .int .u64 (x : Int), .int .i64 (many : Int)] w fun e w' => ∃ v', e = .returned v' ∧ OwnB w' base v' (l ++ leBytes many x) ∧ Below base w w' := by
  have HX := Lib.hid hx; have HL := Lib.hid hl; clear hx hl
  have HO := Lib.hid hown; clear hown
  go_enter Tryz.func77, Tryz.ntmps77
  go_wp2
  go_loopw [0, 1, 8] (fun bv xv iv wr => ∃ k, k ≤ many ∧ iv = .int .i64 (k : Int) ∧ xv = .int .u64 ((x / 256 ^ k : Nat) : Int) ∧ OwnB wr base bv (l ++ leBytes k x) ∧ Below base w wr) (fun _ _ iv _ => many - (intOf iv).toNat)
  case atStart => exact ⟨0, Nat.zero_le _, rfl, by rw [Nat.pow_zero, Nat.div_one], by rw [show leBytes 0 x = [] from rfl, List.append_nil]; exact HO.out, Below.refl _ _⟩
  case round =>
    obtain ⟨k, hk, rfl, rfl, hown, hbl⟩ := hrel
    obtain ⟨L, hL⟩ : ∃ L, L = l ++ leBytes k x := ⟨_, rfl⟩
    have hLl : L.length = l.length + k := by rw [hL, List.length_append, leBytes_len]
    obtain ⟨y, hy⟩ : ∃ y, y = x / 256 ^ k := ⟨_, rfl⟩
    rw [← hL] at hown
    rw [← hy]
    have hy2 : y < 18446744073709551616 := by rw [hy]; exact Nat.lt_of_le_of_lt (Nat.div_le_self _ _) HX.out
    have hbr : base ≤ wr.heap.size := Nat.le_trans hb hbl.size
    by_cases hlt : k < many
    · obtain ⟨z, hz⟩ : ∃ z, z = y % 256 := ⟨_, rfl⟩
      obtain ⟨A, c, rfl, _, _, _⟩ := hown.form
      obtain ⟨v', w', hrun, hown', hbl'⟩ := run_app_byte wr base _ _ z hown (by have := HL.out; omega) hbr
      have c1 : IntKind.u8.wrap (y : Int) = (z : Int) := by rw [IntKind.wrap_u8]; omega
      have c2 : IntKind.u64.wrap ((y : Int) / 256) = (y : Int) / 256 := by rw [IntKind.wrap_u64]; omega
      have RUN := Lib.hid hrun
      have hy3 : y / 256 < 18446744073709551616 := by omega
      have HY := Lib.hid hy; have HY2 := Lib.hid hy2; have HZ := Lib.hid hz; have HLL := Lib.hid hLl; have HLE := Lib.hid hL; clear hy hy2 hz hown hrun hLl hL hy3
      generalize L.length = n at *
      go_wp2_with (at_builtin; refine wpList_append_run rfl (.tmp 10) (.tmp 13) 28 rfl _ _ rfl rfl RUN.out ?_)
      go_roundw
      case rel => 
        refine ⟨k + 1, hlt, by go_num, ?_, ?_, hbl.trans hbl'⟩
        · exact v_int (by rw [Nat.pow_succ, ← Nat.div_div_eq_div_mul, ← HY.out]; omega)
        · rw [leBytes_snoc, ← List.append_assoc, ← HLE.out, ← HY.out, ← HZ.out]; exact hown'
      case measure => simp [intOf]; omega
    · obtain rfl : k = many := by omega
      have HOW := Lib.hid hown; have HLE := Lib.hid hL; clear hL hown hLl hy hy2
      go_wp2
      go_ret
      exact ⟨_, rfl, HLE.out ▸ HOW.out, hbl⟩
set_option maxRecDepth 100000 in
set_option maxHeartbeats 600000 in
theorem Rput_any (base : Nat) (v : Value) (l : List Nat) (x many : Nat) (hx : x < 18446744073709551616) (hm : many ≤ 8) (hl : l.length + 8 ≤ 140737488355328) (w : World) (hb : base ≤ w.heap.size) (hown : OwnB w base v l) :
    Calls Tryz.prog 53 #[v, .int .u64 (x : Int), .int .i64 (many : Int)] w fun e w' => ∃ v', e = .returned v' ∧ OwnB w' base v' (l ++ leBytes many x) ∧ Below base w w' := by
  have HX := Lib.hid hx; have HL := Lib.hid hl; clear hx hl
  have HO := Lib.hid hown; clear hown
  go_enter Tryz.func53, Tryz.ntmps53
  go_wp2
  go_loopw [0, 1, 7] (fun bv xv iv wr => ∃ k, k ≤ many ∧ iv = .int .i64 (k : Int) ∧ xv = .int .u64 ((x / 256 ^ k : Nat) : Int) ∧ OwnB wr base bv (l ++ leBytes k x) ∧ Below base w wr) (fun _ _ iv _ => many - (intOf iv).toNat)
  case atStart => exact ⟨0, Nat.zero_le _, rfl, by rw [Nat.pow_zero, Nat.div_one], by rw [show leBytes 0 x = [] from rfl, List.append_nil]; exact HO.out, Below.refl _ _⟩
  case round =>
    obtain ⟨k, hk, rfl, rfl, hown, hbl⟩ := hrel
    obtain ⟨L, hL⟩ : ∃ L, L = l ++ leBytes k x := ⟨_, rfl⟩
    have hLl : L.length = l.length + k := by rw [hL, List.length_append, leBytes_len]
    obtain ⟨y, hy⟩ : ∃ y, y = x / 256 ^ k := ⟨_, rfl⟩
    rw [← hL] at hown
    rw [← hy]
    have hy2 : y < 18446744073709551616 := by rw [hy]; exact Nat.lt_of_le_of_lt (Nat.div_le_self _ _) HX.out
    have hbr : base ≤ wr.heap.size := Nat.le_trans hb hbl.size
    by_cases hlt : k < many
    · obtain ⟨z, hz⟩ : ∃ z, z = y % 256 := ⟨_, rfl⟩
      obtain ⟨A, c, rfl, _, _, _⟩ := hown.form
      obtain ⟨v', w', hrun, hown', hbl'⟩ := run_app_byte wr base _ _ z hown (by have := HL.out; omega) hbr
      have c1 : IntKind.u8.wrap (y : Int) = (z : Int) := by rw [IntKind.wrap_u8]; omega
      have c2 : IntKind.u64.wrap ((y : Int) / 256) = (y : Int) / 256 := by rw [IntKind.wrap_u64]; omega
      have RUN := Lib.hid hrun
      have hy3 : y / 256 < 18446744073709551616 := by omega
      have HY := Lib.hid hy; have HY2 := Lib.hid hy2; have HZ := Lib.hid hz; have HLL := Lib.hid hLl; have HLE := Lib.hid hL; clear hy hy2 hz hown hrun hLl hL hy3
      generalize L.length = n at *
      go_wp2_with (at_builtin; refine wpList_append_run rfl (.tmp 13) (.tmp 16) 28 rfl _ _ rfl rfl RUN.out ?_)
      go_roundw
      case rel => 
        refine ⟨k + 1, hlt, by go_num, ?_, ?_, hbl.trans hbl'⟩
        · exact v_int (by rw [Nat.pow_succ, ← Nat.div_div_eq_div_mul, ← HY.out]; omega)
        · rw [leBytes_snoc, ← List.append_assoc, ← HLE.out, ← HY.out, ← HZ.out]; exact hown'
      case measure => simp [intOf]; omega
    · obtain rfl : k = many := by omega
      have HOW := Lib.hid hown; have HLE := Lib.hid hL; clear hL hown hLl hy hy2
      go_wp2
      go_ret
      exact ⟨_, rfl, HLE.out ▸ HOW.out, hbl⟩
theorem or_high (x c k : Nat) (hx : x < 2 ^ k) (h : x + c * 2 ^ k < 18446744073709551616) : bits .or .u64 (x : Int) ((c * 2 ^ k : Nat) : Int) = ((x + c * 2 ^ k : Nat) : Int) := by
  rw [u64_or_nat x _ (by omega) (by omega)]
  have e := Nat.two_pow_add_eq_or_of_lt (i := k) (b := x) hx c
  rw [Nat.or_comm, Nat.mul_comm c, ← e, Nat.add_comm]
theorem shl_or (x c k : Nat) (hx : x < 2 ^ k) (h : x + c * 2 ^ k < 18446744073709551616) : bits .or .u64 (x : Int) (IntKind.u64.wrap ((c : Int) * 2 ^ k)) = ((x + c * 2 ^ k : Nat) : Int) := by
  have e : (c : Int) * 2 ^ k = ((c * 2 ^ k : Nat) : Int) := by simp
  have e2 : IntKind.u64.wrap ((c * 2 ^ k : Nat) : Int) = ((c * 2 ^ k : Nat) : Int) := by
    rw [IntKind.wrap_u64]
    generalize c * 2 ^ k = z at *
    omega
  rw [e, e2]; exact or_high x c k hx h
theorem leVal_snoc : ∀ (l : List Nat) (c : Nat), leVal (l ++ [c]) = leVal l + c * 2 ^ (8 * l.length)
  | [], c => by show c + 256 * 0 = 0 + c * 2 ^ 0; omega
  | d :: l, c => by
    show d + 256 * leVal (l ++ [c]) = d + 256 * leVal l + c * 2 ^ (8 * (l.length + 1))
    rw [leVal_snoc l c, Nat.mul_succ, Nat.pow_add, Nat.mul_add, ← Nat.mul_assoc c, Nat.mul_comm _ (2 ^ 8), show (2 : Nat) ^ 8 = 256 from rfl, Nat.add_assoc]
theorem take_snoc_getD {l : List Nat} {k : Nat} (h : k < l.length) : l.take (k + 1) = l.take k ++ [l.getD k 0] := by
  rw [List.take_add_one, List.getElem?_eq_getElem h]; simp [List.getD, List.getElem?_eq_getElem h]
theorem Bytes.at {l : List Nat} (h : Bytes l) {k : Nat} (hk : k < l.length) : l.getD k 0 < 256 := by
  rw [List.getD, List.getElem?_eq_getElem hk]; exact h _ (List.getElem_mem hk)
set_option maxRecDepth 100000 in
set_option maxHeartbeats 600000 in
theorem get_any (A : Option Addr) (c : Nat) (l : List Nat) (hb : Bytes l) (hl : l.length ≤ 8) (w : World) (hr : SlAt w A (u8v l)) : Calls Tryz.prog 66 #[.slice A l.length c] w fun e w' => e = .returned (.int .u64 (leVal l : Int)) ∧ w = w' := by
  have HB := Lib.hid hb; have HR := Lib.hid hr; clear hb hr
  go_enter Tryz.func66, Tryz.ntmps66
  go_wp2
  go_loop [3, 8] (fun xv iv => ∃ k, k ≤ l.length ∧ iv = .int .i64 (k : Int) ∧ xv = .int .u64 (leVal (l.take k) : Int)) (fun _ iv => l.length - (intOf iv).toNat)
  case atStart => exact ⟨0, Nat.zero_le _, rfl, rfl⟩
  case round =>
    obtain ⟨k, hk, rfl, rfl⟩ := hrel
    by_cases hlt : k < l.length
    · obtain ⟨ad, rfl, hblk, hc⟩ := HR.out.at hlt
      obtain ⟨y, hy⟩ : ∃ y, y = l.getD k 0 := ⟨_, rfl⟩
      obtain ⟨x, hx⟩ : ∃ x, x = leVal (l.take k) := ⟨_, rfl⟩
      have hy2 : y < 256 := by rw [hy]; exact HB.out.at hlt
      have hsn : leVal (l.take (k + 1)) = x + y * 2 ^ (8 * k) := by rw [take_snoc_getD hlt, leVal_snoc, List.length_take, Nat.min_eq_left hk, ← hx, ← hy]
      have hx2 : x < 2 ^ (8 * k) := by rw [hx]; have := leVal_lt (HB.out.take k); rwa [List.length_take, Nat.min_eq_left hk] at this
      rw [← hy] at hc
      rw [← hx]
      have hlim : x + y * 2 ^ (8 * k) < 18446744073709551616 := by
        rw [← hsn]; exact Nat.lt_of_lt_of_le (leVal_lt (HB.out.take (k + 1))) (by rw [show (18446744073709551616 : Nat) = 2 ^ 64 from rfl]; exact Nat.pow_le_pow_right (by decide) (by rw [List.length_take]; omega))
      have hor := or_high x y (8 * k) hx2 hlim
      have HY := Lib.hid hy; have HX := Lib.hid hx; have HS := Lib.hid hsn; have HX2 := Lib.hid hx2; have HLM := Lib.hid hlim; have HOR := Lib.hid hor; clear hy hx hsn hx2 hlim hor
      go_wp2
      go_round
      case rel => exact ⟨k + 1, hlt, by go_num, v_int (by rw [HS.out]; exact shl_or _ _ _ HX2.out HLM.out)⟩
      case measure => simp [intOf]; omega
    · obtain rfl : k = l.length := by omega
      go_wp2
      go_ret
      exact ⟨ret_int (by first | rfl | rw [List.take_of_length_le (Nat.le_refl _)]), rfl⟩
theorem leVal_drop {l : List Nat} {k : Nat} (h : k < l.length) : leVal (l.drop k) = l.getD k 0 + 256 * leVal (l.drop (k + 1)) := by
  rw [List.drop_eq_getElem_cons h]
  show l[k] + 256 * _ = _
  rw [List.getD, List.getElem?_eq_getElem h]; rfl
set_option maxRecDepth 100000 in
set_option maxHeartbeats 600000 in
theorem Rtake_any (A : Option Addr) (c : Nat) (l : List Nat) (hb : Bytes l) (hl : l.length ≤ 8) (w : World) (hr : SlAt w A (u8v l)) : Calls Tryz.prog 63 #[.slice A l.length c] w fun e w' => e = .returned (.int .u64 (leVal l : Int)) ∧ w = w' := by
  have HB := Lib.hid hb; have HR := Lib.hid hr; clear hb hr
  go_enter Tryz.func63, Tryz.ntmps63
  go_wp2
  go_loop [3, 4] (fun xv iv => ∃ k, k ≤ l.length ∧ iv = .int .i64 ((k : Int) - 1) ∧ xv = .int .u64 (leVal (l.drop k) : Int)) (fun _ iv => (intOf iv + 1).toNat)
  case atStart => exact ⟨l.length, Nat.le_refl _, rfl, by rw [List.drop_of_length_le (Nat.le_refl _)]; rfl⟩
  case round =>
    obtain ⟨k, hk, rfl, rfl⟩ := hrel
    by_cases h0 : 0 < k
    · obtain ⟨j, rfl⟩ : ∃ j, k = j + 1 := ⟨k - 1, by omega⟩
      have hj : j < l.length := by omega
      obtain ⟨ad, rfl, hblk, hc⟩ := HR.out.at hj
      obtain ⟨y, hy⟩ : ∃ y, y = l.getD j 0 := ⟨_, rfl⟩
      obtain ⟨x, hx⟩ : ∃ x, x = leVal (l.drop (j + 1)) := ⟨_, rfl⟩
      have hy2 : y < 256 := by rw [hy]; exact HB.out.at hj
      have hdr : leVal (l.drop j) = y + 256 * x := by rw [leVal_drop hj, ← hx, ← hy]
      have hlim : y + 256 * x < 18446744073709551616 := by
        rw [← hdr]; exact Nat.lt_of_lt_of_le (leVal_lt (HB.out.drop j)) (by rw [show (18446744073709551616 : Nat) = 2 ^ 64 from rfl]; exact Nat.pow_le_pow_right (by decide) (by rw [List.length_drop]; omega))
      rw [← hy] at hc
      rw [← hx]
      have c1 : IntKind.u64.wrap (256 * (x : Int)) = 256 * (x : Int) := by rw [IntKind.wrap_u64]; omega
      have c2 : IntKind.u64.wrap (256 * (x : Int) + (y : Int)) = 256 * (x : Int) + (y : Int) := by rw [IntKind.wrap_u64]; omega
      have e1 : ((j + 1 : Nat) : Int) - 1 = (j : Int) := by omega
      rw [e1]
      have HY := Lib.hid hy; have HX := Lib.hid hx; have HD := Lib.hid hdr; have HLM := Lib.hid hlim; clear hy hx hdr hlim e1
      go_wp2
      go_round
      case rel => exact ⟨j, by omega, rfl, v_int (by rw [HD.out]; omega)⟩
      case measure => simp [intOf] <;> omega
    · obtain rfl : k = 0 := by omega
      go_wp2
      go_ret
      exact ⟨ret_int rfl, rfl⟩
set_option maxRecDepth 100000 in
set_option maxHeartbeats 600000 in
theorem sum_any (A : Option Addr) (c : Nat) (l : List Nat) (hb : Bytes l) (hl : l.length ≤ 9223372036854775807) (w : World) (hr : SlAt w A (u8v l)) : Calls Tryz.prog 67 #[.slice A l.length c] w fun e w' => e = .returned (.int .u32 (crcOf l : Int)) ∧ w = w' := by
  have HB := Lib.hid hb; have HR := Lib.hid hr; clear hb hr
  go_enter Tryz.func67, Tryz.ntmps67
  go_wp2
  go_loop [3, 9] (fun sv iv => ∃ k, k ≤ l.length ∧ iv = .int .i64 (k : Int) ∧ sv = .int .u32 (crcFold 4294967295 (l.take k) : Int)) (fun _ iv => l.length - (intOf iv).toNat)
  case atStart => exact ⟨0, Nat.zero_le _, rfl, rfl⟩
  case round =>
    obtain ⟨k, hk, rfl, rfl⟩ := hrel
    obtain ⟨s, hs⟩ : ∃ s, s = crcFold 4294967295 (l.take k) := ⟨_, rfl⟩
    have hs2 : s < 4294967296 := by rw [hs]; exact crcFold_lt (by decide) (HB.out.take k)
    rw [← hs]
    by_cases hlt : k < l.length
    · obtain ⟨ad, rfl, hblk, hc⟩ := HR.out.at hlt
      obtain ⟨y, hy⟩ : ∃ y, y = l.getD k 0 := ⟨_, rfl⟩
      have hy2 : y < 256 := by rw [hy]; exact HB.out.at hlt
      have hsn : crcFold 4294967295 (l.take (k + 1)) = crcBits 8 (s ^^^ y) := by rw [take_snoc_getD hlt, crcFold_append, ← hs, ← hy]; rfl
      have hx := u32_xor_nat s y hs2 (by omega)
      obtain ⟨t, ht⟩ : ∃ t, t = s ^^^ y := ⟨_, rfl⟩
      have ht2 : t < 4294967296 := by rw [ht]; exact xor32 hs2 (by omega)
      rw [← ht] at hx hsn
      rw [← hy] at hc
      have HY := Lib.hid hy; have HS := Lib.hid hs; have HS2 := Lib.hid hs2; have HSN := Lib.hid hsn; have HT := Lib.hid ht; have HT2 := Lib.hid ht2; clear hy hs hs2 hsn ht ht2
      go_wp2
      go_loop [3, 17] (fun sv kv => ∃ j : Nat, j ≤ 8 ∧ kv = .int .i64 (j : Int) ∧ sv = .int .u32 (crcBits j t : Int)) (fun _ kv => 8 - (intOf kv).toNat)
      case atStart => exact ⟨0, Nat.zero_le _, rfl, rfl⟩
      case round =>
        obtain ⟨j, hj, rfl, rfl⟩ := hrel
        by_cases hlj : j < 8
        · obtain ⟨v, hv⟩ : ∃ v, v = crcBits j t := ⟨_, rfl⟩
          have hv2 : v < 4294967296 := by rw [hv]; exact crcBits_lt j HT2.out
          have hvs : crcBits (j + 1) t = crcBit v := by rw [crcBits_add, ← hv]; rfl
          rw [← hv]
          have a1 : bits .and .u32 (v : Int) 1 = ((v % 2 : Nat) : Int) := by
            have := u32_and_nat v 1 hv2 (by decide)
            rw [Nat.and_one_is_mod] at this
            exact this
          have a2 : bits .xor .u32 ((v : Int) / 2) 3988292384 = ((v / 2 ^^^ 3988292384 : Nat) : Int) := by
            have := u32_xor_nat (v / 2) 3988292384 (by omega) (by decide)
            rw [show ((v / 2 : Nat) : Int) = (v : Int) / 2 by omega] at this
            exact this
          have a4 : bits .and .u32 3988292384 0 = 0 := by decide +kernel
          have a5 : bits .and .u32 3988292384 4294967295 = 3988292384 := by decide +kernel
          have a3 : bits .xor .u32 ((v : Int) / 2) 0 = (v : Int) / 2 := by
            have := u32_xor_nat (v / 2) 0 (by omega) (by decide)
            rw [Nat.xor_zero, show ((v / 2 : Nat) : Int) = (v : Int) / 2 by omega] at this
            exact this
          have HV := Lib.hid hv; have HVS := Lib.hid hvs; clear hv hvs
          rcases Nat.mod_two_eq_zero_or_one v with hp | hp
          · rw [hp] at a1
            have hcb : crcBit v = v / 2 := by unfold crcBit; rw [if_neg (by omega)]
            have HP := Lib.hid hp; have HCB := Lib.hid hcb; clear hcb
            have e0 : ((v : Int) % 2 == 1) = false := by rw [beq_eq_false_iff_ne]; omega
            clear hp
            go_wp2
            go_round
            case rel => exact ⟨j + 1, hlj, by go_num, v_int (by rw [HVS.out, HCB.out]; omega)⟩
            case measure => simp [intOf]; omega
          · rw [hp] at a1
            have hcb : crcBit v = v / 2 ^^^ 3988292384 := by unfold crcBit; rw [if_pos hp]
            rw [← hcb] at a2
            have HP := Lib.hid hp; clear hcb
            have e0 : ((v : Int) % 2 == 1) = true := by rw [beq_iff_eq]; omega
            clear hp
            go_wp2
            go_round
            case rel => exact ⟨j + 1, hlj, by go_num, v_int (by rw [HVS.out])⟩
            case measure => simp [intOf]; omega
        · obtain rfl : j = 8 := by omega
          go_wp2
          go_round
          case rel => exact ⟨k + 1, hlt, by go_num, v_int (by rw [HSN.out])⟩
          case measure => simp [intOf]; omega
    · obtain rfl : k = l.length := by omega
      have hfin : crcOf l = 4294967295 ^^^ s := by rw [Nat.xor_comm, hs, List.take_of_length_le (Nat.le_refl _)]; rfl
      have hx : bits .xor .u32 IntKind.u32.max (s : Int) = ((crcOf l : Nat) : Int) := by rw [hfin]; exact u32_xor_nat 4294967295 s (by decide) hs2
      have HX := Lib.hid hx; clear hfin hs hx hs2
      go_wp2
      go_ret
      exact ⟨ret_int HX.out, rfl⟩
set_option maxRecDepth 100000 in
set_option maxHeartbeats 600000 in
theorem Rsum_any (A : Option Addr) (c : Nat) (l : List Nat) (hb : Bytes l) (hl : l.length ≤ 9223372036854775807) (w : World) (hr : SlAt w A (u8v l)) : Calls Tryz.prog 56 #[.slice A l.length c] w fun e w' => e = .returned (.int .u32 (crcOf l : Int)) ∧ w = w' := by
  have HB := Lib.hid hb; have HR := Lib.hid hr; clear hb hr
  go_enter Tryz.func56, Tryz.ntmps56
  go_wp2
  go_loop [3, 9] (fun sv iv => ∃ k, k ≤ l.length ∧ iv = .int .i64 (k : Int) ∧ sv = .int .u32 (crcFold 4294967295 (l.take k) : Int)) (fun _ iv => l.length - (intOf iv).toNat)
  case atStart => exact ⟨0, Nat.zero_le _, rfl, rfl⟩
  case round =>
    obtain ⟨k, hk, rfl, rfl⟩ := hrel
    obtain ⟨s, hs⟩ : ∃ s, s = crcFold 4294967295 (l.take k) := ⟨_, rfl⟩
    have hs2 : s < 4294967296 := by rw [hs]; exact crcFold_lt (by decide) (HB.out.take k)
    rw [← hs]
    by_cases hlt : k < l.length
    · obtain ⟨ad, rfl, hblk, hc⟩ := HR.out.at hlt
      obtain ⟨y, hy⟩ : ∃ y, y = l.getD k 0 := ⟨_, rfl⟩
      have hy2 : y < 256 := by rw [hy]; exact HB.out.at hlt
      have hsn : crcFold 4294967295 (l.take (k + 1)) = crcBits 8 (s ^^^ y) := by rw [take_snoc_getD hlt, crcFold_append, ← hs, ← hy]; rfl
      have hx := u32_xor_nat s y hs2 (by omega)
      obtain ⟨t, ht⟩ : ∃ t, t = s ^^^ y := ⟨_, rfl⟩
      have ht2 : t < 4294967296 := by rw [ht]; exact xor32 hs2 (by omega)
      rw [← ht] at hx hsn
      rw [← hy] at hc
      have HY := Lib.hid hy; have HS := Lib.hid hs; have HS2 := Lib.hid hs2; have HSN := Lib.hid hsn; have HT := Lib.hid ht; have HT2 := Lib.hid ht2; clear hy hs hs2 hsn ht ht2
      go_wp2
      go_loop [3, 6] (fun sv kv => ∃ j : Nat, j ≤ 8 ∧ kv = .int .i64 (j : Int) ∧ sv = .int .u32 (crcBits j t : Int)) (fun _ kv => 8 - (intOf kv).toNat)
      case atStart => exact ⟨0, Nat.zero_le _, rfl, rfl⟩
      case round =>
        obtain ⟨j, hj, rfl, rfl⟩ := hrel
        by_cases hlj : j < 8
        · obtain ⟨v, hv⟩ : ∃ v, v = crcBits j t := ⟨_, rfl⟩
          have hv2 : v < 4294967296 := by rw [hv]; exact crcBits_lt j HT2.out
          have hvs : crcBits (j + 1) t = crcBit v := by rw [crcBits_add, ← hv]; rfl
          rw [← hv]
          have a1 : bits .and .u32 (v : Int) 1 = ((v % 2 : Nat) : Int) := by
            have := u32_and_nat v 1 hv2 (by decide)
            rw [Nat.and_one_is_mod] at this
            exact this
          have a2 : bits .xor .u32 ((v : Int) / 2) 3988292384 = ((v / 2 ^^^ 3988292384 : Nat) : Int) := by
            have := u32_xor_nat (v / 2) 3988292384 (by omega) (by decide)
            rw [show ((v / 2 : Nat) : Int) = (v : Int) / 2 by omega] at this
            exact this
          have a4 : bits .and .u32 3988292384 0 = 0 := by decide +kernel
          have a5 : bits .and .u32 3988292384 4294967295 = 3988292384 := by decide +kernel
          have a3 : bits .xor .u32 ((v : Int) / 2) 0 = (v : Int) / 2 := by
            have := u32_xor_nat (v / 2) 0 (by omega) (by decide)
            rw [Nat.xor_zero, show ((v / 2 : Nat) : Int) = (v : Int) / 2 by omega] at this
            exact this
          have HV := Lib.hid hv; have HVS := Lib.hid hvs; clear hv hvs
          rcases Nat.mod_two_eq_zero_or_one v with hp | hp
          · rw [hp] at a1
            have hcb : crcBit v = v / 2 := by unfold crcBit; rw [if_neg (by omega)]
            have HP := Lib.hid hp; have HCB := Lib.hid hcb; clear hcb
            have e0 : ((v : Int) % 2 == 1) = false := by rw [beq_eq_false_iff_ne]; omega
            clear hp
            go_wp2
            go_round
            case rel => exact ⟨j + 1, hlj, by go_num, v_int (by rw [HVS.out, HCB.out]; omega)⟩
            case measure => simp [intOf]; omega
          · rw [hp] at a1
            have hcb : crcBit v = v / 2 ^^^ 3988292384 := by unfold crcBit; rw [if_pos hp]
            rw [← hcb] at a2
            have HP := Lib.hid hp; clear hcb
            have e0 : ((v : Int) % 2 == 1) = true := by rw [beq_iff_eq]; omega
            clear hp
            go_wp2
            go_round
            case rel => exact ⟨j + 1, hlj, by go_num, v_int (by rw [HVS.out])⟩
            case measure => simp [intOf]; omega
        · obtain rfl : j = 8 := by omega
          go_wp2
          go_round
          case rel => exact ⟨k + 1, hlt, by go_num, v_int (by rw [HSN.out])⟩
          case measure => simp [intOf]; omega
    · obtain rfl : k = l.length := by omega
      have hfin : crcOf l = 4294967295 ^^^ s := by rw [Nat.xor_comm, hs, List.take_of_length_le (Nat.le_refl _)]; rfl
      have hx : bits .xor .u32 IntKind.u32.max (s : Int) = ((crcOf l : Nat) : Int) := by rw [hfin]; exact u32_xor_nat 4294967295 s (by decide) hs2
      have HX := Lib.hid hx; clear hfin hs hx hs2
      go_wp2
      go_ret
      exact ⟨ret_int HX.out, rfl⟩
theorem put4 (base : Nat) (v : Value) (l : List Nat) (x : Nat) (hx : x < 18446744073709551616) (hl : l.length + 8 ≤ 140737488355328) (w : World) (hb : base ≤ w.heap.size) (hown : OwnB w base v l) : Calls Tryz.prog 77 #[v, .int .u64 (x : Int), .int .i64 4] w fun e w' => ∃ v', e = .returned v' ∧ OwnB w' base v' (l ++ leBytes 4 x) ∧ Below base w w' := put_any base v l x 4 hx (by decide) hl w hb hown
theorem put8 (base : Nat) (v : Value) (l : List Nat) (x : Nat) (hx : x < 18446744073709551616) (hl : l.length + 8 ≤ 140737488355328) (w : World) (hb : base ≤ w.heap.size) (hown : OwnB w base v l) : Calls Tryz.prog 77 #[v, .int .u64 (x : Int), .int .i64 8] w fun e w' => ∃ v', e = .returned v' ∧ OwnB w' base v' (l ++ leBytes 8 x) ∧ Below base w w' := put_any base v l x 8 hx (by decide) hl w hb hown
theorem Rput4 (base : Nat) (v : Value) (l : List Nat) (x : Nat) (hx : x < 18446744073709551616) (hl : l.length + 8 ≤ 140737488355328) (w : World) (hb : base ≤ w.heap.size) (hown : OwnB w base v l) : Calls Tryz.prog 53 #[v, .int .u64 (x : Int), .int .i64 4] w fun e w' => ∃ v', e = .returned v' ∧ OwnB w' base v' (l ++ leBytes 4 x) ∧ Below base w w' := Rput_any base v l x 4 hx (by decide) hl w hb hown
theorem Rput8 (base : Nat) (v : Value) (l : List Nat) (x : Nat) (hx : x < 18446744073709551616) (hl : l.length + 8 ≤ 140737488355328) (w : World) (hb : base ≤ w.heap.size) (hown : OwnB w base v l) : Calls Tryz.prog 53 #[v, .int .u64 (x : Int), .int .i64 8] w fun e w' => ∃ v', e = .returned v' ∧ OwnB w' base v' (l ++ leBytes 8 x) ∧ Below base w w' := Rput_any base v l x 8 hx (by decide) hl w hb hown
end Go.Proofs.YtpmjlaiafgbjgaaGreatDoor
end

section
namespace Go.Proofs.YtpmjlaiafgbjgaaGreatDoor
open Go.RowKit
def Words64 (l : List Nat) : Prop := ∀ x ∈ l, x < 18446744073709551616
theorem Words64.at {l : List Nat} (h : Words64 l) {k : Nat} (hk : k < l.length) : l.getD k 0 < 18446744073709551616 := by
  rw [List.getD, List.getElem?_eq_getElem hk]; exact h _ (List.getElem_mem hk)
theorem all_snoc {p : Nat → Bool} {l : List Nat} {k : Nat} (h : k < l.length) : (l.take (k + 1)).all p = ((l.take k).all p && p (l.getD k 0)) := by
  rw [take_snoc_getD h, List.all_append]; simp
theorem all_false {p : Nat → Bool} {l : List Nat} {k : Nat} (h : k < l.length) (hp : p (l.getD k 0) = false) : l.all p = false := by
  rw [List.all_eq_false]
  refine ⟨l.getD k 0, ?_, by rw [hp]; decide⟩
  rw [List.getD, List.getElem?_eq_getElem h]; exact List.getElem_mem h
theorem class_yes {x : Nat} (h : finD x = true) : ((classD x : Int) == 1) = false ∧ ((classD x : Int) == 2) = false := by
  have : 2 < classD x := of_decide_eq_true h
  exact ⟨beq_eq_false_iff_ne.2 (by omega), beq_eq_false_iff_ne.2 (by omega)⟩
theorem class_no {x : Nat} (h : finD x = false) : classD x = 1 ∨ classD x = 2 := by
  have h1 : ¬ 2 < classD x := of_decide_eq_false h
  have := classD_range x
  omega
set_option maxRecDepth 100000 in
set_option maxHeartbeats 600000 in
theorem Finite_any (A : Option Addr) (c : Nat) (l : List Nat) (hw : Words64 l) (hl : l.length ≤ 1152921504606846976) (w : World) (hr : SlAt w A (f64v l)) : Calls Tryz.prog 70 #[.slice A l.length c] w fun e w' => e = .returned (.bool (l.all finD)) ∧ Within w w' := by
  have HW := Lib.hid hw; have HR := Lib.hid hr; clear hw hr
  go_enter Tryz.func70, Tryz.ntmps70
  go_wp2
  go_loopw [8] (fun iv wr => ∃ k : Nat, k ≤ l.length ∧ iv = .int .i64 (k : Int) ∧ (l.take k).all finD = true ∧ Within w wr) (fun iv _ => l.length - (intOf iv).toNat)
  case atStart => exact ⟨0, Nat.zero_le _, rfl, rfl, Within.refl _⟩
  case round =>
    obtain ⟨k, hk, rfl, hall, hin⟩ := hrel
    have HA := Lib.hid hall; clear hall
    by_cases hlt : k < l.length
    · obtain ⟨ad, rfl, hblk, hc⟩ := (HR.out.of hin).at hlt
      obtain ⟨x, hx⟩ : ∃ x, x = l.getD k 0 := ⟨_, rfl⟩
      have hx2 : x < 18446744073709551616 := by rw [hx]; exact HW.out.at hlt
      rw [← hx] at hc
      have HX := Lib.hid hx; have HX2 := Lib.hid hx2; clear hx hx2
      by_cases hf : finD x = true
      · have hnext : (l.take (k + 1)).all finD = true := by rw [all_snoc hlt, HA.out, ← HX.out, hf]; rfl
        have HN := Lib.hid hnext; clear hnext
        obtain ⟨g1, g2⟩ := class_yes hf
        clear hf
        go_wp2_with fail
        refine (Class_D x HX2.out _).mono ?_; rintro e1 w1 ⟨rfl, hb1⟩
        go_wp2
        go_roundw
        case rel => exact ⟨k + 1, hlt, by go_num, HN.out, (by repeat (first | with_reducible exact Within.refl _ | with_reducible assumption | with_reducible refine Within.alloc ?_ _ | with_reducible refine Within.drew ?_ | with_reducible refine Within.setCell ?_ (by first | (simp; done) | (simp; omega)) _ | with_reducible refine Within.trans ?_ (by assumption)))⟩
        case measure => simp [intOf]; omega
      · have hno : l.all finD = false := all_false hlt (by rw [← HX.out]; simpa using hf)
        have HNO := Lib.hid hno; clear hno
        have hc1 := class_no (by simpa using hf : finD x = false)
        have CL := Lib.hid (fun w => Class_D x HX2.out w)
        generalize classD x = cx at *
        clear hf
        rcases hc1 with rfl | rfl
        · go_wp2_with fail
          refine (CL.out _).mono ?_; rintro e1 w1 ⟨rfl, hb1⟩
          go_wp2
          go_ret
          exact ⟨ret_bool HNO.out.symm, (by repeat (first | with_reducible exact Within.refl _ | with_reducible assumption | with_reducible refine Within.alloc ?_ _ | with_reducible refine Within.drew ?_ | with_reducible refine Within.setCell ?_ (by first | (simp; done) | (simp; omega)) _ | with_reducible refine Within.trans ?_ (by assumption)))⟩
        go_wp2_with fail
        refine (CL.out _).mono ?_; rintro e1 w1 ⟨rfl, hb1⟩
        go_wp2
        go_ret
        exact ⟨ret_bool HNO.out.symm, (by repeat (first | with_reducible exact Within.refl _ | with_reducible assumption | with_reducible refine Within.alloc ?_ _ | with_reducible refine Within.drew ?_ | with_reducible refine Within.setCell ?_ (by first | (simp; done) | (simp; omega)) _ | with_reducible refine Within.trans ?_ (by assumption)))⟩
    · obtain rfl : k = l.length := by omega
      go_wp2
      go_ret
      exact ⟨ret_bool (by rw [← HA.out, List.take_of_length_le (Nat.le_refl _)]), hin⟩
set_option maxRecDepth 100000 in
set_option maxHeartbeats 600000 in
theorem RallFinite_any (A : Option Addr) (c : Nat) (l : List Nat) (hw : Words64 l) (hl : l.length ≤ 1152921504606846976) (w : World) (hr : SlAt w A (f64v l)) : Calls Tryz.prog 75 #[.slice A l.length c] w fun e w' => e = .returned (.bool (l.all finD)) ∧ Within w w' := by
  have HW := Lib.hid hw; have HR := Lib.hid hr; clear hw hr
  go_enter Tryz.func75, Tryz.ntmps75
  go_wp2
  go_loopw [7] (fun iv wr => ∃ k : Nat, k ≤ l.length ∧ iv = .int .i64 (k : Int) ∧ (l.take k).all finD = true ∧ Within w wr) (fun iv _ => l.length - (intOf iv).toNat)
  case atStart => exact ⟨0, Nat.zero_le _, rfl, rfl, Within.refl _⟩
  case round =>
    obtain ⟨k, hk, rfl, hall, hin⟩ := hrel
    have HA := Lib.hid hall; clear hall
    by_cases hlt : k < l.length
    · obtain ⟨ad, rfl, hblk, hc⟩ := (HR.out.of hin).at hlt
      obtain ⟨x, hx⟩ : ∃ x, x = l.getD k 0 := ⟨_, rfl⟩
      have hx2 : x < 18446744073709551616 := by rw [hx]; exact HW.out.at hlt
      rw [← hx] at hc
      have HX := Lib.hid hx; have HX2 := Lib.hid hx2; clear hx hx2
      by_cases hf : finD x = true
      · have hnext : (l.take (k + 1)).all finD = true := by rw [all_snoc hlt, HA.out, ← HX.out, hf]; rfl
        have HN := Lib.hid hnext; clear hnext
        have FI := Lib.hid (fun w => Rfinite x HX2.out w)
        have hf' : decide (2 < classD x) = true := hf
        rw [hf'] at FI
        clear hf hf'
        go_wp2_with fail
        refine (FI.out _).mono ?_; rintro e1 w1 ⟨rfl, rfl⟩
        go_wp2
        go_roundw
        case rel => exact ⟨k + 1, hlt, by go_num, HN.out, (by repeat (first | with_reducible exact Within.refl _ | with_reducible assumption | with_reducible refine Within.alloc ?_ _ | with_reducible refine Within.drew ?_ | with_reducible refine Within.setCell ?_ (by first | (simp; done) | (simp; omega)) _ | with_reducible refine Within.trans ?_ (by assumption)))⟩
        case measure => simp [intOf]; omega
      · have hno : l.all finD = false := all_false hlt (by rw [← HX.out]; simpa using hf)
        have HNO := Lib.hid hno; clear hno
        have FI := Lib.hid (fun w => Rfinite x HX2.out w)
        have hf' : decide (2 < classD x) = false := by simpa [finD] using hf
        rw [hf'] at FI
        clear hf hf'
        go_wp2_with fail
        refine (FI.out _).mono ?_; rintro e1 w1 ⟨rfl, rfl⟩
        go_wp2
        go_ret
        exact ⟨ret_bool HNO.out.symm, (by repeat (first | with_reducible exact Within.refl _ | with_reducible assumption | with_reducible refine Within.alloc ?_ _ | with_reducible refine Within.drew ?_ | with_reducible refine Within.setCell ?_ (by first | (simp; done) | (simp; omega)) _ | with_reducible refine Within.trans ?_ (by assumption)))⟩
    · obtain rfl : k = l.length := by omega
      go_wp2
      go_ret
      exact ⟨ret_bool (by rw [← HA.out, List.take_of_length_le (Nat.le_refl _)]), hin⟩
set_option maxRecDepth 100000 in
set_option maxHeartbeats 600000 in
theorem Rsamelist_any (A B : Option Addr) (c d : Nat) (la lb : List Nat) (hla : la.length ≤ 1152921504606846976) (_hlb : lb.length ≤ 1152921504606846976) (w : World) (ha : SlAt w A (f64v la)) (hb : SlAt w B (f64v lb)) :
    Calls Tryz.prog 72 #[.slice A la.length c, .slice B lb.length d] w fun e w' => e = .returned (.bool (decide (la.map canonD = lb.map canonD))) ∧ Within w w' := by
  have HA := Lib.hid ha; have HB := Lib.hid hb; clear ha hb
  by_cases hlen : la.length = lb.length
  · have d1 : ((la.length : Int) != (lb.length : Int)) = false := by rw [bne_eq_false_iff_eq]; omega
    have HL := Lib.hid hlen
    go_enter Tryz.func72, Tryz.ntmps72
    go_wp2
    go_loopw [13] (fun iv wr => ∃ k : Nat, k ≤ la.length ∧ iv = .int .i64 (k : Int) ∧ (la.take k).map canonD = (lb.take k).map canonD ∧ Within w wr) (fun iv _ => la.length - (intOf iv).toNat)
    case atStart => exact ⟨0, Nat.zero_le _, rfl, rfl, Within.refl _⟩
    case round =>
      obtain ⟨k, hk, rfl, hsm, hin⟩ := hrel
      have HS := Lib.hid hsm; clear hsm
      by_cases hlt : k < la.length
      · have hltb : k < lb.length := by have := HL.out; omega
        obtain ⟨ad, rfl, hblk, hc⟩ := (HA.out.of hin).at hlt
        obtain ⟨be, rfl, hblb, hd⟩ := (HB.out.of hin).at hltb
        obtain ⟨x, hx⟩ : ∃ x, x = la.getD k 0 := ⟨_, rfl⟩
        obtain ⟨y, hy⟩ : ∃ y, y = lb.getD k 0 := ⟨_, rfl⟩
        rw [← hx] at hc
        rw [← hy] at hd
        have HX := Lib.hid hx; have HY := Lib.hid hy; clear hx hy
        have SM := Lib.hid (fun w => Rsame_D x y w)
        by_cases hs : canonD x = canonD y
        · have hnext : (la.take (k + 1)).map canonD = (lb.take (k + 1)).map canonD := by
            rw [take_snoc_getD hlt, take_snoc_getD hltb, List.map_append, List.map_append, HS.out, ← HX.out, ← HY.out, List.map_singleton, List.map_singleton, hs]
          have HN := Lib.hid hnext
          rw [decide_eq_true hs] at SM
          clear hnext hs
          go_wp2
          refine wp_region_within (by kernel_rfl) (by kernel_rfl) ?_
          repeat
            apply wpq_step rfl
            · intro wq hCq
              have ca := (hCq.cell (p := ad.add k) (by rw [add_block]; exact hblk)).trans hc
              have cb := (hCq.cell (p := be.add k) (by rw [add_block]; exact hblb)).trans hd
              go_simp
              first | rfl | exact hCq.same (SM.out _) | (trace_state; fail)
            simp only [Act.put, List.setIfInBounds_toArray, List.set_cons_zero, List.set_cons_succ]
          refine wpQuiet_nil ?_
          intro w3 hb3
          go_wp2
          go_roundw
          case rel => exact ⟨k + 1, hlt, by go_num, HN.out, (by repeat (first | with_reducible exact Within.refl _ | with_reducible assumption | with_reducible refine Within.alloc ?_ _ | with_reducible refine Within.drew ?_ | with_reducible refine Within.setCell ?_ (by first | (simp; done) | (simp; omega)) _ | with_reducible refine Within.trans ?_ (by assumption)))⟩
          case measure => simp [intOf]; omega
        · have hno : ¬ la.map canonD = lb.map canonD := fun h => hs (by
            have := congrArg (fun l => l.getD k 0) h
            simp only [List.getD, List.getElem?_map, List.getElem?_eq_getElem hlt, List.getElem?_eq_getElem hltb, Option.map_some, Option.getD_some] at this
            rw [HX.out, HY.out, List.getD, List.getD, List.getElem?_eq_getElem hlt, List.getElem?_eq_getElem hltb]
            exact this)
          have HNO := Lib.hid hno
          rw [decide_eq_false hs] at SM
          clear hno hs
          go_wp2
          refine wp_region_within (by kernel_rfl) (by kernel_rfl) ?_
          repeat
            apply wpq_step rfl
            · intro wq hCq
              have ca := (hCq.cell (p := ad.add k) (by rw [add_block]; exact hblk)).trans hc
              have cb := (hCq.cell (p := be.add k) (by rw [add_block]; exact hblb)).trans hd
              go_simp
              first | rfl | exact hCq.same (SM.out _) | (trace_state; fail)
            simp only [Act.put, List.setIfInBounds_toArray, List.set_cons_zero, List.set_cons_succ]
          refine wpQuiet_nil ?_
          intro w3 hb3
          go_wp2
          go_ret
          exact ⟨ret_bool (decide_eq_false HNO.out).symm, (by repeat (first | with_reducible exact Within.refl _ | with_reducible assumption | with_reducible refine Within.alloc ?_ _ | with_reducible refine Within.drew ?_ | with_reducible refine Within.setCell ?_ (by first | (simp; done) | (simp; omega)) _ | with_reducible refine Within.trans ?_ (by assumption)))⟩
      · obtain rfl : k = la.length := by omega
        go_wp2
        go_ret
        refine ⟨ret_bool (decide_eq_true ?_).symm, hin⟩
        have h1 := HS.out
        rw [List.take_of_length_le (Nat.le_refl _), List.take_of_length_le (Nat.le_of_eq HL.out.symm)] at h1
        exact h1
  · have d1 : ((la.length : Int) != (lb.length : Int)) = true := by rw [bne_iff_ne]; omega
    have hno : ¬ la.map canonD = lb.map canonD := fun h => hlen (by have := congrArg List.length h; simpa using this)
    have HNO := Lib.hid hno
    clear hno hlen
    go_enter Tryz.func72, Tryz.ntmps72
    go_wp2
    go_ret
    exact ⟨ret_bool (decide_eq_false HNO.out).symm, Within.refl _⟩
set_option maxRecDepth 100000 in
set_option maxHeartbeats 600000 in
theorem Singles_any (A : Option Addr) (c : Nat) (s q t : Value) (l : List Nat) (hw : Words64 l) (hl : l.length ≤ 1152921504606846976) (w : World) (hT : FmS w) (hr : SlAt w A (f64v l)) : Calls Tryz.prog 71 #[.agg #[s, q, t, .slice A l.length c]] w fun e w' => e = .returned (.bool (l.all isSD)) ∧ Within w w' := by
  have HW := Lib.hid hw; have HR := Lib.hid hr; have HT := Lib.hid hT; clear hw hr hT
  go_enter Tryz.func71, Tryz.ntmps71
  go_wp2
  go_loopw [11] (fun iv wr => ∃ k : Nat, k ≤ l.length ∧ iv = .int .i64 (k : Int) ∧ (l.take k).all isSD = true ∧ Within w wr) (fun iv _ => l.length - (intOf iv).toNat)
  case atStart => exact ⟨0, Nat.zero_le _, rfl, rfl, (Within.refl _).alloc _⟩
  case round =>
    obtain ⟨k, hk, rfl, hall, hin⟩ := hrel
    have HA := Lib.hid hall; clear hall
    by_cases hlt : k < l.length
    · obtain ⟨ad, rfl, hblk, hc⟩ := (HR.out.of hin).at hlt
      obtain ⟨x, hx⟩ : ∃ x, x = l.getD k 0 := ⟨_, rfl⟩
      have hx2 : x < 18446744073709551616 := by rw [hx]; exact HW.out.at hlt
      rw [← hx] at hc
      have HX := Lib.hid hx; clear hx
      have hT := HT.out.of hin
      have NA := Lib.hid (fun w h => Narrow_any x 0 hx2 w h)
      have hE : nErr 0 = 0 := by decide
      rw [hE] at NA
      have WD := Lib.hid (fun w => Widen_any (nWord x 0) (nWord_lt x hx2 0) w)
      have SM : Hid (∀ w, Calls Tryz.prog 84 #[.float .f64 (wWord (nWord x 0)), .float .f64 x] w fun e w' => e = .returned (.bool (isSD x)) ∧ Within w w') := Lib.hid (fun w => Same_D _ x (wWord_lt _ (nWord_lt x hx2 0)) hx2 w)
      have HX2 := Lib.hid hx2; clear hx2 hE
      generalize wWord (nWord x 0) = wx at *
      generalize nWord x 0 = nx at *
      generalize nFlags x 0 = fx at *
      cases hf : isSD x
      · have hno : l.all isSD = false := all_false hlt (by rw [← HX.out]; exact hf)
        have HNO := Lib.hid hno
        rw [hf] at SM
        clear hno hf
        go_wp2_with fail
        refine (NA.out _ hT).mono ?_; rintro e1 w1 ⟨rfl, hb1⟩
        go_wp2_with fail
        refine (WD.out _).mono ?_; rintro e2 w2 ⟨rfl, hb2⟩
        go_wp2_with fail
        refine (SM.out _).mono ?_; rintro e3 w3 ⟨rfl, hb3⟩
        go_wp2
        go_ret
        exact ⟨ret_bool HNO.out.symm, (by repeat (first | with_reducible exact Within.refl _ | with_reducible assumption | with_reducible refine Within.alloc ?_ _ | with_reducible refine Within.drew ?_ | with_reducible refine Within.setCell ?_ (by first | (simp; done) | (simp; omega)) _ | with_reducible refine Within.trans ?_ (by assumption)))⟩
      · have hnext : (l.take (k + 1)).all isSD = true := by rw [all_snoc hlt, HA.out, ← HX.out, hf]; rfl
        have HN := Lib.hid hnext
        rw [hf] at SM
        clear hnext hf
        go_wp2_with fail
        refine (NA.out _ hT).mono ?_; rintro e1 w1 ⟨rfl, hb1⟩
        go_wp2_with fail
        refine (WD.out _).mono ?_; rintro e2 w2 ⟨rfl, hb2⟩
        go_wp2_with fail
        refine (SM.out _).mono ?_; rintro e3 w3 ⟨rfl, hb3⟩
        go_wp2
        go_roundw
        case rel => exact ⟨k + 1, hlt, by go_num, HN.out, (by repeat (first | with_reducible exact Within.refl _ | with_reducible assumption | with_reducible refine Within.alloc ?_ _ | with_reducible refine Within.drew ?_ | with_reducible refine Within.setCell ?_ (by first | (simp; done) | (simp; omega)) _ | with_reducible refine Within.trans ?_ (by assumption)))⟩
        case measure => simp [intOf]; omega
    · obtain rfl : k = l.length := by omega
      go_wp2
      go_ret
      exact ⟨ret_bool (by rw [← HA.out, List.take_of_length_le (Nat.le_refl _)]), hin⟩
set_option maxRecDepth 100000 in
set_option maxHeartbeats 600000 in
theorem Rsingles_any (A : Option Addr) (c : Nat) (l : List Nat) (hw : Words64 l) (hl : l.length ≤ 1152921504606846976) (w : World) (hr : SlAt w A (f64v l)) : Calls Tryz.prog 52 #[.slice A l.length c] w fun e w' => e = .returned (.bool (l.all isSD)) ∧ Within w w' := by
  have HW := Lib.hid hw; have HR := Lib.hid hr; clear hw hr
  go_enter Tryz.func52, Tryz.ntmps52
  go_wp2
  go_loopw [7] (fun iv wr => ∃ k : Nat, k ≤ l.length ∧ iv = .int .i64 (k : Int) ∧ (l.take k).all isSD = true ∧ Within w wr) (fun iv _ => l.length - (intOf iv).toNat)
  case atStart => exact ⟨0, Nat.zero_le _, rfl, rfl, Within.refl _⟩
  case round =>
    obtain ⟨k, hk, rfl, hall, hin⟩ := hrel
    have HA := Lib.hid hall; clear hall
    by_cases hlt : k < l.length
    · obtain ⟨ad, rfl, hblk, hc⟩ := (HR.out.of hin).at hlt
      obtain ⟨x, hx⟩ : ∃ x, x = l.getD k 0 := ⟨_, rfl⟩
      have hx2 : x < 18446744073709551616 := by rw [hx]; exact HW.out.at hlt
      rw [← hx] at hc
      have HX := Lib.hid hx; clear hx
      have hcv := fun (w : World) => conv_nar (P := Tryz.prog) (src := 68) (dst := 112) (by kernel_rfl) (by kernel_rfl) x hx2 w
      have hcw := fun (w w' : World) => conv_wide (P := Tryz.prog) (src := 112) (dst := 68) (by kernel_rfl) (by kernel_rfl) (narV x w) (narV_lt hx2 w) w'
      have SM : Hid (∀ w1 w2 w, Calls Tryz.prog 78 #[.float .f64 (wideV (narV x w1) w2), .float .f64 x] w fun e w' => e = .returned (.bool (isSD x)) ∧ w = w') := Lib.hid (fun w1 w2 w => by rw [← single_iff hx2 w1 w2]; exact Rsame_D _ x w)
      have hin2 : Within w (wideW (narV x wr) (narW x wr)) := hin.trans ((narW_in wr).trans (wideW_in _))
      have HX2 := Lib.hid hx2; clear hx2
      cases hf : isSD x
      · have hno : l.all isSD = false := all_false hlt (by rw [← HX.out]; exact hf)
        have HNO := Lib.hid hno
        rw [hf] at SM
        clear hno hf
        go_wp2_with fail
        refine (SM.out _ _ _).mono ?_; rintro e3 w3 ⟨rfl, rfl⟩
        go_wp2
        go_ret
        exact ⟨ret_bool HNO.out.symm, hin2⟩
      · have hnext : (l.take (k + 1)).all isSD = true := by rw [all_snoc hlt, HA.out, ← HX.out, hf]; rfl
        have HN := Lib.hid hnext
        rw [hf] at SM
        clear hnext hf
        go_wp2_with fail
        refine (SM.out _ _ _).mono ?_; rintro e3 w3 ⟨rfl, rfl⟩
        go_wp2
        go_roundw
        case rel => exact ⟨k + 1, hlt, by go_num, HN.out, hin2⟩
        case measure => simp [intOf]; omega
    · obtain rfl : k = l.length := by omega
      go_wp2
      go_ret
      exact ⟨ret_bool (by rw [← HA.out, List.take_of_length_le (Nat.le_refl _)]), hin⟩
end Go.Proofs.YtpmjlaiafgbjgaaGreatDoor
end

section
namespace Go.Proofs.YtpmjlaiafgbjgaaGreatDoor
section
variable {P : Program} {ops : Array Oper} {Q : Exit → Act → World → Prop} {md : Region.Mode} {S : World → Prop}
def OnlyN (Q : Exit → Act → World → Prop) : Exit → Act → World → Prop
  | .normal, a, w => Q .normal a w
  | _, _, _ => False
theorem OnlyN.imp {Q : Exit → Act → World → Prop} : ∀ (e : Exit) (a : Act) (w : World), OnlyN Q e a w → Q e a w := fun e a w h => by
  cases e <;> first | exact h | exact (h : False).elim
def wpAnyG (P : Program) (md : Region.Mode) (ops : Array Oper) (Q : Exit → Act → World → Prop) (S : World → Prop) (p : Nat) : Nat → Array Bool → Act → World → Prop
  | 0, listed, a, w => Region.ready md ops listed = [] ∧ Q .normal a w
  | fuel + 1, listed, a, w =>
    (Region.ready md ops listed = [] → Q .normal a w) ∧
    ∀ i ∈ Region.ready md ops listed, wpOp P ops Q i (fun a' w' => (i < p → S w') ∧ wpAnyG P md ops Q S p fuel (listed.setIfInBounds i true) a' w') a w
theorem wpAny_of_G {p : Nat} : ∀ (fuel : Nat) (listed : Array Bool) (a : Act) (w : World), wpAnyG P md ops Q S p fuel listed a w → wpAny P md ops Q fuel listed a w
  | 0, _, _, _, h => h
  | fuel + 1, _, _, _, h => ⟨h.1, fun i hi => wpOp_mono (fun _ _ h' => wpAny_of_G fuel _ _ _ h'.2) (h.2 i hi)⟩
theorem wpAnyG_first {p i : Nat} {oi : Oper} {v : Value} (hi : ops[i]? = some oi) (hsel : ∀ (j : Nat) (o : Oper) cs b, ops[j]? = some o → o.op ≠ .select cs b)
    (hQ : ∀ c a w, Q (.panic c) (a.put oi.dst v) w → Q (.panic c) a w) (hs : Region.sinkB md ops p = true) (hc : Region.chainB md ops p = true) (hn : p < ops.size) (hip : i < p) :
    ∀ (fuel : Nat) (listed : Array Bool) (a : Act) (w : World), HeadInv md ops p listed →
      (∀ j oj, ops[j]? = some oj → j ≠ i → listed.getD j true = false → (∀ e ∈ oj.after, Region.binds md e = true → e.on ≠ i) → oi.apart ops oj = true) →
      i ∈ Region.ready md ops listed → YieldsIf P ops S oi v a → S w →
      wpAnyG P md ops Q S p fuel (listed.setIfInBounds i true) (a.put oi.dst v) w → wpAnyG P md ops Q S p (fuel + 1) listed a w := by
  intro fuel
  induction fuel with
  | zero =>
    intro listed a w _ _ hr hy hS H
    refine ⟨fun h => (by rw [h] at hr; cases hr), fun j hj => ?_⟩
    by_cases hji : j = i
    · subst hji; exact hy.wpOp hi hS ⟨fun _ => hS, H⟩
    · have := ready_mono hj hji
      rw [H.1] at this
      cases this
  | succ fuel ih =>
    intro listed a w inv hfree hr hy hS H
    have hun := (mem_ready.1 hr).1
    refine ⟨fun h => (by rw [h] at hr; cases hr), fun j hj => ?_⟩
    have hjp : j < p := by
      rcases Nat.lt_or_ge j p with h | h
      · exact h
      · exact absurd hj (tail_waits hs hc hn inv _ i rfl hip hun j h)
    by_cases hji : j = i
    · subst hji; exact hy.wpOp hi hS ⟨fun _ => hS, H⟩
    · have h1 := H.2 j (ready_mono hj hji)
      obtain ⟨hjun, oj, hoj, hall⟩ := mem_ready.1 hj
      have hnot : ∀ e ∈ oj.after, Region.binds md e = true → e.on ≠ i := fun e he hb heq => by
        have h1 := hall e he hb
        rw [heq, getD_both hun] at h1
        cases h1
      have h2 := wpOp_putIf hoj (hfree j oj hoj hji hjun hnot) (fun cs b => hsel i oi cs b hi) (fun cs b => hsel j oj cs b hoj) hQ hy h1
      have hfree' : ∀ k ok, ops[k]? = some ok → k ≠ i → (listed.setIfInBounds j true).getD k true = false →
          (∀ e ∈ ok.after, Region.binds md e = true → e.on ≠ i) → oi.apart ops ok = true := fun k ok hk hki hun hno => by
        refine hfree k ok hk hki ?_ hno
        by_cases hjk : j = k
        · subst hjk; exact hjun
        · rw [getD_set_ne true hjk] at hun; exact hun
      refine wpOp_mono (fun a' w' h3 => ⟨fun _ => h3.2.1 hjp, ih (listed.setIfInBounds j true) a' w' (inv.set hj hjp) hfree' (ready_mono hr (Ne.symm hji)) h3.1 (h3.2.1 hjp) ?_⟩) h2
      rw [Array.setIfInBounds_comm _ _ hji]
      exact h3.2.2
def firmUpon (w : World) (v : Value) : Result Next → Prop
  | .ok (.value u) w' => w' = w ∧ u = v
  | _ => False
def firmAt (P : Program) (o : Oper) (a : Act) (w : World) (v : Value) : Prop := firmUpon w v ((execOp a.eval o).run P w)
theorem firmAt.run {o : Oper} {a : Act} {w : World} {v : Value} (h : firmAt P o a w v) : (execOp a.eval o).run P w = .ok (.value v) w := by
  unfold firmAt at h
  generalize (execOp a.eval o).run P w = r at *
  cases r with
  | ok n w' =>
    cases n <;> simp only [firmUpon] at h
    obtain ⟨rfl, rfl⟩ := h
    rfl
  | halt x w' => simp only [firmUpon] at h
variable {p k : Nat} {r : List (Nat × Bool)} {a : Act} {w : World}
/-! schedules with branches: two operations that may come up in either order -/
inductive Sch where
  | nil : Sch
  | firm (k : Nat) (r : Sch) : Sch
  | one (k : Nat) (r : Sch) : Sch
  | two (i : Nat) (r : Sch) (j : Nat) (s : Sch) : Sch
def Sch.late : Sch → Bool
  | .nil => true
  | .one _ r => r.late
  | _ => false
def Sch.long : Sch → Nat → Bool
  | .nil, n => decide (n = 0)
  | .firm _ r, n => decide (0 < n) && r.long (n - 1)
  | .one _ r, n => decide (0 < n) && r.long (n - 1)
  | .two _ r _ s, n => decide (0 < n) && r.long (n - 1) && s.long (n - 1)
def Sch.ok (md : Region.Mode) (ops : Array Oper) (p : Nat) : Sch → Array Bool → Bool
  | .nil, listed => (Region.ready md ops listed).isEmpty
  | .firm k r, listed => (Region.ready md ops listed).contains k && Region.free md ops listed k && decide (k < p) && r.ok md ops p (listed.setIfInBounds k true)
  | .one k r, listed => decide (Region.ready md ops listed = [k]) && (decide (k < p) || r.late) && r.ok md ops p (listed.setIfInBounds k true)
  | .two i r j s, listed => decide (Region.ready md ops listed = [i, j]) && decide (i < p) && decide (j < p) && r.ok md ops p (listed.setIfInBounds i true) && s.ok md ops p (listed.setIfInBounds j true)
def wpSch (P : Program) (ops : Array Oper) (Q : Exit → Act → World → Prop) (S : World → Prop) (p : Nat) : Sch → Act → World → Prop
  | .nil, a, w => Q .normal a w
  | .firm k r, a, w => S w ∧ ∃ o v, ops[k]? = some o ∧ YieldsIf P ops S o v a ∧ wpSch P ops Q S p r (a.put o.dst v) w
  | .one k r, a, w => wpOp P ops Q k (fun a' w' => (k < p → S w') ∧ wpSch P ops Q S p r a' w') a w
  | .two i r j s, a, w => wpOp P ops Q i (fun a' w' => S w' ∧ wpSch P ops Q S p r a' w') a w ∧ wpOp P ops Q j (fun a' w' => S w' ∧ wpSch P ops Q S p s a' w') a w
theorem wpAnyG_sch {p : Nat} (hsel : Region.noSelect ops = true) (hQ : ∀ c a d v w, Q (.panic c) (a.put d v) w → Q (.panic c) a w) (hs : Region.sinkB md ops p = true) (hc : Region.chainB md ops p = true) (hn : p < ops.size) :
    ∀ (t : Sch) (n : Nat) (listed : Array Bool) (a : Act) (w : World), t.long n = true → (HeadInv md ops p listed ∨ t.late = true) → t.ok md ops p listed = true → wpSch P ops Q S p t a w → wpAnyG P md ops Q S p n listed a w := by
  intro t
  induction t with
  | nil =>
    intro n listed a w hl _ hB h
    simp only [Sch.long, decide_eq_true_eq] at hl
    subst hl
    exact ⟨by simpa [Sch.ok] using hB, h⟩
  | firm k r ih =>
    intro n listed a w hl inv hB h
    simp only [Sch.long, Bool.and_eq_true, decide_eq_true_eq] at hl
    obtain ⟨m, rfl⟩ : ∃ m, n = m + 1 := ⟨n - 1, by omega⟩
    simp only [Sch.ok, Bool.and_eq_true, decide_eq_true_eq] at hB
    obtain ⟨⟨⟨hr, hf⟩, hkp⟩, hB'⟩ := hB
    obtain ⟨hS, o, v, ho, hy, hK⟩ := h
    have inv' : HeadInv md ops p listed := by
      rcases inv with h | h
      · exact h
      · simp [Sch.late] at h
    have hr' : k ∈ Region.ready md ops listed := by simpa using hr
    exact wpAnyG_first ho (Region.noSelect_spec hsel) (fun c a w => hQ c a _ _ w) hs hc hn hkp m listed a w inv' (Region.free_spec ho hf) hr' hy hS
      (ih m _ _ _ hl.2 (.inl (inv'.set hr' hkp)) hB' hK)
  | one k r ih =>
    intro n listed a w hl inv hB h
    simp only [Sch.long, Bool.and_eq_true, decide_eq_true_eq] at hl
    obtain ⟨m, rfl⟩ : ∃ m, n = m + 1 := ⟨n - 1, by omega⟩
    simp only [Sch.ok, Bool.and_eq_true, decide_eq_true_eq, Bool.or_eq_true] at hB
    obtain ⟨⟨hr, hd⟩, hB'⟩ := hB
    refine ⟨fun h0 => (by rw [hr] at h0; cases h0), fun i hi => ?_⟩
    have hi' : k ∈ Region.ready md ops listed := by rw [hr]; exact List.mem_singleton.2 rfl
    rw [hr] at hi
    have hik : i = k := by simpa using hi
    subst hik
    refine wpOp_mono (fun a' w' h' => ⟨h'.1, ih m _ _ _ hl.2 ?_ hB' h'.2⟩) h
    rcases inv with inv | inv
    · rcases hd with hd | hd
      · exact .inl (inv.set hi' hd)
      · exact .inr hd
    · exact .inr inv
  | two i r j s ih1 ih2 =>
    intro n listed a w hl inv hB h
    simp only [Sch.long, Bool.and_eq_true, decide_eq_true_eq] at hl
    obtain ⟨m, rfl⟩ : ∃ m, n = m + 1 := ⟨n - 1, by omega⟩
    simp only [Sch.ok, Bool.and_eq_true, decide_eq_true_eq] at hB
    obtain ⟨⟨⟨⟨hr, hip⟩, hjp⟩, hB1⟩, hB2⟩ := hB
    have inv' : HeadInv md ops p listed := by
      rcases inv with h | h
      · exact h
      · simp [Sch.late] at h
    refine ⟨fun h0 => (by rw [hr] at h0; cases h0), fun q hq => ?_⟩
    have hi' : i ∈ Region.ready md ops listed := by rw [hr]; simp
    have hj' : j ∈ Region.ready md ops listed := by rw [hr]; simp
    rw [hr] at hq
    rcases List.mem_cons.1 hq with e | e
    · subst e
      exact wpOp_mono (fun a' w' h' => ⟨fun _ => h'.1, ih1 m _ _ _ hl.1.2 (.inl (inv'.set hi' hip)) hB1 h'.2⟩) h.1
    · have e' : q = j := by simpa using e
      subst e'
      exact wpOp_mono (fun a' w' h' => ⟨fun _ => h'.1, ih2 m _ _ _ hl.2 (.inl (inv'.set hj' hjp)) hB2 h'.2⟩) h.2
def Sch.okAll (ops : Array Oper) (p : Nat) (t : Sch) : Bool :=
  Region.noSelect ops && decide (p < ops.size) && Region.sinkB .any ops p && Region.chainB .any ops p && t.long ops.size && t.ok .any ops p (Array.replicate ops.size false)
theorem wp_region_sch {id : Nat} {a : Act} {w : World} (S : World → Prop) (p : Nat) (t : Sch) (hm : P.follows .mixedOrders = true) (hB : t.okAll ops p = true) (hS : S w.drew)
    (h : S w.drew → wpSch P ops (OnlyN Q) S p t a w.drew) : (Code.region id ops true).wp P Q a w := by
  simp only [Sch.okAll, Bool.and_eq_true, decide_eq_true_eq] at hB
  obtain ⟨⟨⟨⟨⟨hsel, hn⟩, hs⟩, hc⟩, hlen⟩, hsc⟩ := hB
  have inv0 : HeadInv .any ops p (Array.replicate ops.size false) :=
    ⟨by simp, fun j oj _ hl => (by rw [getD_replicate_false] at hl; cases hl), fun t _ ht => getD_in (by simpa using ht) (getD_replicate_false _ _)⟩
  exact Code.wp_mono OnlyN.imp (wp_region_any hm (wpAny_of_G _ _ _ _ (wpAnyG_sch (md := .any) (S := S) hsel (Q := OnlyN Q) (fun c a d v w h => h) hs hc hn t _ _ a w.drew hlen (.inl inv0) hsc (h hS))))
variable {t u : Sch} {i j : Nat}
theorem sch_nil (h : Q .normal a w) : wpSch P ops (OnlyN Q) S p .nil a w := h
theorem sch_firm {o : Oper} {v : Value} (ho : ops.toList[k]? = some o) (hg : o.guard = none) (hS : S w) (h1 : ∀ w, S w → firmAt P o a w v) (h2 : wpSch P ops (OnlyN Q) S p t (a.put o.dst v) w) : wpSch P ops (OnlyN Q) S p (.firm k t) a w :=
  ⟨hS, o, v, (Array.getElem?_toList ▸ ho), .inl ⟨by simp [Region.wanted, hg], fun w hw => (h1 w hw).run⟩, h2⟩
theorem sch_want {o : Oper} {v : Value} (ho : ops.toList[k]? = some o) (hg : Region.wanted o (yielded ops a.tmps) = true) (hS : S w) (h1 : ∀ w, S w → firmAt P o a w v) (h2 : wpSch P ops (OnlyN Q) S p t (a.put o.dst v) w) : wpSch P ops (OnlyN Q) S p (.firm k t) a w :=
  ⟨hS, o, v, (Array.getElem?_toList ▸ ho), .inl ⟨hg, fun w hw => (h1 w hw).run⟩, h2⟩
theorem sch_skip {o : Oper} (ho : ops.toList[k]? = some o) (hg : Region.wanted o (yielded ops a.tmps) = false) (hS : S w) (h2 : wpSch P ops (OnlyN Q) S p t (a.put o.dst undef) w) : wpSch P ops (OnlyN Q) S p (.firm k t) a w :=
  ⟨hS, o, undef, (Array.getElem?_toList ▸ ho), .inr ⟨hg, rfl⟩, h2⟩
theorem sch_op {o : Oper} {R : Act → World → Prop} (ho : ops.toList[k]? = some o) (hg : o.guard = none) (h : ∀ K : Act → World → Prop, (∀ a' w', R a' w' → K a' w') → o.wp P a w K (OnlyN Q)) : wpOp P ops (OnlyN Q) k R a w := by
  unfold wpOp
  rw [Array.getElem?_toList] at ho
  simp only [ho]
  rw [if_pos (by simp [Region.wanted, hg])]
  exact .inl (h _ fun a' w' hr => hr)
theorem sch_one {o : Oper} (ho : ops.toList[k]? = some o) (hg : o.guard = none) (h : ∀ K : Act → World → Prop, (∀ a' w', (k < p → S w') → wpSch P ops (OnlyN Q) S p t a' w' → K a' w') → o.wp P a w K (OnlyN Q)) : wpSch P ops (OnlyN Q) S p (.one k t) a w :=
  sch_op ho hg fun K hK => h K fun a' w' hS hr => hK a' w' ⟨hS, hr⟩
theorem sch_two {o o' : Oper} (ho : ops.toList[i]? = some o) (hg : o.guard = none) (ho' : ops.toList[j]? = some o') (hg' : o'.guard = none)
    (h : ∀ K : Act → World → Prop, (∀ a' w', S w' → wpSch P ops (OnlyN Q) S p t a' w' → K a' w') → o.wp P a w K (OnlyN Q))
    (h' : ∀ K : Act → World → Prop, (∀ a' w', S w' → wpSch P ops (OnlyN Q) S p u a' w' → K a' w') → o'.wp P a w K (OnlyN Q)) : wpSch P ops (OnlyN Q) S p (.two i t j u) a w :=
  ⟨sch_op ho hg fun K hK => h K fun a' w' hS hr => hK a' w' ⟨hS, hr⟩, sch_op ho' hg' fun K hK => h' K fun a' w' hS hr => hK a' w' ⟨hS, hr⟩⟩
theorem wp_region_schW {id : Nat} {a : Act} {w : World} (p : Nat) (t : Sch) (hm : P.follows .mixedOrders = true) (hB : t.okAll ops p = true)
    (h : wpSch P ops (OnlyN Q) (Within w) p t a w.drew) : (Code.region id ops true).wp P Q a w :=
  wp_region_sch (Within w) p t hm hB (Within.refl w).drew fun _ => h
theorem wp_region_schG {id : Nat} {a : Act} {w : World} (F : World → Prop) (p : Nat) (t : Sch) (hm : P.follows .mixedOrders = true) (hB : t.okAll ops p = true) (hF : F w)
    (h : ∀ w0, F w0 → wpSch P ops (OnlyN Q) (Within w0) p t a w0.drew) : (Code.region id ops true).wp P Q a w := wp_region_schW p t hm hB (h w hF)
end
end Go.Proofs.YtpmjlaiafgbjgaaGreatDoor
end

section
namespace Go.Proofs.YtpmjlaiafgbjgaaGreatDoor
open Go.RowKit
attribute [go_sem] firmAt firmUpon
section
variable {P : Program} {ops : Array Oper} {Q : Exit → Act → World → Prop} {S : World → Prop} {p k : Nat} {a : Act} {w : World} {t : Sch}
theorem sch_one_want {o : Oper} (ho : ops.toList[k]? = some o) (hg : Region.wanted o (yielded ops a.tmps) = true) (h : ∀ K : Act → World → Prop, (∀ a' w', (k < p → S w') → wpSch P ops (OnlyN Q) S p t a' w' → K a' w') → o.wp P a w K (OnlyN Q)) : wpSch P ops (OnlyN Q) S p (.one k t) a w := by
  show wpOp P ops (OnlyN Q) k _ a w
  unfold wpOp
  rw [Array.getElem?_toList] at ho
  simp only [ho]
  rw [if_pos hg]
  exact .inl (h _ fun a' w' hS hr => ⟨hS, hr⟩)
theorem sch_one_skip {o : Oper} (ho : ops.toList[k]? = some o) (hg : Region.wanted o (yielded ops a.tmps) = false) (hS : S w) (h2 : wpSch P ops (OnlyN Q) S p t (a.put o.dst undef) w) : wpSch P ops (OnlyN Q) S p (.one k t) a w := by
  show wpOp P ops (OnlyN Q) k _ a w
  unfold wpOp
  rw [Array.getElem?_toList] at ho
  simp only [ho]
  rw [if_neg (by rw [hg]; decide)]
  exact ⟨fun _ => hS, h2⟩
theorem wp_region_schB {Q : Exit → Act → World → Prop} {id : Nat} {a : Act} {w : World} (base : Nat) (F : World → Prop) (p : Nat) (t : Sch) (hm : P.follows .mixedOrders = true) (hB : t.okAll ops p = true) (hF : F w)
    (h : ∀ w0, F w0 → wpSch P ops (OnlyN Q) (Below base w0) p t a w0.drew) : (Code.region id ops true).wp P Q a w := wp_region_sch (Below base w) p t hm hB ((Below.refl base w).drew) fun _ => h w hF
end
end Go.Proofs.YtpmjlaiafgbjgaaGreatDoor
end

section
namespace Go.Proofs.YtpmjlaiafgbjgaaGreatDoor
open Go.RowKit
set_option maxRecDepth 100000 in
set_option maxHeartbeats 600000 in
theorem Rof64_any (A : Option Addr) (c : Nat) (l : List Nat) (hw : Words64 l) (hl : l.length * 8 ≤ 140737488355328) (w : World) (hr : SlAt w A (u64v l)) : Calls Tryz.prog 49 #[.slice A l.length c] w fun e w' => ∃ v, e = .returned v ∧ OwnF w' w.heap.size v l ∧ Within w w' := by
  have HW := Lib.hid hw; have HR := Lib.hid hr; have HL := Lib.hid hl; have hl2 : l.length ≤ 1152921504606846976 := by omega
  clear hw hr hl
  go_enter Tryz.func49, Tryz.ntmps49
  go_wp2
  go_loopw [3, 8] (fun xv iv wr => ∃ k : Nat, k ≤ l.length ∧ iv = .int .i64 (k : Int) ∧ OwnF wr w.heap.size xv (l.take k) ∧ Within w wr) (fun _ iv _ => l.length - (intOf iv).toNat)
  case atStart => exact ⟨0, Nat.zero_le _, rfl, OwnF.nil_ _ _, Within.refl _⟩
  case round =>
    obtain ⟨k, hk, rfl, hown, hin⟩ := hrel
    obtain ⟨L, hL⟩ : ∃ L, L = l.take k := ⟨_, rfl⟩
    have hLl : L.length = k := by rw [hL, List.length_take]; omega
    rw [← hL] at hown
    have hbr : w.heap.size ≤ wr.heap.size := hin.size
    by_cases hlt : k < l.length
    · obtain ⟨ad, rfl, hblk, hc⟩ := (HR.out.of hin).at hlt
      obtain ⟨x, hx⟩ : ∃ x, x = l.getD k 0 := ⟨_, rfl⟩
      have hx2 : x < 18446744073709551616 := by rw [hx]; exact HW.out.at hlt
      rw [← hx] at hc
      obtain ⟨A', c', rfl, _, _, _⟩ := hown.form
      obtain ⟨v', w', hrun, hown', hbl'⟩ := run_app_float wr w.heap.size _ _ x hown (by have := HL.out; omega) hbr
      have RUN := Lib.hid hrun
      have hnext : L ++ [x] = l.take (k + 1) := by rw [take_snoc_getD hlt, hL, hx]
      have HN := Lib.hid hnext; have HOW := Lib.hid hown'
      clear hrun hown hown' hnext hL hx
      generalize L.length = n at *
      go_wp2_with (at_builtin; refine wpList_append_run rfl (.tmp 12) (.tmp 15) 62 rfl _ _ rfl rfl RUN.out ?_)
      go_roundw
      case rel => exact ⟨k + 1, hlt, by go_num, HN.out ▸ HOW.out, Below.trans hin hbl'⟩
      case measure => simp [intOf]; omega
    · obtain rfl : k = l.length := by omega
      have HOW := Lib.hid hown; have HLE := Lib.hid hL; clear hL hown hLl
      go_wp2
      go_ret
      exact ⟨_, rfl, (by have := HLE.out; rw [List.take_of_length_le (Nat.le_refl _)] at this; exact this ▸ HOW.out), hin⟩
set_option maxRecDepth 100000 in
set_option maxHeartbeats 600000 in
theorem Of_any (s q t : Int) (A : Option Addr) (c : Nat) (l : List Nat) (hw : Words64 l) (hl : l.length * 8 ≤ 140737488355328) (w : World) (hr : SlAt w A (u64v l)) : Calls Tryz.prog 26 #[.agg #[.int .i64 s, .int .u32 q, .int .u32 t, .slice A l.length c]] w fun e w' => ∃ v, e = .returned (.agg #[.int .i64 s, .int .u32 q, .int .u32 t, v]) ∧ OwnF w' w.heap.size v l ∧ Within w w' := by
  have OF := Lib.hid (fun w (hr : SlAt w A (u64v l)) => Rof64_any A c l hw hl w hr)
  have HR := Lib.hid hr; clear hw hr hl
  have HN : Hid (OwnF w w.heap.size (.slice none 0 0) []) := Lib.hid (OwnF.nil_ _ _)
  go_enter Tryz.func26, Tryz.ntmps26
  go_upto_region 1 with fail
  refine wp_region_schG (fun W => W.cell? ⟨w.heap.size, 0, none⟩ = some (.int .i64 s) ∧ W.cell? ⟨w.heap.size, 1, none⟩ = some (.int .u32 q) ∧ W.cell? ⟨w.heap.size, 2, none⟩ = some (.int .u32 t) ∧ W.cell? ⟨w.heap.size, 3, none⟩ = some (.slice A l.length c) ∧ W.cell? ⟨w.heap.size + 1, 0, none⟩ = some (.int .i64 0) ∧ W.cell? ⟨w.heap.size + 1, 1, none⟩ = some (.int .u32 0) ∧ W.cell? ⟨w.heap.size + 1, 2, none⟩ = some (.int .u32 0) ∧ W.cell? ⟨w.heap.size + 1, 3, none⟩ = some (.slice none 0 0) ∧ (∀ o, W.frozen? ⟨w.heap.size + 1, o, none⟩ = false) ∧ SlAt W A (u64v l) ∧ Within ((w.alloc (.cells #[.int .i64 s, .int .u32 q, .int .u32 t, .slice A l.length c] 51)).alloc (.cells #[.int .i64 0, .int .u32 0, .int .u32 0, .slice none 0 0] 64)) W ∧ w.heap.size < W.heap.size ∧ w.heap.size + 1 < W.heap.size) 10 (.firm 0 (.firm 1 (.firm 2 (.firm 3 (.firm 4 (.firm 5 (.firm 6 (.firm 7 (.one 8 (.firm 9 (.one 10 .nil))))))))))) (by kernel_rfl) (by kernel_rfl) ⟨by go_simp, by go_simp, by go_simp, by go_simp, by go_simp, by go_simp, by go_simp, by go_simp, fun o => by go_simp, HR.out.of (((Within.refl w).alloc _).alloc _), Within.refl _, by simp; omega, by simp⟩ ?_
  rintro w0 ⟨c0, c1, c2, c3, c4, c5, c6, c7, hf, hs, hw0, hz0, hz1⟩
  try simp only [Act.put, List.setIfInBounds_toArray, List.set_cons_zero, List.set_cons_succ]
  iterate 8
    apply sch_firm rfl rfl (by repeat (first | with_reducible exact Within.refl _ | with_reducible assumption | with_reducible refine Within.alloc ?_ _ | with_reducible refine Within.drew ?_ | with_reducible refine Within.drewN ?_ _ | with_reducible refine Within.setCell ?_ (by first | (simp; done) | (simp; omega)) _ | with_reducible refine Within.trans ?_ (by assumption)))
    · intro wq hq
      have hcq := hq.cells
      clear hq
      go_simp
      rfl
    try simp only [Act.put, List.setIfInBounds_toArray, List.set_cons_zero, List.set_cons_succ]
  refine sch_one rfl rfl (fun K hK => ?_)
  go_simp
  refine (OF.out _ (hs.of ((Within.refl _).drew))).mono ?_; rintro e1 w1 ⟨v, rfl, hown, hb1⟩
  obtain ⟨A1, k1, rfl, _, _, _⟩ := hown.form
  have hv1 : Within w0 w1 := (by repeat (first | with_reducible exact Within.refl _ | with_reducible assumption | with_reducible refine Within.alloc ?_ _ | with_reducible refine Within.drew ?_ | with_reducible refine Within.drewN ?_ _ | with_reducible refine Within.setCell ?_ (by first | (simp; done) | (simp; omega)) _ | with_reducible refine Within.trans ?_ (by assumption)))
  have q0 := (hv1.cells _ 0 hz1).trans c4
  have q1 := (hv1.cells _ 1 hz1).trans c5
  have q2 := (hv1.cells _ 2 hz1).trans c6
  have q3 := (hv1.cells _ 3 hz1).trans c7
  have qf : ∀ o, w1.frozen? ⟨w.heap.size + 1, o, none⟩ = false := fun o => (hv1.frozens _ o hz1).trans (hf o)
  have hz2 : w.heap.size + 1 < w1.heap.size := Nat.lt_of_lt_of_le hz1 hv1.size
  refine hK _ _ (fun _ => (by repeat (first | with_reducible exact Within.refl _ | with_reducible assumption | with_reducible refine Within.alloc ?_ _ | with_reducible refine Within.drew ?_ | with_reducible refine Within.drewN ?_ _ | with_reducible refine Within.setCell ?_ (by first | (simp; done) | (simp; omega)) _ | with_reducible refine Within.trans ?_ (by assumption)))) ?_
  clear hK K
  try simp only [Act.put, List.setIfInBounds_toArray, List.set_cons_zero, List.set_cons_succ]
  apply sch_firm rfl rfl (by repeat (first | with_reducible exact Within.refl _ | with_reducible assumption | with_reducible refine Within.alloc ?_ _ | with_reducible refine Within.drew ?_ | with_reducible refine Within.drewN ?_ _ | with_reducible refine Within.setCell ?_ (by first | (simp; done) | (simp; omega)) _ | with_reducible refine Within.trans ?_ (by assumption)))
  · intro wq hq
    have hcq := hq.cells
    clear hq
    go_simp
    rfl
  try simp only [Act.put, List.setIfInBounds_toArray, List.set_cons_zero, List.set_cons_succ]
  refine sch_one rfl rfl (fun K hK => ?_)
  go_simp
  refine hK _ _ (fun h => absurd h (by decide)) ?_
  clear hK K
  try simp only [Act.put, List.setIfInBounds_toArray, List.set_cons_zero, List.set_cons_succ]
  refine sch_nil ?_
  go_wp2
  refine bodyPost_ret (v := .agg #[.int .i64 s, .int .u32 q, .int .u32 t, .slice A1 l.length k1]) (by simp [results, Tryz.results26, go_sem, q0, q1, q2, q3]) rfl ⟨_, rfl, ?_, ?_⟩
  · exact (((((OwnF.less hown (Nat.le_refl _) : OwnF w1 w0.heap.size _ l).set hz1 _).set hz1 _).set hz1 _).set hz1 _).less (by omega)
  · exact (by repeat (first | with_reducible exact Within.refl _ | with_reducible assumption | with_reducible refine Within.alloc ?_ _ | with_reducible refine Within.drew ?_ | with_reducible refine Within.drewN ?_ _ | with_reducible refine Within.setCell ?_ (by first | (simp; done) | (simp; omega)) _ | with_reducible refine Within.trans ?_ (by assumption)))
set_option maxRecDepth 100000 in
set_option maxHeartbeats 600000 in
theorem Check_neg (s : Int) (q t : Value) (A : Option Addr) (c : Nat) (l : List Nat) (h : decide (s < 0) = true) (w : World) : Calls Tryz.prog 76 #[.agg #[.int .i64 s, q, t, .slice A l.length c]] w fun e w' => e = .returned (.int .i64 (210)) ∧ Within w w' := by
  go_enter Tryz.func76, Tryz.ntmps76
  go_wp2
  go_ret
  exact ⟨rfl, (by repeat (first | with_reducible exact Within.refl _ | with_reducible assumption | with_reducible refine Within.alloc ?_ _ | with_reducible refine Within.drew ?_ | with_reducible refine Within.drewN ?_ _ | with_reducible refine Within.setCell ?_ (by first | (simp; done) | (simp; omega)) _ | with_reducible refine Within.trans ?_ (by assumption)))⟩
set_option maxRecDepth 100000 in
set_option maxHeartbeats 600000 in
theorem Check_high (s : Int) (q t : Value) (A : Option Addr) (c : Nat) (l : List Nat) (h0 : decide (s < 0) = false) (h : decide (s ≥ 64) = true) (w : World) : Calls Tryz.prog 76 #[.agg #[.int .i64 s, q, t, .slice A l.length c]] w fun e w' => e = .returned (.int .i64 (210)) ∧ Within w w' := by
  go_enter Tryz.func76, Tryz.ntmps76
  go_wp2
  go_ret
  exact ⟨rfl, (by repeat (first | with_reducible exact Within.refl _ | with_reducible assumption | with_reducible refine Within.alloc ?_ _ | with_reducible refine Within.drew ?_ | with_reducible refine Within.drewN ?_ _ | with_reducible refine Within.setCell ?_ (by first | (simp; done) | (simp; omega)) _ | with_reducible refine Within.trans ?_ (by assumption)))⟩
set_option maxRecDepth 100000 in
set_option maxHeartbeats 600000 in
theorem Check_long (s : Int) (q t : Value) (A : Option Addr) (c : Nat) (l : List Nat) (h0 : decide (s < 0) = false) (h1 : decide (s ≥ 64) = false) (h : 6 < l.length) (hl : l.length ≤ 1152921504606846976) (w : World) : Calls Tryz.prog 76 #[.agg #[.int .i64 s, q, t, .slice A l.length c]] w fun e w' => e = .returned (.int .i64 (210)) ∧ Within w w' := by
  go_enter Tryz.func76, Tryz.ntmps76
  go_wp2
  go_ret
  exact ⟨rfl, (by repeat (first | with_reducible exact Within.refl _ | with_reducible assumption | with_reducible refine Within.alloc ?_ _ | with_reducible refine Within.drew ?_ | with_reducible refine Within.drewN ?_ _ | with_reducible refine Within.setCell ?_ (by first | (simp; done) | (simp; omega)) _ | with_reducible refine Within.trans ?_ (by assumption)))⟩
set_option maxRecDepth 100000 in
set_option maxHeartbeats 600000 in
theorem Check_yes (s : Int) (q t : Value) (A : Option Addr) (c : Nat) (l : List Nat) (h0 : decide (s < 0) = false) (h1 : decide (s ≥ 64) = false) (h : l.length ≤ 6) (FI : Hid (∀ w, SlAt w A (f64v l) → Calls Tryz.prog 70 #[.slice A l.length c] w fun e w' => e = .returned (.bool true) ∧ Within w w')) (w : World) (hr : SlAt w A (f64v l)) : Calls Tryz.prog 76 #[.agg #[.int .i64 s, q, t, .slice A l.length c]] w fun e w' => e = .returned (.int .i64 (0)) ∧ Within w w' := by
  have HR := Lib.hid hr; clear hr
  go_enter Tryz.func76, Tryz.ntmps76
  go_wp2_with fail
  refine (FI.out _ (HR.out.of (by repeat (first | with_reducible exact Within.refl _ | with_reducible assumption | with_reducible refine Within.alloc ?_ _ | with_reducible refine Within.drew ?_ | with_reducible refine Within.drewN ?_ _ | with_reducible refine Within.setCell ?_ (by first | (simp; done) | (simp; omega)) _ | with_reducible refine Within.trans ?_ (by assumption))))).mono ?_; rintro e1 w1 ⟨rfl, hb1⟩
  go_wp2
  go_ret
  exact ⟨rfl, (by repeat (first | with_reducible exact Within.refl _ | with_reducible assumption | with_reducible refine Within.alloc ?_ _ | with_reducible refine Within.drew ?_ | with_reducible refine Within.drewN ?_ _ | with_reducible refine Within.setCell ?_ (by first | (simp; done) | (simp; omega)) _ | with_reducible refine Within.trans ?_ (by assumption)))⟩
set_option maxRecDepth 100000 in
set_option maxHeartbeats 600000 in
theorem Check_no (s : Int) (q t : Value) (A : Option Addr) (c : Nat) (l : List Nat) (h0 : decide (s < 0) = false) (h1 : decide (s ≥ 64) = false) (h : l.length ≤ 6) (FI : Hid (∀ w, SlAt w A (f64v l) → Calls Tryz.prog 70 #[.slice A l.length c] w fun e w' => e = .returned (.bool false) ∧ Within w w')) (w : World) (hr : SlAt w A (f64v l)) : Calls Tryz.prog 76 #[.agg #[.int .i64 s, q, t, .slice A l.length c]] w fun e w' => e = .returned (.int .i64 (4)) ∧ Within w w' := by
  have HR := Lib.hid hr; clear hr
  go_enter Tryz.func76, Tryz.ntmps76
  go_wp2_with fail
  refine (FI.out _ (HR.out.of (by repeat (first | with_reducible exact Within.refl _ | with_reducible assumption | with_reducible refine Within.alloc ?_ _ | with_reducible refine Within.drew ?_ | with_reducible refine Within.drewN ?_ _ | with_reducible refine Within.setCell ?_ (by first | (simp; done) | (simp; omega)) _ | with_reducible refine Within.trans ?_ (by assumption))))).mono ?_; rintro e1 w1 ⟨rfl, hb1⟩
  go_wp2
  go_ret
  exact ⟨rfl, (by repeat (first | with_reducible exact Within.refl _ | with_reducible assumption | with_reducible refine Within.alloc ?_ _ | with_reducible refine Within.drew ?_ | with_reducible refine Within.drewN ?_ _ | with_reducible refine Within.setCell ?_ (by first | (simp; done) | (simp; omega)) _ | with_reducible refine Within.trans ?_ (by assumption)))⟩
theorem Check_any (s : Int) (q t : Value) (A : Option Addr) (c : Nat) (l : List Nat) (hw : Words64 l) (hl : l.length ≤ 1152921504606846976) (w : World) (hr : SlAt w A (f64v l)) : Calls Tryz.prog 76 #[.agg #[.int .i64 s, q, t, .slice A l.length c]] w fun e w' => e = .returned (.int .i64 (checkV pf s l)) ∧ Within w w' := by
  unfold checkV
  by_cases h0 : s < 0
  · rw [if_pos (.inl h0)]; exact Check_neg s q t A c l (decide_eq_true h0) w
  by_cases h1 : 64 ≤ s
  · rw [if_pos (.inr (.inl h1))]; exact Check_high s q t A c l (decide_eq_false h0) (decide_eq_true h1) w
  by_cases h2 : 6 < l.length
  · rw [if_pos (.inr (.inr h2))]; exact Check_long s q t A c l (decide_eq_false h0) (decide_eq_false h1) h2 hl w
  rw [if_neg (by omega)]
  have FI := Lib.hid (fun w h => Finite_any A c l hw hl w h)
  have e : l.all pf.fin = l.all finD := rfl
  rw [e]
  cases hf : l.all finD
  · rw [hf] at FI; rw [if_neg Bool.false_ne_true]; exact Check_no s q t A c l (decide_eq_false h0) (decide_eq_false h1) (by omega) FI w hr
  · rw [hf] at FI; rw [if_pos rfl]; exact Check_yes s q t A c l (decide_eq_false h0) (decide_eq_false h1) (by omega) FI w hr
set_option maxRecDepth 100000 in
set_option maxHeartbeats 600000 in
theorem Rcheck_neg (s : Int) (q t : Value) (A : Option Addr) (c : Nat) (l : List Nat) (h : decide (s < 0) = true) (w : World) : Calls Tryz.prog 51 #[.agg #[.int .i64 s, q, t, .slice A l.length c]] w fun e w' => e = .returned (.int .i64 (210)) ∧ Within w w' := by
  go_enter Tryz.func51, Tryz.ntmps51
  go_wp2
  go_ret
  exact ⟨rfl, (by repeat (first | with_reducible exact Within.refl _ | with_reducible assumption | with_reducible refine Within.alloc ?_ _ | with_reducible refine Within.drew ?_ | with_reducible refine Within.drewN ?_ _ | with_reducible refine Within.setCell ?_ (by first | (simp; done) | (simp; omega)) _ | with_reducible refine Within.trans ?_ (by assumption)))⟩
set_option maxRecDepth 100000 in
set_option maxHeartbeats 600000 in
theorem Rcheck_high (s : Int) (q t : Value) (A : Option Addr) (c : Nat) (l : List Nat) (h0 : decide (s < 0) = false) (h : decide (s ≥ 64) = true) (w : World) : Calls Tryz.prog 51 #[.agg #[.int .i64 s, q, t, .slice A l.length c]] w fun e w' => e = .returned (.int .i64 (210)) ∧ Within w w' := by
  go_enter Tryz.func51, Tryz.ntmps51
  go_wp2
  go_ret
  exact ⟨rfl, (by repeat (first | with_reducible exact Within.refl _ | with_reducible assumption | with_reducible refine Within.alloc ?_ _ | with_reducible refine Within.drew ?_ | with_reducible refine Within.drewN ?_ _ | with_reducible refine Within.setCell ?_ (by first | (simp; done) | (simp; omega)) _ | with_reducible refine Within.trans ?_ (by assumption)))⟩
set_option maxRecDepth 100000 in
set_option maxHeartbeats 600000 in
theorem Rcheck_long (s : Int) (q t : Value) (A : Option Addr) (c : Nat) (l : List Nat) (h0 : decide (s < 0) = false) (h1 : decide (s ≥ 64) = false) (h : 6 < l.length) (hl : l.length ≤ 1152921504606846976) (w : World) : Calls Tryz.prog 51 #[.agg #[.int .i64 s, q, t, .slice A l.length c]] w fun e w' => e = .returned (.int .i64 (210)) ∧ Within w w' := by
  go_enter Tryz.func51, Tryz.ntmps51
  go_wp2
  go_ret
  exact ⟨rfl, (by repeat (first | with_reducible exact Within.refl _ | with_reducible assumption | with_reducible refine Within.alloc ?_ _ | with_reducible refine Within.drew ?_ | with_reducible refine Within.drewN ?_ _ | with_reducible refine Within.setCell ?_ (by first | (simp; done) | (simp; omega)) _ | with_reducible refine Within.trans ?_ (by assumption)))⟩
set_option maxRecDepth 100000 in
set_option maxHeartbeats 600000 in
theorem Rcheck_yes (s : Int) (q t : Value) (A : Option Addr) (c : Nat) (l : List Nat) (h0 : decide (s < 0) = false) (h1 : decide (s ≥ 64) = false) (h : l.length ≤ 6) (FI : Hid (∀ w, SlAt w A (f64v l) → Calls Tryz.prog 75 #[.slice A l.length c] w fun e w' => e = .returned (.bool true) ∧ Within w w')) (w : World) (hr : SlAt w A (f64v l)) : Calls Tryz.prog 51 #[.agg #[.int .i64 s, q, t, .slice A l.length c]] w fun e w' => e = .returned (.int .i64 (0)) ∧ Within w w' := by
  have HR := Lib.hid hr; clear hr
  go_enter Tryz.func51, Tryz.ntmps51
  go_wp2_with fail
  refine (FI.out _ (HR.out.of (by repeat (first | with_reducible exact Within.refl _ | with_reducible assumption | with_reducible refine Within.alloc ?_ _ | with_reducible refine Within.drew ?_ | with_reducible refine Within.drewN ?_ _ | with_reducible refine Within.setCell ?_ (by first | (simp; done) | (simp; omega)) _ | with_reducible refine Within.trans ?_ (by assumption))))).mono ?_; rintro e1 w1 ⟨rfl, hb1⟩
  go_wp2
  go_ret
  exact ⟨rfl, (by repeat (first | with_reducible exact Within.refl _ | with_reducible assumption | with_reducible refine Within.alloc ?_ _ | with_reducible refine Within.drew ?_ | with_reducible refine Within.drewN ?_ _ | with_reducible refine Within.setCell ?_ (by first | (simp; done) | (simp; omega)) _ | with_reducible refine Within.trans ?_ (by assumption)))⟩
set_option maxRecDepth 100000 in
set_option maxHeartbeats 600000 in
theorem Rcheck_no (s : Int) (q t : Value) (A : Option Addr) (c : Nat) (l : List Nat) (h0 : decide (s < 0) = false) (h1 : decide (s ≥ 64) = false) (h : l.length ≤ 6) (FI : Hid (∀ w, SlAt w A (f64v l) → Calls Tryz.prog 75 #[.slice A l.length c] w fun e w' => e = .returned (.bool false) ∧ Within w w')) (w : World) (hr : SlAt w A (f64v l)) : Calls Tryz.prog 51 #[.agg #[.int .i64 s, q, t, .slice A l.length c]] w fun e w' => e = .returned (.int .i64 (4)) ∧ Within w w' := by
  have HR := Lib.hid hr; clear hr
  go_enter Tryz.func51, Tryz.ntmps51
  go_wp2_with fail
  refine (FI.out _ (HR.out.of (by repeat (first | with_reducible exact Within.refl _ | with_reducible assumption | with_reducible refine Within.alloc ?_ _ | with_reducible refine Within.drew ?_ | with_reducible refine Within.drewN ?_ _ | with_reducible refine Within.setCell ?_ (by first | (simp; done) | (simp; omega)) _ | with_reducible refine Within.trans ?_ (by assumption))))).mono ?_; rintro e1 w1 ⟨rfl, hb1⟩
  go_wp2
  go_ret
  exact ⟨rfl, (by repeat (first | with_reducible exact Within.refl _ | with_reducible assumption | with_reducible refine Within.alloc ?_ _ | with_reducible refine Within.drew ?_ | with_reducible refine Within.drewN ?_ _ | with_reducible refine Within.setCell ?_ (by first | (simp; done) | (simp; omega)) _ | with_reducible refine Within.trans ?_ (by assumption)))⟩
theorem Rcheck_any (s : Int) (q t : Value) (A : Option Addr) (c : Nat) (l : List Nat) (hw : Words64 l) (hl : l.length ≤ 1152921504606846976) (w : World) (hr : SlAt w A (f64v l)) : Calls Tryz.prog 51 #[.agg #[.int .i64 s, q, t, .slice A l.length c]] w fun e w' => e = .returned (.int .i64 (checkV pf s l)) ∧ Within w w' := by
  unfold checkV
  by_cases h0 : s < 0
  · rw [if_pos (.inl h0)]; exact Rcheck_neg s q t A c l (decide_eq_true h0) w
  by_cases h1 : 64 ≤ s
  · rw [if_pos (.inr (.inl h1))]; exact Rcheck_high s q t A c l (decide_eq_false h0) (decide_eq_true h1) w
  by_cases h2 : 6 < l.length
  · rw [if_pos (.inr (.inr h2))]; exact Rcheck_long s q t A c l (decide_eq_false h0) (decide_eq_false h1) h2 hl w
  rw [if_neg (by omega)]
  have FI := Lib.hid (fun w h => RallFinite_any A c l hw hl w h)
  have e : l.all pf.fin = l.all finD := rfl
  rw [e]
  cases hf : l.all finD
  · rw [hf] at FI; rw [if_neg Bool.false_ne_true]; exact Rcheck_no s q t A c l (decide_eq_false h0) (decide_eq_false h1) (by omega) FI w hr
  · rw [hf] at FI; rw [if_pos rfl]; exact Rcheck_yes s q t A c l (decide_eq_false h0) (decide_eq_false h1) (by omega) FI w hr
set_option maxRecDepth 100000 in
set_option maxHeartbeats 600000 in
theorem Rsize_wide (c : Nat) (hc : c < 256) (h : 128 ≤ c) (w : World) : Calls Tryz.prog 74 #[.int .u8 (c : Int)] w fun e w' => e = .returned (.int .i64 (szOf c : Int)) ∧ w = w' := by
  have hs : szOf c = 16 + 8 * (c - 128) := by unfold szOf; rw [if_pos (by omega)]
  have HS := Lib.hid hs; clear hs
  have d1 : decide ((c : Int) ≥ 128) = true := by simp; omega
  have g1 : IntKind.u8.wrap ((c : Int) - 128) = (c : Int) - 128 := by rw [IntKind.wrap_u8]; omega
  have H := Lib.hid h; clear h
  go_enter Tryz.func74, Tryz.ntmps74
  go_wp2
  go_ret
  exact ⟨ret_int (by have := H.out; rw [HS.out]; omega), rfl⟩
set_option maxRecDepth 100000 in
set_option maxHeartbeats 600000 in
theorem Rsize_near (c : Nat) (hc : c < 256) (h : c < 128) (w : World) : Calls Tryz.prog 74 #[.int .u8 (c : Int)] w fun e w' => e = .returned (.int .i64 (szOf c : Int)) ∧ w = w' := by
  have hs : szOf c = 16 + 4 * c := by unfold szOf; rw [if_neg (by omega)]
  have HS := Lib.hid hs; clear hs
  have d1 : decide ((c : Int) ≥ 128) = false := by simp; omega
  have H := Lib.hid h; clear h
  go_enter Tryz.func74, Tryz.ntmps74
  go_wp2
  go_ret
  exact ⟨ret_int (by have := H.out; rw [HS.out]; omega), rfl⟩
theorem Rsize_any (c : Nat) (hc : c < 256) (w : World) : Calls Tryz.prog 74 #[.int .u8 (c : Int)] w fun e w' => e = .returned (.int .i64 (szOf c : Int)) ∧ w = w' := by
  rcases Nat.lt_or_ge c 128 with h | h
  · exact Rsize_near c hc h w
  · exact Rsize_wide c hc h w
end Go.Proofs.YtpmjlaiafgbjgaaGreatDoor
end

section
namespace Go.Proofs.YtpmjlaiafgbjgaaGreatDoor
open Go.RowKit
theorem u8_high {x : Nat} (h : x < 256) : bits .andNot .u8 (x : Int) 128 = ((x % 128 : Nat) : Int) ∧ bits .and .u8 (x : Int) 128 = (if 128 ≤ x then 128 else 0) := by
  have key : ∀ x : Fin 256, bits .andNot .u8 ((x.val : Nat) : Int) 128 = ((x.val % 128 : Nat) : Int) ∧ bits .and .u8 ((x.val : Nat) : Int) 128 = (if 128 ≤ x.val then 128 else 0) := by decide +kernel
  exact key ⟨x, h⟩
set_option maxRecDepth 100000 in
set_option maxHeartbeats 600000 in
theorem Rhead_bad0 (ad : Addr) (w : World) (n c x0 : Nat) (c0 : w.cell? ad = some (.int .u8 (x0 : Int))) (gb : ((x0 : Int) != 181) = true) (hn : 0 < n) (_hl : n ≤ 1152921504606846976) : Calls Tryz.prog 73 #[.slice (some ad) n c] w fun e w' => e = .returned (.bool false) ∧ w = w' := by
  go_enter Tryz.func73, Tryz.ntmps73
  go_wp2
  go_ret
  exact ⟨rfl, rfl⟩
set_option maxRecDepth 100000 in
set_option maxHeartbeats 600000 in
theorem Rhead_bad1 (ad : Addr) (w : World) (n c x0 x1 : Nat) (c0 : w.cell? ad = some (.int .u8 (x0 : Int))) (c1 : w.cell? ⟨ad.block, ad.off + 1, none⟩ = some (.int .u8 (x1 : Int))) (g0 : ((x0 : Int) != 181) = false) (gb : ((x1 : Int) != 98) = true) (hn : 1 < n) (hl : n ≤ 1152921504606846976) : Calls Tryz.prog 73 #[.slice (some ad) n c] w fun e w' => e = .returned (.bool false) ∧ w = w' := by
  go_enter Tryz.func73, Tryz.ntmps73
  go_wp2
  go_ret
  exact ⟨rfl, rfl⟩
set_option maxRecDepth 100000 in
set_option maxHeartbeats 600000 in
theorem Rhead_bad2 (ad : Addr) (w : World) (n c x0 x1 x2 : Nat) (c0 : w.cell? ad = some (.int .u8 (x0 : Int))) (c1 : w.cell? ⟨ad.block, ad.off + 1, none⟩ = some (.int .u8 (x1 : Int))) (c2 : w.cell? ⟨ad.block, ad.off + 2, none⟩ = some (.int .u8 (x2 : Int))) (g0 : ((x0 : Int) != 181) = false) (g1 : ((x1 : Int) != 98) = false) (gb : decide ((x2 : Int) ≥ 64) = true) (hn : 2 < n) (hl : n ≤ 1152921504606846976) : Calls Tryz.prog 73 #[.slice (some ad) n c] w fun e w' => e = .returned (.bool false) ∧ w = w' := by
  go_enter Tryz.func73, Tryz.ntmps73
  go_wp2
  go_ret
  exact ⟨rfl, rfl⟩
set_option maxRecDepth 100000 in
set_option maxHeartbeats 600000 in
theorem Rhead_bad3 (ad : Addr) (w : World) (n c x0 x1 x2 x3 : Nat) (c0 : w.cell? ad = some (.int .u8 (x0 : Int))) (c1 : w.cell? ⟨ad.block, ad.off + 1, none⟩ = some (.int .u8 (x1 : Int))) (c2 : w.cell? ⟨ad.block, ad.off + 2, none⟩ = some (.int .u8 (x2 : Int))) (c3 : w.cell? ⟨ad.block, ad.off + 3, none⟩ = some (.int .u8 (x3 : Int))) (g0 : ((x0 : Int) != 181) = false) (g1 : ((x1 : Int) != 98) = false) (g2 : decide ((x2 : Int) ≥ 64) = false) (gb : decide ((x3 : Int) % 128 > 6) = true) (hn : 4 ≤ n) (hl : n ≤ 1152921504606846976) : Calls Tryz.prog 73 #[.slice (some ad) n c] w fun e w' => e = .returned (.bool false) ∧ w = w' := by
  go_enter Tryz.func73, Tryz.ntmps73
  go_wp2
  go_ret
  exact ⟨rfl, rfl⟩
set_option maxRecDepth 100000 in
set_option maxHeartbeats 600000 in
theorem Rhead_few0 (A : Option Addr) (c : Nat) (w : World)  : Calls Tryz.prog 73 #[.slice A 0 c] w fun e w' => e = .returned (.bool true) ∧ w = w' := by
  go_enter Tryz.func73, Tryz.ntmps73
  go_wp2
  go_ret
  exact ⟨rfl, rfl⟩
set_option maxRecDepth 100000 in
set_option maxHeartbeats 600000 in
theorem Rhead_few1 (ad : Addr) (w : World) (n c x0 : Nat) (c0 : w.cell? ad = some (.int .u8 (x0 : Int))) (g0 : ((x0 : Int) != 181) = false) (hn : n = 1)  : Calls Tryz.prog 73 #[.slice (some ad) n c] w fun e w' => e = .returned (.bool true) ∧ w = w' := by
  subst hn
  go_enter Tryz.func73, Tryz.ntmps73
  go_wp2
  go_ret
  exact ⟨rfl, rfl⟩
set_option maxRecDepth 100000 in
set_option maxHeartbeats 600000 in
theorem Rhead_few2 (ad : Addr) (w : World) (n c x0 x1 : Nat) (c0 : w.cell? ad = some (.int .u8 (x0 : Int))) (c1 : w.cell? ⟨ad.block, ad.off + 1, none⟩ = some (.int .u8 (x1 : Int))) (g0 : ((x0 : Int) != 181) = false) (g1 : ((x1 : Int) != 98) = false) (hn : n = 2)  : Calls Tryz.prog 73 #[.slice (some ad) n c] w fun e w' => e = .returned (.bool true) ∧ w = w' := by
  subst hn
  go_enter Tryz.func73, Tryz.ntmps73
  go_wp2
  go_ret
  exact ⟨rfl, rfl⟩
set_option maxRecDepth 100000 in
set_option maxHeartbeats 600000 in
theorem Rhead_few3 (ad : Addr) (w : World) (n c x0 x1 x2 : Nat) (c0 : w.cell? ad = some (.int .u8 (x0 : Int))) (c1 : w.cell? ⟨ad.block, ad.off + 1, none⟩ = some (.int .u8 (x1 : Int))) (c2 : w.cell? ⟨ad.block, ad.off + 2, none⟩ = some (.int .u8 (x2 : Int))) (g0 : ((x0 : Int) != 181) = false) (g1 : ((x1 : Int) != 98) = false) (g2 : decide ((x2 : Int) ≥ 64) = false) (hn : n = 3)  : Calls Tryz.prog 73 #[.slice (some ad) n c] w fun e w' => e = .returned (.bool true) ∧ w = w' := by
  subst hn
  go_enter Tryz.func73, Tryz.ntmps73
  go_wp2
  go_ret
  exact ⟨rfl, rfl⟩
set_option maxRecDepth 100000 in
set_option maxHeartbeats 600000 in
theorem Rhead_full (ad : Addr) (w : World) (n c x0 x1 x2 x3 : Nat) (c0 : w.cell? ad = some (.int .u8 (x0 : Int))) (c1 : w.cell? ⟨ad.block, ad.off + 1, none⟩ = some (.int .u8 (x1 : Int))) (c2 : w.cell? ⟨ad.block, ad.off + 2, none⟩ = some (.int .u8 (x2 : Int))) (c3 : w.cell? ⟨ad.block, ad.off + 3, none⟩ = some (.int .u8 (x3 : Int))) (g0 : ((x0 : Int) != 181) = false) (g1 : ((x1 : Int) != 98) = false) (g2 : decide ((x2 : Int) ≥ 64) = false) (g3 : decide ((x3 : Int) % 128 > 6) = false) (hn : 4 ≤ n) (hl : n ≤ 1152921504606846976) : Calls Tryz.prog 73 #[.slice (some ad) n c] w fun e w' => e = .returned (.bool true) ∧ w = w' := by
  go_enter Tryz.func73, Tryz.ntmps73
  go_wp2
  go_ret
  exact ⟨rfl, rfl⟩
set_option maxRecDepth 100000 in
set_option maxHeartbeats 600000 in
theorem size_bad0 (ad : Addr) (w : World) (n c x0 : Nat) (c0 : w.cell? ad = some (.int .u8 (x0 : Int))) (gb : ((x0 : Int) != 181) = true) (hn : 0 < n) (_hl : n ≤ 1152921504606846976) : Calls Tryz.prog 65 #[.slice (some ad) n c] w fun e w' => e = .returned (.tuple #[.int .i64 0, .bool false]) ∧ w = w' := by
  go_enter Tryz.func65, Tryz.ntmps65
  go_wp2
  go_ret2
  exact ⟨rfl, rfl⟩
set_option maxRecDepth 100000 in
set_option maxHeartbeats 600000 in
theorem size_bad1 (ad : Addr) (w : World) (n c x0 x1 : Nat) (c0 : w.cell? ad = some (.int .u8 (x0 : Int))) (c1 : w.cell? ⟨ad.block, ad.off + 1, none⟩ = some (.int .u8 (x1 : Int))) (g0 : ((x0 : Int) != 181) = false) (gb : ((x1 : Int) != 98) = true) (hn : 1 < n) (hl : n ≤ 1152921504606846976) : Calls Tryz.prog 65 #[.slice (some ad) n c] w fun e w' => e = .returned (.tuple #[.int .i64 0, .bool false]) ∧ w = w' := by
  go_enter Tryz.func65, Tryz.ntmps65
  go_wp2
  go_ret2
  exact ⟨rfl, rfl⟩
set_option maxRecDepth 100000 in
set_option maxHeartbeats 600000 in
theorem size_bad2 (ad : Addr) (w : World) (n c x0 x1 x2 : Nat) (c0 : w.cell? ad = some (.int .u8 (x0 : Int))) (c1 : w.cell? ⟨ad.block, ad.off + 1, none⟩ = some (.int .u8 (x1 : Int))) (c2 : w.cell? ⟨ad.block, ad.off + 2, none⟩ = some (.int .u8 (x2 : Int))) (g0 : ((x0 : Int) != 181) = false) (g1 : ((x1 : Int) != 98) = false) (gb : decide ((x2 : Int) ≥ 64) = true) (hn : 2 < n) (hl : n ≤ 1152921504606846976) : Calls Tryz.prog 65 #[.slice (some ad) n c] w fun e w' => e = .returned (.tuple #[.int .i64 0, .bool false]) ∧ w = w' := by
  go_enter Tryz.func65, Tryz.ntmps65
  go_wp2
  go_ret2
  exact ⟨rfl, rfl⟩
set_option maxRecDepth 100000 in
set_option maxHeartbeats 600000 in
theorem size_bad3 (ad : Addr) (w : World) (n c x0 x1 x2 x3 : Nat) (c0 : w.cell? ad = some (.int .u8 (x0 : Int))) (c1 : w.cell? ⟨ad.block, ad.off + 1, none⟩ = some (.int .u8 (x1 : Int))) (c2 : w.cell? ⟨ad.block, ad.off + 2, none⟩ = some (.int .u8 (x2 : Int))) (c3 : w.cell? ⟨ad.block, ad.off + 3, none⟩ = some (.int .u8 (x3 : Int))) (g0 : ((x0 : Int) != 181) = false) (g1 : ((x1 : Int) != 98) = false) (g2 : decide ((x2 : Int) ≥ 64) = false) (gb : 6 < x3 % 128) (hn : 4 ≤ n) (hl : n ≤ 1152921504606846976) (hx : x3 < 256) : Calls Tryz.prog 65 #[.slice (some ad) n c] w fun e w' => e = .returned (.tuple #[.int .i64 0, .bool false]) ∧ w = w' := by
  obtain ⟨u1, u2⟩ := u8_high hx
  have d1 : decide (((x3 % 128 : Nat) : Int) > 6) = true := by simp; omega
  have d2 : decide (((x3 : Int) % 128) > 6) = true := by simp; omega
  have d3 : ((x3 % 128 : Nat) : Int) = (x3 : Int) % 128 := by omega
  rw [d3] at u1
  clear d3 u2 d1 gb hx
  go_enter Tryz.func65, Tryz.ntmps65
  go_wp2
  go_ret2
  exact ⟨rfl, rfl⟩
set_option maxRecDepth 100000 in
set_option maxHeartbeats 600000 in
theorem size_few0 (A : Option Addr) (c : Nat) (w : World)  : Calls Tryz.prog 65 #[.slice A 0 c] w fun e w' => e = .returned (.tuple #[.int .i64 4, .bool true]) ∧ w = w' := by
  go_enter Tryz.func65, Tryz.ntmps65
  go_wp2
  go_ret2
  exact ⟨rfl, rfl⟩
set_option maxRecDepth 100000 in
set_option maxHeartbeats 600000 in
theorem size_few1 (ad : Addr) (w : World) (n c x0 : Nat) (c0 : w.cell? ad = some (.int .u8 (x0 : Int))) (g0 : ((x0 : Int) != 181) = false) (hn : n = 1)  : Calls Tryz.prog 65 #[.slice (some ad) n c] w fun e w' => e = .returned (.tuple #[.int .i64 4, .bool true]) ∧ w = w' := by
  subst hn
  go_enter Tryz.func65, Tryz.ntmps65
  go_wp2
  go_ret2
  exact ⟨rfl, rfl⟩
set_option maxRecDepth 100000 in
set_option maxHeartbeats 600000 in
theorem size_few2 (ad : Addr) (w : World) (n c x0 x1 : Nat) (c0 : w.cell? ad = some (.int .u8 (x0 : Int))) (c1 : w.cell? ⟨ad.block, ad.off + 1, none⟩ = some (.int .u8 (x1 : Int))) (g0 : ((x0 : Int) != 181) = false) (g1 : ((x1 : Int) != 98) = false) (hn : n = 2)  : Calls Tryz.prog 65 #[.slice (some ad) n c] w fun e w' => e = .returned (.tuple #[.int .i64 4, .bool true]) ∧ w = w' := by
  subst hn
  go_enter Tryz.func65, Tryz.ntmps65
  go_wp2
  go_ret2
  exact ⟨rfl, rfl⟩
set_option maxRecDepth 100000 in
set_option maxHeartbeats 600000 in
theorem size_few3 (ad : Addr) (w : World) (n c x0 x1 x2 : Nat) (c0 : w.cell? ad = some (.int .u8 (x0 : Int))) (c1 : w.cell? ⟨ad.block, ad.off + 1, none⟩ = some (.int .u8 (x1 : Int))) (c2 : w.cell? ⟨ad.block, ad.off + 2, none⟩ = some (.int .u8 (x2 : Int))) (g0 : ((x0 : Int) != 181) = false) (g1 : ((x1 : Int) != 98) = false) (g2 : decide ((x2 : Int) ≥ 64) = false) (hn : n = 3)  : Calls Tryz.prog 65 #[.slice (some ad) n c] w fun e w' => e = .returned (.tuple #[.int .i64 4, .bool true]) ∧ w = w' := by
  subst hn
  go_enter Tryz.func65, Tryz.ntmps65
  go_wp2
  go_ret2
  exact ⟨rfl, rfl⟩
set_option maxRecDepth 100000 in
set_option maxHeartbeats 600000 in
theorem size_wide (ad : Addr) (w : World) (n c x0 x1 x2 x3 : Nat) (c0 : w.cell? ad = some (.int .u8 (x0 : Int))) (c1 : w.cell? ⟨ad.block, ad.off + 1, none⟩ = some (.int .u8 (x1 : Int))) (c2 : w.cell? ⟨ad.block, ad.off + 2, none⟩ = some (.int .u8 (x2 : Int))) (c3 : w.cell? ⟨ad.block, ad.off + 3, none⟩ = some (.int .u8 (x3 : Int))) (g0 : ((x0 : Int) != 181) = false) (g1 : ((x1 : Int) != 98) = false) (g2 : decide ((x2 : Int) ≥ 64) = false) (g3 : x3 % 128 ≤ 6) (hn : 4 ≤ n) (hl : n ≤ 1152921504606846976) (hx : x3 < 256) (hb : 128 ≤ x3) : Calls Tryz.prog 65 #[.slice (some ad) n c] w fun e w' => e = .returned (.tuple #[.int .i64 (szOf x3 : Int), .bool true]) ∧ w = w' := by
  obtain ⟨u1, u2⟩ := u8_high hx
  rw [if_pos (by omega)] at u2
  have d2 : decide (((x3 : Int) % 128) > 6) = false := by simp; omega
  have d3 : ((x3 % 128 : Nat) : Int) = (x3 : Int) % 128 := by omega
  rw [d3] at u1
  have hs : szOf x3 = 16 + 8 * (x3 % 128) := by unfold szOf; rw [if_pos (by omega)]; omega
  have HS := Lib.hid hs
  have b3 : 0 ≤ (x3 : Int) % 128 ∧ (x3 : Int) % 128 ≤ 6 := by omega
  obtain ⟨b4, b5⟩ := b3
  clear d3 g3 hs hb
  go_enter Tryz.func65, Tryz.ntmps65
  go_wp2
  go_ret2
  exact ⟨ret2 (v_int (by rw [HS.out]; omega)) rfl, rfl⟩
set_option maxRecDepth 100000 in
set_option maxHeartbeats 600000 in
theorem size_near (ad : Addr) (w : World) (n c x0 x1 x2 x3 : Nat) (c0 : w.cell? ad = some (.int .u8 (x0 : Int))) (c1 : w.cell? ⟨ad.block, ad.off + 1, none⟩ = some (.int .u8 (x1 : Int))) (c2 : w.cell? ⟨ad.block, ad.off + 2, none⟩ = some (.int .u8 (x2 : Int))) (c3 : w.cell? ⟨ad.block, ad.off + 3, none⟩ = some (.int .u8 (x3 : Int))) (g0 : ((x0 : Int) != 181) = false) (g1 : ((x1 : Int) != 98) = false) (g2 : decide ((x2 : Int) ≥ 64) = false) (g3 : x3 % 128 ≤ 6) (hn : 4 ≤ n) (hl : n ≤ 1152921504606846976) (hx : x3 < 256) (hb : x3 < 128) : Calls Tryz.prog 65 #[.slice (some ad) n c] w fun e w' => e = .returned (.tuple #[.int .i64 (szOf x3 : Int), .bool true]) ∧ w = w' := by
  obtain ⟨u1, u2⟩ := u8_high hx
  rw [if_neg (by omega)] at u2
  have d2 : decide (((x3 : Int) % 128) > 6) = false := by simp; omega
  have d3 : ((x3 % 128 : Nat) : Int) = (x3 : Int) % 128 := by omega
  rw [d3] at u1
  have hs : szOf x3 = 16 + 4 * (x3 % 128) := by unfold szOf; rw [if_neg (by omega)]; omega
  have HS := Lib.hid hs
  have b3 : 0 ≤ (x3 : Int) % 128 ∧ (x3 : Int) % 128 ≤ 6 := by omega
  obtain ⟨b4, b5⟩ := b3
  clear d3 g3 hs hb
  go_enter Tryz.func65, Tryz.ntmps65
  go_wp2
  go_ret2
  exact ⟨ret2 (v_int (by rw [HS.out]; omega)) rfl, rfl⟩
theorem getD_in {l : List Nat} {i : Nat} (d : Nat) (h : i < l.length) : l.getD i d = l.getD i 0 := by
  rw [List.getD, List.getD, List.getElem?_eq_getElem h]; rfl
theorem head_bad {l : List Nat} {i : Nat} (h : i < l.length) (hi : (i = 0 ∧ l.getD 0 0 ≠ 181) ∨ (i = 1 ∧ l.getD 1 0 ≠ 98) ∨ (i = 2 ∧ 64 ≤ l.getD 2 0) ∨ (i = 3 ∧ 6 < l.getD 3 0 % 128)) : headB l = false := by
  rw [Bool.eq_false_iff]
  intro hh
  obtain ⟨a, b, c, d⟩ := headB_parts hh
  rcases hi with ⟨rfl, h2⟩ | ⟨rfl, h2⟩ | ⟨rfl, h2⟩ | ⟨rfl, h2⟩
  · rw [getD_in 181 h] at a; exact h2 a
  · rw [getD_in 98 h] at b; exact h2 b
  · omega
  · omega
theorem head_good {l : List Nat} (h0 : 0 < l.length → l.getD 0 0 = 181) (h1 : 1 < l.length → l.getD 1 0 = 98) (h2 : 2 < l.length → l.getD 2 0 < 64) (h3 : 3 < l.length → l.getD 3 0 % 128 ≤ 6) : headB l = true := by
  unfold headB
  have a : l.getD 0 181 = 181 := by
    by_cases h : 0 < l.length
    · rw [getD_in 181 h]; exact h0 h
    · exact getD_end (by omega)
  have b : l.getD 1 98 = 98 := by
    by_cases h : 1 < l.length
    · rw [getD_in 98 h]; exact h1 h
    · exact getD_end (by omega)
  have c : l.getD 2 0 < 64 := by
    by_cases h : 2 < l.length
    · exact h2 h
    · rw [getD_end (by omega)]; decide
  have d : l.getD 3 0 % 128 ≤ 6 := by
    by_cases h : 3 < l.length
    · exact h3 h
    · rw [getD_end (by omega)]; decide
  rw [a, b, decide_eq_true c, decide_eq_true d]; rfl
def szV (l : List Nat) : Int := if headB l = false then 0 else if l.length < 4 then 4 else (szOf (l.getD 3 0) : Int)
theorem add_plain' (ad : Addr) {i : Nat} (h : i ≠ 0) : ad.add i = ⟨ad.block, ad.off + i, none⟩ := by unfold Addr.add; rw [if_neg h]
theorem ne_of {x k : Nat} (h : x ≠ k) : ((x : Int) != (k : Int)) = true := by rw [bne_iff_ne]; omega
theorem eq_of' {x k : Nat} (h : x = k) : ((x : Int) != (k : Int)) = false := by rw [bne_eq_false_iff_eq]; omega
theorem Rhead_any (A : Option Addr) (c : Nat) (l : List Nat) (hb : Bytes l) (hl : l.length ≤ 1152921504606846976) (w : World) (hr : SlAt w A (u8v l)) : Calls Tryz.prog 73 #[.slice A l.length c] w fun e w' => e = .returned (.bool (headB l)) ∧ w = w' := by
  have key : ∀ ad : Addr, A = some ad → ∀ i, i < l.length → w.cell? (ad.add i) = some (.int .u8 ((l.getD i 0 : Nat) : Int)) := fun ad e i hi => by
    obtain ⟨ad', e', _, hc⟩ := hr.at hi
    rw [e] at e'; obtain rfl := Option.some.inj e'; exact hc
  by_cases n0 : l.length = 0
  · obtain rfl := List.eq_nil_of_length_eq_zero n0
    exact Rhead_few0 A c w
  obtain ⟨ad, rfl, _⟩ := hr (by rw [u8v_len]; omega)
  have c0 := key ad rfl 0 (by omega)
  rw [add_nought] at c0
  rcases Decidable.em (¬ (l.getD 0 0 = 181)) with h0 | h0
  · rw [head_bad (i := 0) (by omega) (.inl ⟨rfl, h0⟩)]
    exact Rhead_bad0 ad w _ c _ c0  (ne_of h0) (by omega) hl
  have h0 := Decidable.not_not.1 h0
  by_cases n1 : l.length = 1
  · have e := head_good (fun _ => h0) (fun h => absurd h (by omega)) (fun h => absurd h (by omega)) (fun h => absurd h (by omega))
    rw [e]
    exact Rhead_few1 ad w _ c _ c0 (eq_of' h0) n1
  have c1 := key ad rfl 1 (by omega)
  rw [add_plain' ad (by decide)] at c1
  rcases Decidable.em (¬ (l.getD 1 0 = 98)) with h1 | h1
  · rw [head_bad (i := 1) (by omega) (.inr (.inl ⟨rfl, h1⟩))]
    exact Rhead_bad1 ad w _ c _ _ c0 c1 (eq_of' h0) (ne_of h1) (by omega) hl
  have h1 := Decidable.not_not.1 h1
  by_cases n2 : l.length = 2
  · have e := head_good (fun _ => h0) (fun h => h1) (fun h => absurd h (by omega)) (fun h => absurd h (by omega))
    rw [e]
    exact Rhead_few2 ad w _ c _ _ c0 c1 (eq_of' h0) (eq_of' h1) n2
  have c2 := key ad rfl 2 (by omega)
  rw [add_plain' ad (by decide)] at c2
  rcases Decidable.em (¬ (l.getD 2 0 < 64)) with h2 | h2
  · rw [head_bad (i := 2) (by omega) (.inr (.inr (.inl ⟨rfl, (by omega)⟩)))]
    exact Rhead_bad2 ad w _ c _ _ _ c0 c1 c2 (eq_of' h0) (eq_of' h1) (decide_eq_true (by omega)) (by omega) hl
  have h2 := Decidable.not_not.1 h2
  by_cases n3 : l.length = 3
  · have e := head_good (fun _ => h0) (fun h => h1) (fun h => h2) (fun h => absurd h (by omega))
    rw [e]
    exact Rhead_few3 ad w _ c _ _ _ c0 c1 c2 (eq_of' h0) (eq_of' h1) (decide_eq_false (by omega)) n3
  have c3 := key ad rfl 3 (by omega)
  rw [add_plain' ad (by decide)] at c3
  rcases Decidable.em (¬ (l.getD 3 0 % 128 ≤ 6)) with h3 | h3
  · rw [head_bad (i := 3) (by omega) (.inr (.inr (.inr ⟨rfl, (by omega)⟩)))]
    exact Rhead_bad3 ad w _ c _ _ _ _ c0 c1 c2 c3 (eq_of' h0) (eq_of' h1) (decide_eq_false (by omega)) (decide_eq_true (by omega)) (by omega) hl
  have h3 := Decidable.not_not.1 h3
  have e := head_good (fun _ => h0) (fun _ => h1) (fun _ => h2) (fun _ => h3)
  rw [e]
  exact Rhead_full ad w _ c _ _ _ _ c0 c1 c2 c3 (eq_of' h0) (eq_of' h1) (decide_eq_false (by omega)) (decide_eq_false (by omega)) (by omega) hl
theorem size_any (A : Option Addr) (c : Nat) (l : List Nat) (hb : Bytes l) (hl : l.length ≤ 1152921504606846976) (w : World) (hr : SlAt w A (u8v l)) : Calls Tryz.prog 65 #[.slice A l.length c] w fun e w' => e = .returned (.tuple #[.int .i64 (szV l), .bool (headB l)]) ∧ w = w' := by
  have key : ∀ ad : Addr, A = some ad → ∀ i, i < l.length → w.cell? (ad.add i) = some (.int .u8 ((l.getD i 0 : Nat) : Int)) := fun ad e i hi => by
    obtain ⟨ad', e', _, hc⟩ := hr.at hi
    rw [e] at e'; obtain rfl := Option.some.inj e'; exact hc
  by_cases n0 : l.length = 0
  · obtain rfl := List.eq_nil_of_length_eq_zero n0
    exact size_few0 A c w
  obtain ⟨ad, rfl, _⟩ := hr (by rw [u8v_len]; omega)
  have c0 := key ad rfl 0 (by omega)
  rw [add_nought] at c0
  rcases Decidable.em (¬ (l.getD 0 0 = 181)) with h0 | h0
  · unfold szV; rw [head_bad (i := 0) (by omega) (.inl ⟨rfl, h0⟩), if_pos rfl]
    exact size_bad0 ad w _ c _ c0  (ne_of h0) (by omega) hl
  have h0 := Decidable.not_not.1 h0
  by_cases n1 : l.length = 1
  · have e := head_good (fun _ => h0) (fun h => absurd h (by omega)) (fun h => absurd h (by omega)) (fun h => absurd h (by omega))
    unfold szV; rw [e, if_neg (by decide), if_pos (by omega)]
    exact size_few1 ad w _ c _ c0 (eq_of' h0) n1
  have c1 := key ad rfl 1 (by omega)
  rw [add_plain' ad (by decide)] at c1
  rcases Decidable.em (¬ (l.getD 1 0 = 98)) with h1 | h1
  · unfold szV; rw [head_bad (i := 1) (by omega) (.inr (.inl ⟨rfl, h1⟩)), if_pos rfl]
    exact size_bad1 ad w _ c _ _ c0 c1 (eq_of' h0) (ne_of h1) (by omega) hl
  have h1 := Decidable.not_not.1 h1
  by_cases n2 : l.length = 2
  · have e := head_good (fun _ => h0) (fun h => h1) (fun h => absurd h (by omega)) (fun h => absurd h (by omega))
    unfold szV; rw [e, if_neg (by decide), if_pos (by omega)]
    exact size_few2 ad w _ c _ _ c0 c1 (eq_of' h0) (eq_of' h1) n2
  have c2 := key ad rfl 2 (by omega)
  rw [add_plain' ad (by decide)] at c2
  rcases Decidable.em (¬ (l.getD 2 0 < 64)) with h2 | h2
  · unfold szV; rw [head_bad (i := 2) (by omega) (.inr (.inr (.inl ⟨rfl, (by omega)⟩))), if_pos rfl]
    exact size_bad2 ad w _ c _ _ _ c0 c1 c2 (eq_of' h0) (eq_of' h1) (decide_eq_true (by omega)) (by omega) hl
  have h2 := Decidable.not_not.1 h2
  by_cases n3 : l.length = 3
  · have e := head_good (fun _ => h0) (fun h => h1) (fun h => h2) (fun h => absurd h (by omega))
    unfold szV; rw [e, if_neg (by decide), if_pos (by omega)]
    exact size_few3 ad w _ c _ _ _ c0 c1 c2 (eq_of' h0) (eq_of' h1) (decide_eq_false (by omega)) n3
  have c3 := key ad rfl 3 (by omega)
  rw [add_plain' ad (by decide)] at c3
  rcases Decidable.em (¬ (l.getD 3 0 % 128 ≤ 6)) with h3 | h3
  · unfold szV; rw [head_bad (i := 3) (by omega) (.inr (.inr (.inr ⟨rfl, (by omega)⟩))), if_pos rfl]
    exact size_bad3 ad w _ c _ _ _ _ c0 c1 c2 c3 (eq_of' h0) (eq_of' h1) (decide_eq_false (by omega)) (by omega) (by omega) hl (hb.getD 3)
  have h3 := Decidable.not_not.1 h3
  have e := head_good (fun _ => h0) (fun _ => h1) (fun _ => h2) (fun _ => h3)
  unfold szV; rw [e, if_neg (by decide), if_neg (by omega)]
  rcases Nat.lt_or_ge (l.getD 3 0) 128 with hh | hh
  · exact size_near ad w _ c _ _ _ _ c0 c1 c2 c3 (eq_of' h0) (eq_of' h1) (decide_eq_false (by omega)) h3 (by omega) hl (hb.getD 3) hh
  · exact size_wide ad w _ c _ _ _ _ c0 c1 c2 c3 (eq_of' h0) (eq_of' h1) (decide_eq_false (by omega)) h3 (by omega) hl (hb.getD 3) hh
end Go.Proofs.YtpmjlaiafgbjgaaGreatDoor
end

section
namespace Go.Proofs.YtpmjlaiafgbjgaaGreatDoor
open Go.RowKit
theorem made_row (w : World) (l : List Nat) (hl : l.length ≤ 1000000) : OwnB (w.alloc (.cells (u8v l).toArray 5)) w.heap.size (.slice (some ⟨w.heap.size, 0, none⟩) l.length l.length) l := by
  refine ⟨by rw [u8v_len, Nat.mul_one], .inr ⟨_, _, (u8v l).toArray, rfl, Nat.le_refl _, heap_alloc_new w _, Nat.le_refl _, by unfold maxLen; omega, by simp [u8v_len], ?_⟩⟩
  rw [Nat.mul_one, List.take_of_length_le (by simp [u8v_len])]
theorem or128 {n : Nat} (h : n ≤ 6) : bits .or .u8 (n : Int) 128 = ((n + 128 : Nat) : Int) := by
  have key : ∀ x : Fin 7, bits .or .u8 ((x.val : Nat) : Int) 128 = ((x.val + 128 : Nat) : Int) := by decide +kernel
  exact key ⟨n, by omega⟩
theorem body_snoc {F : Fl} (wide : Bool) {l : List Nat} {k : Nat} (h : k < l.length) : bodyV F wide (l.take (k + 1)) = bodyV F wide (l.take k) ++ (if wide then leBytes 8 (l.getD k 0) else leBytes 4 (F.nb (l.getD k 0))) := by
  rw [take_snoc_getD h]
  unfold bodyV
  rw [List.flatMap_append, List.flatMap_singleton]
set_option maxRecDepth 100000 in
set_option maxHeartbeats 600000 in
theorem Pack_bad (s : Int) (q t : Nat) (A : Option Addr) (c : Nat) (l : List Nat) (e : Int) (he : ((e : Int) != 0) = true) (CK : Hid (∀ w, SlAt w A (f64v l) → Calls Tryz.prog 76 #[.agg #[.int .i64 s, .int .u32 (q : Int), .int .u32 (t : Int), .slice A l.length c]] w fun e1 w' => e1 = .returned (.int .i64 (e)) ∧ Within w w')) (w : World) (hr : SlAt w A (f64v l)) : Calls Tryz.prog 50 #[.agg #[.int .i64 s, .int .u32 (q : Int), .int .u32 (t : Int), .slice A l.length c]] w fun e' w' => e' = .returned (.tuple #[.slice none 0 0, .int .i64 e]) ∧ Within w w' := by
  have HR := Lib.hid hr; clear hr
  go_enter Tryz.func50, Tryz.ntmps50
  go_wp2_with fail
  refine (CK.out _ (HR.out.of (by repeat (first | with_reducible exact Within.refl _ | with_reducible assumption | with_reducible refine Within.alloc ?_ _ | with_reducible refine Within.drew ?_ | with_reducible refine Within.drewN ?_ _ | with_reducible refine Within.setCell ?_ (by first | (simp; done) | (simp; omega)) _ | with_reducible refine Within.trans ?_ (by assumption))))).mono ?_; rintro e1 w1 ⟨rfl, hb1⟩
  go_wp2
  go_ret2
  exact ⟨rfl, (by repeat (first | with_reducible exact Within.refl _ | with_reducible assumption | with_reducible refine Within.alloc ?_ _ | with_reducible refine Within.drew ?_ | with_reducible refine Within.drewN ?_ _ | with_reducible refine Within.setCell ?_ (by first | (simp; done) | (simp; omega)) _ | with_reducible refine Within.trans ?_ (by assumption)))⟩
set_option maxRecDepth 100000 in
set_option maxHeartbeats 600000 in
theorem Rpack_bad (s : Int) (q t : Nat) (A : Option Addr) (c : Nat) (l : List Nat) (e : Int) (he : ((e : Int) != 0) = true) (CK : Hid (∀ w, SlAt w A (f64v l) → Calls Tryz.prog 51 #[.agg #[.int .i64 s, .int .u32 (q : Int), .int .u32 (t : Int), .slice A l.length c]] w fun e1 w' => e1 = .returned (.int .i64 (e)) ∧ Within w w')) (w : World) (hr : SlAt w A (f64v l)) : Calls Tryz.prog 28 #[.agg #[.int .i64 s, .int .u32 (q : Int), .int .u32 (t : Int), .slice A l.length c]] w fun e' w' => e' = .returned (.tuple #[.slice none 0 0, .int .i64 e]) ∧ Within w w' := by
  have HR := Lib.hid hr; clear hr
  go_enter Tryz.func28, Tryz.ntmps28
  go_wp2_with fail
  refine (CK.out _ (HR.out.of (by repeat (first | with_reducible exact Within.refl _ | with_reducible assumption | with_reducible refine Within.alloc ?_ _ | with_reducible refine Within.drew ?_ | with_reducible refine Within.drewN ?_ _ | with_reducible refine Within.setCell ?_ (by first | (simp; done) | (simp; omega)) _ | with_reducible refine Within.trans ?_ (by assumption))))).mono ?_; rintro e1 w1 ⟨rfl, hb1⟩
  go_wp2
  go_ret2
  exact ⟨rfl, (by repeat (first | with_reducible exact Within.refl _ | with_reducible assumption | with_reducible refine Within.alloc ?_ _ | with_reducible refine Within.drew ?_ | with_reducible refine Within.drewN ?_ _ | with_reducible refine Within.setCell ?_ (by first | (simp; done) | (simp; omega)) _ | with_reducible refine Within.trans ?_ (by assumption)))⟩
set_option maxRecDepth 100000 in
set_option maxHeartbeats 1000000 in
theorem Pack_wide (S q t : Nat) (A : Option Addr) (c : Nat) (l : List Nat) (hS : S < 64) (hl : l.length ≤ 6) (hq : q < 4294967296) (ht : t < 4294967296) (hw : Words64 l) (hfin : l.all finD = true) (CK : Hid (∀ w, SlAt w A (f64v l) → Calls Tryz.prog 76 #[.agg #[.int .i64 (S : Int), .int .u32 (q : Int), .int .u32 (t : Int), .slice A l.length c]] w fun e1 w' => e1 = .returned (.int .i64 (0)) ∧ Within w w')) (SG : Hid (∀ w, FmS w → SlAt w A (f64v l) → Calls Tryz.prog 71 #[.agg #[.int .i64 (S : Int), .int .u32 (q : Int), .int .u32 (t : Int), .slice A l.length c]] w fun e w' => e = .returned (.bool false) ∧ Within w w')) (w : World) (hT : FmS w) (hr : SlAt w A (f64v l)) : Calls Tryz.prog 50 #[.agg #[.int .i64 (S : Int), .int .u32 (q : Int), .int .u32 (t : Int), .slice A l.length c]] w fun e w' => ∃ v, e = .returned (.tuple #[v, .int .i64 0]) ∧ OwnB w' w.heap.size v (withSum (headV true S l.length q t ++ bodyV pf true l)) ∧ Within w w' := by
  have HW := Lib.hid hw; have HR := Lib.hid hr; have HT := Lib.hid hT; have HF := Lib.hid hfin; clear hw hr hT hfin
  have g1 : IntKind.u8.wrap (l.length : Int) = (l.length : Int) := by rw [IntKind.wrap_u8]; omega
  have g2 : IntKind.u8.wrap (S : Int) = (S : Int) := by rw [IntKind.wrap_u8]; omega
  have g4 : IntKind.u64.wrap (q : Int) = (q : Int) := by rw [IntKind.wrap_u64]; omega
  have g5 : IntKind.u64.wrap (t : Int) = (t : Int) := by rw [IntKind.wrap_u64]; omega
  have g3 := or128 hl
  have HQ := Lib.hid (And.intro hq ht); clear hq ht
  have c0 : (w.alloc (.cells #[.int .i64 (S : Int), .int .u32 (q : Int), .int .u32 (t : Int), .slice A l.length c] 64)).cell? ⟨w.heap.size, 0, none⟩ = some (.int .i64 (S : Int)) := by go_simp
  have c1 : (w.alloc (.cells #[.int .i64 (S : Int), .int .u32 (q : Int), .int .u32 (t : Int), .slice A l.length c] 64)).cell? ⟨w.heap.size, 1, none⟩ = some (.int .u32 (q : Int)) := by go_simp
  have c2 : (w.alloc (.cells #[.int .i64 (S : Int), .int .u32 (q : Int), .int .u32 (t : Int), .slice A l.length c] 64)).cell? ⟨w.heap.size, 2, none⟩ = some (.int .u32 (t : Int)) := by go_simp
  have c3 : (w.alloc (.cells #[.int .i64 (S : Int), .int .u32 (q : Int), .int .u32 (t : Int), .slice A l.length c] 64)).cell? ⟨w.heap.size, 3, none⟩ = some (.slice A l.length c) := by go_simp
  have hg : w.heap.size < (w.alloc (.cells #[.int .i64 (S : Int), .int .u32 (q : Int), .int .u32 (t : Int), .slice A l.length c] 64)).heap.size := by simp
  have hsl := HR.out.of ((Within.refl w).alloc (.cells #[.int .i64 (S : Int), .int .u32 (q : Int), .int .u32 (t : Int), .slice A l.length c] 64))
  have hin1 : Within w (w.alloc (.cells #[.int .i64 (S : Int), .int .u32 (q : Int), .int .u32 (t : Int), .slice A l.length c] 64)) := (Within.refl w).alloc _
  go_enter Tryz.func50, Tryz.ntmps50
  go_wp2_with fail
  refine (CK.out _ hsl).mono ?_; rintro e1 w1 ⟨rfl, hv1⟩
  have a1_0 := (hv1.cells _ 0 hg).trans c0
  have a1_1 := (hv1.cells _ 1 hg).trans c1
  have a1_2 := (hv1.cells _ 2 hg).trans c2
  have a1_3 := (hv1.cells _ 3 hg).trans c3
  go_wp2_with fail
  refine (SG.out _ (HT.out.of (hin1.trans hv1)) (hsl.of hv1)).mono ?_; rintro e2 w2 ⟨rfl, hb2⟩
  have hv2 := hv1.trans hb2
  have a2_0 := (hv2.cells _ 0 hg).trans c0
  have a2_1 := (hv2.cells _ 1 hg).trans c1
  have a2_2 := (hv2.cells _ 2 hg).trans c2
  have a2_3 := (hv2.cells _ 3 hg).trans c3
  have hsl2 := hsl.of hv2
  have hin2 := hin1.trans hv2
  have hg2 : w.heap.size < w2.heap.size := Nat.lt_of_lt_of_le hg hv2.size
  obtain ⟨C, hC⟩ : ∃ C, C = l.length + 128 := ⟨_, rfl⟩
  rw [← hC] at g3
  have hrow := made_row w2 [181, 98, S, C] (by simp)
  clear a1_0 a1_1 a1_2 a1_3 c0 c1 c2 c3 hsl hv1 hb2 hv2 hin1
  have HG : Hid (OwnB (w2.alloc (.cells #[.int .u8 181, .int .u8 98, .int .u8 (S : Int), .int .u8 (C : Int)] 5)) w2.heap.size (.slice (some ⟨w2.heap.size, 0, none⟩) 4 4) [181, 98, S, C]) := Lib.hid hrow
  have HC := Lib.hid hC; clear hrow hC
  go_wp2
  refine wp_region_schB (w2.heap.size) (fun W => W.cell? ⟨w.heap.size, 0, none⟩ = some (.int .i64 (S : Int)) ∧ W.cell? ⟨w.heap.size, 1, none⟩ = some (.int .u32 (q : Int)) ∧ W.cell? ⟨w.heap.size, 2, none⟩ = some (.int .u32 (t : Int)) ∧ W.cell? ⟨w.heap.size, 3, none⟩ = some (.slice A l.length c) ∧ OwnB W w2.heap.size (.slice (some ⟨w2.heap.size, 0, none⟩) 4 4) [181, 98, S, C] ∧ Within w2 W) 9 (.firm 0 (.firm 1 (.firm 2 (.firm 3 (.firm 5 (.firm 6 (.firm 7 (.one 4 (.one 8 (.one 9 .nil)))))))))) (by kernel_rfl) (by kernel_rfl) ⟨by go_simp, by go_simp, by go_simp, by go_simp, HG.out, (Within.refl w2).alloc _⟩ ?_
  rintro w0 ⟨b0, b1, b2, b3, hO, hW⟩
  try simp only [Act.put, List.setIfInBounds_toArray, List.set_cons_zero, List.set_cons_succ]
  iterate 7
    apply sch_firm rfl rfl (by repeat (first | with_reducible exact Below.refl _ _ | with_reducible assumption | with_reducible refine Below.drew ?_ | with_reducible refine Below.trans ?_ (by assumption)))
    · intro wq hq
      have hcq : ∀ b o, b < w2.heap.size → wq.cell? ⟨b, o, none⟩ = w0.cell? ⟨b, o, none⟩ := fun b o hb => hq.cell (p := ⟨b, o, none⟩) hb
      clear hq
      go_simp
      rfl
    try simp only [Act.put, List.setIfInBounds_toArray, List.set_cons_zero, List.set_cons_succ]
  refine sch_one rfl rfl (fun K hK => ?_)
  go_simp
  refine (put4 w2.heap.size _ [181, 98, S, C] q (by have := HQ.out; omega) (by simp) _ (by exact hW.size) (by exact hO)).mono ?_; rintro e3 w3 ⟨v3, rfl, hO3, hB3⟩
  have hB3' : Below w2.heap.size w0 w3 := (Below.drew (Below.refl _ w0)).trans hB3
  refine hK _ _ (fun _ => (by repeat (first | with_reducible exact Below.refl _ _ | with_reducible assumption | with_reducible refine Below.drew ?_ | with_reducible refine Below.trans ?_ (by assumption)))) ?_
  clear hK K
  try simp only [Act.put, List.setIfInBounds_toArray, List.set_cons_zero, List.set_cons_succ]
  refine sch_one rfl rfl (fun K hK => ?_)
  go_simp
  refine (put4 w2.heap.size _ ([181, 98, S, C] ++ leBytes 4 q) t (by have := HQ.out; omega) (by simp [leBytes_len]) _ (by exact Nat.le_trans hW.size hB3'.size) (by exact hO3)).mono ?_; rintro e4 w4 ⟨v4, rfl, hO4, hB4⟩
  have hB4' : Below w2.heap.size w0 w4 := hB3'.trans hB4
  refine hK _ _ (fun _ => (by repeat (first | with_reducible exact Below.refl _ _ | with_reducible assumption | with_reducible refine Below.drew ?_ | with_reducible refine Below.trans ?_ (by assumption)))) ?_
  clear hK K
  try simp only [Act.put, List.setIfInBounds_toArray, List.set_cons_zero, List.set_cons_succ]
  refine sch_one rfl rfl (fun K hK => ?_)
  go_simp
  refine hK _ _ (fun h => absurd h (by decide)) ?_
  clear hK K
  try simp only [Act.put, List.setIfInBounds_toArray, List.set_cons_zero, List.set_cons_succ]
  refine sch_nil ?_
  obtain ⟨HL, hHL⟩ : ∃ HL, HL = [181, 98, S, C] ++ leBytes 4 q ++ leBytes 4 t := ⟨_, rfl⟩
  rw [← hHL] at hO4
  have hlen : HL.length = 12 := by rw [hHL]; simp [leBytes_len]
  have hbyt : Bytes HL := by
    rw [hHL]
    refine Bytes.append (Bytes.append ?_ (leBytes_bytes _ _)) (leBytes_bytes _ _)
    have hC := HC.out
    intro z hz
    simp only [List.mem_cons, List.not_mem_nil, or_false] at hz
    rcases hz with rfl | rfl | rfl | rfl <;> omega
  have hin4 : Within w2 w4 := Below.trans hW hB4'
  have d0 := (hin4.cells _ 0 hg2).trans a2_0
  have d1 := (hin4.cells _ 1 hg2).trans a2_1
  have d2 := (hin4.cells _ 2 hg2).trans a2_2
  have d3 := (hin4.cells _ 3 hg2).trans a2_3
  have HHL := Lib.hid hHL; have HLEN := Lib.hid hlen; have HO4 := Lib.hid hO4
  clear hO hW b0 b1 b2 b3 hO3 hB3 hB3' hO4 hB4 hB4' HG hHL hlen
  go_wp2
  go_loopw [7, 42] (fun bv iv wr => ∃ k : Nat, k ≤ l.length ∧ iv = .int .i64 (k : Int) ∧ OwnB wr w2.heap.size bv (HL ++ bodyV pf true (l.take k)) ∧ Within w2 wr) (fun _ iv _ => l.length - (intOf iv).toNat)
  case atStart => exact ⟨0, Nat.zero_le _, rfl, (by rw [show bodyV pf true (l.take 0) = [] from rfl, List.append_nil]; exact HO4.out), hin4⟩
  case round =>
    obtain ⟨k, hk, rfl, hown, hin⟩ := hrel
    obtain ⟨L, hL⟩ : ∃ L, L = HL ++ bodyV pf true (l.take k) := ⟨_, rfl⟩
    rw [← hL] at hown
    have hLl : L.length ≤ 100 := by rw [hL, List.length_append, bodyV_len, HLEN.out, List.length_take]; unfold stp; split <;> omega
    have hLb : Bytes L := by rw [hL]; exact hbyt.append (bodyV_bytes _ _)
    have hbr : w2.heap.size ≤ wr.heap.size := hin.size
    have HOW := Lib.hid hown; have HLE := Lib.hid hL; have HLL := Lib.hid hLl; clear hown hL hLl
    by_cases hlt : k < l.length
    · obtain ⟨ad, rfl, hblk, hc⟩ := (hsl2.of hin).at hlt
      obtain ⟨x, hx⟩ : ∃ x, x = l.getD k 0 := ⟨_, rfl⟩
      have hx2 : x < 18446744073709551616 := by rw [hx]; exact HW.out.at hlt
      rw [← hx] at hc
      have hnext := body_snoc (F := pf) true hlt
      rw [← hx] at hnext
      simp only [if_true] at hnext
      have HN := Lib.hid hnext; have HX2 := Lib.hid hx2; clear hx hx2 hnext
      go_wp2_with fail
      refine (put8 w2.heap.size _ L x HX2.out (by have := HLL.out; omega) _ (by exact hbr) (by exact HOW.out)).mono ?_; rintro e5 w5 ⟨v5, rfl, hO5, hB5⟩
      have HO5 := Lib.hid hO5; clear hO5
      go_wp2
      go_roundw
      case rel => exact ⟨k + 1, hlt, by go_num, (by have := HO5.out; rw [HLE.out, List.append_assoc, ← HN.out] at this; exact this), Below.trans hin hB5⟩
      case measure => simp [intOf]; omega
    · obtain rfl : k = l.length := by omega
      obtain ⟨A5, k5, rfl, _, hat5, _⟩ := HOW.out.form
      have hcr := crcOf_lt hLb
      have g7 : IntKind.u64.wrap (crcOf L : Int) = (crcOf L : Int) := by rw [IntKind.wrap_u64]; omega
      have SM := Lib.hid (sum_any A5 k5 L hLb (by have := HLL.out; omega) wr hat5)
      have HCR := Lib.hid hcr; have HLB := Lib.hid hLb; clear hcr hLb
      go_wp2_with fail
      refine SM.out.mono ?_; rintro e5 w5 ⟨rfl, rfl⟩
      go_wp2_with fail
      refine (put4 w2.heap.size _ L (crcOf L) (by have := HCR.out; omega) (by have := HLL.out; omega) _ (by exact hbr) (by exact HOW.out)).mono ?_; rintro e6 w6 ⟨v6, rfl, hO6, hB6⟩
      go_wp2
      go_ret2
      refine ⟨_, rfl, ?_, hin2.trans (Below.trans hin hB6)⟩
      have e : L = headV true S l.length q t ++ bodyV pf true l := by
        have h1 := HLE.out; rw [List.take_of_length_le (Nat.le_refl _), HHL.out, HC.out] at h1; exact h1
      unfold withSum
      rw [← e]
      exact hO6.less hin2.size
set_option maxRecDepth 100000 in
set_option maxHeartbeats 1000000 in
theorem Pack_near (S q t : Nat) (A : Option Addr) (c : Nat) (l : List Nat) (hS : S < 64) (hl : l.length ≤ 6) (hq : q < 4294967296) (ht : t < 4294967296) (hw : Words64 l) (hfin : l.all finD = true) (hsg : l.all isSD = true) (CK : Hid (∀ w, SlAt w A (f64v l) → Calls Tryz.prog 76 #[.agg #[.int .i64 (S : Int), .int .u32 (q : Int), .int .u32 (t : Int), .slice A l.length c]] w fun e1 w' => e1 = .returned (.int .i64 (0)) ∧ Within w w')) (SG : Hid (∀ w, FmS w → SlAt w A (f64v l) → Calls Tryz.prog 71 #[.agg #[.int .i64 (S : Int), .int .u32 (q : Int), .int .u32 (t : Int), .slice A l.length c]] w fun e w' => e = .returned (.bool true) ∧ Within w w')) (w : World) (hT : FmS w) (hr : SlAt w A (f64v l)) : Calls Tryz.prog 50 #[.agg #[.int .i64 (S : Int), .int .u32 (q : Int), .int .u32 (t : Int), .slice A l.length c]] w fun e w' => ∃ v, e = .returned (.tuple #[v, .int .i64 0]) ∧ OwnB w' w.heap.size v (withSum (headV false S l.length q t ++ bodyV pf false l)) ∧ Within w w' := by
  have HW := Lib.hid hw; have HR := Lib.hid hr; have HT := Lib.hid hT; have HF := Lib.hid hfin; clear hw hr hT hfin
  have HSG := Lib.hid hsg; clear hsg
  have g1 : IntKind.u8.wrap (l.length : Int) = (l.length : Int) := by rw [IntKind.wrap_u8]; omega
  have g2 : IntKind.u8.wrap (S : Int) = (S : Int) := by rw [IntKind.wrap_u8]; omega
  have g4 : IntKind.u64.wrap (q : Int) = (q : Int) := by rw [IntKind.wrap_u64]; omega
  have g5 : IntKind.u64.wrap (t : Int) = (t : Int) := by rw [IntKind.wrap_u64]; omega
  have HQ := Lib.hid (And.intro hq ht); clear hq ht
  have c0 : (w.alloc (.cells #[.int .i64 (S : Int), .int .u32 (q : Int), .int .u32 (t : Int), .slice A l.length c] 64)).cell? ⟨w.heap.size, 0, none⟩ = some (.int .i64 (S : Int)) := by go_simp
  have c1 : (w.alloc (.cells #[.int .i64 (S : Int), .int .u32 (q : Int), .int .u32 (t : Int), .slice A l.length c] 64)).cell? ⟨w.heap.size, 1, none⟩ = some (.int .u32 (q : Int)) := by go_simp
  have c2 : (w.alloc (.cells #[.int .i64 (S : Int), .int .u32 (q : Int), .int .u32 (t : Int), .slice A l.length c] 64)).cell? ⟨w.heap.size, 2, none⟩ = some (.int .u32 (t : Int)) := by go_simp
  have c3 : (w.alloc (.cells #[.int .i64 (S : Int), .int .u32 (q : Int), .int .u32 (t : Int), .slice A l.length c] 64)).cell? ⟨w.heap.size, 3, none⟩ = some (.slice A l.length c) := by go_simp
  have hg : w.heap.size < (w.alloc (.cells #[.int .i64 (S : Int), .int .u32 (q : Int), .int .u32 (t : Int), .slice A l.length c] 64)).heap.size := by simp
  have hsl := HR.out.of ((Within.refl w).alloc (.cells #[.int .i64 (S : Int), .int .u32 (q : Int), .int .u32 (t : Int), .slice A l.length c] 64))
  have hin1 : Within w (w.alloc (.cells #[.int .i64 (S : Int), .int .u32 (q : Int), .int .u32 (t : Int), .slice A l.length c] 64)) := (Within.refl w).alloc _
  go_enter Tryz.func50, Tryz.ntmps50
  go_wp2_with fail
  refine (CK.out _ hsl).mono ?_; rintro e1 w1 ⟨rfl, hv1⟩
  have a1_0 := (hv1.cells _ 0 hg).trans c0
  have a1_1 := (hv1.cells _ 1 hg).trans c1
  have a1_2 := (hv1.cells _ 2 hg).trans c2
  have a1_3 := (hv1.cells _ 3 hg).trans c3
  go_wp2_with fail
  refine (SG.out _ (HT.out.of (hin1.trans hv1)) (hsl.of hv1)).mono ?_; rintro e2 w2 ⟨rfl, hb2⟩
  have hv2 := hv1.trans hb2
  have a2_0 := (hv2.cells _ 0 hg).trans c0
  have a2_1 := (hv2.cells _ 1 hg).trans c1
  have a2_2 := (hv2.cells _ 2 hg).trans c2
  have a2_3 := (hv2.cells _ 3 hg).trans c3
  have hsl2 := hsl.of hv2
  have hin2 := hin1.trans hv2
  have hg2 : w.heap.size < w2.heap.size := Nat.lt_of_lt_of_le hg hv2.size
  have hC : l.length = l.length := rfl
  have hrow := made_row w2 [181, 98, S, l.length] (by simp)
  clear a1_0 a1_1 a1_2 a1_3 c0 c1 c2 c3 hsl hv1 hb2 hv2 hin1
  have HG : Hid (OwnB (w2.alloc (.cells #[.int .u8 181, .int .u8 98, .int .u8 (S : Int), .int .u8 (l.length : Int)] 5)) w2.heap.size (.slice (some ⟨w2.heap.size, 0, none⟩) 4 4) [181, 98, S, l.length]) := Lib.hid hrow
  clear hrow hC
  go_wp2
  refine wp_region_schB (w2.heap.size) (fun W => W.cell? ⟨w.heap.size, 0, none⟩ = some (.int .i64 (S : Int)) ∧ W.cell? ⟨w.heap.size, 1, none⟩ = some (.int .u32 (q : Int)) ∧ W.cell? ⟨w.heap.size, 2, none⟩ = some (.int .u32 (t : Int)) ∧ W.cell? ⟨w.heap.size, 3, none⟩ = some (.slice A l.length c) ∧ OwnB W w2.heap.size (.slice (some ⟨w2.heap.size, 0, none⟩) 4 4) [181, 98, S, l.length] ∧ Within w2 W) 9 (.firm 0 (.firm 1 (.firm 2 (.firm 3 (.firm 5 (.firm 6 (.firm 7 (.one 4 (.one 8 (.one 9 .nil)))))))))) (by kernel_rfl) (by kernel_rfl) ⟨by go_simp, by go_simp, by go_simp, by go_simp, HG.out, (Within.refl w2).alloc _⟩ ?_
  rintro w0 ⟨b0, b1, b2, b3, hO, hW⟩
  try simp only [Act.put, List.setIfInBounds_toArray, List.set_cons_zero, List.set_cons_succ]
  iterate 7
    apply sch_firm rfl rfl (by repeat (first | with_reducible exact Below.refl _ _ | with_reducible assumption | with_reducible refine Below.drew ?_ | with_reducible refine Below.trans ?_ (by assumption)))
    · intro wq hq
      have hcq : ∀ b o, b < w2.heap.size → wq.cell? ⟨b, o, none⟩ = w0.cell? ⟨b, o, none⟩ := fun b o hb => hq.cell (p := ⟨b, o, none⟩) hb
      clear hq
      go_simp
      rfl
    try simp only [Act.put, List.setIfInBounds_toArray, List.set_cons_zero, List.set_cons_succ]
  refine sch_one rfl rfl (fun K hK => ?_)
  go_simp
  refine (put4 w2.heap.size _ [181, 98, S, l.length] q (by have := HQ.out; omega) (by simp) _ (by exact hW.size) (by exact hO)).mono ?_; rintro e3 w3 ⟨v3, rfl, hO3, hB3⟩
  have hB3' : Below w2.heap.size w0 w3 := (Below.drew (Below.refl _ w0)).trans hB3
  refine hK _ _ (fun _ => (by repeat (first | with_reducible exact Below.refl _ _ | with_reducible assumption | with_reducible refine Below.drew ?_ | with_reducible refine Below.trans ?_ (by assumption)))) ?_
  clear hK K
  try simp only [Act.put, List.setIfInBounds_toArray, List.set_cons_zero, List.set_cons_succ]
  refine sch_one rfl rfl (fun K hK => ?_)
  go_simp
  refine (put4 w2.heap.size _ ([181, 98, S, l.length] ++ leBytes 4 q) t (by have := HQ.out; omega) (by simp [leBytes_len]) _ (by exact Nat.le_trans hW.size hB3'.size) (by exact hO3)).mono ?_; rintro e4 w4 ⟨v4, rfl, hO4, hB4⟩
  have hB4' : Below w2.heap.size w0 w4 := hB3'.trans hB4
  refine hK _ _ (fun _ => (by repeat (first | with_reducible exact Below.refl _ _ | with_reducible assumption | with_reducible refine Below.drew ?_ | with_reducible refine Below.trans ?_ (by assumption)))) ?_
  clear hK K
  try simp only [Act.put, List.setIfInBounds_toArray, List.set_cons_zero, List.set_cons_succ]
  refine sch_one rfl rfl (fun K hK => ?_)
  go_simp
  refine hK _ _ (fun h => absurd h (by decide)) ?_
  clear hK K
  try simp only [Act.put, List.setIfInBounds_toArray, List.set_cons_zero, List.set_cons_succ]
  refine sch_nil ?_
  obtain ⟨HL, hHL⟩ : ∃ HL, HL = [181, 98, S, l.length] ++ leBytes 4 q ++ leBytes 4 t := ⟨_, rfl⟩
  rw [← hHL] at hO4
  have hlen : HL.length = 12 := by rw [hHL]; simp [leBytes_len]
  have hbyt : Bytes HL := by
    rw [hHL]
    refine Bytes.append (Bytes.append ?_ (leBytes_bytes _ _)) (leBytes_bytes _ _)
    intro z hz
    simp only [List.mem_cons, List.not_mem_nil, or_false] at hz
    rcases hz with rfl | rfl | rfl | rfl <;> omega
  have hin4 : Within w2 w4 := Below.trans hW hB4'
  have d0 := (hin4.cells _ 0 hg2).trans a2_0
  have d1 := (hin4.cells _ 1 hg2).trans a2_1
  have d2 := (hin4.cells _ 2 hg2).trans a2_2
  have d3 := (hin4.cells _ 3 hg2).trans a2_3
  have HHL := Lib.hid hHL; have HLEN := Lib.hid hlen; have HO4 := Lib.hid hO4
  clear hO hW b0 b1 b2 b3 hO3 hB3 hB3' hO4 hB4 hB4' HG hHL hlen
  go_wp2
  go_loopw [7, 42] (fun bv iv wr => ∃ k : Nat, k ≤ l.length ∧ iv = .int .i64 (k : Int) ∧ OwnB wr w2.heap.size bv (HL ++ bodyV pf false (l.take k)) ∧ Within w2 wr) (fun _ iv _ => l.length - (intOf iv).toNat)
  case atStart => exact ⟨0, Nat.zero_le _, rfl, (by rw [show bodyV pf false (l.take 0) = [] from rfl, List.append_nil]; exact HO4.out), hin4⟩
  case round =>
    obtain ⟨k, hk, rfl, hown, hin⟩ := hrel
    obtain ⟨L, hL⟩ : ∃ L, L = HL ++ bodyV pf false (l.take k) := ⟨_, rfl⟩
    rw [← hL] at hown
    have hLl : L.length ≤ 100 := by rw [hL, List.length_append, bodyV_len, HLEN.out, List.length_take]; unfold stp; split <;> omega
    have hLb : Bytes L := by rw [hL]; exact hbyt.append (bodyV_bytes _ _)
    have hbr : w2.heap.size ≤ wr.heap.size := hin.size
    have HOW := Lib.hid hown; have HLE := Lib.hid hL; have HLL := Lib.hid hLl; clear hown hL hLl
    by_cases hlt : k < l.length
    · obtain ⟨ad, rfl, hblk, hc⟩ := (hsl2.of hin).at hlt
      obtain ⟨x, hx⟩ : ∃ x, x = l.getD k 0 := ⟨_, rfl⟩
      have hx2 : x < 18446744073709551616 := by rw [hx]; exact HW.out.at hlt
      rw [← hx] at hc
      have hnext := body_snoc (F := pf) false hlt
      rw [← hx] at hnext
      have hmem : x ∈ l := by rw [hx, List.getD, List.getElem?_eq_getElem hlt]; exact List.getElem_mem hlt
      have hfx := List.all_eq_true.1 HF.out x hmem
      have hsx := List.all_eq_true.1 HSG.out x hmem
      have hcv : ∀ w, (convert 68 112 (.float .f64 x)).run Tryz.prog w = .ok (.float .f32 (nWord x 0)) w := fun w => by
        have h := conv_nar (P := Tryz.prog) (src := 68) (dst := 112) (by kernel_rfl) (by kernel_rfl) x hx2 w
        rw [(nar_single hx2 hfx hsx w).1, (nar_single hx2 hfx hsx w).2] at h; exact h
      obtain ⟨nx, hnx⟩ : ∃ nx, nx = nWord x 0 := ⟨_, rfl⟩
      have hnx2 : nx < 4294967296 := by rw [hnx]; exact nWord_lt x hx2 0
      have hnb : pf.nb x = nx := hnx.symm
      rw [← hnx] at hcv
      have g6 : IntKind.u64.wrap (nx : Int) = (nx : Int) := by rw [IntKind.wrap_u64]; omega
      simp only [Bool.false_eq_true, if_false] at hnext
      rw [hnb] at hnext
      have HNX := Lib.hid hnx2; clear hmem hfx hsx hnx hnx2 hnb
      have HN := Lib.hid hnext; have HX2 := Lib.hid hx2; clear hx hx2 hnext
      go_wp2_with fail
      refine (put4 w2.heap.size _ L nx (by have := HNX.out; omega) (by have := HLL.out; omega) _ (by exact hbr) (by exact HOW.out)).mono ?_; rintro e5 w5 ⟨v5, rfl, hO5, hB5⟩
      have HO5 := Lib.hid hO5; clear hO5
      go_wp2
      go_roundw
      case rel => exact ⟨k + 1, hlt, by go_num, (by have := HO5.out; rw [HLE.out, List.append_assoc, ← HN.out] at this; exact this), Below.trans hin hB5⟩
      case measure => simp [intOf]; omega
    · obtain rfl : k = l.length := by omega
      obtain ⟨A5, k5, rfl, _, hat5, _⟩ := HOW.out.form
      have hcr := crcOf_lt hLb
      have g7 : IntKind.u64.wrap (crcOf L : Int) = (crcOf L : Int) := by rw [IntKind.wrap_u64]; omega
      have SM := Lib.hid (sum_any A5 k5 L hLb (by have := HLL.out; omega) wr hat5)
      have HCR := Lib.hid hcr; have HLB := Lib.hid hLb; clear hcr hLb
      go_wp2_with fail
      refine SM.out.mono ?_; rintro e5 w5 ⟨rfl, rfl⟩
      go_wp2_with fail
      refine (put4 w2.heap.size _ L (crcOf L) (by have := HCR.out; omega) (by have := HLL.out; omega) _ (by exact hbr) (by exact HOW.out)).mono ?_; rintro e6 w6 ⟨v6, rfl, hO6, hB6⟩
      go_wp2
      go_ret2
      refine ⟨_, rfl, ?_, hin2.trans (Below.trans hin hB6)⟩
      have e : L = headV false S l.length q t ++ bodyV pf false l := by
        have h1 := HLE.out; rw [List.take_of_length_le (Nat.le_refl _), HHL.out] at h1; exact h1
      unfold withSum
      rw [← e]
      exact hO6.less hin2.size
set_option maxRecDepth 100000 in
set_option maxHeartbeats 1000000 in
theorem Rpack_wide (S q t : Nat) (A : Option Addr) (c : Nat) (l : List Nat) (hS : S < 64) (hl : l.length ≤ 6) (hq : q < 4294967296) (ht : t < 4294967296) (hw : Words64 l) (hfin : l.all finD = true) (CK : Hid (∀ w, SlAt w A (f64v l) → Calls Tryz.prog 51 #[.agg #[.int .i64 (S : Int), .int .u32 (q : Int), .int .u32 (t : Int), .slice A l.length c]] w fun e1 w' => e1 = .returned (.int .i64 (0)) ∧ Within w w')) (SG : Hid (∀ w, SlAt w A (f64v l) → Calls Tryz.prog 52 #[.slice A l.length c] w fun e w' => e = .returned (.bool false) ∧ Within w w')) (w : World) (hr : SlAt w A (f64v l)) : Calls Tryz.prog 28 #[.agg #[.int .i64 (S : Int), .int .u32 (q : Int), .int .u32 (t : Int), .slice A l.length c]] w fun e w' => ∃ v, e = .returned (.tuple #[v, .int .i64 0]) ∧ OwnB w' w.heap.size v (withSum (headV true S l.length q t ++ bodyV pf true l)) ∧ Within w w' := by
  have HW := Lib.hid hw; have HR := Lib.hid hr; have HF := Lib.hid hfin; clear hw hr hfin
  have g1 : IntKind.u8.wrap (l.length : Int) = (l.length : Int) := by rw [IntKind.wrap_u8]; omega
  have g1' : IntKind.u8.wrap ((l.length : Int) + 128) = (l.length : Int) + 128 := by rw [IntKind.wrap_u8]; omega
  have g2 : IntKind.u8.wrap (S : Int) = (S : Int) := by rw [IntKind.wrap_u8]; omega
  have g4 : IntKind.u64.wrap (q : Int) = (q : Int) := by rw [IntKind.wrap_u64]; omega
  have g5 : IntKind.u64.wrap (t : Int) = (t : Int) := by rw [IntKind.wrap_u64]; omega
  have HQ := Lib.hid (And.intro hq ht); clear hq ht
  have c0 : (w.alloc (.cells #[.int .i64 (S : Int), .int .u32 (q : Int), .int .u32 (t : Int), .slice A l.length c] 64)).cell? ⟨w.heap.size, 0, none⟩ = some (.int .i64 (S : Int)) := by go_simp
  have c1 : (w.alloc (.cells #[.int .i64 (S : Int), .int .u32 (q : Int), .int .u32 (t : Int), .slice A l.length c] 64)).cell? ⟨w.heap.size, 1, none⟩ = some (.int .u32 (q : Int)) := by go_simp
  have c2 : (w.alloc (.cells #[.int .i64 (S : Int), .int .u32 (q : Int), .int .u32 (t : Int), .slice A l.length c] 64)).cell? ⟨w.heap.size, 2, none⟩ = some (.int .u32 (t : Int)) := by go_simp
  have c3 : (w.alloc (.cells #[.int .i64 (S : Int), .int .u32 (q : Int), .int .u32 (t : Int), .slice A l.length c] 64)).cell? ⟨w.heap.size, 3, none⟩ = some (.slice A l.length c) := by go_simp
  have hg : w.heap.size < (w.alloc (.cells #[.int .i64 (S : Int), .int .u32 (q : Int), .int .u32 (t : Int), .slice A l.length c] 64)).heap.size := by simp
  have hsl := HR.out.of ((Within.refl w).alloc (.cells #[.int .i64 (S : Int), .int .u32 (q : Int), .int .u32 (t : Int), .slice A l.length c] 64))
  have hin1 : Within w (w.alloc (.cells #[.int .i64 (S : Int), .int .u32 (q : Int), .int .u32 (t : Int), .slice A l.length c] 64)) := (Within.refl w).alloc _
  go_enter Tryz.func28, Tryz.ntmps28
  go_wp2_with fail
  refine (CK.out _ hsl).mono ?_; rintro e1 w1 ⟨rfl, hv1⟩
  have a1_0 := (hv1.cells _ 0 hg).trans c0
  have a1_1 := (hv1.cells _ 1 hg).trans c1
  have a1_2 := (hv1.cells _ 2 hg).trans c2
  have a1_3 := (hv1.cells _ 3 hg).trans c3
  go_wp2_with fail
  refine (SG.out _ (hsl.of hv1)).mono ?_; rintro e2 w2 ⟨rfl, hb2⟩
  have hv2 := hv1.trans hb2
  have a2_0 := (hv2.cells _ 0 hg).trans c0
  have a2_1 := (hv2.cells _ 1 hg).trans c1
  have a2_2 := (hv2.cells _ 2 hg).trans c2
  have a2_3 := (hv2.cells _ 3 hg).trans c3
  have hsl2 := hsl.of hv2
  have hin2 := hin1.trans hv2
  have hg2 : w.heap.size < w2.heap.size := Nat.lt_of_lt_of_le hg hv2.size
  have hrow := made_row w2 [181, 98, S, l.length + 128] (by simp)
  clear a1_0 a1_1 a1_2 a1_3 c0 c1 c2 c3 hsl hv1 hb2 hv2 hin1
  have HG : Hid (OwnB (w2.alloc (.cells #[.int .u8 181, .int .u8 98, .int .u8 (S : Int), .int .u8 ((l.length : Int) + 128)] 5)) w2.heap.size (.slice (some ⟨w2.heap.size, 0, none⟩) 4 4) [181, 98, S, l.length + 128]) := Lib.hid hrow
  clear hrow
  have hW : Within w2 (w2.alloc (.cells #[.int .u8 181, .int .u8 98, .int .u8 (S : Int), .int .u8 ((l.length : Int) + 128)] 5)) := (Within.refl w2).alloc _
  go_wp2_with fail
  refine (Rput4 w2.heap.size _ [181, 98, S, l.length + 128] q (by have := HQ.out; omega) (by simp) _ (by exact hW.size) (by exact HG.out)).mono ?_; rintro e3 w3 ⟨v3, rfl, hO3, hB3⟩
  have hin3 : Within w2 w3 := Below.trans hW hB3
  have f0 := (hin3.cells _ 0 hg2).trans a2_0
  have f1 := (hin3.cells _ 1 hg2).trans a2_1
  have f2 := (hin3.cells _ 2 hg2).trans a2_2
  have f3 := (hin3.cells _ 3 hg2).trans a2_3
  have HO3 := Lib.hid hO3; clear hO3
  go_wp2_with fail
  refine (Rput4 w2.heap.size _ ([181, 98, S, l.length + 128] ++ leBytes 4 q) t (by have := HQ.out; omega) (by simp [leBytes_len]) _ (by exact hin3.size) (by exact HO3.out)).mono ?_; rintro e4 w4 ⟨v4, rfl, hO4, hB4⟩
  have hin4 : Within w2 w4 := Below.trans hin3 hB4
  obtain ⟨HL, hHL⟩ : ∃ HL, HL = [181, 98, S, l.length + 128] ++ leBytes 4 q ++ leBytes 4 t := ⟨_, rfl⟩
  rw [← hHL] at hO4
  have hlen : HL.length = 12 := by rw [hHL]; simp [leBytes_len]
  have hbyt : Bytes HL := by
    rw [hHL]
    refine Bytes.append (Bytes.append ?_ (leBytes_bytes _ _)) (leBytes_bytes _ _)
    intro z hz
    simp only [List.mem_cons, List.not_mem_nil, or_false] at hz
    rcases hz with rfl | rfl | rfl | rfl <;> omega
  have d0 := (hin4.cells _ 0 hg2).trans a2_0
  have d1 := (hin4.cells _ 1 hg2).trans a2_1
  have d2 := (hin4.cells _ 2 hg2).trans a2_2
  have d3 := (hin4.cells _ 3 hg2).trans a2_3
  have HHL := Lib.hid hHL; have HLEN := Lib.hid hlen; have HO4 := Lib.hid hO4
  clear hW HO3 hB3 hin3 hO4 hB4 HG hHL hlen f0 f1 f2 f3
  go_wp2
  go_loopw [7, 44] (fun bv iv wr => ∃ k : Nat, k ≤ l.length ∧ iv = .int .i64 (k : Int) ∧ OwnB wr w2.heap.size bv (HL ++ bodyV pf true (l.take k)) ∧ Within w2 wr) (fun _ iv _ => l.length - (intOf iv).toNat)
  case atStart => exact ⟨0, Nat.zero_le _, rfl, (by rw [show bodyV pf true (l.take 0) = [] from rfl, List.append_nil]; exact HO4.out), hin4⟩
  case round =>
    obtain ⟨k, hk, rfl, hown, hin⟩ := hrel
    obtain ⟨L, hL⟩ : ∃ L, L = HL ++ bodyV pf true (l.take k) := ⟨_, rfl⟩
    rw [← hL] at hown
    have hLl : L.length ≤ 100 := by rw [hL, List.length_append, bodyV_len, HLEN.out, List.length_take]; unfold stp; split <;> omega
    have hLb : Bytes L := by rw [hL]; exact hbyt.append (bodyV_bytes _ _)
    have hbr : w2.heap.size ≤ wr.heap.size := hin.size
    have HOW := Lib.hid hown; have HLE := Lib.hid hL; have HLL := Lib.hid hLl; clear hown hL hLl
    by_cases hlt : k < l.length
    · obtain ⟨ad, rfl, hblk, hc⟩ := (hsl2.of hin).at hlt
      obtain ⟨x, hx⟩ : ∃ x, x = l.getD k 0 := ⟨_, rfl⟩
      have hx2 : x < 18446744073709551616 := by rw [hx]; exact HW.out.at hlt
      rw [← hx] at hc
      have hnext := body_snoc (F := pf) true hlt
      rw [← hx] at hnext
      simp only [if_true] at hnext
      have HN := Lib.hid hnext; have HX2 := Lib.hid hx2; clear hx hx2 hnext
      go_wp2_with fail
      refine (Rput8 w2.heap.size _ L x HX2.out (by have := HLL.out; omega) _ (by exact hbr) (by exact HOW.out)).mono ?_; rintro e5 w5 ⟨v5, rfl, hO5, hB5⟩
      have HO5 := Lib.hid hO5; clear hO5
      go_wp2
      go_roundw
      case rel => exact ⟨k + 1, hlt, by go_num, (by have := HO5.out; rw [HLE.out, List.append_assoc, ← HN.out] at this; exact this), Below.trans hin hB5⟩
      case measure => simp [intOf]; omega
    · obtain rfl : k = l.length := by omega
      obtain ⟨A5, k5, rfl, _, hat5, _⟩ := HOW.out.form
      have hcr := crcOf_lt hLb
      have g7 : IntKind.u64.wrap (crcOf L : Int) = (crcOf L : Int) := by rw [IntKind.wrap_u64]; omega
      have SM := Lib.hid (Rsum_any A5 k5 L hLb (by have := HLL.out; omega) wr hat5)
      have HCR := Lib.hid hcr; have HLB := Lib.hid hLb; clear hcr hLb
      go_wp2_with fail
      refine SM.out.mono ?_; rintro e5 w5 ⟨rfl, rfl⟩
      go_wp2_with fail
      refine (Rput4 w2.heap.size _ L (crcOf L) (by have := HCR.out; omega) (by have := HLL.out; omega) _ (by exact hbr) (by exact HOW.out)).mono ?_; rintro e6 w6 ⟨v6, rfl, hO6, hB6⟩
      go_wp2
      go_ret2
      refine ⟨_, rfl, ?_, hin2.trans (Below.trans hin hB6)⟩
      have e : L = headV true S l.length q t ++ bodyV pf true l := by
        have h1 := HLE.out; rw [List.take_of_length_le (Nat.le_refl _), HHL.out] at h1; exact h1
      unfold withSum
      rw [← e]
      exact hO6.less hin2.size
set_option maxRecDepth 100000 in
set_option maxHeartbeats 1000000 in
theorem Rpack_near (S q t : Nat) (A : Option Addr) (c : Nat) (l : List Nat) (hS : S < 64) (hl : l.length ≤ 6) (hq : q < 4294967296) (ht : t < 4294967296) (hw : Words64 l) (hfin : l.all finD = true) (hsg : l.all isSD = true) (CK : Hid (∀ w, SlAt w A (f64v l) → Calls Tryz.prog 51 #[.agg #[.int .i64 (S : Int), .int .u32 (q : Int), .int .u32 (t : Int), .slice A l.length c]] w fun e1 w' => e1 = .returned (.int .i64 (0)) ∧ Within w w')) (SG : Hid (∀ w, SlAt w A (f64v l) → Calls Tryz.prog 52 #[.slice A l.length c] w fun e w' => e = .returned (.bool true) ∧ Within w w')) (w : World) (hr : SlAt w A (f64v l)) : Calls Tryz.prog 28 #[.agg #[.int .i64 (S : Int), .int .u32 (q : Int), .int .u32 (t : Int), .slice A l.length c]] w fun e w' => ∃ v, e = .returned (.tuple #[v, .int .i64 0]) ∧ OwnB w' w.heap.size v (withSum (headV false S l.length q t ++ bodyV pf false l)) ∧ Within w w' := by
  have HW := Lib.hid hw; have HR := Lib.hid hr; have HF := Lib.hid hfin; clear hw hr hfin
  have HSG := Lib.hid hsg; clear hsg
  have g1 : IntKind.u8.wrap (l.length : Int) = (l.length : Int) := by rw [IntKind.wrap_u8]; omega
  have g1' : IntKind.u8.wrap ((l.length : Int) + 128) = (l.length : Int) + 128 := by rw [IntKind.wrap_u8]; omega
  have g2 : IntKind.u8.wrap (S : Int) = (S : Int) := by rw [IntKind.wrap_u8]; omega
  have g4 : IntKind.u64.wrap (q : Int) = (q : Int) := by rw [IntKind.wrap_u64]; omega
  have g5 : IntKind.u64.wrap (t : Int) = (t : Int) := by rw [IntKind.wrap_u64]; omega
  have HQ := Lib.hid (And.intro hq ht); clear hq ht
  have c0 : (w.alloc (.cells #[.int .i64 (S : Int), .int .u32 (q : Int), .int .u32 (t : Int), .slice A l.length c] 64)).cell? ⟨w.heap.size, 0, none⟩ = some (.int .i64 (S : Int)) := by go_simp
  have c1 : (w.alloc (.cells #[.int .i64 (S : Int), .int .u32 (q : Int), .int .u32 (t : Int), .slice A l.length c] 64)).cell? ⟨w.heap.size, 1, none⟩ = some (.int .u32 (q : Int)) := by go_simp
  have c2 : (w.alloc (.cells #[.int .i64 (S : Int), .int .u32 (q : Int), .int .u32 (t : Int), .slice A l.length c] 64)).cell? ⟨w.heap.size, 2, none⟩ = some (.int .u32 (t : Int)) := by go_simp
  have c3 : (w.alloc (.cells #[.int .i64 (S : Int), .int .u32 (q : Int), .int .u32 (t : Int), .slice A l.length c] 64)).cell? ⟨w.heap.size, 3, none⟩ = some (.slice A l.length c) := by go_simp
  have hg : w.heap.size < (w.alloc (.cells #[.int .i64 (S : Int), .int .u32 (q : Int), .int .u32 (t : Int), .slice A l.length c] 64)).heap.size := by simp
  have hsl := HR.out.of ((Within.refl w).alloc (.cells #[.int .i64 (S : Int), .int .u32 (q : Int), .int .u32 (t : Int), .slice A l.length c] 64))
  have hin1 : Within w (w.alloc (.cells #[.int .i64 (S : Int), .int .u32 (q : Int), .int .u32 (t : Int), .slice A l.length c] 64)) := (Within.refl w).alloc _
  go_enter Tryz.func28, Tryz.ntmps28
  go_wp2_with fail
  refine (CK.out _ hsl).mono ?_; rintro e1 w1 ⟨rfl, hv1⟩
  have a1_0 := (hv1.cells _ 0 hg).trans c0
  have a1_1 := (hv1.cells _ 1 hg).trans c1
  have a1_2 := (hv1.cells _ 2 hg).trans c2
  have a1_3 := (hv1.cells _ 3 hg).trans c3
  go_wp2_with fail
  refine (SG.out _ (hsl.of hv1)).mono ?_; rintro e2 w2 ⟨rfl, hb2⟩
  have hv2 := hv1.trans hb2
  have a2_0 := (hv2.cells _ 0 hg).trans c0
  have a2_1 := (hv2.cells _ 1 hg).trans c1
  have a2_2 := (hv2.cells _ 2 hg).trans c2
  have a2_3 := (hv2.cells _ 3 hg).trans c3
  have hsl2 := hsl.of hv2
  have hin2 := hin1.trans hv2
  have hg2 : w.heap.size < w2.heap.size := Nat.lt_of_lt_of_le hg hv2.size
  have hrow := made_row w2 [181, 98, S, l.length] (by simp)
  clear a1_0 a1_1 a1_2 a1_3 c0 c1 c2 c3 hsl hv1 hb2 hv2 hin1
  have HG : Hid (OwnB (w2.alloc (.cells #[.int .u8 181, .int .u8 98, .int .u8 (S : Int), .int .u8 (l.length : Int)] 5)) w2.heap.size (.slice (some ⟨w2.heap.size, 0, none⟩) 4 4) [181, 98, S, l.length]) := Lib.hid hrow
  clear hrow
  have hW : Within w2 (w2.alloc (.cells #[.int .u8 181, .int .u8 98, .int .u8 (S : Int), .int .u8 (l.length : Int)] 5)) := (Within.refl w2).alloc _
  go_wp2_with fail
  refine (Rput4 w2.heap.size _ [181, 98, S, l.length] q (by have := HQ.out; omega) (by simp) _ (by exact hW.size) (by exact HG.out)).mono ?_; rintro e3 w3 ⟨v3, rfl, hO3, hB3⟩
  have hin3 : Within w2 w3 := Below.trans hW hB3
  have f0 := (hin3.cells _ 0 hg2).trans a2_0
  have f1 := (hin3.cells _ 1 hg2).trans a2_1
  have f2 := (hin3.cells _ 2 hg2).trans a2_2
  have f3 := (hin3.cells _ 3 hg2).trans a2_3
  have HO3 := Lib.hid hO3; clear hO3
  go_wp2_with fail
  refine (Rput4 w2.heap.size _ ([181, 98, S, l.length] ++ leBytes 4 q) t (by have := HQ.out; omega) (by simp [leBytes_len]) _ (by exact hin3.size) (by exact HO3.out)).mono ?_; rintro e4 w4 ⟨v4, rfl, hO4, hB4⟩
  have hin4 : Within w2 w4 := Below.trans hin3 hB4
  obtain ⟨HL, hHL⟩ : ∃ HL, HL = [181, 98, S, l.length] ++ leBytes 4 q ++ leBytes 4 t := ⟨_, rfl⟩
  rw [← hHL] at hO4
  have hlen : HL.length = 12 := by rw [hHL]; simp [leBytes_len]
  have hbyt : Bytes HL := by
    rw [hHL]
    refine Bytes.append (Bytes.append ?_ (leBytes_bytes _ _)) (leBytes_bytes _ _)
    intro z hz
    simp only [List.mem_cons, List.not_mem_nil, or_false] at hz
    rcases hz with rfl | rfl | rfl | rfl <;> omega
  have d0 := (hin4.cells _ 0 hg2).trans a2_0
  have d1 := (hin4.cells _ 1 hg2).trans a2_1
  have d2 := (hin4.cells _ 2 hg2).trans a2_2
  have d3 := (hin4.cells _ 3 hg2).trans a2_3
  have HHL := Lib.hid hHL; have HLEN := Lib.hid hlen; have HO4 := Lib.hid hO4
  clear hW HO3 hB3 hin3 hO4 hB4 HG hHL hlen f0 f1 f2 f3
  go_wp2
  go_loopw [7, 44] (fun bv iv wr => ∃ k : Nat, k ≤ l.length ∧ iv = .int .i64 (k : Int) ∧ OwnB wr w2.heap.size bv (HL ++ bodyV pf false (l.take k)) ∧ Within w2 wr) (fun _ iv _ => l.length - (intOf iv).toNat)
  case atStart => exact ⟨0, Nat.zero_le _, rfl, (by rw [show bodyV pf false (l.take 0) = [] from rfl, List.append_nil]; exact HO4.out), hin4⟩
  case round =>
    obtain ⟨k, hk, rfl, hown, hin⟩ := hrel
    obtain ⟨L, hL⟩ : ∃ L, L = HL ++ bodyV pf false (l.take k) := ⟨_, rfl⟩
    rw [← hL] at hown
    have hLl : L.length ≤ 100 := by rw [hL, List.length_append, bodyV_len, HLEN.out, List.length_take]; unfold stp; split <;> omega
    have hLb : Bytes L := by rw [hL]; exact hbyt.append (bodyV_bytes _ _)
    have hbr : w2.heap.size ≤ wr.heap.size := hin.size
    have HOW := Lib.hid hown; have HLE := Lib.hid hL; have HLL := Lib.hid hLl; clear hown hL hLl
    by_cases hlt : k < l.length
    · obtain ⟨ad, rfl, hblk, hc⟩ := (hsl2.of hin).at hlt
      obtain ⟨x, hx⟩ : ∃ x, x = l.getD k 0 := ⟨_, rfl⟩
      have hx2 : x < 18446744073709551616 := by rw [hx]; exact HW.out.at hlt
      rw [← hx] at hc
      have hnext := body_snoc (F := pf) false hlt
      rw [← hx] at hnext
      have hmem : x ∈ l := by rw [hx, List.getD, List.getElem?_eq_getElem hlt]; exact List.getElem_mem hlt
      have hfx := List.all_eq_true.1 HF.out x hmem
      have hsx := List.all_eq_true.1 HSG.out x hmem
      have hcv : ∀ w, (convert 68 112 (.float .f64 x)).run Tryz.prog w = .ok (.float .f32 (nWord x 0)) w := fun w => by
        have h := conv_nar (P := Tryz.prog) (src := 68) (dst := 112) (by kernel_rfl) (by kernel_rfl) x hx2 w
        rw [(nar_single hx2 hfx hsx w).1, (nar_single hx2 hfx hsx w).2] at h; exact h
      obtain ⟨nx, hnx⟩ : ∃ nx, nx = nWord x 0 := ⟨_, rfl⟩
      have hnx2 : nx < 4294967296 := by rw [hnx]; exact nWord_lt x hx2 0
      have hnb : pf.nb x = nx := hnx.symm
      rw [← hnx] at hcv
      have g6 : IntKind.u64.wrap (nx : Int) = (nx : Int) := by rw [IntKind.wrap_u64]; omega
      simp only [Bool.false_eq_true, if_false] at hnext
      rw [hnb] at hnext
      have HNX := Lib.hid hnx2; clear hmem hfx hsx hnx hnx2 hnb
      have HN := Lib.hid hnext; have HX2 := Lib.hid hx2; clear hx hx2 hnext
      go_wp2_with fail
      refine (Rput4 w2.heap.size _ L nx (by have := HNX.out; omega) (by have := HLL.out; omega) _ (by exact hbr) (by exact HOW.out)).mono ?_; rintro e5 w5 ⟨v5, rfl, hO5, hB5⟩
      have HO5 := Lib.hid hO5; clear hO5
      go_wp2
      go_roundw
      case rel => exact ⟨k + 1, hlt, by go_num, (by have := HO5.out; rw [HLE.out, List.append_assoc, ← HN.out] at this; exact this), Below.trans hin hB5⟩
      case measure => simp [intOf]; omega
    · obtain rfl : k = l.length := by omega
      obtain ⟨A5, k5, rfl, _, hat5, _⟩ := HOW.out.form
      have hcr := crcOf_lt hLb
      have g7 : IntKind.u64.wrap (crcOf L : Int) = (crcOf L : Int) := by rw [IntKind.wrap_u64]; omega
      have SM := Lib.hid (Rsum_any A5 k5 L hLb (by have := HLL.out; omega) wr hat5)
      have HCR := Lib.hid hcr; have HLB := Lib.hid hLb; clear hcr hLb
      go_wp2_with fail
      refine SM.out.mono ?_; rintro e5 w5 ⟨rfl, rfl⟩
      go_wp2_with fail
      refine (Rput4 w2.heap.size _ L (crcOf L) (by have := HCR.out; omega) (by have := HLL.out; omega) _ (by exact hbr) (by exact HOW.out)).mono ?_; rintro e6 w6 ⟨v6, rfl, hO6, hB6⟩
      go_wp2
      go_ret2
      refine ⟨_, rfl, ?_, hin2.trans (Below.trans hin hB6)⟩
      have e : L = headV false S l.length q t ++ bodyV pf false l := by
        have h1 := HLE.out; rw [List.take_of_length_le (Nat.le_refl _), HHL.out] at h1; exact h1
      unfold withSum
      rw [← e]
      exact hO6.less hin2.size
def packL (s : Int) (q t : Nat) (l : List Nat) : List Nat := if checkV pf s l = 0 then packV pf ⟨s.toNat, q, t, l⟩ else []
theorem check_parts {s : Int} {l : List Nat} (h : checkV pf s l = 0) : 0 ≤ s ∧ s < 64 ∧ l.length ≤ 6 ∧ l.all finD = true := by
  unfold checkV at h
  by_cases h1 : s < 0 ∨ 64 ≤ s ∨ 6 < l.length
  · rw [if_pos h1] at h; cases h
  rw [if_neg h1] at h
  by_cases h2 : l.all pf.fin = true
  · exact ⟨by omega, by omega, by omega, h2⟩
  · rw [if_neg h2] at h; cases h
theorem pack_split {S q t : Nat} {l : List Nat} : packV pf ⟨S, q, t, l⟩ = withSum (headV (!l.all isSD) S l.length q t ++ bodyV pf (!l.all isSD) l) := rfl
theorem Pack_any (s : Int) (q t : Nat) (A : Option Addr) (c : Nat) (l : List Nat) (hq : q < 4294967296) (ht : t < 4294967296) (hw : Words64 l) (hl : l.length ≤ 1152921504606846976) (w : World) (hT : FmS w) (hr : SlAt w A (f64v l)) :
    Calls Tryz.prog 50 #[.agg #[.int .i64 s, .int .u32 (q : Int), .int .u32 (t : Int), .slice A l.length c]] w fun e w' => ∃ v, e = .returned (.tuple #[v, .int .i64 (checkV pf s l)]) ∧ OwnB w' w.heap.size v (packL s q t l) ∧ Within w w' := by
  have CK := Lib.hid (fun w h => Check_any s (.int .u32 (q : Int)) (.int .u32 (t : Int)) A c l hw hl w h)
  unfold packL
  by_cases h : checkV pf s l = 0
  · rw [h] at CK ⊢
    rw [if_pos rfl]
    obtain ⟨h0, h1, h2, h3⟩ := check_parts h
    obtain ⟨S, rfl⟩ : ∃ S : Nat, s = (S : Int) := ⟨s.toNat, by omega⟩
    rw [Int.toNat_natCast, pack_split]
    have SG := Lib.hid (fun w (hT : FmS w) (hr : SlAt w A (f64v l)) => Singles_any A c (.int .i64 (S : Int)) (.int .u32 (q : Int)) (.int .u32 (t : Int)) l hw hl w hT hr)
    cases hs : l.all isSD
    · rw [hs] at SG
      exact Pack_wide S q t A c l (by omega) h2 hq ht hw h3 CK SG w hT hr
    · rw [hs] at SG
      exact Pack_near S q t A c l (by omega) h2 hq ht hw h3 hs CK SG w hT hr
  · rw [if_neg h]
    exact (Pack_bad s q t A c l (checkV pf s l) (by rw [bne_iff_ne]; exact h) CK w hr).mono fun e w' ⟨he, hb⟩ => ⟨_, he, OwnB.nil_ _ _, hb⟩
theorem Rpack_any (s : Int) (q t : Nat) (A : Option Addr) (c : Nat) (l : List Nat) (hq : q < 4294967296) (ht : t < 4294967296) (hw : Words64 l) (hl : l.length ≤ 1152921504606846976) (w : World) (hr : SlAt w A (f64v l)) :
    Calls Tryz.prog 28 #[.agg #[.int .i64 s, .int .u32 (q : Int), .int .u32 (t : Int), .slice A l.length c]] w fun e w' => ∃ v, e = .returned (.tuple #[v, .int .i64 (checkV pf s l)]) ∧ OwnB w' w.heap.size v (packL s q t l) ∧ Within w w' := by
  have CK := Lib.hid (fun w h => Rcheck_any s (.int .u32 (q : Int)) (.int .u32 (t : Int)) A c l hw hl w h)
  unfold packL
  by_cases h : checkV pf s l = 0
  · rw [h] at CK ⊢
    rw [if_pos rfl]
    obtain ⟨h0, h1, h2, h3⟩ := check_parts h
    obtain ⟨S, rfl⟩ : ∃ S : Nat, s = (S : Int) := ⟨s.toNat, by omega⟩
    rw [Int.toNat_natCast, pack_split]
    have SG := Lib.hid (fun w (hr : SlAt w A (f64v l)) => Rsingles_any A c l hw hl w hr)
    cases hs : l.all isSD
    · rw [hs] at SG
      exact Rpack_wide S q t A c l (by omega) h2 hq ht hw h3 CK SG w hr
    · rw [hs] at SG
      exact Rpack_near S q t A c l (by omega) h2 hq ht hw h3 hs CK SG w hr
  · rw [if_neg h]
    exact (Rpack_bad s q t A c l (checkV pf s l) (by rw [bne_iff_ne]; exact h) CK w hr).mono fun e w' ⟨he, hb⟩ => ⟨_, he, OwnB.nil_ _ _, hb⟩
end Go.Proofs.YtpmjlaiafgbjgaaGreatDoor
end

section
namespace Go.Proofs.YtpmjlaiafgbjgaaGreatDoor
open Go.RowKit
set_option maxRecDepth 100000 in
set_option maxHeartbeats 600000 in
theorem Unpack_head (A : Option Addr) (c : Nat) (l : List Nat) (n : Int) (SZ : Hid (∀ w, SlAt w A (u8v l) → Calls Tryz.prog 65 #[.slice A l.length c] w fun e w' => e = .returned (.tuple #[.int .i64 n, .bool false]) ∧ w = w')) (w : World) (hr : SlAt w A (u8v l)) : Calls Tryz.prog 46 #[.slice A l.length c] w fun e w' => e = .returned (.tuple #[.agg #[.int .i64 0, .int .u32 0, .int .u32 0, .slice none 0 0], .int .i64 211]) ∧ Within w w' := by
  have HR := Lib.hid hr; clear hr
  go_enter Tryz.func46, Tryz.ntmps46
  go_wp2_with fail
  refine (SZ.out _ (HR.out.of (by repeat (first | with_reducible exact Within.refl _ | with_reducible assumption | with_reducible refine Within.alloc ?_ _ | with_reducible refine Within.drew ?_ | with_reducible refine Within.drewN ?_ _ | with_reducible refine Within.setCell ?_ (by first | (simp; done) | (simp; omega)) _ | with_reducible refine Within.trans ?_ (by assumption))))).mono ?_; rintro e1 w1 ⟨rfl, rfl⟩
  go_wp2
  refine bodyPost_ret (v := .tuple #[.agg #[.int .i64 0, .int .u32 0, .int .u32 0, .slice none 0 0], .int .i64 211]) (by simp [results, Tryz.results46, go_sem]) rfl ⟨rfl, (by repeat (first | with_reducible exact Within.refl _ | with_reducible assumption | with_reducible refine Within.alloc ?_ _ | with_reducible refine Within.drew ?_ | with_reducible refine Within.drewN ?_ _ | with_reducible refine Within.setCell ?_ (by first | (simp; done) | (simp; omega)) _ | with_reducible refine Within.trans ?_ (by assumption)))⟩
set_option maxRecDepth 100000 in
set_option maxHeartbeats 600000 in
theorem Unpack_few (A : Option Addr) (c : Nat) (l : List Nat) (n : Int) (h : l.length < 4) (SZ : Hid (∀ w, SlAt w A (u8v l) → Calls Tryz.prog 65 #[.slice A l.length c] w fun e w' => e = .returned (.tuple #[.int .i64 n, .bool true]) ∧ w = w')) (w : World) (hr : SlAt w A (u8v l)) : Calls Tryz.prog 46 #[.slice A l.length c] w fun e w' => e = .returned (.tuple #[.agg #[.int .i64 0, .int .u32 0, .int .u32 0, .slice none 0 0], .int .i64 211]) ∧ Within w w' := by
  have HR := Lib.hid hr; clear hr
  go_enter Tryz.func46, Tryz.ntmps46
  go_wp2_with fail
  refine (SZ.out _ (HR.out.of (by repeat (first | with_reducible exact Within.refl _ | with_reducible assumption | with_reducible refine Within.alloc ?_ _ | with_reducible refine Within.drew ?_ | with_reducible refine Within.drewN ?_ _ | with_reducible refine Within.setCell ?_ (by first | (simp; done) | (simp; omega)) _ | with_reducible refine Within.trans ?_ (by assumption))))).mono ?_; rintro e1 w1 ⟨rfl, rfl⟩
  go_wp2
  refine bodyPost_ret (v := .tuple #[.agg #[.int .i64 0, .int .u32 0, .int .u32 0, .slice none 0 0], .int .i64 211]) (by simp [results, Tryz.results46, go_sem]) rfl ⟨rfl, (by repeat (first | with_reducible exact Within.refl _ | with_reducible assumption | with_reducible refine Within.alloc ?_ _ | with_reducible refine Within.drew ?_ | with_reducible refine Within.drewN ?_ _ | with_reducible refine Within.setCell ?_ (by first | (simp; done) | (simp; omega)) _ | with_reducible refine Within.trans ?_ (by assumption)))⟩
set_option maxRecDepth 100000 in
set_option maxHeartbeats 600000 in
theorem Unpack_long (A : Option Addr) (c : Nat) (l : List Nat) (n : Int) (h : 4 ≤ l.length) (hl : l.length ≤ 1152921504606846976) (hn : ((l.length : Int) != n) = true) (SZ : Hid (∀ w, SlAt w A (u8v l) → Calls Tryz.prog 65 #[.slice A l.length c] w fun e w' => e = .returned (.tuple #[.int .i64 n, .bool true]) ∧ w = w')) (w : World) (hr : SlAt w A (u8v l)) : Calls Tryz.prog 46 #[.slice A l.length c] w fun e w' => e = .returned (.tuple #[.agg #[.int .i64 0, .int .u32 0, .int .u32 0, .slice none 0 0], .int .i64 211]) ∧ Within w w' := by
  have HR := Lib.hid hr; clear hr
  go_enter Tryz.func46, Tryz.ntmps46
  go_wp2_with fail
  refine (SZ.out _ (HR.out.of (by repeat (first | with_reducible exact Within.refl _ | with_reducible assumption | with_reducible refine Within.alloc ?_ _ | with_reducible refine Within.drew ?_ | with_reducible refine Within.drewN ?_ _ | with_reducible refine Within.setCell ?_ (by first | (simp; done) | (simp; omega)) _ | with_reducible refine Within.trans ?_ (by assumption))))).mono ?_; rintro e1 w1 ⟨rfl, rfl⟩
  go_wp2
  refine bodyPost_ret (v := .tuple #[.agg #[.int .i64 0, .int .u32 0, .int .u32 0, .slice none 0 0], .int .i64 211]) (by simp [results, Tryz.results46, go_sem]) rfl ⟨rfl, (by repeat (first | with_reducible exact Within.refl _ | with_reducible assumption | with_reducible refine Within.alloc ?_ _ | with_reducible refine Within.drew ?_ | with_reducible refine Within.drewN ?_ _ | with_reducible refine Within.setCell ?_ (by first | (simp; done) | (simp; omega)) _ | with_reducible refine Within.trans ?_ (by assumption)))⟩
set_option maxRecDepth 100000 in
set_option maxHeartbeats 1000000 in
theorem Unpack_sum (ad : Addr) (c m : Nat) (l : List Nat) (hm : 12 ≤ m ∧ m ≤ 60) (hc : m + 4 ≤ c) (SZ : Hid (∀ w, SlAt w (some ad) (u8v l) → Calls Tryz.prog 65 #[.slice (some ad) (m + 4) c] w fun e w' => e = .returned (.tuple #[.int .i64 ((m + 4 : Nat) : Int), .bool true]) ∧ w = w')) (G C : Nat) (hC : C < 4294967296) (GT : Hid (∀ w, SlAt w (some ad) (u8v l) → Calls Tryz.prog 66 #[.slice (some (ad.add m)) 4 (c - m)] w fun e w' => e = .returned (.int .u64 (G : Int)) ∧ w = w')) (SM : Hid (∀ w, SlAt w (some ad) (u8v l) → Calls Tryz.prog 67 #[.slice (some ad) m c] w fun e w' => e = .returned (.int .u32 (C : Int)) ∧ w = w')) (hs : ((G : Int) != (C : Int)) = true) (w : World) (hr : SlAt w (some ad) (u8v l)) : Calls Tryz.prog 46 #[.slice (some ad) (m + 4) c] w fun e w' => e = .returned (.tuple #[.agg #[.int .i64 0, .int .u32 0, .int .u32 0, .slice none 0 0], .int .i64 212]) ∧ Within w w' := by
  have HR := Lib.hid hr; clear hr
  obtain ⟨m1, m2⟩ := hm
  have hn0 : (((m + 4 : Nat) : Int) != ((m + 4 : Nat) : Int)) = false := by rw [bne_eq_false_iff_eq]
  have d4 : decide ((m : Int) + 4 < 4) = false := decide_eq_false (by omega)
  have w4 : IntKind.i64.wrap (m : Int) = (m : Int) := by rw [IntKind.wrap_i64]; omega
  have hcm : ¬ c = m := by omega
  have hle : (m : Int) ≤ (m : Int) + 4 := by omega
  have hmc : m ≤ c := by omega
  have gC : IntKind.u64.wrap (C : Int) = (C : Int) := by rw [IntKind.wrap_u64]; omega
  clear hC
  go_enter Tryz.func46, Tryz.ntmps46
  go_wp2_with fail
  refine (SZ.out _ (HR.out.of (by repeat (first | with_reducible exact Within.refl _ | with_reducible assumption | with_reducible refine Within.alloc ?_ _ | with_reducible refine Within.drew ?_ | with_reducible refine Within.drewN ?_ _ | with_reducible refine Within.setCell ?_ (by first | (simp; done) | (simp; omega)) _ | with_reducible refine Within.trans ?_ (by assumption))))).mono ?_; rintro e1 w1 ⟨rfl, rfl⟩
  go_wp2
  refine wp_region_within (by kernel_rfl) (by kernel_rfl) ?_
  repeat
    apply wpq_step rfl
    · intro wq hCq
      have hsl := HR.out.of ((((Within.refl w).alloc _).trans hCq))
      go_simp
      first | rfl | exact hCq.same (GT.out _ hsl) | exact hCq.same (SM.out _ hsl) | (trace_state; fail)
    try simp only [Act.put, List.setIfInBounds_toArray, List.set_cons_zero, List.set_cons_succ]
  refine wpQuiet_nil ?_
  intro w3 hb3
  have q0 : w3.cell? ⟨w.heap.size, 0, none⟩ = some (.int .i64 0) := (hb3.cells _ _ (by simp)).trans (by simp)
  have q1 : w3.cell? ⟨w.heap.size, 1, none⟩ = some (.int .u32 0) := (hb3.cells _ _ (by simp)).trans (by simp)
  have q2 : w3.cell? ⟨w.heap.size, 2, none⟩ = some (.int .u32 0) := (hb3.cells _ _ (by simp)).trans (by simp)
  have q3 : w3.cell? ⟨w.heap.size, 3, none⟩ = some (.slice none 0 0) := (hb3.cells _ _ (by simp)).trans (by simp)
  have qf : ∀ o, w3.frozen? ⟨w.heap.size, o, none⟩ = false := fun o => (hb3.frozens _ _ (by simp)).trans (by simp)
  have qz : w.heap.size < w3.heap.size := World.block_lt_of_cell? _ _ q0
  go_wp2
  refine bodyPost_ret (v := .tuple #[.agg #[.int .i64 0, .int .u32 0, .int .u32 0, .slice none 0 0], .int .i64 212]) (by simp [results, Tryz.results46, go_sem, q0, q1, q2, q3]) rfl ⟨rfl, (by repeat (first | with_reducible exact Within.refl _ | with_reducible assumption | with_reducible refine Within.alloc ?_ _ | with_reducible refine Within.drew ?_ | with_reducible refine Within.drewN ?_ _ | with_reducible refine Within.setCell ?_ (by first | (simp; done) | (simp; omega)) _ | with_reducible refine Within.trans ?_ (by assumption)))⟩
theorem get_at (ad : Addr) (_c k n : Nat) (l : List Nat) (hb : Bytes l) (hn : n ≤ 8) (hk : k + n ≤ l.length) (C : Nat) (w : World) (hr : SlAt w (some ad) (u8v l)) : Calls Tryz.prog 66 #[.slice (some (ad.add k)) n C] w fun e w' => e = .returned (.int .u64 (leVal ((l.drop k).take n) : Int)) ∧ w = w' := by
  have h1 := hr.drop k
  have h2 : SlAt w (some (ad.add k)) (u8v ((l.drop k).take n)) := by
    have := h1.take n
    unfold u8v at this ⊢
    rwa [← List.map_drop, ← List.map_take] at this
  have h3 : ((l.drop k).take n).length = n := by rw [List.length_take, List.length_drop]; omega
  have := get_any (some (ad.add k)) C _ ((hb.drop k).take n) (by omega) w h2
  rwa [h3] at this
def RetR (W : World) (rd : Rd) (er : Int) (e : Ending) (w' : World) : Prop := ∃ v, e = .returned (.tuple #[.agg #[.int .i64 (rd.sensor : Int), .int .u32 (rd.seq : Int), .int .u32 (rd.stamp : Int), v], .int .i64 er]) ∧ OwnF w' W.heap.size v rd.vals ∧ Within W w'
def noRd : Rd := ⟨0, 0, 0, []⟩
theorem map_all {p : Nat → Bool} (hp : ∀ x y, canonD x = canonD y → p x = p y) : ∀ {l m : List Nat}, l.map canonD = m.map canonD → l.all p = m.all p
  | [], [], _ => rfl
  | [], _ :: _, h => by simp at h
  | _ :: _, [], h => by simp at h
  | x :: l, y :: m, h => by
    simp only [List.map_cons, List.cons.injEq] at h
    rw [List.all_cons, List.all_cons, hp x y h.1, map_all hp h.2]
theorem map_fin : ∀ {l m : List Nat}, l.map canonD = m.map canonD → l.all finD = true → m.all finD = true → l = m
  | [], [], _, _, _ => rfl
  | [], _ :: _, h, _, _ => by simp at h
  | _ :: _, [], h, _, _ => by simp at h
  | x :: l, y :: m, h, h1, h2 => by
    simp only [List.map_cons, List.cons.injEq] at h
    rw [List.all_cons, Bool.and_eq_true] at h1 h2
    have := h.1
    rw [canonD_fin h1.1, canonD_fin h2.1] at this
    rw [this, map_fin h.2 h1.2 h2.2]
def UnRel (W3 : World) (d : List Nat) (wide : Bool) (n S q t : Nat) (vv : Value) (wr : World) : Prop :=
  ∃ (k : Nat) (A' : Option Addr) (c' : Nat) (vs : List Nat) (sl : Value), k ≤ n ∧ vv = .slice A' (stp wide * (n - k)) c' ∧ stp wide * (n - k) ≤ c' ∧ SlAt W3 A' (u8v (d.drop (stp wide * k))) ∧
    vs.map canonD = (rdVals pf wide k d).map canonD ∧ Words64 vs ∧ OwnF wr (W3.heap.size + 1) sl vs ∧ wr.cell? ⟨W3.heap.size, 0, none⟩ = some (.int .i64 (S : Int)) ∧ wr.cell? ⟨W3.heap.size, 1, none⟩ = some (.int .u32 (q : Int)) ∧
    wr.cell? ⟨W3.heap.size, 2, none⟩ = some (.int .u32 (t : Int)) ∧ wr.cell? ⟨W3.heap.size, 3, none⟩ = some sl ∧ (∀ o, wr.frozen? ⟨W3.heap.size, o, none⟩ = false) ∧ Within W3 wr
def restLen : Value → Nat
  | .slice _ n _ => n
  | _ => 0
theorem UnRel.step {W3 w' : World} {d : List Nat} {wide : Bool} {n S q t k : Nat} {A1 : Option Addr} {c1 x : Nat} {vs : List Nat} {sl' : Value} (hk : k < n) (hc : stp wide * (n - (k + 1)) ≤ c1) (hat : SlAt W3 A1 (u8v (d.drop (stp wide * (k + 1)))))
    (hvs : vs.map canonD = (rdVals pf wide k d).map canonD) (hx : canonD x = canonD (if wide then leVal ((d.drop (stp wide * k)).take 8) else pf.wb (leVal ((d.drop (stp wide * k)).take 4)))) (hx2 : x < 18446744073709551616) (hw : Words64 vs)
    (hown : OwnF w' (W3.heap.size + 1) sl' (vs ++ [x])) (h0 : w'.cell? ⟨W3.heap.size, 0, none⟩ = some (.int .i64 (S : Int))) (h1 : w'.cell? ⟨W3.heap.size, 1, none⟩ = some (.int .u32 (q : Int))) (h2 : w'.cell? ⟨W3.heap.size, 2, none⟩ = some (.int .u32 (t : Int)))
    (h3 : (w'.cell? ⟨W3.heap.size, 3, none⟩).isSome = true) (hf : ∀ o, w'.frozen? ⟨W3.heap.size, o, none⟩ = false) (hb : Within W3 w') :
    UnRel W3 d wide n S q t (.slice A1 (stp wide * (n - (k + 1))) c1) (w'.setCell ⟨W3.heap.size, 3, none⟩ sl') := by
  obtain ⟨u, hu⟩ := Option.isSome_iff_exists.1 h3
  refine ⟨k + 1, A1, c1, vs ++ [x], sl', hk, rfl, hc, hat, ?_, ?_, hown.set (by show W3.heap.size < _; omega) _, ?_, ?_, ?_, World.cell?_setCell_same _ _ _ hu, fun o => ?_, hb.setCell (Nat.le_refl _) _⟩
  · rw [rdVals_snoc, List.map_append, List.map_append, hvs, List.map_singleton, List.map_singleton, hx]
  · intro y hy
    rcases List.mem_append.1 hy with h | h
    · exact hw y h
    · rw [List.mem_singleton] at h; rw [h]; exact hx2
  · rw [World.cell?_setCell_other _ _ _ _ (by simp)]; exact h0
  · rw [World.cell?_setCell_other _ _ _ _ (by simp)]; exact h1
  · rw [World.cell?_setCell_other _ _ _ _ (by simp)]; exact h2
  · rw [World.frozen?_setCell]; exact hf o
end Go.Proofs.YtpmjlaiafgbjgaaGreatDoor
end

section
namespace Go.Proofs.YtpmjlaiafgbjgaaGreatDoor
open Go.RowKit
set_option maxRecDepth 100000 in
set_option maxHeartbeats 1000000 in
theorem Unpack_wide (ad : Addr) (c m : Nat) (l : List Nat) (hm : 12 ≤ m ∧ m ≤ 60) (hc : m + 4 ≤ c) (SZ : Hid (∀ w, SlAt w (some ad) (u8v l) → Calls Tryz.prog 65 #[.slice (some ad) (m + 4) c] w fun e w' => e = .returned (.tuple #[.int .i64 ((m + 4 : Nat) : Int), .bool true]) ∧ w = w')) (G C : Nat) (hC : C < 4294967296) (GT : Hid (∀ w, SlAt w (some ad) (u8v l) → Calls Tryz.prog 66 #[.slice (some (ad.add m)) 4 (c - m)] w fun e w' => e = .returned (.int .u64 (G : Int)) ∧ w = w')) (SM : Hid (∀ w, SlAt w (some ad) (u8v l) → Calls Tryz.prog 67 #[.slice (some ad) m c] w fun e w' => e = .returned (.int .u32 (C : Int)) ∧ w = w')) (S q t : Nat) (hS : S < 256) (hq : q < 4294967296) (ht : t < 4294967296) (GQ : Hid (∀ w, SlAt w (some ad) (u8v l) → Calls Tryz.prog 66 #[.slice (some ⟨ad.block, ad.off + 4, none⟩) 4 (c - 4)] w fun e w' => e = .returned (.int .u64 (q : Int)) ∧ w = w')) (GT4 : Hid (∀ w, SlAt w (some ad) (u8v l) → Calls Tryz.prog 66 #[.slice (some ⟨ad.block, ad.off + 8, none⟩) 4 (c - 8)] w fun e w' => e = .returned (.int .u64 (t : Int)) ∧ w = w')) (h2 : ∀ w, SlAt w (some ad) (u8v l) → w.cell? ⟨ad.block, ad.off + 2, none⟩ = some (.int .u8 (S : Int))) (n K : Nat) (hn : n ≤ 6) (hmn : m = 12 + 8 * n) (hK : bits .and .u8 (K : Int) 128 = 128) (h3 : ∀ w, SlAt w (some ad) (u8v l) → w.cell? ⟨ad.block, ad.off + 3, none⟩ = some (.int .u8 (K : Int))) (d : List Nat) (hd : d = (l.drop 12).take (8 * n)) (hbd : Bytes d) (hdl : d.length = 8 * n) (fb sb : Bool) (hfb : (rdVals pf true n d).all finD = fb) (hsb : (rdVals pf true n d).all isSD = sb) (er : Int) (her : er = if fb = false ∨ true = sb then 211 else 0) (rd : Rd) (hrd : rd = if er = 0 then ⟨S, q, t, rdVals pf true n d⟩ else noRd) (hs : ((G : Int) != (C : Int)) = false) (w : World) (hT : FmS w) (hr : SlAt w (some ad) (u8v l)) : Calls Tryz.prog 46 #[.slice (some ad) (m + 4) c] w (RetR w rd er) := by
  have HFB := Lib.hid hfb; have HSB := Lib.hid hsb; have HER := Lib.hid her; have HBD := Lib.hid hbd; have HDL := Lib.hid hdl; have HD := Lib.hid hd; have HRD := Lib.hid hrd; clear hrd hfb hsb her hbd hdl hd
  have HR := Lib.hid hr; clear hr
  obtain ⟨m1, m2⟩ := hm
  have hn0 : (((m + 4 : Nat) : Int) != ((m + 4 : Nat) : Int)) = false := by rw [bne_eq_false_iff_eq]
  have d4 : decide ((m : Int) + 4 < 4) = false := decide_eq_false (by omega)
  have w4 : IntKind.i64.wrap (m : Int) = (m : Int) := by rw [IntKind.wrap_i64]; omega
  have hcm : ¬ c = m := by omega
  have hle : (m : Int) ≤ (m : Int) + 4 := by omega
  have hmc : m ≤ c := by omega
  have gC : IntKind.u64.wrap (C : Int) = (C : Int) := by rw [IntKind.wrap_u64]; omega
  clear hC
  have w32q : IntKind.u32.wrap (q : Int) = (q : Int) := by rw [IntKind.wrap_u32]; omega
  have w32t : IntKind.u32.wrap (t : Int) = (t : Int) := by rw [IntKind.wrap_u32]; omega
  have wS : IntKind.i64.wrap (S : Int) = (S : Int) := by rw [IntKind.wrap_i64]; omega
  have hc4 : ¬ c = 4 := by omega
  have hc8 : ¬ c = 8 := by omega
  have hc12 : ¬ c = 12 := by omega
  have l8 : (8 : Int) ≤ (c : Int) := by omega
  have l12 : (12 : Int) ≤ (c : Int) := by omega
  have l2 : (2 : Int) < (m : Int) + 4 := by omega
  have l3 : (3 : Int) < (m : Int) + 4 := by omega
  have l12m : (12 : Int) ≤ (m : Int) := by omega
  have HH := Lib.hid h2; have HH3 := Lib.hid h3; have HMN := Lib.hid hmn; clear h2 h3 hmn
  have HS := Lib.hid (And.intro hS (And.intro hq ht)); clear hS hq ht
  go_enter Tryz.func46, Tryz.ntmps46
  go_wp2_with fail
  refine (SZ.out _ (HR.out.of (by repeat (first | with_reducible exact Within.refl _ | with_reducible assumption | with_reducible refine Within.alloc ?_ _ | with_reducible refine Within.drew ?_ | with_reducible refine Within.drewN ?_ _ | with_reducible refine Within.setCell ?_ (by first | (simp; done) | (simp; omega)) _ | with_reducible refine Within.trans ?_ (by assumption))))).mono ?_; rintro e1 w1 ⟨rfl, rfl⟩
  go_wp2
  refine wp_region_within (by kernel_rfl) (by kernel_rfl) ?_
  repeat
    apply wpq_step rfl
    · intro wq hCq
      have hsl := HR.out.of ((((Within.refl w).alloc _).trans hCq))
      go_simp
      first | rfl | exact hCq.same (GT.out _ hsl) | exact hCq.same (SM.out _ hsl) | (trace_state; fail)
    try simp only [Act.put, List.setIfInBounds_toArray, List.set_cons_zero, List.set_cons_succ]
  refine wpQuiet_nil ?_
  intro w3 hb3
  have q0 : w3.cell? ⟨w.heap.size, 0, none⟩ = some (.int .i64 0) := (hb3.cells _ _ (by simp)).trans (by simp)
  have q1 : w3.cell? ⟨w.heap.size, 1, none⟩ = some (.int .u32 0) := (hb3.cells _ _ (by simp)).trans (by simp)
  have q2 : w3.cell? ⟨w.heap.size, 2, none⟩ = some (.int .u32 0) := (hb3.cells _ _ (by simp)).trans (by simp)
  have q3 : w3.cell? ⟨w.heap.size, 3, none⟩ = some (.slice none 0 0) := (hb3.cells _ _ (by simp)).trans (by simp)
  have qf : ∀ o, w3.frozen? ⟨w.heap.size, o, none⟩ = false := fun o => (hb3.frozens _ _ (by simp)).trans (by simp)
  have qz : w.heap.size < w3.heap.size := World.block_lt_of_cell? _ _ q0
  go_upto_region 6 with fail
  go_cut [6] (fun s6 wx => s6 = .pointer (some ⟨w3.heap.size, 0, none⟩) ∧ (wx.cell? ⟨w3.heap.size, 0, none⟩ = some (.int .i64 (S : Int)) ∧ wx.cell? ⟨w3.heap.size, 1, none⟩ = some (.int .u32 (q : Int)) ∧ wx.cell? ⟨w3.heap.size, 2, none⟩ = some (.int .u32 (t : Int)) ∧ wx.cell? ⟨w3.heap.size, 3, none⟩ = some (.slice none 0 0) ∧ (∀ o, wx.frozen? ⟨w3.heap.size, o, none⟩ = false) ∧ Within w3 wx))
  case first =>
    have h2 := HH.out
    refine wp_region_schG (fun W => SlAt W (some ad) (u8v l) ∧ W.heap.size = w3.heap.size ∧ Within w3 W) 14 (.firm 0 (.firm 1 (.firm 2 (.firm 3 (.firm 4 (.firm 5 (.firm 8 (.firm 9 (.two 6 (.firm 7 (.two 10 (.firm 11 (.firm 12 (.one 13 (.one 14 .nil)))) 13 (.one 10 (.firm 11 (.firm 12 (.one 14 .nil)))))) 13 (.one 6 (.firm 7 (.one 10 (.firm 11 (.firm 12 (.one 14 .nil))))))))))))))) (by kernel_rfl) (by kernel_rfl) ⟨HR.out.of ((Within.refl w).alloc _ |>.trans hb3), rfl, Within.refl _⟩ ?_
    rintro w0 ⟨hs0, hz1, hw0⟩
    try simp only [Act.put, List.setIfInBounds_toArray, List.set_cons_zero, List.set_cons_succ]
    iterate 8
      apply sch_firm rfl rfl (by repeat (first | with_reducible exact Within.refl _ | with_reducible assumption | with_reducible refine Within.alloc ?_ _ | with_reducible refine Within.drew ?_ | with_reducible refine Within.drewN ?_ _ | with_reducible refine Within.setCell ?_ (by first | (simp; done) | (simp; omega)) _ | with_reducible refine Within.trans ?_ (by assumption)))
      · intro wq hq
        have hcq := hq.cells
        have hcell := h2 _ (hs0.of hq)
        clear hq
        go_simp
        rfl
      try simp only [Act.put, List.setIfInBounds_toArray, List.set_cons_zero, List.set_cons_succ]
    refine sch_two rfl rfl rfl rfl (fun K hK => ?_) (fun K hK => ?_)
    · go_simp
      refine (GQ.out _ (by first | exact hs0 | exact hs0.of ((Within.refl _).drew) | exact hs0.of (((Within.refl _).drew).alloc _))).mono ?_; rintro e4 w4 ⟨rfl, rfl⟩
      refine hK _ _ (by repeat (first | with_reducible exact Within.refl _ | with_reducible assumption | with_reducible refine Within.alloc ?_ _ | with_reducible refine Within.drew ?_ | with_reducible refine Within.drewN ?_ _ | with_reducible refine Within.setCell ?_ (by first | (simp; done) | (simp; omega)) _ | with_reducible refine Within.trans ?_ (by assumption))) ?_
      clear hK K
      try simp only [Act.put, List.setIfInBounds_toArray, List.set_cons_zero, List.set_cons_succ]
      apply sch_firm rfl rfl (by repeat (first | with_reducible exact Within.refl _ | with_reducible assumption | with_reducible refine Within.alloc ?_ _ | with_reducible refine Within.drew ?_ | with_reducible refine Within.drewN ?_ _ | with_reducible refine Within.setCell ?_ (by first | (simp; done) | (simp; omega)) _ | with_reducible refine Within.trans ?_ (by assumption)))
      · intro wq hq
        have hcq := hq.cells
        have hcell := h2 _ (hs0.of hq)
        clear hq
        go_simp
        rfl
      try simp only [Act.put, List.setIfInBounds_toArray, List.set_cons_zero, List.set_cons_succ]
      refine sch_two rfl rfl rfl rfl (fun K hK => ?_) (fun K hK => ?_)
      · go_simp
        refine (GT4.out _ (by first | exact hs0 | exact hs0.of ((Within.refl _).drew) | exact hs0.of (((Within.refl _).drew).alloc _))).mono ?_; rintro e5 w5 ⟨rfl, rfl⟩
        refine hK _ _ (by repeat (first | with_reducible exact Within.refl _ | with_reducible assumption | with_reducible refine Within.alloc ?_ _ | with_reducible refine Within.drew ?_ | with_reducible refine Within.drewN ?_ _ | with_reducible refine Within.setCell ?_ (by first | (simp; done) | (simp; omega)) _ | with_reducible refine Within.trans ?_ (by assumption))) ?_
        clear hK K
        try simp only [Act.put, List.setIfInBounds_toArray, List.set_cons_zero, List.set_cons_succ]
        iterate 2
          apply sch_firm rfl rfl (by repeat (first | with_reducible exact Within.refl _ | with_reducible assumption | with_reducible refine Within.alloc ?_ _ | with_reducible refine Within.drew ?_ | with_reducible refine Within.drewN ?_ _ | with_reducible refine Within.setCell ?_ (by first | (simp; done) | (simp; omega)) _ | with_reducible refine Within.trans ?_ (by assumption)))
          · intro wq hq
            have hcq := hq.cells
            have hcell := h2 _ (hs0.of hq)
            clear hq
            go_simp
            rfl
          try simp only [Act.put, List.setIfInBounds_toArray, List.set_cons_zero, List.set_cons_succ]
        refine sch_one rfl rfl (fun K hK => ?_)
        go_simp
        refine hK _ _ (fun _ => (by repeat (first | with_reducible exact Within.refl _ | with_reducible assumption | with_reducible refine Within.alloc ?_ _ | with_reducible refine Within.drew ?_ | with_reducible refine Within.drewN ?_ _ | with_reducible refine Within.setCell ?_ (by first | (simp; done) | (simp; omega)) _ | with_reducible refine Within.trans ?_ (by assumption)))) ?_
        clear hK K
        try simp only [Act.put, List.setIfInBounds_toArray, List.set_cons_zero, List.set_cons_succ]
        refine sch_one rfl rfl (fun K hK => ?_)
        go_simp
        refine hK _ _ (fun h => absurd h (by decide)) ?_
        clear hK K
        try simp only [Act.put, List.setIfInBounds_toArray, List.set_cons_zero, List.set_cons_succ]
        refine sch_nil ?_
        go_wp2_with fail
        go_meet
        exact ⟨rfl, by go_simp, by go_simp, by go_simp, by go_simp, fun o => by go_simp, (by repeat (first | with_reducible exact Within.refl _ | with_reducible assumption | with_reducible refine Within.alloc ?_ _ | with_reducible refine Within.drew ?_ | with_reducible refine Within.drewN ?_ _ | with_reducible refine Within.setCell ?_ (by first | (simp; done) | (simp; omega)) _ | with_reducible refine Within.trans ?_ (by assumption)))⟩
      · go_simp
        refine hK _ _ (by repeat (first | with_reducible exact Within.refl _ | with_reducible assumption | with_reducible refine Within.alloc ?_ _ | with_reducible refine Within.drew ?_ | with_reducible refine Within.drewN ?_ _ | with_reducible refine Within.setCell ?_ (by first | (simp; done) | (simp; omega)) _ | with_reducible refine Within.trans ?_ (by assumption))) ?_
        clear hK K
        try simp only [Act.put, List.setIfInBounds_toArray, List.set_cons_zero, List.set_cons_succ]
        refine sch_one rfl rfl (fun K hK => ?_)
        go_simp
        refine (GT4.out _ (by first | exact hs0 | exact hs0.of ((Within.refl _).drew) | exact hs0.of (((Within.refl _).drew).alloc _))).mono ?_; rintro e5 w5 ⟨rfl, rfl⟩
        refine hK _ _ (fun _ => (by repeat (first | with_reducible exact Within.refl _ | with_reducible assumption | with_reducible refine Within.alloc ?_ _ | with_reducible refine Within.drew ?_ | with_reducible refine Within.drewN ?_ _ | with_reducible refine Within.setCell ?_ (by first | (simp; done) | (simp; omega)) _ | with_reducible refine Within.trans ?_ (by assumption)))) ?_
        clear hK K
        try simp only [Act.put, List.setIfInBounds_toArray, List.set_cons_zero, List.set_cons_succ]
        iterate 2
          apply sch_firm rfl rfl (by repeat (first | with_reducible exact Within.refl _ | with_reducible assumption | with_reducible refine Within.alloc ?_ _ | with_reducible refine Within.drew ?_ | with_reducible refine Within.drewN ?_ _ | with_reducible refine Within.setCell ?_ (by first | (simp; done) | (simp; omega)) _ | with_reducible refine Within.trans ?_ (by assumption)))
          · intro wq hq
            have hcq := hq.cells
            have hcell := h2 _ (hs0.of hq)
            clear hq
            go_simp
            rfl
          try simp only [Act.put, List.setIfInBounds_toArray, List.set_cons_zero, List.set_cons_succ]
        refine sch_one rfl rfl (fun K hK => ?_)
        go_simp
        refine hK _ _ (fun h => absurd h (by decide)) ?_
        clear hK K
        try simp only [Act.put, List.setIfInBounds_toArray, List.set_cons_zero, List.set_cons_succ]
        refine sch_nil ?_
        go_wp2_with fail
        go_meet
        exact ⟨rfl, by go_simp, by go_simp, by go_simp, by go_simp, fun o => by go_simp, (by repeat (first | with_reducible exact Within.refl _ | with_reducible assumption | with_reducible refine Within.alloc ?_ _ | with_reducible refine Within.drew ?_ | with_reducible refine Within.drewN ?_ _ | with_reducible refine Within.setCell ?_ (by first | (simp; done) | (simp; omega)) _ | with_reducible refine Within.trans ?_ (by assumption)))⟩
    · go_simp
      refine hK _ _ (by repeat (first | with_reducible exact Within.refl _ | with_reducible assumption | with_reducible refine Within.alloc ?_ _ | with_reducible refine Within.drew ?_ | with_reducible refine Within.drewN ?_ _ | with_reducible refine Within.setCell ?_ (by first | (simp; done) | (simp; omega)) _ | with_reducible refine Within.trans ?_ (by assumption))) ?_
      clear hK K
      try simp only [Act.put, List.setIfInBounds_toArray, List.set_cons_zero, List.set_cons_succ]
      refine sch_one rfl rfl (fun K hK => ?_)
      go_simp
      refine (GQ.out _ (by first | exact hs0 | exact hs0.of ((Within.refl _).drew) | exact hs0.of (((Within.refl _).drew).alloc _))).mono ?_; rintro e4 w4 ⟨rfl, rfl⟩
      refine hK _ _ (fun _ => (by repeat (first | with_reducible exact Within.refl _ | with_reducible assumption | with_reducible refine Within.alloc ?_ _ | with_reducible refine Within.drew ?_ | with_reducible refine Within.drewN ?_ _ | with_reducible refine Within.setCell ?_ (by first | (simp; done) | (simp; omega)) _ | with_reducible refine Within.trans ?_ (by assumption)))) ?_
      clear hK K
      try simp only [Act.put, List.setIfInBounds_toArray, List.set_cons_zero, List.set_cons_succ]
      apply sch_firm rfl rfl (by repeat (first | with_reducible exact Within.refl _ | with_reducible assumption | with_reducible refine Within.alloc ?_ _ | with_reducible refine Within.drew ?_ | with_reducible refine Within.drewN ?_ _ | with_reducible refine Within.setCell ?_ (by first | (simp; done) | (simp; omega)) _ | with_reducible refine Within.trans ?_ (by assumption)))
      · intro wq hq
        have hcq := hq.cells
        have hcell := h2 _ (hs0.of hq)
        clear hq
        go_simp
        rfl
      try simp only [Act.put, List.setIfInBounds_toArray, List.set_cons_zero, List.set_cons_succ]
      refine sch_one rfl rfl (fun K hK => ?_)
      go_simp
      refine (GT4.out _ (by first | exact hs0 | exact hs0.of ((Within.refl _).drew) | exact hs0.of (((Within.refl _).drew).alloc _))).mono ?_; rintro e5 w5 ⟨rfl, rfl⟩
      refine hK _ _ (fun _ => (by repeat (first | with_reducible exact Within.refl _ | with_reducible assumption | with_reducible refine Within.alloc ?_ _ | with_reducible refine Within.drew ?_ | with_reducible refine Within.drewN ?_ _ | with_reducible refine Within.setCell ?_ (by first | (simp; done) | (simp; omega)) _ | with_reducible refine Within.trans ?_ (by assumption)))) ?_
      clear hK K
      try simp only [Act.put, List.setIfInBounds_toArray, List.set_cons_zero, List.set_cons_succ]
      iterate 2
        apply sch_firm rfl rfl (by repeat (first | with_reducible exact Within.refl _ | with_reducible assumption | with_reducible refine Within.alloc ?_ _ | with_reducible refine Within.drew ?_ | with_reducible refine Within.drewN ?_ _ | with_reducible refine Within.setCell ?_ (by first | (simp; done) | (simp; omega)) _ | with_reducible refine Within.trans ?_ (by assumption)))
        · intro wq hq
          have hcq := hq.cells
          have hcell := h2 _ (hs0.of hq)
          clear hq
          go_simp
          rfl
        try simp only [Act.put, List.setIfInBounds_toArray, List.set_cons_zero, List.set_cons_succ]
      refine sch_one rfl rfl (fun K hK => ?_)
      go_simp
      refine hK _ _ (fun h => absurd h (by decide)) ?_
      clear hK K
      try simp only [Act.put, List.setIfInBounds_toArray, List.set_cons_zero, List.set_cons_succ]
      refine sch_nil ?_
      go_wp2_with fail
      go_meet
      exact ⟨rfl, by go_simp, by go_simp, by go_simp, by go_simp, fun o => by go_simp, (by repeat (first | with_reducible exact Within.refl _ | with_reducible assumption | with_reducible refine Within.alloc ?_ _ | with_reducible refine Within.drew ?_ | with_reducible refine Within.drewN ?_ _ | with_reducible refine Within.setCell ?_ (by first | (simp; done) | (simp; omega)) _ | with_reducible refine Within.trans ?_ (by assumption)))⟩
  case rest =>
    obtain ⟨rfl, r0, r1, r2, r3, rf, hw6⟩ := hcut
    have hsl3 : SlAt w3 (some ad) (u8v l) := HR.out.of ((Within.refl w).alloc _ |>.trans hb3)
    have k3 := HH3.out _ (hsl3.of hw6)
    go_wp2
    go_loopw [8] (fun vv wr => UnRel w3 d true n S q t vv wr) (fun vv _ => restLen vv)
    case atStart =>
      refine ⟨0, some ⟨ad.block, ad.off + 12, none⟩, c - 12, [], .slice none 0 0, Nat.zero_le _, ?_, ?_, ?_, rfl, (fun x hx => by cases hx), OwnF.nil_ _ _, r0, r1, r2, r3, rf, hw6⟩
      · rw [show stp true * (n - 0) = m - 12 by have := HMN.out; unfold stp; simp; omega]
      · have := HMN.out; unfold stp; simp; omega
      · rw [Nat.mul_zero, List.drop_zero, HD.out]
        have h1 := (hsl3.drop 12).take (8 * n)
        rw [add_plain' ad (by decide)] at h1
        unfold u8v at h1 ⊢; rwa [← List.map_drop, ← List.map_take] at h1
    case round =>
      obtain ⟨k, A', c', vs, sl, hk, rfl, hc', hat, hvs, hwv, hown, p0, p1, p2, p3, pf', hin⟩ := hrel
      have HVS := Lib.hid hvs; have HWV := Lib.hid hwv; clear hvs hwv
      have hvl : vs.length = k := by have := congrArg List.length HVS.out; rwa [List.length_map, List.length_map, rdVals_len] at this
      have hRz : w3.heap.size < wr.heap.size := World.block_lt_of_cell? wr _ p0
      obtain ⟨As, cs, rfl, _, hsat, _⟩ := hown.form
      have HOW := Lib.hid hown; have HVL := Lib.hid hvl; clear hown hvl
      have HPF := Lib.hid pf'; clear pf'
      by_cases hlt : k < n
      · obtain ⟨j, hj⟩ : ∃ j, n = k + 1 + j := ⟨n - (k + 1), by omega⟩
        have e1 : stp true * (n - k) = 8 * j + 8 := by unfold stp; simp; omega
        have e2 : stp true * (n - (k + 1)) = 8 * j := by unfold stp; simp; omega
        rw [e1] at hc' ⊢
        obtain ⟨a', rfl, hblk, hcl⟩ := hat (by rw [u8v_len, List.length_drop, HDL.out]; unfold stp; simp; omega)
        obtain ⟨D, hD⟩ : ∃ D, D = d.drop (stp true * k) := ⟨_, rfl⟩
        have hDl : 8 ≤ D.length := by rw [hD, List.length_drop, HDL.out]; unfold stp; simp; omega
        have hDb : Bytes D := by rw [hD]; exact HBD.out.drop _
        rw [← hD] at hat
        have hTl : (D.take 8).length = 8 := by rw [List.length_take]; omega
        obtain ⟨X, hX⟩ : ∃ X, X = leVal (D.take 8) := ⟨_, rfl⟩
        have hX2 : X < 2 ^ 64 := by rw [hX]; have := leVal_lt (hDb.take 8); rwa [hTl] at this
        have GV : Hid (∀ wx, SlAt wx (some a') (u8v D) → Calls Tryz.prog 66 #[.slice (some a') 8 c'] wx fun e w' => e = .returned (.int .u64 (X : Int)) ∧ wx = w') := Lib.hid (fun wx hx => by
          have h1 : SlAt wx (some a') (u8v (D.take 8)) := by have := hx.take 8; unfold u8v at this ⊢; rwa [← List.map_take] at this
          have := get_any (some a') c' (D.take 8) (hDb.take 8) (by rw [hTl]; decide) wx h1
          rwa [hTl, ← hX] at this)
        have l8c : (8 : Int) ≤ (c' : Int) := by omega
        have HN := Lib.hid hj; have HE2 := Lib.hid e2; have HDD := Lib.hid hD; have HDB := Lib.hid hDb; have HDL2 := Lib.hid hDl; have HXX := Lib.hid hX; have HX2 := Lib.hid hX2
        clear hj e1 e2 hD hDl hDb hTl hX hX2
        have hat0 := hat.of hin
        have hpb : ∀ b : Bool, b = decide (c' = 8) → True := fun _ _ => trivial
        rcases Decidable.em (c' = 8) with rfl | hc8'
        all_goals
          go_wp2
          refine wp_region_schB ((w3.heap.size + 1)) (fun W => W.cell? ⟨w3.heap.size, 0, none⟩ = some (.int .i64 (S : Int)) ∧ W.cell? ⟨w3.heap.size, 1, none⟩ = some (.int .u32 (q : Int)) ∧ W.cell? ⟨w3.heap.size, 2, none⟩ = some (.int .u32 (t : Int)) ∧ W.cell? ⟨w3.heap.size, 3, none⟩ = some (.slice As vs.length cs) ∧ SlAt W (some a') (u8v D) ∧ OwnF W (w3.heap.size + 1) (.slice As vs.length cs) vs ∧ w3.heap.size < W.heap.size ∧ w3.heap.size + 1 ≤ W.heap.size ∧ Within w3 W ∧ (∀ o, W.frozen? ⟨w3.heap.size, o, none⟩ = false)) 9 (.firm 0 (.firm 1 (.firm 2 (.firm 3 (.one 4 (.one 5 (.one 6 (.one 7 (.firm 8 (.one 9 .nil)))))))))) (by kernel_rfl) (by kernel_rfl) ⟨p0, p1, p2, p3, hat0, HOW.out, hRz, hRz, hin, HPF.out⟩ ?_
          rintro w0 ⟨b0, b1, b2, b3, hs0, ho0, hz0, hz1, hw0, hf0⟩
          obtain ⟨v1, w1, hrun, hown1, hbl1⟩ := run_app_float_drew w0 (w3.heap.size + 1) _ vs X ho0 (by have := HVL.out; omega) hz1
          obtain ⟨A1, c1, hv1, _⟩ := hown1.form
          obtain ⟨N1, hN1⟩ : ∃ N1, N1 = (vs ++ [X]).length := ⟨_, rfl⟩
          rw [← hN1] at hv1
          subst hv1
          have RUN := Lib.hid hrun; clear hrun
          have g0 : w1.cell? ⟨w3.heap.size, 0, none⟩ = some (.int .i64 (S : Int)) := (hbl1.cell (p := ⟨w3.heap.size, 0, none⟩) (Nat.lt_succ_self _)).trans b0
          have g1 : w1.cell? ⟨w3.heap.size, 1, none⟩ = some (.int .u32 (q : Int)) := (hbl1.cell (p := ⟨w3.heap.size, 1, none⟩) (Nat.lt_succ_self _)).trans b1
          have g2 : w1.cell? ⟨w3.heap.size, 2, none⟩ = some (.int .u32 (t : Int)) := (hbl1.cell (p := ⟨w3.heap.size, 2, none⟩) (Nat.lt_succ_self _)).trans b2
          have g3 : w1.cell? ⟨w3.heap.size, 3, none⟩ = some (.slice As vs.length cs) := (hbl1.cell (p := ⟨w3.heap.size, 3, none⟩) (Nat.lt_succ_self _)).trans b3
          have gf : ∀ o, w1.frozen? ⟨w3.heap.size, o, none⟩ = false := fun o => (hbl1.frozen (p := ⟨w3.heap.size, o, none⟩) (Nat.lt_succ_self _)).trans (hf0 o)
          try simp only [Act.put, List.setIfInBounds_toArray, List.set_cons_zero, List.set_cons_succ]
          iterate 4
            apply sch_firm rfl rfl (by repeat (first | with_reducible exact Below.refl _ _ | with_reducible assumption | with_reducible refine Below.drew ?_ | with_reducible refine Below.alloc ?_ (by first | assumption | (simp; omega)) _ | with_reducible refine Below.trans ?_ (by assumption)))
            · intro wq hq
              have hcq : ∀ b o, b < (w3.heap.size + 1) → wq.cell? ⟨b, o, none⟩ = w0.cell? ⟨b, o, none⟩ := fun b o hb => hq.cell (p := ⟨b, o, none⟩) hb
              clear hq
              go_simp
              rfl
            try simp only [Act.put, List.setIfInBounds_toArray, List.set_cons_zero, List.set_cons_succ]
          refine sch_one rfl rfl (fun K hK => ?_)
          go_simp
          refine (GV.out _ (by exact hs0.of ((Within.refl _).drew))).mono ?_; rintro e5 w5 ⟨rfl, rfl⟩
          refine hK _ _ (fun _ => (by repeat (first | with_reducible exact Below.refl _ _ | with_reducible assumption | with_reducible refine Below.drew ?_ | with_reducible refine Below.alloc ?_ (by first | assumption | (simp; omega)) _ | with_reducible refine Below.trans ?_ (by assumption)))) ?_
          clear hK K
          try simp only [Act.put, List.setIfInBounds_toArray, List.set_cons_zero, List.set_cons_succ]
          refine sch_one rfl rfl (fun K hK => ?_)
          go_simp
          refine hK _ _ (fun _ => (by repeat (first | with_reducible exact Below.refl _ _ | with_reducible assumption | with_reducible refine Below.drew ?_ | with_reducible refine Below.alloc ?_ (by first | assumption | (simp; omega)) _ | with_reducible refine Below.trans ?_ (by assumption)))) ?_
          clear hK K
          try simp only [Act.put, List.setIfInBounds_toArray, List.set_cons_zero, List.set_cons_succ]
          refine sch_one rfl rfl (fun K hK => ?_)
          go_simp
          refine hK _ _ (fun _ => (by repeat (first | with_reducible exact Below.refl _ _ | with_reducible assumption | with_reducible refine Below.drew ?_ | with_reducible refine Below.alloc ?_ (by first | assumption | (simp; omega)) _ | with_reducible refine Below.trans ?_ (by assumption)))) ?_
          clear hK K
          try simp only [Act.put, List.setIfInBounds_toArray, List.set_cons_zero, List.set_cons_succ]
          refine sch_one rfl rfl (fun K hK => ?_)
          refine op_append_run (.tmp 68) (.tmp 73) 62 rfl _ _ rfl rfl RUN.out ?_
          refine hK _ _ (fun _ => (by repeat (first | with_reducible exact Below.refl _ _ | with_reducible assumption | with_reducible refine Below.drew ?_ | with_reducible refine Below.alloc ?_ (by first | assumption | (simp; omega)) _ | with_reducible refine Below.trans ?_ (by assumption)))) ?_
          clear hK K
          try simp only [Act.put, List.setIfInBounds_toArray, List.set_cons_zero, List.set_cons_succ]
          apply sch_firm rfl rfl (by repeat (first | with_reducible exact Below.refl _ _ | with_reducible assumption | with_reducible refine Below.drew ?_ | with_reducible refine Below.alloc ?_ (by first | assumption | (simp; omega)) _ | with_reducible refine Below.trans ?_ (by assumption)))
          · intro wq hq
            have hcq : ∀ b o, b < (w3.heap.size + 1) → wq.cell? ⟨b, o, none⟩ = w0.cell? ⟨b, o, none⟩ := fun b o hb => hq.cell (p := ⟨b, o, none⟩) hb
            clear hq
            go_simp
            rfl
          try simp only [Act.put, List.setIfInBounds_toArray, List.set_cons_zero, List.set_cons_succ]
          refine sch_one rfl rfl (fun K hK => ?_)
          go_simp
          refine hK _ _ (fun h => absurd h (by decide)) ?_
          clear hK K
          try simp only [Act.put, List.setIfInBounds_toArray, List.set_cons_zero, List.set_cons_succ]
          refine sch_nil ?_
          go_wp2
          rw [List.length_append, List.length_singleton] at hN1; subst hN1
          have hlt' := hlt; have hnj := HN.out; have hd1 := HDL.out; have hdl2 := HDL2.out
          have hWin : Within w3 w1 := Below.trans hw0 (hbl1.mono (Nat.le_succ _))
          have hXc : canonD X = canonD (if true = true then leVal ((d.drop (stp true * k)).take 8) else pf.wb (leVal ((d.drop (stp true * k)).take 4))) := by rw [HXX.out, HDD.out, if_pos rfl]
        · have hj0 : j = 0 := by omega
          subst hj0
          have E2 : stp true * (n - (k + 1)) = 0 := HE2.out
          have hst := UnRel.step (A1 := some a') (c1 := 0) hlt (Nat.le_of_eq E2) (by rw [List.drop_eq_nil_of_le (by rw [hd1, hnj]; unfold stp; simp)]; exact SlAt.nil) HVS.out hXc (by have := HX2.out; omega) HWV.out hown1 g0 g1 g2 (by rw [g3]; rfl) gf hWin
          rw [E2] at hst
          exact ⟨hst, by simp [restLen]⟩
        · have E2 : stp true * (n - (k + 1)) = 8 * j := HE2.out
          have hat8 : SlAt w3 (some ⟨a'.block, a'.off + 8, none⟩) (u8v (d.drop (stp true * (k + 1)))) := by
            have h1 := hat.drop 8
            rw [add_plain' a' (by decide), HDD.out] at h1
            unfold u8v at h1 ⊢; rw [← List.map_drop, List.drop_drop] at h1
            rwa [show stp true * (k + 1) = stp true * k + 8 by rw [Nat.mul_add]; rfl]
          have hst := UnRel.step hlt (c1 := c' - 8) (by rw [E2]; omega) hat8 HVS.out hXc (by have := HX2.out; omega) HWV.out hown1 g0 g1 g2 (by rw [g3]; rfl) gf hWin
          rw [E2] at hst
          exact ⟨hst, by simp [restLen]⟩
      · have hkn : k = n := by omega
        subst hkn
        rw [show stp true * (k - k) = 0 by simp]
        have hfe : vs.all finD = fb := (map_all (fun _ _ h => finD_same h) HVS.out).trans HFB.out
        have hse : vs.all isSD = sb := (map_all (fun _ _ h => isSD_same h) HVS.out).trans HSB.out
        have hWw : Within w wr := (((Within.refl w).alloc _).trans hb3).trans hin
        have FN := Finite_any As cs vs HWV.out (by have := HVL.out; omega) wr hsat
        rw [hfe] at FN
        have SGL : Hid (∀ wx, Within wr wx → Calls Tryz.prog 71 #[.agg #[.int .i64 (S : Int), .int .u32 (q : Int), .int .u32 (t : Int), .slice As vs.length cs]] wx fun e w' => e = .returned (.bool sb) ∧ Within wx w') := Lib.hid (fun wx hx => by
          have := Singles_any As cs (.int .i64 (S : Int)) (.int .u32 (q : Int)) (.int .u32 (t : Int)) vs HWV.out (by have := HVL.out; omega) wx ((hT.of hWw).of hx) (hsat.of hx)
          rwa [hse] at this)
        have HFN := Lib.hid FN; clear FN
        have hqz3 : w.heap.size < w3.heap.size + 1 := Nat.lt_succ_of_lt qz
        have qzr : w.heap.size < wr.heap.size := Nat.lt_of_lt_of_le qz hin.size
        have qr0 : wr.cell? ⟨w.heap.size, 0, none⟩ = some (.int .i64 0) := (hin.cells _ _ qz).trans q0
        have qr1 : wr.cell? ⟨w.heap.size, 1, none⟩ = some (.int .u32 0) := (hin.cells _ _ qz).trans q1
        have qr2 : wr.cell? ⟨w.heap.size, 2, none⟩ = some (.int .u32 0) := (hin.cells _ _ qz).trans q2
        have qr3 : wr.cell? ⟨w.heap.size, 3, none⟩ = some (.slice none 0 0) := (hin.cells _ _ qz).trans q3
        have qrf : ∀ o, wr.frozen? ⟨w.heap.size, o, none⟩ = false := fun o => (hin.frozens _ _ qz).trans (qf o)
        have HFE := Lib.hid hfe; clear hfe hse
        go_wp2_with fail
        refine HFN.out.mono ?_; rintro e5 w5 ⟨rfl, hw5⟩
        have p50 : w5.cell? ⟨w3.heap.size, 0, none⟩ = some (.int .i64 (S : Int)) := (hw5.cells _ _ hRz).trans p0
        have p51 : w5.cell? ⟨w3.heap.size, 1, none⟩ = some (.int .u32 (q : Int)) := (hw5.cells _ _ hRz).trans p1
        have p52 : w5.cell? ⟨w3.heap.size, 2, none⟩ = some (.int .u32 (t : Int)) := (hw5.cells _ _ hRz).trans p2
        have p53 : w5.cell? ⟨w3.heap.size, 3, none⟩ = some (.slice As vs.length cs) := (hw5.cells _ _ hRz).trans p3
        have z50 : w5.cell? ⟨w.heap.size, 0, none⟩ = some (.int .i64 0) := (hw5.cells _ _ qzr).trans qr0
        have z51 : w5.cell? ⟨w.heap.size, 1, none⟩ = some (.int .u32 0) := (hw5.cells _ _ qzr).trans qr1
        have z52 : w5.cell? ⟨w.heap.size, 2, none⟩ = some (.int .u32 0) := (hw5.cells _ _ qzr).trans qr2
        have z53 : w5.cell? ⟨w.heap.size, 3, none⟩ = some (.slice none 0 0) := (hw5.cells _ _ qzr).trans qr3
        have z5f : ∀ o, w5.frozen? ⟨w.heap.size, o, none⟩ = false := fun o => (hw5.frozens _ _ qzr).trans (qrf o)
        have hRz5 : w3.heap.size < w5.heap.size := Nat.lt_of_lt_of_le hRz hw5.size
        have qz5 : w.heap.size < w5.heap.size := Nat.lt_of_lt_of_le qzr hw5.size
        have hW5 : Within w w5 := hWw.trans hw5
        cases fb
        · go_wp2
          have E := HER.out; have R := HRD.out
          simp at E; subst E; simp at R; subst R
          refine bodyPost_ret (v := .tuple #[.agg #[.int .i64 0, .int .u32 0, .int .u32 0, .slice none 0 0], .int .i64 211]) (by simp [results, Tryz.results46, go_sem, z50, z51, z52, z53]) rfl ⟨_, rfl, OwnF.nil_ _ _, (by repeat (first | with_reducible exact hW5 | with_reducible refine Within.setCell ?_ (Nat.le_refl _) _))⟩
        · go_wp2_with fail
          refine (SGL.out _ hw5).mono ?_; rintro e6 w6 ⟨rfl, hw6⟩
          have p60 : w6.cell? ⟨w3.heap.size, 0, none⟩ = some (.int .i64 (S : Int)) := (hw6.cells _ _ hRz5).trans p50
          have p61 : w6.cell? ⟨w3.heap.size, 1, none⟩ = some (.int .u32 (q : Int)) := (hw6.cells _ _ hRz5).trans p51
          have p62 : w6.cell? ⟨w3.heap.size, 2, none⟩ = some (.int .u32 (t : Int)) := (hw6.cells _ _ hRz5).trans p52
          have p63 : w6.cell? ⟨w3.heap.size, 3, none⟩ = some (.slice As vs.length cs) := (hw6.cells _ _ hRz5).trans p53
          have z60 : w6.cell? ⟨w.heap.size, 0, none⟩ = some (.int .i64 0) := (hw6.cells _ _ qz5).trans z50
          have z61 : w6.cell? ⟨w.heap.size, 1, none⟩ = some (.int .u32 0) := (hw6.cells _ _ qz5).trans z51
          have z62 : w6.cell? ⟨w.heap.size, 2, none⟩ = some (.int .u32 0) := (hw6.cells _ _ qz5).trans z52
          have z63 : w6.cell? ⟨w.heap.size, 3, none⟩ = some (.slice none 0 0) := (hw6.cells _ _ qz5).trans z53
          have z6f : ∀ o, w6.frozen? ⟨w.heap.size, o, none⟩ = false := fun o => (hw6.frozens _ _ qz5).trans (z5f o)
          have qz6 : w.heap.size < w6.heap.size := Nat.lt_of_lt_of_le qz5 hw6.size
          have hW6 : Within w w6 := hW5.trans hw6
          have HOW6 := Lib.hid ((HOW.out.of hw5).of hw6)
          cases sb
          · go_wp2
            have E := HER.out; have R := HRD.out
            simp at E; subst E; simp at R; subst R
            refine bodyPost_ret (v := .tuple #[.agg #[.int .i64 (S : Int), .int .u32 (q : Int), .int .u32 (t : Int), .slice As vs.length cs], .int .i64 0]) (by simp [results, Tryz.results46, go_sem, z60, z61, z62, z63]) rfl ⟨_, rfl, ?_, (by repeat (first | with_reducible exact hW6 | with_reducible refine Within.setCell ?_ (Nat.le_refl _) _))⟩
            have hvv : vs = rdVals pf true k d := map_fin HVS.out HFE.out HFB.out
            rw [show (Rd.mk S q t (rdVals pf true k d)).vals = vs from hvv.symm]
            refine OwnF.less (base := w3.heap.size + 1) ?_ (Nat.le_of_lt hqz3)
            repeat (first | with_reducible exact HOW6.out | with_reducible refine OwnF.set ?_ hqz3 _)
          · go_wp2
            have E := HER.out; have R := HRD.out
            simp at E; subst E; simp at R; subst R
            refine bodyPost_ret (v := .tuple #[.agg #[.int .i64 0, .int .u32 0, .int .u32 0, .slice none 0 0], .int .i64 211]) (by simp [results, Tryz.results46, go_sem, z60, z61, z62, z63]) rfl ⟨_, rfl, OwnF.nil_ _ _, (by repeat (first | with_reducible exact hW6 | with_reducible refine Within.setCell ?_ (Nat.le_refl _) _))⟩
end Go.Proofs.YtpmjlaiafgbjgaaGreatDoor
end
