/- Packets' numbers: classes, what is the same, lists: walks. -/
import Derived.Test.YtmpcnhiklpahnaaDoorCan
import Derived.Test.YtmpcnhiklpahnaaDoorCv7
import Derived.Test.YtmpcnhiklpahnaaDoorMem
import Derived.Test.YtmpcnhiklpahnaaDoorPkt2
namespace Go.Proofs.YtmpcnhiklpahnaaDoor
open Go.RowKit

def classOf (e fr most : Nat) : Int := if e = most ∧ fr ≠ 0 then 1 else if e = most then 2 else if e = 0 ∧ fr = 0 then 3 else if e = 0 then 4 else 5
def expD (b : Nat) : Nat := canonD b / 4503599627370496 % 2048
def fracD (b : Nat) : Nat := canonD b % 4503599627370496
def negD (b : Nat) : Bool := decide (9223372036854775808 ≤ canonD b)
def classD (b : Nat) : Int := classOf (expD b) (fracD b) 2047
set_option maxHeartbeats 400000 in
theorem split_D (b : Nat) (hb : b < 18446744073709551616) (w : World) : Calls Tryd.prog 78 #[.int .u64 b, dbl] w fun e w' => e = .returned (.tuple #[.bool (negD b), .int .i64 (expD b), .int .u64 (fracD b)]) ∧ Within w w' := by
  have hc := canonD_lt hb
  have e1 := u64_sign (canonD b) hc
  have e2 := u64_mask 11 (by decide) (canonD b / 4503599627370496) (by omega)
  have e3 := u64_mask 52 (by decide) (canonD b) (by omega)
  simp only [show (2 ^ 11 - 1 : Nat) = 2047 from rfl, show (2 ^ 11 : Nat) = 2048 from rfl, show (2 ^ 52 - 1 : Nat) = 4503599627370495 from rfl, show (2 ^ 52 : Nat) = 4503599627370496 from rfl, Int.natCast_ediv, Int.natCast_emod, Int.natCast_mul, Int.cast_ofNat_Int] at e1 e2 e3
  have ew : IntKind.u64.wrap (canonD b : Int) = canonD b := by rw [IntKind.wrap_u64]; omega
  have e4 : IntKind.u64.wrap 4503599627370495 = 4503599627370495 := by decide
  have e5 : IntKind.u64.wrap 2047 = 2047 := by decide
  have e6 : IntKind.i64.wrap ((canonD b : Int) / 4503599627370496 % 2048) = (canonD b : Int) / 4503599627370496 % 2048 := by rw [IntKind.wrap_i64]; omega
  have e7 : IntKind.u64.wrap ((canonD b : Int) % 4503599627370496) = (canonD b : Int) % 4503599627370496 := by first | (rw [IntKind.wrap_u64]; omega) | (rw [IntKind.wrap_u32]; omega)
  go_enter Tryd.func78, Tryd.ntmps78
  go_wp2_with fail
  refine (canon_D b hb _).mono ?_; rintro e w1 ⟨rfl, hb1⟩
  have hc1 := hb1.cells; have hz1 : w.heap.size < w1.heap.size := by have := hb1.sizes; simp at this; omega
  go_wp2
  refine wp_region_within (by kernel_rfl) (by kernel_rfl) ?_
  repeat
    apply wpq_step rfl
    · intro wq hCq
      have hcq := hCq.cells
      go_simp
      first | rfl | exact hCq.call (hidden_D _) | exact hCq.call (sign_D _) | (trace_state; fail)
    simp only [Act.put, List.setIfInBounds_toArray, List.set_cons_zero, List.set_cons_succ]
  refine wpQuiet_nil ?_
  intro w2 hC2
  go_wp2
  go_ret3
  refine ⟨ret3 (v_bool (b := negD b) ?_) (v_int (b := expD b) ?_) (v_int (b := fracD b) ?_), (by repeat (first | exact Within.refl _ | assumption | refine Within.alloc ?_ _ | refine Within.drew ?_ | refine Within.trans ?_ (by assumption)))⟩
  · show ((canonD b : Int) / 9223372036854775808 * 9223372036854775808 != 0) = negD b
    unfold negD
    rw [Bool.eq_iff_iff, bne_iff_ne, decide_eq_true_iff]; omega
  · show ((canonD b : Int) / 4503599627370496 % 2048) = _
    unfold expD; omega
  · show ((canonD b : Int) % 4503599627370496) = _
    unfold fracD; omega
set_option maxHeartbeats 400000 in
theorem class_D (b : Nat) (hb : b < 18446744073709551616) (w : World) : Calls Tryd.prog 63 #[.int .u64 b, dbl] w fun e w' => e = .returned (.int .i64 (classD b)) ∧ Within w w' := by
  generalize hce : classD b = c
  unfold classD classOf at hce
  by_cases h1 : expD b = 2047
  · have f1 : ((expD b : Int) == 2047) = true := beq_iff_eq.2 (by omega)
    by_cases h2 : fracD b = 0
    · have f2 : ((fracD b : Int) != 0) = false := by rw [bne_eq_false_iff_eq]; omega
      rw [if_neg (by omega), if_pos h1] at hce
      subst hce
      clear h1 h2
      go_enter Tryd.func63, Tryd.ntmps63
      go_wp2_with fail
      refine (split_D b hb _).mono ?_; rintro e w1 ⟨rfl, hb1⟩
      have hc1 := hb1.cells; have hz1 : w.heap.size < w1.heap.size := by have := hb1.sizes; simp at this; omega
      go_wp2
      go_ret
      exact ⟨rfl, (by repeat (first | exact Within.refl _ | assumption | refine Within.alloc ?_ _ | refine Within.drew ?_ | refine Within.trans ?_ (by assumption)))⟩
    · have f2 : ((fracD b : Int) != 0) = true := by rw [bne_iff_ne]; omega
      rw [if_pos ⟨h1, h2⟩] at hce
      subst hce
      clear h1 h2
      go_enter Tryd.func63, Tryd.ntmps63
      go_wp2_with fail
      refine (split_D b hb _).mono ?_; rintro e w1 ⟨rfl, hb1⟩
      have hc1 := hb1.cells; have hz1 : w.heap.size < w1.heap.size := by have := hb1.sizes; simp at this; omega
      go_wp2
      go_ret
      exact ⟨rfl, (by repeat (first | exact Within.refl _ | assumption | refine Within.alloc ?_ _ | refine Within.drew ?_ | refine Within.trans ?_ (by assumption)))⟩
  · have f1 : ((expD b : Int) == 2047) = false := beq_eq_false_iff_ne.2 (by omega)
    by_cases h3 : expD b = 0
    · have f3 : ((expD b : Int) == 0) = true := beq_iff_eq.2 (by omega)
      by_cases h2 : fracD b = 0
      · have f2 : ((fracD b : Int) == 0) = true := beq_iff_eq.2 (by omega)
        rw [if_neg (by omega), if_neg h1, if_pos ⟨h3, h2⟩] at hce
        subst hce
        clear h1 h2 h3
        go_enter Tryd.func63, Tryd.ntmps63
        go_wp2_with fail
        refine (split_D b hb _).mono ?_; rintro e w1 ⟨rfl, hb1⟩
        have hc1 := hb1.cells; have hz1 : w.heap.size < w1.heap.size := by have := hb1.sizes; simp at this; omega
        go_wp2
        go_ret
        exact ⟨rfl, (by repeat (first | exact Within.refl _ | assumption | refine Within.alloc ?_ _ | refine Within.drew ?_ | refine Within.trans ?_ (by assumption)))⟩
      · have f2 : ((fracD b : Int) == 0) = false := beq_eq_false_iff_ne.2 (by omega)
        rw [if_neg (by omega), if_neg h1, if_neg (by omega), if_pos h3] at hce
        subst hce
        clear h1 h2 h3
        go_enter Tryd.func63, Tryd.ntmps63
        go_wp2_with fail
        refine (split_D b hb _).mono ?_; rintro e w1 ⟨rfl, hb1⟩
        have hc1 := hb1.cells; have hz1 : w.heap.size < w1.heap.size := by have := hb1.sizes; simp at this; omega
        go_wp2
        go_ret
        exact ⟨rfl, (by repeat (first | exact Within.refl _ | assumption | refine Within.alloc ?_ _ | refine Within.drew ?_ | refine Within.trans ?_ (by assumption)))⟩
    · have f3 : ((expD b : Int) == 0) = false := beq_eq_false_iff_ne.2 (by omega)
      rw [if_neg (by omega), if_neg h1, if_neg (by omega), if_neg h3] at hce
      subst hce
      clear h1 h3
      go_enter Tryd.func63, Tryd.ntmps63
      go_wp2_with fail
      refine (split_D b hb _).mono ?_; rintro e w1 ⟨rfl, hb1⟩
      have hc1 := hb1.cells; have hz1 : w.heap.size < w1.heap.size := by have := hb1.sizes; simp at this; omega
      go_wp2
      go_ret
      exact ⟨rfl, (by repeat (first | exact Within.refl _ | assumption | refine Within.alloc ?_ _ | refine Within.drew ?_ | refine Within.trans ?_ (by assumption)))⟩
set_option maxRecDepth 100000 in
set_option maxHeartbeats 600000 in
theorem Same_D (a b : Nat) (ha : a < 18446744073709551616) (hb : b < 18446744073709551616) (w : World) : Calls Tryd.prog 41 #[.float .f64 a, .float .f64 b] w fun e w' => e = .returned (.bool (decide (canonD a = canonD b))) ∧ Within w w' := by
  have HA := Lib.hid ha; have HB := Lib.hid hb; clear ha hb
  go_enter Tryd.func41, Tryd.ntmps41
  go_wp2_with fail
  refine (of_D _).mono ?_; rintro e1 w1 ⟨rfl, hb1⟩
  go_wp2_with fail
  refine (canon_D a HA.out _).mono ?_; rintro e2 w2 ⟨rfl, hb2⟩
  go_wp2_with fail
  refine (of_D _).mono ?_; rintro e3 w3 ⟨rfl, hb3⟩
  go_wp2_with fail
  refine (canon_D b HB.out _).mono ?_; rintro e4 w4 ⟨rfl, hb4⟩
  go_wp2
  go_ret
  refine ⟨ret_bool ?_, (by repeat (first | with_reducible exact Within.refl _ | with_reducible assumption | with_reducible refine Within.alloc ?_ _ | with_reducible refine Within.drew ?_ | with_reducible refine Within.setCell ?_ (by first | (simp; done) | (simp; omega)) _ | with_reducible refine Within.trans ?_ (by assumption)))⟩
  show ((canonD a : Int) == canonD b) = _
  rw [Bool.eq_iff_iff, beq_iff_eq, decide_eq_true_iff]; omega
set_option maxRecDepth 100000 in
set_option maxHeartbeats 600000 in
theorem Class_D (a : Nat) (ha : a < 18446744073709551616) (w : World) : Calls Tryd.prog 52 #[.float .f64 a] w fun e w' => e = .returned (.int .i64 (classD a)) ∧ Within w w' := by
  have HA := Lib.hid ha; clear ha
  go_enter Tryd.func52, Tryd.ntmps52
  go_wp2_with fail
  refine (of_D _).mono ?_; rintro e1 w1 ⟨rfl, hb1⟩
  go_wp2_with fail
  refine (class_D a HA.out _).mono ?_; rintro e2 w2 ⟨rfl, hb2⟩
  go_wp2
  go_ret
  exact ⟨rfl, (by repeat (first | with_reducible exact Within.refl _ | with_reducible assumption | with_reducible refine Within.alloc ?_ _ | with_reducible refine Within.drew ?_ | with_reducible refine Within.setCell ?_ (by first | (simp; done) | (simp; omega)) _ | with_reducible refine Within.trans ?_ (by assumption)))⟩
theorem canonD_nan {a : Nat} (h : nanD a = true) : canonD a = 9221120237041090561 := if_pos h
theorem canonD_id {a : Nat} (h : nanD a = false) : canonD a = a := by unfold canonD; rw [if_neg (by simp [h])]
/-- x != x -/
theorem ne_self64 (a : Nat) : (FloatKind.f64.format.order a a != some .eq) = nanD a := by
  have := Fp.order64_self a
  show (!(Ieee.double.order a a == some .eq)) = _
  rw [this, Bool.not_not]; rfl
set_option maxRecDepth 100000 in
set_option maxHeartbeats 600000 in
theorem Rbits_D (a : Nat) (w : World) : Calls Tryd.prog 62 #[.float .f64 a] w fun e w' => e = .returned (.int .u64 (canonD a)) ∧ w = w' := by
  cases hn : nanD a
  · rw [canonD_id hn]
    have hx : (FloatKind.f64.format.order a a != some .eq) = false := by rw [ne_self64]; exact hn
    clear hn
    go_enter Tryd.func62, Tryd.ntmps62
    go_wp2
    go_ret
    exact ⟨rfl, rfl⟩
  · rw [canonD_nan hn]
    have hx : (FloatKind.f64.format.order a a != some .eq) = true := by rw [ne_self64]; exact hn
    clear hn
    go_enter Tryd.func62, Tryd.ntmps62
    go_wp2
    go_ret
    exact ⟨rfl, rfl⟩
set_option maxRecDepth 100000 in
set_option maxHeartbeats 600000 in
theorem Rsame_D (a b : Nat) (w : World) : Calls Tryd.prog 43 #[.float .f64 a, .float .f64 b] w fun e w' => e = .returned (.bool (decide (canonD a = canonD b))) ∧ w = w' := by
  go_enter Tryd.func43, Tryd.ntmps43
  go_wp2_with fail
  refine (Rbits_D a _).mono ?_; rintro e1 w1 ⟨rfl, rfl⟩
  go_wp2_with fail
  refine (Rbits_D b _).mono ?_; rintro e2 w2 ⟨rfl, rfl⟩
  go_wp2
  go_ret
  refine ⟨ret_bool ?_, rfl⟩
  show ((canonD a : Int) == canonD b) = _
  rw [Bool.eq_iff_iff, beq_iff_eq, decide_eq_true_iff]; omega
set_option maxRecDepth 100000 in
set_option maxHeartbeats 600000 in
theorem Rsplit_D (a : Nat) (ha : a < 18446744073709551616) (w : World) : Calls Tryd.prog 79 #[.float .f64 a] w fun e w' => e = .returned (.tuple #[.bool (negD a), .int .i64 (expD a), .int .u64 (fracD a)]) ∧ w = w' := by
  have HL := Lib.hid (canonD_lt ha)
  unfold negD expD fracD
  clear ha
  have HB := Lib.hid (fun w => Rbits_D a w)
  generalize canonD a = c at *
  go_enter Tryd.func79, Tryd.ntmps79
  go_wp2_with fail
  refine (HB.out _).mono ?_; rintro e1 w1 ⟨rfl, rfl⟩
  go_wp2
  go_ret3
  refine ⟨ret3 (v_bool ?_) (v_int ?_) (v_int ?_), rfl⟩
  · show ((c : Int) / 9223372036854775808 == 1) = _
    rw [Bool.eq_iff_iff, beq_iff_eq, decide_eq_true_iff]; have := HL.out; omega
  · show ((c : Int) / 4503599627370496 % 2048) = _
    omega
  · show ((c : Int) % 4503599627370496) = _
    omega
theorem nat_eq (a b : Nat) : ((a : Int) == (b : Int)) = decide (a = b) := by rw [Bool.eq_iff_iff, beq_iff_eq, decide_eq_true_iff]; omega
set_option maxRecDepth 100000 in
set_option maxHeartbeats 600000 in
theorem Rclassify (e f m : Nat) (w : World) : Calls Tryd.prog 80 #[.int .i64 e, .int .u64 f, .int .i64 m] w fun e' w' => e' = .returned (.int .i64 (classOf e f m)) ∧ w = w' := by
  have b1 : ((e : Int) == (m : Int)) = decide (e = m) := nat_eq e m
  have b2 : ((f : Int) != 0) = decide (f ≠ 0) := by rw [Bool.eq_iff_iff, bne_iff_ne, decide_eq_true_iff]; omega
  have b3 : ((e : Int) == 0) = decide (e = 0) := nat_eq e 0
  have b4 : ((f : Int) == 0) = decide (f = 0) := nat_eq f 0
  generalize hr : classOf e f m = r
  unfold classOf at hr
  by_cases h1 : e = m <;> by_cases h2 : f = 0 <;> by_cases h3 : e = 0
  · rw [decide_eq_true h1] at b1; rw [decide_eq_false (by omega : ¬ f ≠ 0)] at b2; rw [decide_eq_true h3] at b3; rw [decide_eq_true h2] at b4
    have hv : r = 2 := by rw [← hr, if_neg (by omega), if_pos h1]
    subst hv; clear hr h1 h2 h3
    go_enter Tryd.func80, Tryd.ntmps80
    go_wp2
    go_ret
    exact ⟨rfl, rfl⟩
  · rw [decide_eq_true h1] at b1; rw [decide_eq_false (by omega : ¬ f ≠ 0)] at b2; rw [decide_eq_false h3] at b3; rw [decide_eq_true h2] at b4
    have hv : r = 2 := by rw [← hr, if_neg (by omega), if_pos h1]
    subst hv; clear hr h1 h2 h3
    go_enter Tryd.func80, Tryd.ntmps80
    go_wp2
    go_ret
    exact ⟨rfl, rfl⟩
  · rw [decide_eq_true h1] at b1; rw [decide_eq_true (by omega : f ≠ 0)] at b2; rw [decide_eq_true h3] at b3; rw [decide_eq_false h2] at b4
    have hv : r = 1 := by rw [← hr, if_pos ⟨h1, h2⟩]
    subst hv; clear hr h1 h2 h3
    go_enter Tryd.func80, Tryd.ntmps80
    go_wp2
    go_ret
    exact ⟨rfl, rfl⟩
  · rw [decide_eq_true h1] at b1; rw [decide_eq_true (by omega : f ≠ 0)] at b2; rw [decide_eq_false h3] at b3; rw [decide_eq_false h2] at b4
    have hv : r = 1 := by rw [← hr, if_pos ⟨h1, h2⟩]
    subst hv; clear hr h1 h2 h3
    go_enter Tryd.func80, Tryd.ntmps80
    go_wp2
    go_ret
    exact ⟨rfl, rfl⟩
  · rw [decide_eq_false h1] at b1; rw [decide_eq_false (by omega : ¬ f ≠ 0)] at b2; rw [decide_eq_true h3] at b3; rw [decide_eq_true h2] at b4
    have hv : r = 3 := by rw [← hr, if_neg (by omega), if_neg h1, if_pos ⟨h3, h2⟩]
    subst hv; clear hr h1 h2 h3
    go_enter Tryd.func80, Tryd.ntmps80
    go_wp2
    go_ret
    exact ⟨rfl, rfl⟩
  · rw [decide_eq_false h1] at b1; rw [decide_eq_false (by omega : ¬ f ≠ 0)] at b2; rw [decide_eq_false h3] at b3; rw [decide_eq_true h2] at b4
    have hv : r = 5 := by rw [← hr, if_neg (by omega), if_neg h1, if_neg (by omega), if_neg h3]
    subst hv; clear hr h1 h2 h3
    go_enter Tryd.func80, Tryd.ntmps80
    go_wp2
    go_ret
    exact ⟨rfl, rfl⟩
  · rw [decide_eq_false h1] at b1; rw [decide_eq_true (by omega : f ≠ 0)] at b2; rw [decide_eq_true h3] at b3; rw [decide_eq_false h2] at b4
    have hv : r = 4 := by rw [← hr, if_neg (by omega), if_neg h1, if_neg (by omega), if_pos h3]
    subst hv; clear hr h1 h2 h3
    go_enter Tryd.func80, Tryd.ntmps80
    go_wp2
    go_ret
    exact ⟨rfl, rfl⟩
  · rw [decide_eq_false h1] at b1; rw [decide_eq_true (by omega : f ≠ 0)] at b2; rw [decide_eq_false h3] at b3; rw [decide_eq_false h2] at b4
    have hv : r = 5 := by rw [← hr, if_neg (by omega), if_neg h1, if_neg (by omega), if_neg h3]
    subst hv; clear hr h1 h2 h3
    go_enter Tryd.func80, Tryd.ntmps80
    go_wp2
    go_ret
    exact ⟨rfl, rfl⟩
set_option maxRecDepth 100000 in
set_option maxHeartbeats 600000 in
theorem Rclass_D (a : Nat) (ha : a < 18446744073709551616) (w : World) : Calls Tryd.prog 64 #[.float .f64 a] w fun e w' => e = .returned (.int .i64 (classD a)) ∧ w = w' := by
  have SP := Lib.hid (fun w => Rsplit_D a ha w)
  have HF : Hid (fracD a < 4503599627370496) := Nat.mod_lt _ (by decide)
  unfold classD
  clear ha
  generalize fracD a = f at *
  generalize expD a = e at *
  generalize negD a = n at *
  have g1 : IntKind.u64.wrap (f : Int) = f := by rw [IntKind.wrap_u64]; have := HF.out; omega
  go_enter Tryd.func64, Tryd.ntmps64
  go_wp2_with fail
  refine (SP.out _).mono ?_; rintro e1 w1 ⟨rfl, rfl⟩
  go_wp2_with fail
  refine (Rclassify e f 2047 _).mono ?_; rintro e2 w2 ⟨rfl, rfl⟩
  go_wp2
  go_ret
  exact ⟨rfl, rfl⟩
set_option maxRecDepth 100000 in
set_option maxHeartbeats 600000 in
theorem Rfinite (a : Nat) (ha : a < 18446744073709551616) (w : World) : Calls Tryd.prog 53 #[.float .f64 a] w fun e w' => e = .returned (.bool (decide (2 < classD a))) ∧ w = w' := by
  have CL := Lib.hid (fun w => Rclass_D a ha w)
  clear ha
  generalize classD a = c at *
  go_enter Tryd.func53, Tryd.ntmps53
  go_wp2_with fail
  refine (CL.out _).mono ?_; rintro e1 w1 ⟨rfl, rfl⟩
  go_wp2
  go_ret
  exact ⟨ret_bool rfl, rfl⟩
theorem classD_range (a : Nat) : 1 ≤ classD a ∧ classD a ≤ 5 := by
  unfold classD classOf; split <;> (try split) <;> (try split) <;> (try split) <;> omega
theorem bl_top53 {n : Nat} (h0 : n ≠ 0) (hr : Fp.Rep Ieee.double n) : Lib.bitLen (top53 n) = 53 := by
  obtain ⟨t1, t2, _⟩ := top53_bounds h0 hr
  exact bitLen_of 52 _ (by decide) t1 t2
theorem rK_top {n : Nat} (h0 : n ≠ 0) (hr : Fp.Rep Ieee.double n) (D lo : Int) : rK D lo (top53 n) ((n.log2 : Int) - 1126) = max ((n.log2 : Int) - 1073 - D) lo := by
  unfold rK
  rw [bl_top53 h0 hr]
  have : (n.log2 : Int) - 1126 + ((53 : Nat) : Int) - D = (n.log2 : Int) - 1073 - D := by omega
  rw [this]
/-- nothing is lost just where the amount stays -/
theorem lost_iff {n : Nat} (h0 : n ≠ 0) (hr : Fp.Rep Ieee.double n) (D lo : Int) (hlo : -1074 ≤ lo) (neg : Bool) (mode : Int) :
    (rLost D lo (top53 n) ((n.log2 : Int) - 1126) = false → rAmt D lo neg (top53 n) ((n.log2 : Int) - 1126) mode = n) ∧
    (∀ Q, n = Q * 2 ^ (rK D lo (top53 n) ((n.log2 : Int) - 1126) + 1074).toNat → rLost D lo (top53 n) ((n.log2 : Int) - 1126) = false ∧ rQ D lo neg (top53 n) ((n.log2 : Int) - 1126) mode = Q) := by
  obtain ⟨t1, t2, t3, t4⟩ := top53_bounds h0 hr
  have hk : lo ≤ rK D lo (top53 n) ((n.log2 : Int) - 1126) := by unfold rK; omega
  unfold rAmt rQ rLost
  generalize rK D lo (top53 n) ((n.log2 : Int) - 1126) = k at *
  generalize top53 n = m at *
  generalize n.log2 = L at *
  have c52 : 0 < 2 ^ 52 := by decide
  by_cases hs : k - ((L : Int) - 1126) ≤ 0
  · rw [if_pos hs, if_pos hs]
    obtain ⟨d, hd⟩ : ∃ d : Nat, d = (-(k - ((L : Int) - 1126))).toNat := ⟨_, rfl⟩
    obtain ⟨K, hK⟩ : ∃ K : Nat, K = (k + 1074).toNat := ⟨_, rfl⟩
    rw [← hd, ← hK]
    have hL : d + K + 52 = L := by omega
    have e1 : m * 2 ^ d * 2 ^ K * 2 ^ 52 = n * 2 ^ 52 := by
      rw [← t4, ← hL, Nat.pow_add, Nat.pow_add, Nat.mul_assoc, Nat.mul_assoc, Nat.mul_assoc]
    have e2 : m * 2 ^ d * 2 ^ K = n := Nat.eq_of_mul_eq_mul_right c52 e1
    refine ⟨fun _ => e2, fun Q hQ => ⟨rfl, ?_⟩⟩
    rw [hQ] at e2
    exact Nat.eq_of_mul_eq_mul_right (Nat.two_pow_pos K) e2
  · rw [if_neg hs, if_neg hs]
    obtain ⟨s, hs'⟩ : ∃ s : Nat, s = (k - ((L : Int) - 1126)).toNat := ⟨_, rfl⟩
    obtain ⟨K, hK⟩ : ∃ K : Nat, K = (k + 1074).toNat := ⟨_, rfl⟩
    rw [← hs', ← hK]
    have hL : s + L = K + 52 := by omega
    have hp := Nat.two_pow_pos s
    refine ⟨fun h => ?_, fun Q hQ => ?_⟩
    · have h1 : m % 2 ^ s = 0 := by simpa using h
      have h2 : cutQ m s neg mode = m / 2 ^ s := by unfold cutQ goes; rw [if_pos h1]; rfl
      rw [h2]
      have h3 := Nat.div_add_mod m (2 ^ s)
      rw [h1, Nat.add_zero] at h3
      have e1 : m / 2 ^ s * 2 ^ K * 2 ^ 52 = n * 2 ^ 52 := by
        rw [← t4, Nat.mul_assoc, ← Nat.pow_add, ← hL, Nat.pow_add, ← Nat.mul_assoc, Nat.mul_comm (m / 2 ^ s), h3]
      exact Nat.eq_of_mul_eq_mul_right c52 e1
    · have e1 : m * 2 ^ L = Q * 2 ^ s * 2 ^ L := by rw [t4, hQ, Nat.mul_assoc, ← Nat.pow_add, ← hL, Nat.mul_assoc, ← Nat.pow_add]
      have e2 : m = Q * 2 ^ s := Nat.eq_of_mul_eq_mul_right (Nat.two_pow_pos L) e1
      have h1 : m % 2 ^ s = 0 := by rw [e2]; exact Nat.mul_mod_left _ _
      refine ⟨by rw [h1]; rfl, ?_⟩
      have h2 : cutQ m s neg mode = m / 2 ^ s := by unfold cutQ goes; rw [if_pos h1]; rfl
      rw [h2, e2, Nat.mul_div_cancel _ hp]
theorem flags_zero {D lo most : Int} {neg : Bool} {m : Nat} {e mode : Int} : rFlags D lo most neg m e mode = 0 ↔ rOver D lo most neg m e mode = false ∧ rLost D lo m e = false := by
  unfold rFlags
  cases rOver D lo most neg m e mode <;> cases rLost D lo m e <;> simp
  split <;> omega
theorem wide_num {N : Nat} (b : Bool) (h : Fp.Rep Ieee.single N) : wWord (Fp.num Ieee.single b N) = Fp.num Ieee.double b (N * 2 ^ Fp.sgap) := by
  have hl := num_ltS h
  have e : Fp.num Ieee.single b N = Fp.num Ieee.single false N + sgnS b := num_sgnS b N
  have h1 : Fp.num Ieee.single b N % 2147483648 = Fp.num Ieee.single false N ∧ decide (2147483648 ≤ Fp.num Ieee.single b N) = b := by
    rw [e]; unfold sgnS
    cases b
    · rw [if_neg Bool.false_ne_true]; exact ⟨by omega, decide_eq_false (by omega)⟩
    · rw [if_pos rfl]; exact ⟨by omega, decide_eq_true (by omega)⟩
  unfold wWord
  rw [h1.1, h1.2, if_neg (by omega), if_neg (by omega)]
  have h2 : Fp.mag Ieee.single (Fp.num Ieee.single false N) = N := h.2
  rw [h2]
/-- a single's amount is rounded to itself -/
theorem single_exact {n N c j : Nat} (b : Bool) (mode : Int) (_hmode : 0 ≤ mode ∧ mode ≤ 4) (h0 : n ≠ 0) (hR : Fp.Rep Ieee.double n) (hn : N * 2 ^ Fp.sgap = n) (hN : N = c * 2 ^ j) (h2 : N.log2 ≤ 23 + j) (h3 : N.log2 ≤ 276) (hlog : (N * 2 ^ Fp.sgap).log2 = N.log2 + Fp.sgap) :
    rFlags 24 (-149) 127 b (top53 n) ((n.log2 : Int) - 1126) mode = 0 ∧ sWord b (top53 n) ((n.log2 : Int) - 1126) mode = Fp.num Ieee.single false N + sgnS b := by
  rw [hn] at hlog
  have hsg := Fp.sgap_eq
  generalize Fp.sgap = g at *
  have hK := rK_top h0 hR 24 (-149)
  have hLI := lost_iff h0 hR 24 (-149) (by decide) b mode
  obtain ⟨t1, t2, _⟩ := top53_bounds h0 hR
  have hqs : rQ 24 (-149) b (top53 n) ((n.log2 : Int) - 1126) mode ≤ 16777216 := (rQ_le (D := 24) (lo := -149) b ((n.log2 : Int) - 1126) mode (m := top53 n) (by omega) (by omega) (by decide)).1
  have hlogn : ∀ q K, n = q * 2 ^ K → q.log2 + K = n.log2 := fun q K h => by
    have hq0 : q ≠ 0 := fun h1 => by rw [h1, Nat.zero_mul] at h; exact h0 h
    rw [h, Fp.log2_mul_pow q K hq0]
  unfold sWord
  have hov : rOver 24 (-149) 127 b (top53 n) ((n.log2 : Int) - 1126) mode = decide ((127 : Int) + 1 < rK 24 (-149) (top53 n) ((n.log2 : Int) - 1126) + (Lib.bitLen (rQ 24 (-149) b (top53 n) ((n.log2 : Int) - 1126) mode) : Nat)) := rfl
  have hfl := flags_zero (D := 24) (lo := -149) (most := 127) (neg := b) (m := top53 n) (e := (n.log2 : Int) - 1126) (mode := mode)
  generalize rFlags 24 (-149) 127 b (top53 n) ((n.log2 : Int) - 1126) mode = fl at *
  generalize rOver 24 (-149) 127 b (top53 n) ((n.log2 : Int) - 1126) mode = ov at *
  generalize rQ 24 (-149) b (top53 n) ((n.log2 : Int) - 1126) mode = q at *
  generalize rK 24 (-149) (top53 n) ((n.log2 : Int) - 1126) = k at *
  generalize rLost 24 (-149) (top53 n) ((n.log2 : Int) - 1126) = lo at *
  obtain ⟨K, hKe⟩ : ∃ K : Nat, K = (k + 1074).toNat := ⟨_, rfl⟩
  have hK1 : 925 ≤ K ∧ K ≤ j + 925 ∧ (K : Int) = k + 1074 := by omega
  have hQ : n = c * 2 ^ (j + g - K) * 2 ^ K := by
    rw [Nat.mul_assoc, ← Nat.pow_add, show j + g - K + K = j + g by omega, Nat.pow_add, ← Nat.mul_assoc, ← hN, hn]
  obtain ⟨l1, l2⟩ := hLI.2 _ (by rw [← hKe]; exact hQ)
  have hlq := hlogn _ _ hQ
  have hq0 : c * 2 ^ (j + g - K) ≠ 0 := fun h => by rw [h, Nat.zero_mul] at hQ; exact h0 hQ
  have hNN : c * 2 ^ (j + g - K) * 2 ^ (k + 149).toNat = N := by
    rw [show (k + 149).toNat = K - g by omega]
    have e4 : c * 2 ^ (j + g - K) * 2 ^ (K - g) * 2 ^ g = N * 2 ^ g := by
      rw [Nat.mul_assoc (c * 2 ^ (j + g - K)), ← Nat.pow_add, show K - g + g = K by omega, hn]; exact hQ.symm
    exact Nat.eq_of_mul_eq_mul_right (Nat.two_pow_pos _) e4
  rw [← l2] at hlq hq0 hNN
  have hbl : Lib.bitLen q = q.log2 + 1 := bitLen_log2 _ hq0 (by omega)
  rw [hbl] at hov
  have hov' : ov = false := by rw [hov]; exact decide_eq_false (by omega)
  refine ⟨hfl.2 ⟨hov', l1⟩, ?_⟩
  rw [hov', if_neg Bool.false_ne_true, hNN]
/-- a single made a number and made a single again -/
theorem narrow_wide {y : Nat} (hy : y < 4294967296) {mode : Int} (hmode : 0 ≤ mode ∧ mode ≤ 4) : nWord (wWord y) mode = canonS y ∧ nFlags (wWord y) mode = 0 := by
  have hm' : ¬¬(0 ≤ mode ∧ mode ≤ 4) := fun h => h hmode
  by_cases hn : 2139095040 < y % 2147483648
  · have hc : canonS y = 2143289344 := if_pos (decide_eq_true hn)
    have hw : wWord y = 9221120237041090561 := if_pos hn
    rw [hc, hw]
    unfold nWord nFlags
    rw [if_neg hm', if_neg hm']
    exact ⟨by rw [if_pos (by decide)], by rw [if_pos (by decide)]⟩
  have hc : canonS y = y := by unfold canonS nanS; rw [decide_eq_false hn]; exact if_neg Bool.false_ne_true
  have hsp : y = y % 2147483648 + sgnS (decide (2147483648 ≤ y)) := by
    unfold sgnS
    by_cases h : 2147483648 ≤ y
    · rw [decide_eq_true h, if_pos rfl]; omega
    · rw [decide_eq_false h, if_neg Bool.false_ne_true]; omega
  rw [hc]
  generalize hb : decide (2147483648 ≤ y) = b at hsp
  have hng : ∀ x, x < 9223372036854775808 → ngD (x + sgnD b) = b ∧ (x + sgnD b) % 9223372036854775808 = x := fun x hx => by
    unfold ngD sgnD
    cases b
    · rw [if_neg Bool.false_ne_true]; exact ⟨decide_eq_false (by omega), by omega⟩
    · rw [if_pos rfl]; exact ⟨decide_eq_true (by omega), by omega⟩
  by_cases hi : y % 2147483648 = 2139095040
  · have hw : wWord y = 9218868437227405312 + sgnD b := by unfold wWord; rw [if_neg hn, if_pos hi, hb]
    obtain ⟨g1, g2⟩ := hng 9218868437227405312 (by decide)
    rw [hw]
    unfold nWord nFlags
    rw [if_neg hm', if_neg hm', g1, g2]
    refine ⟨?_, rfl⟩
    rw [if_neg (by decide), if_neg (by decide), if_pos rfl, ← hi]
    exact hsp.symm
  have hI := single_is hy (by omega)
  rw [hb] at hI
  have hN := hI.rep Fp.sF
  have hw : wWord y = Fp.num Ieee.double b (Fp.mag Ieee.single (y % 2147483648) * 2 ^ Fp.sgap) := by unfold wWord; rw [if_neg hn, if_neg hi, hb]
  have hyn : y = Fp.num Ieee.single b (Fp.mag Ieee.single (y % 2147483648)) := hI.eq Fp.sF
  have hR := (Fp.widen_is hI).2
  have hmagq := Fp.mag_eq Ieee.single (y % 2147483648)
  have hlog : ∀ N, Fp.mag Ieee.single (y % 2147483648) = N → N ≠ 0 → ∃ c j, N = c * 2 ^ j ∧ N.log2 ≤ 23 + j ∧ N.log2 ≤ 276 := fun N hN0 h0 => by
    rw [hN0] at hmagq
    generalize hq : (if y % 2147483648 < Ieee.single.binade then y % 2147483648 else Ieee.single.binade + y % 2147483648 % Ieee.single.binade) = q at hmagq
    have hq2 : q < 2 ^ 24 := by
      rw [← hq, Fp.sB]
      have : (8388608 : Nat) + 8388608 = 2 ^ 24 := by decide
      split <;> omega
    refine ⟨q, y % 2147483648 / Ieee.single.binade - 1, hmagq, ?_, ?_⟩
    · have hq0 : q ≠ 0 := fun h => by rw [h, Nat.zero_mul] at hmagq; exact h0 hmagq
      rw [hmagq]
      unfold Fp.step
      rw [Fp.log2_mul_pow q _ hq0]
      have := (Nat.log2_lt hq0).2 hq2
      omega
    · have h1 : N < 2 ^ 24 * 2 ^ 253 := by
        have e1 : Fp.mag Ieee.single Ieee.single.infRung = 2 ^ 24 * 2 ^ 253 := by decide +kernel
        rw [← e1, ← hN0]
        exact Fp.mag_mono_lt Ieee.single (by rw [Fp.sI]; omega)
      rw [← Nat.pow_add] at h1
      have := (Nat.log2_lt h0).2 h1
      omega
  generalize Fp.mag Ieee.single (y % 2147483648) = N at *
  have hl := num_lt hR
  rw [num_sgn] at hw
  obtain ⟨g1, g2⟩ := hng (Fp.num Ieee.double false (N * 2 ^ Fp.sgap)) (by omega)
  have hmag : magD (wWord y) = N * 2 ^ Fp.sgap := by unfold magD; rw [hw, g2]; exact (rep_lt hR).2
  unfold nWord nFlags
  have hnn : ¬ 9218868437227405312 < Fp.num Ieee.double false (N * 2 ^ Fp.sgap) := by omega
  have hne : ¬ Fp.num Ieee.double false (N * 2 ^ Fp.sgap) = 9218868437227405312 := by omega
  rw [if_neg hm', if_neg hm', hmag, hw, g1, g2, if_neg hnn, if_neg hnn]
  by_cases h0 : N = 0
  · subst h0
    have e0 : Fp.num Ieee.double false (0 * 2 ^ Fp.sgap) = 0 := by rw [Nat.zero_mul]; exact Fp.grid_zero Ieee.double 0
    rw [if_pos e0, if_pos e0]
    refine ⟨?_, rfl⟩
    rw [hyn, num_sgnS]
    have e1 : Fp.num Ieee.single false 0 = 0 := Fp.grid_zero Ieee.single 0
    rw [e1, Nat.zero_add]
  · have hn0 : N * 2 ^ Fp.sgap ≠ 0 := Nat.mul_ne_zero h0 (Nat.ne_of_gt (Nat.two_pow_pos _))
    have e0 : ¬ Fp.num Ieee.double false (N * 2 ^ Fp.sgap) = 0 := fun h => by
      have := (rep_lt hR).2
      rw [h, Fp.mag_zero] at this
      exact hn0 this.symm
    rw [if_neg e0, if_neg e0, if_neg hne, if_neg hne]
    obtain ⟨c, j, h1, h2, h3⟩ := hlog N rfl h0
    obtain ⟨x1, x2⟩ := single_exact b mode hmode hn0 hR rfl h1 h2 h3 (Fp.log2_mul_pow N Fp.sgap h0)
    exact ⟨x2.trans (hyn.trans (num_sgnS b N)).symm, x1⟩
theorem wWord_lt (b : Nat) (hb : b < 4294967296) : wWord b < 18446744073709551616 := by
  unfold wWord
  split
  · decide
  · split
    · unfold sgnD; split <;> omega
    · rename_i h1 h2
      exact (Fp.Rep.is (Fp.widen_is (single_is hb (by omega))).2 _).1
theorem nWord_lt (a : Nat) (_ha : a < 18446744073709551616) (mode : Int) : nWord a mode < 4294967296 := by
  have hs : ∀ b, sgnS b ≤ 2147483648 := fun b => by unfold sgnS; split <;> omega
  have := hs (ngD a)
  unfold nWord
  split
  · decide
  split
  · decide
  split
  · omega
  split
  · omega
  rename_i h1 h2 h3 h4
  have h0 : magD a ≠ 0 := fun h => h3 (magD_zero.1 h)
  obtain ⟨t1, t2, _⟩ := top53_bounds h0 (magD_rep (a := a) (by omega))
  unfold sWord
  split
  · split <;> omega
  · rename_i ho
    have := num_ltS (sAmt_rep (ngD a) (((magD a).log2 : Int) - 1126) mode (m := top53 (magD a)) (by omega) (by omega) (by simpa using ho)).1
    omega

/-! what a single is, of numbers -/
def finD (x : Nat) : Bool := decide (2 < classD x)
def isSD (x : Nat) : Bool := decide (canonD (wWord (nWord x 0)) = canonD x)
def pf : Fl := ⟨finD, isSD, fun x => nWord x 0, wWord⟩
theorem nan_iff (x : Nat) : nanD x = true ↔ 9218868437227405312 < x % 9223372036854775808 := decide_eq_true_iff
theorem wide_canon {r : Nat} : canonD (wWord r) = wWord r := by
  unfold wWord
  split
  · decide
  · split
    · cases decide (2147483648 ≤ r) <;> decide
    · rename_i h1 h2
      have hr : r % 2147483648 < 4294967296 := by omega
      have hI := single_is (b := r % 2147483648) hr (by omega)
      have := (Fp.Rep.is (Fp.widen_is hI).2 (decide (2147483648 ≤ r)))
      have e : r % 2147483648 % 2147483648 = r % 2147483648 := Nat.mod_mod _ _
      rw [e] at this
      refine canonD_id ?_
      unfold nanD
      refine decide_eq_false ?_
      have h4 := this.2.1
      rw [Fp.rg64, Fp.dI] at h4
      omega
theorem canonD_fin {x : Nat} (h : finD x = true) : canonD x = x := by
  refine canonD_id ?_
  cases hn : nanD x
  · rfl
  · exfalso
    unfold finD classD expD fracD at h
    rw [canonD_nan hn] at h
    exact absurd h (by decide)
theorem finD_canon (x : Nat) : finD (canonD x) = finD x := by
  have h : canonD (canonD x) = canonD x := by
    cases hn : nanD x
    · rw [canonD_id hn, canonD_id hn]
    · rw [canonD_nan hn]; decide
  unfold finD classD expD fracD
  rw [h]
theorem finD_same {x y : Nat} (h : canonD x = canonD y) : finD x = finD y := by rw [← finD_canon x, h, finD_canon]
theorem nWord_nan {x : Nat} (h : nanD x = true) : nWord x 0 = 2143289344 := by
  unfold nWord
  rw [if_neg (by decide), if_pos ((nan_iff x).1 h)]
theorem isSD_nan {x : Nat} (h : nanD x = true) : isSD x = true := by
  unfold isSD
  rw [nWord_nan h, canonD_nan h]; decide
theorem isSD_same {x y : Nat} (h : canonD x = canonD y) : isSD x = isSD y := by
  cases hx : nanD x <;> cases hy : nanD y
  · rw [canonD_id hx, canonD_id hy] at h; rw [h]
  · exfalso
    rw [canonD_id hx, canonD_nan hy] at h
    rw [h] at hx; revert hx; decide
  · exfalso
    rw [canonD_nan hx, canonD_id hy] at h
    rw [← h] at hy; revert hy; decide
  · rw [isSD_nan hx, isSD_nan hy]
theorem canonS_id' {r : Nat} (h : ¬ 2139095040 < r % 2147483648) : canonS r = r := by unfold canonS nanS; rw [decide_eq_false h]; exact if_neg Bool.false_ne_true
theorem pf_ok : pf.Ok where
  to x hx hf hs := by
    have h : canonD (wWord (nWord x 0)) = canonD x := of_decide_eq_true hs
    rw [wide_canon, canonD_fin hf] at h
    exact ⟨nWord_lt x hx 0, h⟩
  back u hu hf := by
    have hn : ¬ 2139095040 < u % 2147483648 := fun h => by
      have : wWord u = 9221120237041090561 := if_pos h
      have hf' : finD (wWord u) = true := hf
      rw [this] at hf'; revert hf'; decide
    have h := (narrow_wide hu (mode := 0) (by decide)).1
    rw [canonS_id' hn] at h
    exact ⟨decide_eq_true (by show canonD (wWord (nWord (wWord u) 0)) = canonD (wWord u); rw [h]), h⟩
  lt u hu := wWord_lt u hu

/-! the model's own conversions, whatever they draw -/
def narV (x : Nat) (w : World) : Nat := match floatToFloatBits .f64 x .f32 with
  | some r => r
  | none => if nanD x then (Question.nanConv .f32 x).cut (w.tape w.drawn (.nanConv .f32 x)) else (Question.floatToFloat x).cut (w.tape w.drawn (.floatToFloat x))
def narW (x : Nat) (w : World) : World := match floatToFloatBits .f64 x .f32 with
  | some _ => w
  | none => w.drew
def wideV (r : Nat) (w : World) : Nat := match floatToFloatBits .f32 r .f64 with
  | some a => a
  | none => (Question.nanConv .f64 r).cut (w.tape w.drawn (.nanConv .f64 r))
def wideW (r : Nat) (w : World) : World := match floatToFloatBits .f32 r .f64 with
  | some _ => w
  | none => w.drew
theorem decode_nanD {x : Nat} (h : 9218868437227405312 < x % 9223372036854775808) : ∃ g i, FloatKind.f64.decode x = .nan g i := ⟨_, _, Fp.read_nan Ieee.double x (by rw [Fp.rg64, Fp.dI]; exact h) Fp.dBI⟩
theorem decode_nanS {x : Nat} (h : 2139095040 < x % 2147483648) : ∃ g i, FloatKind.f32.decode x = .nan g i := ⟨_, _, Fp.read_nan Ieee.single x (by rw [Fp.rg32, Fp.sI]; exact h) Fp.sBI⟩
theorem conv_nar {P : Program} {src dst : TypeId} (hs : (P.underlying src).isSome = true) (hd : P.underlying dst = some (.float .f32)) (x : Nat) (hx : x < 18446744073709551616) (w : World) :
    (convert src dst (.float .f64 x)).run P w = .ok (.float .f32 (narV x w)) (narW x w) := by
  unfold narV narW
  cases h : floatToFloatBits .f64 x .f32 with
  | some r => exact run_convert_float_float (P := P) w src dst .f64 .f32 x r hs hd h
  | none =>
    by_cases hn : nanD x = true
    · obtain ⟨g, i, hdc⟩ := decode_nanD ((nan_iff x).1 hn)
      simp only [if_pos hn]
      exact run_widen_nan src dst .f64 .f32 x P w (by decide) hs hd g i hdc
    · have hdc : ∀ g i, FloatKind.f64.decode x ≠ .nan g i := fun g i e => by
        have hle : x % 9223372036854775808 ≤ 9218868437227405312 := by
          have : ¬ 9218868437227405312 < x % 9223372036854775808 := fun h => hn ((nan_iff x).2 h)
          omega
        rcases Nat.lt_or_ge (x % 9223372036854775808) 9218868437227405312 with h1 | h1
        · obtain ⟨m, e', r1, _⟩ := Fp.read_fin Ieee.double x (by rw [Fp.rg64, Fp.dI]; exact h1)
          have : FloatKind.f64.decode x = Ieee.double.read x := rfl
          rw [this, r1] at e; cases e
        · have hsp : x = 9218868437227405312 + sgnD (decide (9223372036854775808 ≤ x)) := by
            unfold sgnD
            by_cases g : 9223372036854775808 ≤ x
            · rw [decide_eq_true g, if_pos rfl]; omega
            · rw [decide_eq_false g, if_neg Bool.false_ne_true]; omega
          rw [hsp, nbits_inf] at h; cases h
      unfold floatToFloatBits at h
      rw [if_neg (by decide)] at h
      obtain ⟨u, hs'⟩ := Option.isSome_iff_exists.1 hs
      cases hdx : FloatKind.f64.decode x with
      | nan g i => exact absurd hdx (hdc g i)
      | infinity s => rw [hdx] at h; cases h
      | number s m e =>
        rw [hdx] at h
        simp only at h
        split at h
        · rename_i hov
          simp only [if_neg hn]
          cases u <;> simp [convert, run_underlying hs', run_underlying hd, Conv.floatToFloat, hdx, hov, Question.forced]
        · cases h
theorem conv_wide {P : Program} {src dst : TypeId} (hs : (P.underlying src).isSome = true) (hd : P.underlying dst = some (.float .f64)) (r : Nat) (hr : r < 4294967296) (w : World) :
    (convert src dst (.float .f32 r)).run P w = .ok (.float .f64 (wideV r w)) (wideW r w) := by
  unfold wideV wideW
  cases h : floatToFloatBits .f32 r .f64 with
  | some a => exact run_convert_float_float (P := P) w src dst .f32 .f64 r a hs hd h
  | none =>
    by_cases hn : 2139095040 < r % 2147483648
    · obtain ⟨g, i, hdc⟩ := decode_nanS hn
      exact run_widen_nan src dst .f32 .f64 r P w (by decide) hs hd g i hdc
    · exfalso
      by_cases hi : r % 2147483648 = 2139095040
      · have hsp : r = 2139095040 + sgnS (decide (2147483648 ≤ r)) := by
          unfold sgnS
          by_cases g : 2147483648 ≤ r
          · rw [decide_eq_true g, if_pos rfl]; omega
          · rw [decide_eq_false g, if_neg Bool.false_ne_true]; omega
        rw [hsp, wbits_inf] at h; cases h
      · have hI := single_is hr (by omega)
        have hl := (Fp.Rep.is (Fp.widen_is hI).2 (decide (2147483648 ≤ r))).2.1
        rw [Fp.rg64, Fp.dI] at hl
        rw [wbits_num (by omega) hl (Fp.widen_is hI).1] at h
        cases h
/-- a single made a number by the model, whatever it draws -/
theorem wideV_canon {r : Nat} (hr : r < 4294967296) (w : World) : canonD (wideV r w) = wWord r := by
  unfold wideV
  by_cases hn : 2139095040 < r % 2147483648
  · obtain ⟨g, i, hdc⟩ := decode_nanS hn
    have h : floatToFloatBits .f32 r .f64 = none := by unfold floatToFloatBits; rw [if_neg (by decide), hdc]
    rw [h]
    have e : wWord r = 9221120237041090561 := if_pos hn
    rw [e]
    exact (nan_cutD r _).1
  · by_cases hi : r % 2147483648 = 2139095040
    · have hsp : r = 2139095040 + sgnS (decide (2147483648 ≤ r)) := by
        unfold sgnS
        by_cases g : 2147483648 ≤ r
        · rw [decide_eq_true g, if_pos rfl]; omega
        · rw [decide_eq_false g, if_neg Bool.false_ne_true]; omega
      have h : floatToFloatBits .f32 r .f64 = some (9218868437227405312 + sgnD (decide (2147483648 ≤ r))) := by
        conv => lhs; rw [hsp]
        exact wbits_inf _
      rw [h]
      have e : wWord r = 9218868437227405312 + sgnD (decide (2147483648 ≤ r)) := by unfold wWord; rw [if_neg hn, if_pos hi]
      rw [e]
      show canonD (9218868437227405312 + sgnD (decide (2147483648 ≤ r))) = _
      cases decide (2147483648 ≤ r) <;> decide
    · have hI := single_is hr (by omega)
      have hl := (Fp.Rep.is (Fp.widen_is hI).2 (decide (2147483648 ≤ r))).2.1
      rw [Fp.rg64, Fp.dI] at hl
      rw [wbits_num (by omega) hl (Fp.widen_is hI).1]
      have e : wWord r = Fp.num Ieee.double (decide (2147483648 ≤ r)) (Fp.mag Ieee.single (r % 2147483648) * 2 ^ Fp.sgap) := by unfold wWord; rw [if_neg hn, if_neg hi]
      rw [← e]; exact wide_canon
/-- a single's number, narrowed by the model -/
theorem nar_wide {s : Nat} (hs : s < 4294967296) (hn : ¬ 2139095040 < s % 2147483648) : floatToFloatBits .f64 (wWord s) .f32 = some s := by
  by_cases hi : s % 2147483648 = 2139095040
  · have hsp : s = 2139095040 + sgnS (decide (2147483648 ≤ s)) := by
      unfold sgnS
      by_cases g : 2147483648 ≤ s
      · rw [decide_eq_true g, if_pos rfl]; omega
      · rw [decide_eq_false g, if_neg Bool.false_ne_true]; omega
    have e : wWord s = 9218868437227405312 + sgnD (decide (2147483648 ≤ s)) := by unfold wWord; rw [if_neg hn, if_pos hi]
    rw [e, nbits_inf, ← hsp]
  · have hI := single_is hs (by omega)
    have hR := (Fp.widen_is hI).2
    have e : wWord s = Fp.num Ieee.double (decide (2147483648 ≤ s)) (Fp.mag Ieee.single (s % 2147483648) * 2 ^ Fp.sgap) := by unfold wWord; rw [if_neg hn, if_neg hi]
    have hJ := hR.is (decide (2147483648 ≤ s))
    have hl := hJ.2.1
    rw [Fp.rg64, Fp.dI] at hl
    have hw := Fp.narrow_is hJ (hI.rep Fp.sF)
    rw [← hI.eq Fp.sF] at hw
    rw [e]
    exact nbits_num hl (by omega) hw
theorem narV_lt {x : Nat} (hx : x < 18446744073709551616) (w : World) : narV x w < 4294967296 := by
  unfold narV
  cases h : floatToFloatBits .f64 x .f32 with
  | some r =>
    have := floatToFloatBits_wf (src := .f64) (bits := x) (dst := .f32) (r := r) (by show decide (x < 2 ^ 64) = true; exact decide_eq_true hx) h
    have h2 : decide (r < 2 ^ 32) = true := this
    exact of_decide_eq_true h2
  | none =>
    simp only
    split
    · exact (nan_cutS _ _).2
    · exact Nat.mod_lt _ (by decide)
/-- both ways: the number is a single just if it comes back -/
theorem single_iff {x : Nat} (hx : x < 18446744073709551616) (w w' : World) : decide (canonD (wideV (narV x w) w') = canonD x) = isSD x := by
  have hr := narV_lt hx w
  rw [wideV_canon hr]
  unfold isSD
  rw [decide_eq_decide, wide_canon]
  by_cases hn : nanD x = true
  · rw [canonD_nan hn, nWord_nan hn]
    have e : ∃ c, narV x w = (Question.nanConv .f32 x).cut c := by
      obtain ⟨g, i, hdc⟩ := decode_nanD ((nan_iff x).1 hn)
      have h : floatToFloatBits .f64 x .f32 = none := by unfold floatToFloatBits; rw [if_neg (by decide), hdc]
      refine ⟨w.tape w.drawn (.nanConv .f32 x), ?_⟩
      unfold narV
      rw [h]
      simp only [if_pos hn]
    obtain ⟨c, e⟩ := e
    have h1 := (nan_cutS x c).1
    rw [← e] at h1
    have h2 : 2139095040 < narV x w % 2147483648 := by
      apply Decidable.byContradiction
      intro h
      rw [canonS_id' h] at h1
      rw [h1] at h
      exact h (by decide)
    have h3 : wWord (narV x w) = 9221120237041090561 := if_pos h2
    rw [h3]
    exact ⟨fun _ => by decide, fun _ => rfl⟩
  · have hn' : nanD x = false := by simpa using hn
    rw [canonD_id hn']
    constructor
    · intro h
      have h1 : ¬ 2139095040 < narV x w % 2147483648 := fun hh => by
        have : wWord (narV x w) = 9221120237041090561 := if_pos hh
        rw [this] at h
        rw [← h] at hn'; revert hn'; decide
      have h2 := (narrow_wide hr (mode := 0) (by decide)).1
      rw [h, canonS_id' h1] at h2
      rw [h2]; exact h
    · intro h
      have h0 := nWord_lt x hx 0
      have h1 : ¬ 2139095040 < nWord x 0 % 2147483648 := fun hh => by
        have : wWord (nWord x 0) = 9221120237041090561 := if_pos hh
        rw [this] at h
        rw [← h] at hn'; revert hn'; decide
      have h2 := nar_wide h0 h1
      rw [h] at h2
      have h3 : narV x w = nWord x 0 := by unfold narV; rw [h2]
      rw [h3]; exact h
/-- of a finite single the model gives its bits -/
theorem nar_single {x : Nat} (hx : x < 18446744073709551616) (hf : finD x = true) (hs : isSD x = true) (w : World) : narV x w = nWord x 0 ∧ narW x w = w := by
  have h := (pf_ok.to x hx hf hs).2
  have h' : wWord (nWord x 0) = x := h
  have h0 := nWord_lt x hx 0
  have h1 : ¬ 2139095040 < nWord x 0 % 2147483648 := fun hh => by
    have : wWord (nWord x 0) = 9221120237041090561 := if_pos hh
    rw [this] at h'
    rw [← h'] at hf; revert hf; decide
  have h2 := nar_wide h0 h1
  rw [h'] at h2
  unfold narV narW
  rw [h2]; exact ⟨rfl, rfl⟩
theorem narW_in {x : Nat} (w : World) : Within w (narW x w) := by
  unfold narW; split
  · exact Within.refl _
  · exact (Within.refl _).drew
theorem wideW_in {r : Nat} (w : World) : Within w (wideW r w) := by
  unfold wideW; split
  · exact Within.refl _
  · exact (Within.refl _).drew
theorem wideV_lt {r : Nat} (hr : r < 4294967296) (w : World) : wideV r w < 18446744073709551616 := by
  unfold wideV
  cases h : floatToFloatBits .f32 r .f64 with
  | some a =>
    have := floatToFloatBits_wf (src := .f32) (bits := r) (dst := .f64) (r := a) (by show decide (r < 2 ^ 32) = true; exact decide_eq_true hr) h
    have h2 : decide (a < 2 ^ 64) = true := this
    exact of_decide_eq_true h2
  | none =>
    exact (nan_cutD r _).2

end Go.Proofs.YtmpcnhiklpahnaaDoor
