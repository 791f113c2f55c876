/- What the law's walk rests on, part 2: contracts of functions and plain facts. -/
import Derived.Test.YtjmaggfddinbkaaGreatDoorRows
import Derived.WalkKit
import Derived.WalkSpells
import Derived.WalkLawsBesides
import Derived.BigQuiet
import Derived.Lib.Hide
import Ieee.Arith
import Derived.Deep.OwnRows
import Derived.OwnWalk
import Derived.LoopTactic
import Derived.Outline
import Derived.IntWalk
import Derived.Shelf.Bits.Mul64
import Derived.Laws.Externs
import Derived.Deep.QuietTactic
import Derived.Deep.RegionWith
import Derived.OrdersHeld
import Derived.StillTail
import Derived.Deep.RegionHeld3
import Derived.Maps.AppendAt
import Derived.Lib.TrailingZeros
import Derived.Lib.BitFns
import Derived.Lib.Strings
import Derived.Lib.Slices
import Derived.Lib.Small
import Derived.Lib.Walk
import Derived.Deep.AppendLies
import Derived.Deep.Draws
import Derived.Laws.OwnMore
import Derived.Deep.DeepCutAuto
import Derived.ProofKit
import Derived.OpenShut
import Derived.ShutString
import Derived.ChangeOld
import Derived.Below
import Derived.Deep.DeepHandedRow
import Derived.Lib.LaidTab
import Derived.Test.YtjmaggfddinbkaaGreatDoorZETr1
set_option linter.unusedVariables false
set_option linter.unusedSimpArgs false
section
namespace Go.Proofs.YtjmaggfddinbkaaGreatDoor
open Go.RowKit
def classOf (e fr most : Nat) : Int := if e = most ∧ fr ≠ 0 then 1 else if e = most then 2 else if e = 0 ∧ fr = 0 then 3 else if e = 0 then 4 else 5
def expD (b : Nat) : Nat := canonD b / 4503599627370496 % 2048
def fracD (b : Nat) : Nat := canonD b % 4503599627370496
def negD (b : Nat) : Bool := decide (9223372036854775808 ≤ canonD b)
def classD (b : Nat) : Int := classOf (expD b) (fracD b) 2047
set_option maxHeartbeats 400000 in
theorem split_D (b : Nat) (hb : b < 18446744073709551616) (w : World) : Calls Tryz.prog 166 #[.int .u64 b, dbl] w fun e w' => e = .returned (.tuple #[.bool (negD b), .int .i64 (expD b), .int .u64 (fracD b)]) ∧ Within w w' := by
  have hc := canonD_lt hb
  have e1 := u64_sign (canonD b) hc
  have e2 := u64_mask 11 (by decide) (canonD b / 4503599627370496) (by omega)
  have e3 := u64_mask 52 (by decide) (canonD b) (by omega)
  simp only [show (2 ^ 11 - 1 : Nat) = 2047 from rfl, show (2 ^ 11 : Nat) = 2048 from rfl, show (2 ^ 52 - 1 : Nat) = 4503599627370495 from rfl, show (2 ^ 52 : Nat) = 4503599627370496 from rfl, Int.natCast_ediv, Int.natCast_emod, Int.natCast_mul, Int.cast_ofNat_Int] at e1 e2 e3
  have ew : IntKind.u64.wrap (canonD b : Int) = canonD b := by rw [IntKind.wrap_u64]; omega
  have e4 : IntKind.u64.wrap 4503599627370495 = 4503599627370495 := by decide
  have e5 : IntKind.u64.wrap 2047 = 2047 := by decide
  have e6 : IntKind.i64.wrap ((canonD b : Int) / 4503599627370496 % 2048) = (canonD b : Int) / 4503599627370496 % 2048 := by rw [IntKind.wrap_i64]; omega
  have e7 : IntKind.u64.wrap ((canonD b : Int) % 4503599627370496) = (canonD b : Int) % 4503599627370496 := by first | (rw [IntKind.wrap_u64]; omega) | (rw [IntKind.wrap_u32]; omega)
  go_enter Tryz.func166, Tryz.ntmps166
  go_wp2_with fail
  refine (canon_D b hb _).mono ?_; rintro e w1 ⟨rfl, hb1⟩
  have hc1 := hb1.cells; have hz1 : w.heap.size < w1.heap.size := by have := hb1.sizes; simp at this; omega
  go_wp2
  refine wp_region_within (by kernel_rfl) (by kernel_rfl) ?_
  repeat
    apply wpq_step rfl
    · intro wq hCq
      have hcq := hCq.cells
      go_simp
      first | rfl | exact hCq.call (hidden_D _) | exact hCq.call (sign_D _) | (trace_state; fail)
    simp only [Act.put, List.setIfInBounds_toArray, List.set_cons_zero, List.set_cons_succ]
  refine wpQuiet_nil ?_
  intro w2 hC2
  go_wp2
  go_ret3
  refine ⟨ret3 (v_bool (b := negD b) ?_) (v_int (b := expD b) ?_) (v_int (b := fracD b) ?_), (by repeat (first | exact Within.refl _ | assumption | refine Within.alloc ?_ _ | refine Within.drew ?_ | refine Within.trans ?_ (by assumption)))⟩
  · show ((canonD b : Int) / 9223372036854775808 * 9223372036854775808 != 0) = negD b
    unfold negD
    rw [Bool.eq_iff_iff, bne_iff_ne, decide_eq_true_iff]; omega
  · show ((canonD b : Int) / 4503599627370496 % 2048) = _
    unfold expD; omega
  · show ((canonD b : Int) % 4503599627370496) = _
    unfold fracD; omega
set_option maxHeartbeats 400000 in
theorem class_D (b : Nat) (hb : b < 18446744073709551616) (w : World) : Calls Tryz.prog 147 #[.int .u64 b, dbl] w fun e w' => e = .returned (.int .i64 (classD b)) ∧ Within w w' := by
  generalize hce : classD b = c
  unfold classD classOf at hce
  by_cases h1 : expD b = 2047
  · have f1 : ((expD b : Int) == 2047) = true := beq_iff_eq.2 (by omega)
    by_cases h2 : fracD b = 0
    · have f2 : ((fracD b : Int) != 0) = false := by rw [bne_eq_false_iff_eq]; omega
      rw [if_neg (by omega), if_pos h1] at hce
      subst hce
      clear h1 h2
      go_enter Tryz.func147, Tryz.ntmps147
      go_wp2_with fail
      refine (split_D b hb _).mono ?_; rintro e w1 ⟨rfl, hb1⟩
      have hc1 := hb1.cells; have hz1 : w.heap.size < w1.heap.size := by have := hb1.sizes; simp at this; omega
      go_wp2
      go_ret
      exact ⟨rfl, (by repeat (first | exact Within.refl _ | assumption | refine Within.alloc ?_ _ | refine Within.drew ?_ | refine Within.trans ?_ (by assumption)))⟩
    · have f2 : ((fracD b : Int) != 0) = true := by rw [bne_iff_ne]; omega
      rw [if_pos ⟨h1, h2⟩] at hce
      subst hce
      clear h1 h2
      go_enter Tryz.func147, Tryz.ntmps147
      go_wp2_with fail
      refine (split_D b hb _).mono ?_; rintro e w1 ⟨rfl, hb1⟩
      have hc1 := hb1.cells; have hz1 : w.heap.size < w1.heap.size := by have := hb1.sizes; simp at this; omega
      go_wp2
      go_ret
      exact ⟨rfl, (by repeat (first | exact Within.refl _ | assumption | refine Within.alloc ?_ _ | refine Within.drew ?_ | refine Within.trans ?_ (by assumption)))⟩
  · have f1 : ((expD b : Int) == 2047) = false := beq_eq_false_iff_ne.2 (by omega)
    by_cases h3 : expD b = 0
    · have f3 : ((expD b : Int) == 0) = true := beq_iff_eq.2 (by omega)
      by_cases h2 : fracD b = 0
      · have f2 : ((fracD b : Int) == 0) = true := beq_iff_eq.2 (by omega)
        rw [if_neg (by omega), if_neg h1, if_pos ⟨h3, h2⟩] at hce
        subst hce
        clear h1 h2 h3
        go_enter Tryz.func147, Tryz.ntmps147
        go_wp2_with fail
        refine (split_D b hb _).mono ?_; rintro e w1 ⟨rfl, hb1⟩
        have hc1 := hb1.cells; have hz1 : w.heap.size < w1.heap.size := by have := hb1.sizes; simp at this; omega
        go_wp2
        go_ret
        exact ⟨rfl, (by repeat (first | exact Within.refl _ | assumption | refine Within.alloc ?_ _ | refine Within.drew ?_ | refine Within.trans ?_ (by assumption)))⟩
      · have f2 : ((fracD b : Int) == 0) = false := beq_eq_false_iff_ne.2 (by omega)
        rw [if_neg (by omega), if_neg h1, if_neg (by omega), if_pos h3] at hce
        subst hce
        clear h1 h2 h3
        go_enter Tryz.func147, Tryz.ntmps147
        go_wp2_with fail
        refine (split_D b hb _).mono ?_; rintro e w1 ⟨rfl, hb1⟩
        have hc1 := hb1.cells; have hz1 : w.heap.size < w1.heap.size := by have := hb1.sizes; simp at this; omega
        go_wp2
        go_ret
        exact ⟨rfl, (by repeat (first | exact Within.refl _ | assumption | refine Within.alloc ?_ _ | refine Within.drew ?_ | refine Within.trans ?_ (by assumption)))⟩
    · have f3 : ((expD b : Int) == 0) = false := beq_eq_false_iff_ne.2 (by omega)
      rw [if_neg (by omega), if_neg h1, if_neg (by omega), if_neg h3] at hce
      subst hce
      clear h1 h3
      go_enter Tryz.func147, Tryz.ntmps147
      go_wp2_with fail
      refine (split_D b hb _).mono ?_; rintro e w1 ⟨rfl, hb1⟩
      have hc1 := hb1.cells; have hz1 : w.heap.size < w1.heap.size := by have := hb1.sizes; simp at this; omega
      go_wp2
      go_ret
      exact ⟨rfl, (by repeat (first | exact Within.refl _ | assumption | refine Within.alloc ?_ _ | refine Within.drew ?_ | refine Within.trans ?_ (by assumption)))⟩
def bitsOfD (neg : Bool) (e fr : Nat) : Nat := e * 4503599627370496 + fr + (if neg then 9223372036854775808 else 0)
def joinD (neg : Bool) (e : Int) (fr : Nat) : Nat := if e < 0 ∨ 2047 < e ∨ 4503599627370496 ≤ fr then 0 else canonD (bitsOfD neg e.toNat fr)
def joinED (e : Int) (fr : Nat) : Int := if e < 0 ∨ 2047 < e ∨ 4503599627370496 ≤ fr then 1 else 0
theorem bitsOfD_lt (neg : Bool) {e fr : Nat} (h1 : e ≤ 2047) (h2 : fr < 4503599627370496) : bitsOfD neg e fr < 18446744073709551616 := by unfold bitsOfD; cases neg <;> simp <;> omega
set_option maxHeartbeats 400000 in
theorem join_D (neg : Bool) (e : Int) (fr : Nat) (hlo : -9223372036854775808 ≤ e) (hhi : e ≤ 9223372036854775807) (hb : fr < 18446744073709551616) (w : World) : Calls Tryz.prog 169 #[.bool neg, .int .i64 e, .int .u64 fr, dbl] w fun e' w' => e' = .returned (.tuple #[.int .u64 (joinD neg e fr), .int .i64 (joinED e fr)]) ∧ Within w w' := by
  by_cases c1 : e < 0
  · have hv : (joinD neg e fr : Int) = 0 ∧ joinED e fr = 1 := by unfold joinD joinED; rw [if_pos (by omega), if_pos (by omega)]; exact ⟨rfl, rfl⟩
    rw [hv.1, hv.2]; clear hv hb
    go_enter Tryz.func169, Tryz.ntmps169
    go_wp2
    go_ret2
    exact ⟨rfl, (by repeat (first | exact Within.refl _ | assumption | refine Within.alloc ?_ _ | refine Within.drew ?_ | refine Within.trans ?_ (by assumption)))⟩
  by_cases c2 : 2047 < e
  · have hv : (joinD neg e fr : Int) = 0 ∧ joinED e fr = 1 := by unfold joinD joinED; rw [if_pos (by omega), if_pos (by omega)]; exact ⟨rfl, rfl⟩
    rw [hv.1, hv.2]; clear hv hb
    go_enter Tryz.func169, Tryz.ntmps169
    go_wp2
    go_ret2
    exact ⟨rfl, (by repeat (first | exact Within.refl _ | assumption | refine Within.alloc ?_ _ | refine Within.drew ?_ | refine Within.trans ?_ (by assumption)))⟩
  obtain ⟨k, rfl⟩ := Int.eq_ofNat_of_zero_le (show 0 ≤ e by omega)
  have c3 : (k : Int) ≤ 2047 := by omega
  by_cases c4 : 4503599627370496 ≤ fr
  · have c5 : decide ((4503599627370496 : Int) ≤ fr) = true := decide_eq_true (by omega)
    have d1 : decide ((k : Int) < 0) = false := decide_eq_false (by omega)
    have d2 : decide ((2047 : Int) < k) = false := decide_eq_false (by omega)
    have ew3 : IntKind.u64.wrap (fr : Int) = fr := by rw [IntKind.wrap_u64]; omega
    have hv : (joinD neg k fr : Int) = 0 ∧ joinED k fr = 1 := by unfold joinD joinED; rw [if_pos (by omega), if_pos (by omega)]; exact ⟨rfl, rfl⟩
    rw [hv.1, hv.2]; clear hv hlo hhi hb c4 c1 c2 c3
    go_enter Tryz.func169, Tryz.ntmps169
    go_wp2_with fail
    refine (hidden_D _).mono ?_; rintro e1 w1 ⟨rfl, hb1⟩
    have hc1 := hb1.cells; have hz1 : w.heap.size < w1.heap.size := by have := hb1.sizes; simp at this; omega
    go_wp2
    go_ret2
    exact ⟨rfl, (by repeat (first | exact Within.refl _ | assumption | refine Within.alloc ?_ _ | refine Within.drew ?_ | refine Within.trans ?_ (by assumption)))⟩
  · have c5 : decide ((4503599627370496 : Int) ≤ fr) = false := decide_eq_false (by omega)
    have d1 : decide ((k : Int) < 0) = false := decide_eq_false (by omega)
    have d2 : decide ((2047 : Int) < k) = false := decide_eq_false (by omega)
    have hv : (joinD neg k fr : Int) = canonD (bitsOfD neg k fr) ∧ joinED k fr = 0 := by unfold joinD joinED; rw [if_neg (by omega), if_neg (by omega)]; exact ⟨rfl, rfl⟩
    rw [hv.1, hv.2]
    have hlt := Lib.hid (bitsOfD_lt neg (e := k) (fr := fr) (by omega) (by omega))
    have j1 := u64_join 52 (k * 4503599627370496) fr (by omega) (by omega) (by rw [show (2 : Nat) ^ 52 = 4503599627370496 from rfl]; omega) (by rw [show (2 : Nat) ^ 52 = 4503599627370496 from rfl]; omega)
    have j2 := u64_join 63 9223372036854775808 (k * 4503599627370496 + fr) (by omega) (by omega) (by decide) (by rw [show (2 : Nat) ^ 63 = 9223372036854775808 from rfl]; omega)
    have j2' : bits .or .u64 ((k : Int) * 4503599627370496 + fr) 9223372036854775808 = (k : Int) * 4503599627370496 + fr + 9223372036854775808 := by
      rw [show (k : Int) * 4503599627370496 + fr = ((k * 4503599627370496 + fr : Nat) : Int) by omega, show (9223372036854775808 : Int) = ((9223372036854775808 : Nat) : Int) from rfl, u64_or_nat _ _ (by omega) (by omega), Nat.or_comm, ← u64_or_nat _ _ (by omega) (by omega), j2]
      omega
    simp only [Int.natCast_mul, Int.natCast_add, Int.cast_ofNat_Int] at j1
    have ew : IntKind.u64.wrap (k : Int) = k := by rw [IntKind.wrap_u64]; omega
    have ew2 : IntKind.u64.wrap ((k : Int) * 4503599627370496) = k * 4503599627370496 := by rw [IntKind.wrap_u64]; omega
    have ew3 : IntKind.u64.wrap (fr : Int) = fr := by rw [IntKind.wrap_u64]; omega
    have f0 : (0 : Int) ≤ k := by omega
    have f1 : (0 : Int) ≤ fr := by omega
    clear hv hlo hhi c1 c2 c4 hb j2 c3
    cases neg
    · have j3 : (k : Int) * 4503599627370496 + fr = (bitsOfD false k fr : Int) := by
        unfold bitsOfD; simp
      have J3 := Lib.hid j3; clear j3
      go_enter Tryz.func169, Tryz.ntmps169
      go_wp2_with fail
      refine (hidden_D _).mono ?_; rintro e1 w1 ⟨rfl, hb1⟩
      have hc1 := hb1.cells; have hz1 : w.heap.size < w1.heap.size := by have := hb1.sizes; simp at this; omega
      go_wp2_with fail
      rw [J3.out]
      refine (canon_D _ hlt.out _).mono ?_; rintro e2 w2 ⟨rfl, hb2⟩
      go_wp2
      go_ret2
      exact ⟨rfl, (by repeat (first | exact Within.refl _ | assumption | refine Within.alloc ?_ _ | refine Within.drew ?_ | refine Within.trans ?_ (by assumption)))⟩
    · have j3 : (k : Int) * 4503599627370496 + fr + 9223372036854775808 = (bitsOfD true k fr : Int) := by
        unfold bitsOfD; simp
      have J3 := Lib.hid j3; clear j3
      go_enter Tryz.func169, Tryz.ntmps169
      go_wp2_with fail
      refine (hidden_D _).mono ?_; rintro e1 w1 ⟨rfl, hb1⟩
      have hc1 := hb1.cells; have hz1 : w.heap.size < w1.heap.size := by have := hb1.sizes; simp at this; omega
      go_wp2_with fail
      refine (sign_D _).mono ?_; rintro e2 w2 ⟨rfl, hb2⟩
      have hc2 := hb2.cells; have hz2 : w.heap.size < w2.heap.size := by have := hb2.sizes; omega
      go_wp2_with fail
      rw [J3.out]
      refine (canon_D _ hlt.out _).mono ?_; rintro e3 w3 ⟨rfl, hb3⟩
      go_wp2
      go_ret2
      exact ⟨rfl, (by repeat (first | exact Within.refl _ | assumption | refine Within.alloc ?_ _ | refine Within.drew ?_ | refine Within.trans ?_ (by assumption)))⟩
theorem parts_eq {n : Bool} {a b c d z : Int} (h1 : a = b) (h2 : c = d) : Ending.returned (.tuple #[.agg #[.bool n, .int .u64 a, .int .i64 c], .int .i64 z]) = .returned (.tuple #[.agg #[.bool n, .int .u64 b, .int .i64 d], .int .i64 z]) := by rw [h1, h2]
def mantD (b : Nat) : Nat := if expD b = 0 then fracD b else fracD b + 4503599627370496
def lowD (b : Nat) : Int := ((if expD b = 0 then 1 else expD b : Nat) : Int) - 1075
theorem expD_lt (b : Nat) : expD b < 2048 := by unfold expD; omega
theorem fracD_lt (b : Nat) : fracD b < 4503599627370496 := by unfold fracD; omega
theorem mantD_lt (b : Nat) : mantD b < 2 * 4503599627370496 := by have := fracD_lt b; unfold mantD; split <;> omega
def pMantD (b : Nat) : Nat := if expD b = 2047 then 0 else mantD b / 2 ^ Lib.ctz 64 (mantD b)
def pExpD (b : Nat) : Int := if expD b = 2047 ∨ mantD b = 0 then 0 else lowD b + Lib.ctz 64 (mantD b)
def pNegD (b : Nat) : Bool := if expD b = 2047 then false else negD b
def pErrD (b : Nat) : Int := if expD b = 2047 then 4 else 0
theorem classD_nan {b : Nat} (h : expD b = 2047) : classD b = 1 ∨ classD b = 2 := by
  unfold classD classOf; by_cases h2 : fracD b = 0
  · right; rw [if_neg (by omega), if_pos h]
  · left; rw [if_pos ⟨h, h2⟩]
theorem classD_zero {b : Nat} (h : expD b = 0) (h2 : fracD b = 0) : classD b = 3 := by
  unfold classD classOf; rw [if_neg (by omega), if_neg (by omega), if_pos ⟨h, h2⟩]
theorem classD_sub {b : Nat} (h : expD b = 0) (h2 : fracD b ≠ 0) : classD b = 4 := by
  unfold classD classOf; rw [if_neg (by omega), if_neg (by omega), if_neg (by omega), if_pos h]
theorem classD_normal {b : Nat} (h : expD b ≠ 0) (h2 : expD b ≠ 2047) : classD b = 5 := by
  unfold classD classOf; rw [if_neg (by omega), if_neg (by omega), if_neg (by omega), if_neg (by omega)]
set_option maxRecDepth 100000 in
set_option maxHeartbeats 600000 in
theorem partsNan_D (b : Nat) (hb : b < 18446744073709551616) (cl : classD b = 1 ∨ classD b = 2) (w : World) (_ : Tab w) : Calls Tryz.prog 148 #[.int .u64 b, dbl] w fun e w' => e = .returned (.tuple #[.agg #[.bool (false), .int .u64 (0), .int .i64 (0)], .int .i64 (4)]) ∧ Within w w' := by
  have H0 := Lib.hid hb
  have HE := expD_lt b
  have HF := Lib.hid (fracD_lt b)
  have he : (expD b : Int) < 2048 := by omega
  have ewf : IntKind.u64.wrap (fracD b : Int) = fracD b := by have := HF.out; rw [IntKind.wrap_u64]; omega
  rcases cl with hcl | hcl
  all_goals
    have CL := Lib.hid (class_D b H0.out)
    rw [hcl] at CL; clear hcl hb HE
    go_enter Tryz.func148, Tryz.ntmps148
    go_wp2_with fail
    refine (split_D b H0.out _).mono ?_; rintro e1 w1 ⟨rfl, hb1⟩
    have hc1 := hb1.cells; have hf1 := hb1.frozens; have hz1 : w.heap.size + 1 < w1.heap.size := (by have := hb1.sizes; simp at this; omega); have hy1 : w.heap.size < w1.heap.size := by omega
    have s0 : w1.cell? ⟨w.heap.size + 1, 0, none⟩ = some (.bool false) := by have := hc1 (w.heap.size + 1) 0 (by simp); simpa using this
    have s1 : w1.cell? ⟨w.heap.size + 1, 1, none⟩ = some (.int .u64 0) := by have := hc1 (w.heap.size + 1) 1 (by simp); simpa using this
    have s2 : w1.cell? ⟨w.heap.size + 1, 2, none⟩ = some (.int .i64 0) := by have := hc1 (w.heap.size + 1) 2 (by simp); simpa using this
    go_wp2_with fail
    refine (CL.out _).mono ?_; rintro e2 w2 ⟨rfl, hb2⟩
    have hc2 := hb2.cells; have hf2 := hb2.frozens; have hz2 : w1.heap.size < w2.heap.size := (by have := hb2.sizes; simp at this; omega); have hy2 : w.heap.size < w2.heap.size := (by omega); have hx2 : w.heap.size + 1 < w2.heap.size := by omega
    have k0 : w2.cell? ⟨w1.heap.size, 0, none⟩ = some (.bool (negD b)) := by have := hc2 w1.heap.size 0 (by simp); simpa using this
    have k1 : w2.cell? ⟨w1.heap.size, 1, none⟩ = some (.int .u64 (fracD b)) := by have := hc2 w1.heap.size 1 (by simp); simpa using this
    have k2 : w2.cell? ⟨w1.heap.size, 2, none⟩ = some (.int .i64 ((expD b : Int) - 1075)) := by have := hc2 w1.heap.size 2 (by simp); simpa using this
    have r0 : w2.cell? ⟨w.heap.size + 1, 0, none⟩ = some (.bool false) := by rw [hc2 _ _ (by simp; omega), World.cell?_alloc_lt _ _ _ (by simpa using hz1)]; exact s0
    have r1 : w2.cell? ⟨w.heap.size + 1, 1, none⟩ = some (.int .u64 0) := by rw [hc2 _ _ (by simp; omega), World.cell?_alloc_lt _ _ _ (by simpa using hz1)]; exact s1
    have r2 : w2.cell? ⟨w.heap.size + 1, 2, none⟩ = some (.int .i64 0) := by rw [hc2 _ _ (by simp; omega), World.cell?_alloc_lt _ _ _ (by simpa using hz1)]; exact s2
    go_wp2
    refine bodyPost_ret (v := .tuple #[.agg #[.bool (false), .int .u64 (0), .int .i64 (0)], .int .i64 (4)]) (by simp [results, Tryz.results148, go_sem, r0, r1, r2]) rfl ⟨rfl, ?_⟩
    exact (by repeat (first | with_reducible exact Within.refl _ | with_reducible assumption | with_reducible refine Within.alloc ?_ _ | with_reducible refine Within.drew ?_ | with_reducible refine Within.setCell ?_ (by first | (simp; done) | (simp; omega)) _ | with_reducible refine Within.trans ?_ (by assumption)))
set_option maxRecDepth 100000 in
set_option maxHeartbeats 600000 in
theorem partsZero_D (b : Nat) (hb : b < 18446744073709551616) (cl : classD b = 3) (w : World) (_ : Tab w) : Calls Tryz.prog 148 #[.int .u64 b, dbl] w fun e w' => e = .returned (.tuple #[.agg #[.bool (negD b), .int .u64 (0), .int .i64 (0)], .int .i64 (0)]) ∧ Within w w' := by
  have H0 := Lib.hid hb
  have HE := expD_lt b
  have HF := Lib.hid (fracD_lt b)
  have he : (expD b : Int) < 2048 := by omega
  have ewf : IntKind.u64.wrap (fracD b : Int) = fracD b := by have := HF.out; rw [IntKind.wrap_u64]; omega
  have CL := Lib.hid (class_D b H0.out)
  rw [cl] at CL
  clear cl hb HE
  go_enter Tryz.func148, Tryz.ntmps148
  go_wp2_with fail
  refine (split_D b H0.out _).mono ?_; rintro e1 w1 ⟨rfl, hb1⟩
  have hc1 := hb1.cells; have hf1 := hb1.frozens; have hz1 : w.heap.size + 1 < w1.heap.size := (by have := hb1.sizes; simp at this; omega); have hy1 : w.heap.size < w1.heap.size := by omega
  have s0 : w1.cell? ⟨w.heap.size + 1, 0, none⟩ = some (.bool false) := by have := hc1 (w.heap.size + 1) 0 (by simp); simpa using this
  have s1 : w1.cell? ⟨w.heap.size + 1, 1, none⟩ = some (.int .u64 0) := by have := hc1 (w.heap.size + 1) 1 (by simp); simpa using this
  have s2 : w1.cell? ⟨w.heap.size + 1, 2, none⟩ = some (.int .i64 0) := by have := hc1 (w.heap.size + 1) 2 (by simp); simpa using this
  go_wp2_with fail
  refine (CL.out _).mono ?_; rintro e2 w2 ⟨rfl, hb2⟩
  have hc2 := hb2.cells; have hf2 := hb2.frozens; have hz2 : w1.heap.size < w2.heap.size := (by have := hb2.sizes; simp at this; omega); have hy2 : w.heap.size < w2.heap.size := (by omega); have hx2 : w.heap.size + 1 < w2.heap.size := by omega
  have k0 : w2.cell? ⟨w1.heap.size, 0, none⟩ = some (.bool (negD b)) := by have := hc2 w1.heap.size 0 (by simp); simpa using this
  have k1 : w2.cell? ⟨w1.heap.size, 1, none⟩ = some (.int .u64 (fracD b)) := by have := hc2 w1.heap.size 1 (by simp); simpa using this
  have k2 : w2.cell? ⟨w1.heap.size, 2, none⟩ = some (.int .i64 ((expD b : Int) - 1075)) := by have := hc2 w1.heap.size 2 (by simp); simpa using this
  have r0 : w2.cell? ⟨w.heap.size + 1, 0, none⟩ = some (.bool false) := by rw [hc2 _ _ (by simp; omega), World.cell?_alloc_lt _ _ _ (by simpa using hz1)]; exact s0
  have r1 : w2.cell? ⟨w.heap.size + 1, 1, none⟩ = some (.int .u64 0) := by rw [hc2 _ _ (by simp; omega), World.cell?_alloc_lt _ _ _ (by simpa using hz1)]; exact s1
  have r2 : w2.cell? ⟨w.heap.size + 1, 2, none⟩ = some (.int .i64 0) := by rw [hc2 _ _ (by simp; omega), World.cell?_alloc_lt _ _ _ (by simpa using hz1)]; exact s2
  go_wp2
  refine bodyPost_ret (v := .tuple #[.agg #[.bool (negD b), .int .u64 (0), .int .i64 (0)], .int .i64 (0)]) (by simp [results, Tryz.results148, go_sem, r0, r1, r2]) rfl ⟨rfl, ?_⟩
  exact (by repeat (first | with_reducible exact Within.refl _ | with_reducible assumption | with_reducible refine Within.alloc ?_ _ | with_reducible refine Within.drew ?_ | with_reducible refine Within.setCell ?_ (by first | (simp; done) | (simp; omega)) _ | with_reducible refine Within.trans ?_ (by assumption)))
set_option maxRecDepth 100000 in
set_option maxHeartbeats 600000 in
theorem partsSub_D (b : Nat) (hb : b < 18446744073709551616) (c2 : mantD b ≠ 0) (cl : classD b = 4) (em : mantD b = fracD b) (el : lowD b = expD b - 1075 + 1) (w : World) (hT : Tab w) : Calls Tryz.prog 148 #[.int .u64 b, dbl] w fun e w' => e = .returned (.tuple #[.agg #[.bool (negD b), .int .u64 ((mantD b / 2 ^ Lib.ctz 64 (mantD b) : Nat)), .int .i64 (lowD b + Lib.ctz 64 (mantD b))], .int .i64 (0)]) ∧ Within w w' := by
  have H0 := Lib.hid hb
  have HE := expD_lt b
  have HF := Lib.hid (fracD_lt b)
  have he : (expD b : Int) < 2048 := by omega
  have ewf : IntKind.u64.wrap (fracD b : Int) = fracD b := by have := HF.out; rw [IntKind.wrap_u64]; omega
  have HM := Lib.hid (mantD_lt b)
  obtain ⟨_, hz, hk⟩ := ctz_split (mantD b) c2 (by have := HM.out; omega); clear hz
  have HK := Lib.hid hk
  have hk : (Lib.ctz 64 (mantD b) : Int) < 64 := by omega
  have TZ := Lib.hid (fun w => bits_tz64 (mantD b) (by have := HM.out; omega) w)
  generalize Lib.ctz 64 (mantD b) = k at *
  have CL := Lib.hid (class_D b H0.out)
  rw [cl] at CL
  have EM := Lib.hid em
  have EL := Lib.hid el
  clear cl hb HE c2 em el
  go_enter Tryz.func148, Tryz.ntmps148
  go_wp2_with fail
  refine (split_D b H0.out _).mono ?_; rintro e1 w1 ⟨rfl, hb1⟩
  have hc1 := hb1.cells; have hf1 := hb1.frozens; have hz1 : w.heap.size + 1 < w1.heap.size := (by have := hb1.sizes; simp at this; omega); have hy1 : w.heap.size < w1.heap.size := by omega
  have s0 : w1.cell? ⟨w.heap.size + 1, 0, none⟩ = some (.bool false) := by have := hc1 (w.heap.size + 1) 0 (by simp); simpa using this
  have s1 : w1.cell? ⟨w.heap.size + 1, 1, none⟩ = some (.int .u64 0) := by have := hc1 (w.heap.size + 1) 1 (by simp); simpa using this
  have s2 : w1.cell? ⟨w.heap.size + 1, 2, none⟩ = some (.int .i64 0) := by have := hc1 (w.heap.size + 1) 2 (by simp); simpa using this
  go_wp2_with fail
  refine (CL.out _).mono ?_; rintro e2 w2 ⟨rfl, hb2⟩
  have hc2 := hb2.cells; have hf2 := hb2.frozens; have hz2 : w1.heap.size < w2.heap.size := (by have := hb2.sizes; simp at this; omega); have hy2 : w.heap.size < w2.heap.size := (by omega); have hx2 : w.heap.size + 1 < w2.heap.size := by omega
  have k0 : w2.cell? ⟨w1.heap.size, 0, none⟩ = some (.bool (negD b)) := by have := hc2 w1.heap.size 0 (by simp); simpa using this
  have k1 : w2.cell? ⟨w1.heap.size, 1, none⟩ = some (.int .u64 (fracD b)) := by have := hc2 w1.heap.size 1 (by simp); simpa using this
  have k2 : w2.cell? ⟨w1.heap.size, 2, none⟩ = some (.int .i64 ((expD b : Int) - 1075)) := by have := hc2 w1.heap.size 2 (by simp); simpa using this
  have r0 : w2.cell? ⟨w.heap.size + 1, 0, none⟩ = some (.bool false) := by rw [hc2 _ _ (by simp; omega), World.cell?_alloc_lt _ _ _ (by simpa using hz1)]; exact s0
  have r1 : w2.cell? ⟨w.heap.size + 1, 1, none⟩ = some (.int .u64 0) := by rw [hc2 _ _ (by simp; omega), World.cell?_alloc_lt _ _ _ (by simpa using hz1)]; exact s1
  have r2 : w2.cell? ⟨w.heap.size + 1, 2, none⟩ = some (.int .i64 0) := by rw [hc2 _ _ (by simp; omega), World.cell?_alloc_lt _ _ _ (by simpa using hz1)]; exact s2
  go_wp2_with fail
  rw [← EM.out]
  refine (TZ.out _ (hT.of (by repeat (first | with_reducible exact Within.refl _ | with_reducible assumption | with_reducible refine Within.alloc ?_ _ | with_reducible refine Within.drew ?_ | with_reducible refine Within.setCell ?_ (by first | (simp; done) | (simp; omega)) _ | with_reducible refine Within.trans ?_ (by assumption))))).mono ?_; rintro e3 w3 ⟨rfl, rfl⟩
  go_wp2
  obtain ⟨m, hm⟩ : ∃ m : Int, m = (fracD b : Int) / 2 ^ k := ⟨_, rfl⟩
  rw [← hm]
  have HM2 := Lib.hid hm; clear hm
  refine bodyPost_ret (v := .tuple #[.agg #[.bool (negD b), .int .u64 m, .int .i64 ((expD b : Int) - 1075 + 1 + k)], .int .i64 0]) ?_ ?_ ?_
  · simp [results, Tryz.results148, go_sem, r0, r1, r2]
  · rfl
  refine ⟨parts_eq ?_ ?_, ?_⟩
  · rw [HM2.out, EM.out]; simp
  · rw [EL.out]
  · exact (by repeat (first | with_reducible exact Within.refl _ | with_reducible assumption | with_reducible refine Within.alloc ?_ _ | with_reducible refine Within.drew ?_ | with_reducible refine Within.setCell ?_ (by first | (simp; done) | (simp; omega)) _ | with_reducible refine Within.trans ?_ (by assumption)))
set_option maxRecDepth 100000 in
set_option maxHeartbeats 600000 in
theorem partsNorm_D (b : Nat) (hb : b < 18446744073709551616) (c2 : mantD b ≠ 0) (cl : classD b = 5) (em : mantD b = fracD b + 4503599627370496) (el : lowD b = expD b - 1075) (w : World) (hT : Tab w) : Calls Tryz.prog 148 #[.int .u64 b, dbl] w fun e w' => e = .returned (.tuple #[.agg #[.bool (negD b), .int .u64 ((mantD b / 2 ^ Lib.ctz 64 (mantD b) : Nat)), .int .i64 (lowD b + Lib.ctz 64 (mantD b))], .int .i64 (0)]) ∧ Within w w' := by
  have H0 := Lib.hid hb
  have HE := expD_lt b
  have HF := Lib.hid (fracD_lt b)
  have he : (expD b : Int) < 2048 := by omega
  have ewf : IntKind.u64.wrap (fracD b : Int) = fracD b := by have := HF.out; rw [IntKind.wrap_u64]; omega
  have HM := Lib.hid (mantD_lt b)
  obtain ⟨_, hz, hk⟩ := ctz_split (mantD b) c2 (by have := HM.out; omega); clear hz
  have HK := Lib.hid hk
  have hk : (Lib.ctz 64 (mantD b) : Int) < 64 := by omega
  have TZ := Lib.hid (fun w => bits_tz64 (mantD b) (by have := HM.out; omega) w)
  generalize Lib.ctz 64 (mantD b) = k at *
  have CL := Lib.hid (class_D b H0.out)
  rw [cl] at CL
  have EM := Lib.hid em
  have EL := Lib.hid el
  have j1 := u64_join 52 4503599627370496 (fracD b) (by decide) (by have := HF.out; omega) (by decide) (by rw [show (2 : Nat) ^ 52 = 4503599627370496 from rfl]; exact HF.out)
  have e1 : bits .or .u64 (fracD b : Int) 4503599627370496 = (mantD b : Int) := by
    rw [show (4503599627370496 : Int) = ((4503599627370496 : Nat) : Int) from rfl, u64_or_nat _ _ (by have := HF.out; omega) (by decide), Nat.or_comm, ← u64_or_nat _ _ (by decide) (by have := HF.out; omega), j1, EM.out]; omega
  clear cl hb HE c2 em el j1
  go_enter Tryz.func148, Tryz.ntmps148
  go_wp2_with fail
  refine (split_D b H0.out _).mono ?_; rintro e1 w1 ⟨rfl, hb1⟩
  have hc1 := hb1.cells; have hf1 := hb1.frozens; have hz1 : w.heap.size + 1 < w1.heap.size := (by have := hb1.sizes; simp at this; omega); have hy1 : w.heap.size < w1.heap.size := by omega
  have s0 : w1.cell? ⟨w.heap.size + 1, 0, none⟩ = some (.bool false) := by have := hc1 (w.heap.size + 1) 0 (by simp); simpa using this
  have s1 : w1.cell? ⟨w.heap.size + 1, 1, none⟩ = some (.int .u64 0) := by have := hc1 (w.heap.size + 1) 1 (by simp); simpa using this
  have s2 : w1.cell? ⟨w.heap.size + 1, 2, none⟩ = some (.int .i64 0) := by have := hc1 (w.heap.size + 1) 2 (by simp); simpa using this
  go_wp2_with fail
  refine (CL.out _).mono ?_; rintro e2 w2 ⟨rfl, hb2⟩
  have hc2 := hb2.cells; have hf2 := hb2.frozens; have hz2 : w1.heap.size < w2.heap.size := (by have := hb2.sizes; simp at this; omega); have hy2 : w.heap.size < w2.heap.size := (by omega); have hx2 : w.heap.size + 1 < w2.heap.size := by omega
  have k0 : w2.cell? ⟨w1.heap.size, 0, none⟩ = some (.bool (negD b)) := by have := hc2 w1.heap.size 0 (by simp); simpa using this
  have k1 : w2.cell? ⟨w1.heap.size, 1, none⟩ = some (.int .u64 (fracD b)) := by have := hc2 w1.heap.size 1 (by simp); simpa using this
  have k2 : w2.cell? ⟨w1.heap.size, 2, none⟩ = some (.int .i64 ((expD b : Int) - 1075)) := by have := hc2 w1.heap.size 2 (by simp); simpa using this
  have r0 : w2.cell? ⟨w.heap.size + 1, 0, none⟩ = some (.bool false) := by rw [hc2 _ _ (by simp; omega), World.cell?_alloc_lt _ _ _ (by simpa using hz1)]; exact s0
  have r1 : w2.cell? ⟨w.heap.size + 1, 1, none⟩ = some (.int .u64 0) := by rw [hc2 _ _ (by simp; omega), World.cell?_alloc_lt _ _ _ (by simpa using hz1)]; exact s1
  have r2 : w2.cell? ⟨w.heap.size + 1, 2, none⟩ = some (.int .i64 0) := by rw [hc2 _ _ (by simp; omega), World.cell?_alloc_lt _ _ _ (by simpa using hz1)]; exact s2
  go_wp2_with fail
  have g0 : w1.cell? ⟨w.heap.size, 0, none⟩ = some (.int .u64 52) := by have := hc1 w.heap.size 0 (by simp; omega); simpa using this
  have f0 : w2.cell? ⟨w.heap.size, 0, none⟩ = some (.int .u64 52) := by rw [hc2 _ _ (by simp; omega), World.cell?_alloc_lt _ _ _ (by simpa using hy1)]; exact g0
  have g1 : w1.cell? ⟨w.heap.size, 1, none⟩ = some (.int .i64 2047) := by have := hc1 w.heap.size 1 (by simp; omega); simpa using this
  have f1 : w2.cell? ⟨w.heap.size, 1, none⟩ = some (.int .i64 2047) := by rw [hc2 _ _ (by simp; omega), World.cell?_alloc_lt _ _ _ (by simpa using hy1)]; exact g1
  have g2 : w1.cell? ⟨w.heap.size, 2, none⟩ = some (.int .i64 1075) := by have := hc1 w.heap.size 2 (by simp; omega); simpa using this
  have f2 : w2.cell? ⟨w.heap.size, 2, none⟩ = some (.int .i64 1075) := by rw [hc2 _ _ (by simp; omega), World.cell?_alloc_lt _ _ _ (by simpa using hy1)]; exact g2
  have z1 : ∀ o, w2.frozen? ⟨w1.heap.size, o, none⟩ = false := fun o => by have := hf2 w1.heap.size o (by simp); simpa using this
  have y0 : ∀ o, w1.frozen? ⟨w.heap.size + 1, o, none⟩ = false := fun o => by have := hf1 (w.heap.size + 1) o (by simp); simpa using this
  have y1 : ∀ o, w2.frozen? ⟨w.heap.size + 1, o, none⟩ = false := fun o => by have := hf2 (w.heap.size + 1) o (by simp; omega); rw [World.frozen?_alloc_old _ _ _ (by simp; omega)] at this; rw [this]; exact y0 o
  go_region_with (first | (go_at_call 167; refine (hidden_D _).mono ?_; rintro e3 w3 ⟨rfl, hb3⟩; have hq3 := (Within.refl w2).drew.trans hb3; have hc3 := hq3.cells; have kk0 := (hc3 _ _ hz2).trans k0; have kk1 := (hc3 _ _ hz2).trans k1; have kk2 := (hc3 _ _ hz2).trans k2; have hz3 := Nat.lt_of_lt_of_le hz2 hq3.sizes; have hy3 := Nat.lt_of_lt_of_le hy2 hq3.sizes; have z3 := fun o => (hq3.frozens _ o hz2).trans (z1 o); have y3 := fun o => (hq3.frozens _ o hx2).trans (y1 o); have rr0 := (hc3 _ _ hx2).trans r0; have rr1 := (hc3 _ _ hx2).trans r1; have rr2 := (hc3 _ _ hx2).trans r2))
  all_goals
    go_wp2_with fail
    refine (TZ.out _ (hT.of (by repeat (first | with_reducible exact Within.refl _ | with_reducible assumption | with_reducible refine Within.alloc ?_ _ | with_reducible refine Within.drew ?_ | with_reducible refine Within.setCell ?_ (by first | (simp; done) | (simp; omega)) _ | with_reducible refine Within.trans ?_ (by assumption))))).mono ?_; rintro e4 w4 ⟨rfl, rfl⟩
    go_wp2
    obtain ⟨m, hm⟩ : ∃ m : Int, m = (mantD b : Int) / 2 ^ k := ⟨_, rfl⟩
    rw [← hm]
    have HM2 := Lib.hid hm; clear hm
    refine bodyPost_ret (v := .tuple #[.agg #[.bool (negD b), .int .u64 m, .int .i64 ((expD b : Int) - 1075 + k)], .int .i64 0]) ?_ ?_ ?_
    · simp [results, Tryz.results148, go_sem, rr0, rr1, rr2]
    · rfl
    refine ⟨parts_eq ?_ ?_, ?_⟩
    · rw [HM2.out]; simp
    · rw [EL.out]
    · exact (by repeat (first | with_reducible exact Within.refl _ | with_reducible assumption | with_reducible refine Within.alloc ?_ _ | with_reducible refine Within.drew ?_ | with_reducible refine Within.setCell ?_ (by first | (simp; done) | (simp; omega)) _ | with_reducible refine Within.trans ?_ (by assumption)))
set_option maxRecDepth 100000 in
set_option maxHeartbeats 600000 in
theorem parts_D (b : Nat) (hb : b < 18446744073709551616)  (w : World) (hT : Tab w) : Calls Tryz.prog 148 #[.int .u64 b, dbl] w fun e w' => e = .returned (.tuple #[.agg #[.bool (pNegD b), .int .u64 (pMantD b), .int .i64 (pExpD b)], .int .i64 (pErrD b)]) ∧ Within w w' := by
  by_cases c1 : expD b = 2047
  · have hv : pNegD b = false ∧ (pMantD b : Int) = 0 ∧ pExpD b = 0 ∧ pErrD b = 4 := by
      unfold pNegD pMantD pExpD pErrD; rw [if_pos c1, if_pos c1, if_pos (.inl c1), if_pos c1]; exact ⟨rfl, rfl, rfl, rfl⟩
    rw [hv.1, hv.2.1, hv.2.2.1, hv.2.2.2]
    exact partsNan_D b hb (classD_nan c1) w hT
  by_cases c2 : mantD b = 0
  · have c3 : expD b = 0 := by unfold mantD at c2; split at c2 <;> omega
    have c4 : fracD b = 0 := by unfold mantD at c2; rw [if_pos c3] at c2; exact c2
    have hv : pNegD b = negD b ∧ (pMantD b : Int) = 0 ∧ pExpD b = 0 ∧ pErrD b = 0 := by
      unfold pNegD pMantD pExpD pErrD; rw [if_neg c1, if_neg c1, if_pos (.inr c2), if_neg c1, c2]; simp
    rw [hv.1, hv.2.1, hv.2.2.1, hv.2.2.2]
    exact partsZero_D b hb (classD_zero c3 c4) w hT
  have hv : pNegD b = negD b ∧ (pMantD b : Int) = (mantD b / 2 ^ Lib.ctz 64 (mantD b) : Nat) ∧ pExpD b = lowD b + Lib.ctz 64 (mantD b) ∧ pErrD b = 0 := by
    unfold pNegD pMantD pExpD pErrD; rw [if_neg c1, if_neg c1, if_neg (by omega), if_neg c1]; exact ⟨rfl, rfl, rfl, rfl⟩
  rw [hv.1, hv.2.1, hv.2.2.1, hv.2.2.2]
  by_cases c3 : expD b = 0
  · have em : mantD b = fracD b := by unfold mantD; rw [if_pos c3]
    have el : lowD b = expD b - 1075 + 1 := by unfold lowD; rw [if_pos c3, c3]; rfl
    exact partsSub_D b hb c2 (classD_sub c3 (by omega)) em el w hT
  · have em : mantD b = fracD b + 4503599627370496 := by unfold mantD; rw [if_neg c3]
    have el : lowD b = expD b - 1075 := by unfold lowD; rw [if_neg c3]
    exact partsNorm_D b hb c2 (classD_normal c3 c1) em el w hT
def oddM (mant : Nat) : Nat := mant / 2 ^ Lib.ctz 64 mant
def oddE (mant : Nat) (e : Int) : Int := e + Lib.ctz 64 mant
def badD (mant : Nat) (e : Int) : Bool := decide (2150 < e) || decide (e < -2150) || decide (53 < Lib.bitLen (oddM mant)) || decide (oddE mant e < -1074)
def downD (mant : Nat) (e : Int) : Nat := min (53 - Lib.bitLen (oddM mant)) (oddE mant e - -1074).toNat
def topD (mant : Nat) (e : Int) : Nat := oddM mant * 2 ^ downD mant e
def fieldD (mant : Nat) (e : Int) : Int := if topD mant e < 4503599627370496 then 0 else oddE mant e - downD mant e + 1075
def madeD (neg : Bool) (mant : Nat) (e : Int) : Nat := if mant = 0 then joinD neg 0 0 else if badD mant e then 0 else if 2047 ≤ fieldD mant e then 0 else joinD neg (fieldD mant e) (topD mant e % 4503599627370496)
def madeED (mant : Nat) (e : Int) : Int := if mant = 0 then joinED 0 0 else if badD mant e then 10 else if 2047 ≤ fieldD mant e then 10 else joinED (fieldD mant e) (topD mant e % 4503599627370496)
set_option maxRecDepth 100000 in
set_option maxHeartbeats 600000 in
theorem madeZero_D (neg : Bool) (e : Int) (w : World) : Calls Tryz.prog 150 #[.agg #[.bool neg, .int .u64 0, .int .i64 e], dbl] w fun e' w' => e' = .returned (.tuple #[.int .u64 (joinD neg 0 0), .int .i64 (joinED 0 0)]) ∧ Within w w' := by
  go_enter Tryz.func150, Tryz.ntmps150
  go_wp2_with fail
  refine (join_D neg 0 0 (by decide) (by decide) (by decide) _).mono ?_; rintro e1 w1 ⟨rfl, hb1⟩
  go_wp2
  go_ret2
  exact ⟨rfl, (by repeat (first | with_reducible exact Within.refl _ | with_reducible assumption | with_reducible refine Within.alloc ?_ _ | with_reducible refine Within.drew ?_ | with_reducible refine Within.setCell ?_ (by first | (simp; done) | (simp; omega)) _ | with_reducible refine Within.trans ?_ (by assumption)))⟩
set_option maxRecDepth 100000 in
set_option maxHeartbeats 600000 in
theorem madeFar_D (neg : Bool) (mant : Nat) (e : Int) (t1 : ((mant : Int) == 0) = false) (h : 2150 < e ∨ e < -2150) (w : World) : Calls Tryz.prog 150 #[.agg #[.bool neg, .int .u64 mant, .int .i64 e], dbl] w fun e' w' => e' = .returned (.tuple #[.int .u64 (0), .int .i64 (10)]) ∧ Within w w' := by
  rcases h with h | h
  all_goals
    go_enter Tryz.func150, Tryz.ntmps150
    go_wp2
    go_ret2
    exact ⟨rfl, (by repeat (first | with_reducible exact Within.refl _ | with_reducible assumption | with_reducible refine Within.alloc ?_ _ | with_reducible refine Within.drew ?_ | with_reducible refine Within.setCell ?_ (by first | (simp; done) | (simp; omega)) _ | with_reducible refine Within.trans ?_ (by assumption)))⟩
set_option maxRecDepth 100000 in
set_option maxHeartbeats 600000 in
theorem madeBad_D (neg : Bool) (mant k q : Nat) (e : Int) (hb : mant < 18446744073709551616) (t1 : ((mant : Int) == 0) = false) (h1 : e ≤ 2150) (h2 : -2150 ≤ e) (K : Hid (k < 64)) (KE : Hid (Lib.ctz 64 mant = k)) (Q : Hid (q = mant / 2 ^ k)) (HQ : Hid (q < 18446744073709551616)) (h3 : 53 < Lib.bitLen q ∨ e + k < -1074) (w : World) (hT : Tab w) : Calls Tryz.prog 150 #[.agg #[.bool neg, .int .u64 mant, .int .i64 e], dbl] w fun e' w' => e' = .returned (.tuple #[.int .u64 (0), .int .i64 (10)]) ∧ Within w w' := by
  have HB := Lib.hid hb; clear hb
  have TZ := Lib.hid (fun w => bits_tz64 mant HB.out w)
  have hq : (mant : Int) / 2 ^ k = (q : Int) := by rw [Q.out]; simp
  have hsh := shr_u64 mant k K.out
  rw [← Q.out] at hsh
  have hk : (k : Int) < 64 := by have := K.out; omega
  have ew : IntKind.i64.wrap (e + k) = e + k := by rw [IntKind.wrap_i64]; omega
  have LN := Lib.hid (fun w => bits_len64 q HQ.out w)
  generalize hL : Lib.bitLen q = L at *
  rw [KE.out] at TZ
  go_enter Tryz.func150, Tryz.ntmps150
  go_wp2_with fail
  refine (TZ.out _ (hT.of (by repeat (first | with_reducible exact Within.refl _ | with_reducible assumption | with_reducible refine Within.alloc ?_ _ | with_reducible refine Within.drew ?_ | with_reducible refine Within.setCell ?_ (by first | (simp; done) | (simp; omega)) _ | with_reducible refine Within.trans ?_ (by assumption))))).mono ?_; rintro e1 w1 ⟨rfl, rfl⟩
  go_wp2_with fail
  refine wp_region_within (by kernel_rfl) (by kernel_rfl) ?_
  repeat
    apply wpq_step rfl
    · intro wq hCq
      have hcq := hCq.cells
      go_simp
      first | rfl | (trace_state; fail)
    simp only [Act.put, List.setIfInBounds_toArray, List.set_cons_zero, List.set_cons_succ]
  refine wpQuiet_nil ?_
  intro w1 hb1
  have hc1 := hb1.cells; have hz1 : w.heap.size + 1 < w1.heap.size := (by have := hb1.sizes; simp at this; omega); have hy1 : w.heap.size < w1.heap.size := (by omega)
  go_wp2_with fail
  refine (LN.out _).mono ?_; rintro e2 w2 ⟨rfl, rfl⟩
  rcases h3 with h3 | h3
  all_goals
    go_wp2
    all_goals
      go_ret2
      exact ⟨rfl, (by repeat (first | with_reducible exact Within.refl _ | with_reducible assumption | with_reducible refine Within.alloc ?_ _ | with_reducible refine Within.drew ?_ | with_reducible refine Within.setCell ?_ (by first | (simp; done) | (simp; omega)) _ | with_reducible refine Within.trans ?_ (by assumption)))⟩
set_option maxRecDepth 100000 in
set_option maxHeartbeats 600000 in
theorem madeLow_D (neg : Bool) (mant k q D m : Nat) (e : Int) (hb : mant < 18446744073709551616) (t1 : ((mant : Int) == 0) = false) (h1 : e ≤ 2150) (h2 : -2150 ≤ e) (K : Hid (k < 64)) (KE : Hid (Lib.ctz 64 mant = k)) (Q : Hid (q = mant / 2 ^ k)) (HQ : Hid (q < 18446744073709551616)) (hD : min ((53 : Int) - Lib.bitLen q) (e + k + 1074) = D) (hL : (Lib.bitLen q : Int) ≤ 53) (he : -1074 ≤ e + k) (HD : Hid (D < 64)) (MQ : Hid (m = q * 2 ^ D)) (HM : Hid (m < 18446744073709551616)) (hm : (m : Int) < 4503599627370496) (w : World) (hT : Tab w) : Calls Tryz.prog 150 #[.agg #[.bool neg, .int .u64 mant, .int .i64 e], dbl] w fun e' w' => e' = .returned (.tuple #[.int .u64 (joinD neg 0 m), .int .i64 (joinED 0 m)]) ∧ Within w w' := by
  have d6 : True → decide ((m : Int) < 4503599627370496) = true := fun _ => decide_eq_true hm
  have HMM := Lib.hid (show m < 4503599627370496 by omega); clear hm
  have HB := Lib.hid hb; clear hb
  have TZ := Lib.hid (fun w => bits_tz64 mant HB.out w)
  have hq : (mant : Int) / 2 ^ k = (q : Int) := by rw [Q.out]; simp
  have hsh := shr_u64 mant k K.out
  rw [← Q.out] at hsh
  have hk : (k : Int) < 64 := by have := K.out; omega
  have ew : IntKind.i64.wrap (e + k) = e + k := by rw [IntKind.wrap_i64]; omega
  have LN := Lib.hid (fun w => bits_len64 q HQ.out w)
  have hshl := shl_u64 q D HD.out (by rw [← MQ.out]; exact HM.out)
  rw [← MQ.out] at hshl
  have hm2 : IntKind.u64.wrap ((q : Int) * 2 ^ D) = m := by rw [show (q : Int) * 2 ^ D = (m : Int) by rw [MQ.out]; simp, IntKind.wrap_u64]; have := HM.out; omega
  generalize Lib.bitLen q = L at *
  rw [KE.out] at TZ
  go_enter Tryz.func150, Tryz.ntmps150
  go_wp2_with fail
  refine (TZ.out _ (hT.of (by repeat (first | with_reducible exact Within.refl _ | with_reducible assumption | with_reducible refine Within.alloc ?_ _ | with_reducible refine Within.drew ?_ | with_reducible refine Within.setCell ?_ (by first | (simp; done) | (simp; omega)) _ | with_reducible refine Within.trans ?_ (by assumption))))).mono ?_; rintro e1 w1 ⟨rfl, rfl⟩
  go_wp2_with fail
  refine wp_region_within (by kernel_rfl) (by kernel_rfl) ?_
  repeat
    apply wpq_step rfl
    · intro wq hCq
      have hcq := hCq.cells
      go_simp
      first | rfl | (trace_state; fail)
    simp only [Act.put, List.setIfInBounds_toArray, List.set_cons_zero, List.set_cons_succ]
  refine wpQuiet_nil ?_
  intro w1 hb1
  have hc1 := hb1.cells; have hz1 : w.heap.size + 1 < w1.heap.size := (by have := hb1.sizes; simp at this; omega); have hy1 : w.heap.size < w1.heap.size := (by omega)
  go_wp2_with fail
  refine (LN.out _).mono ?_; rintro e2 w2 ⟨rfl, rfl⟩
  go_wp2_with fail
  refine (hidden_D _).mono ?_; rintro e2 w2 ⟨rfl, hb2⟩
  have hc2 := hb2.cells; have hz2 : w.heap.size + 1 < w2.heap.size := (by have := hb2.sizes; omega); have hy2 : w.heap.size < w2.heap.size := (by omega)
  go_wp2_with fail
  refine (join_D neg 0 m (by decide) (by decide) (by have := HMM.out; omega) _).mono ?_; rintro e3 w3 ⟨rfl, hb3⟩
  go_wp2
  go_ret2
  exact ⟨rfl, (by repeat (first | with_reducible exact Within.refl _ | with_reducible assumption | with_reducible refine Within.alloc ?_ _ | with_reducible refine Within.drew ?_ | with_reducible refine Within.setCell ?_ (by first | (simp; done) | (simp; omega)) _ | with_reducible refine Within.trans ?_ (by assumption)))⟩
set_option maxRecDepth 100000 in
set_option maxHeartbeats 600000 in
theorem madeOver_D (neg : Bool) (mant k q D m : Nat) (e : Int) (hb : mant < 18446744073709551616) (t1 : ((mant : Int) == 0) = false) (h1 : e ≤ 2150) (h2 : -2150 ≤ e) (K : Hid (k < 64)) (KE : Hid (Lib.ctz 64 mant = k)) (Q : Hid (q = mant / 2 ^ k)) (HQ : Hid (q < 18446744073709551616)) (hD : min ((53 : Int) - Lib.bitLen q) (e + k + 1074) = D) (hL : (Lib.bitLen q : Int) ≤ 53) (he : -1074 ≤ e + k) (HD : Hid (D < 64)) (MQ : Hid (m = q * 2 ^ D)) (HM : Hid (m < 18446744073709551616)) (hm : (4503599627370496 : Int) ≤ m) (h4 : 2047 ≤ e + k - D + 1075) (w : World) (hT : Tab w) : Calls Tryz.prog 150 #[.agg #[.bool neg, .int .u64 mant, .int .i64 e], dbl] w fun e' w' => e' = .returned (.tuple #[.int .u64 (0), .int .i64 (10)]) ∧ Within w w' := by
  have d6 : True → decide ((m : Int) < 4503599627370496) = false := fun _ => decide_eq_false (by omega)
  have HMM := Lib.hid (show 4503599627370496 ≤ m by omega); clear hm
  have HB := Lib.hid hb; clear hb
  have TZ := Lib.hid (fun w => bits_tz64 mant HB.out w)
  have hq : (mant : Int) / 2 ^ k = (q : Int) := by rw [Q.out]; simp
  have hsh := shr_u64 mant k K.out
  rw [← Q.out] at hsh
  have hk : (k : Int) < 64 := by have := K.out; omega
  have ew : IntKind.i64.wrap (e + k) = e + k := by rw [IntKind.wrap_i64]; omega
  have LN := Lib.hid (fun w => bits_len64 q HQ.out w)
  have hshl := shl_u64 q D HD.out (by rw [← MQ.out]; exact HM.out)
  rw [← MQ.out] at hshl
  have hm2 : IntKind.u64.wrap ((q : Int) * 2 ^ D) = m := by rw [show (q : Int) * 2 ^ D = (m : Int) by rw [MQ.out]; simp, IntKind.wrap_u64]; have := HM.out; omega
  generalize Lib.bitLen q = L at *
  rw [KE.out] at TZ
  go_enter Tryz.func150, Tryz.ntmps150
  go_wp2_with fail
  refine (TZ.out _ (hT.of (by repeat (first | with_reducible exact Within.refl _ | with_reducible assumption | with_reducible refine Within.alloc ?_ _ | with_reducible refine Within.drew ?_ | with_reducible refine Within.setCell ?_ (by first | (simp; done) | (simp; omega)) _ | with_reducible refine Within.trans ?_ (by assumption))))).mono ?_; rintro e1 w1 ⟨rfl, rfl⟩
  go_wp2_with fail
  refine wp_region_within (by kernel_rfl) (by kernel_rfl) ?_
  repeat
    apply wpq_step rfl
    · intro wq hCq
      have hcq := hCq.cells
      go_simp
      first | rfl | (trace_state; fail)
    simp only [Act.put, List.setIfInBounds_toArray, List.set_cons_zero, List.set_cons_succ]
  refine wpQuiet_nil ?_
  intro w1 hb1
  have hc1 := hb1.cells; have hz1 : w.heap.size + 1 < w1.heap.size := (by have := hb1.sizes; simp at this; omega); have hy1 : w.heap.size < w1.heap.size := (by omega)
  go_wp2_with fail
  refine (LN.out _).mono ?_; rintro e2 w2 ⟨rfl, rfl⟩
  go_wp2_with fail
  refine (hidden_D _).mono ?_; rintro e2 w2 ⟨rfl, hb2⟩
  have hc2 := hb2.cells; have hz2 : w.heap.size + 1 < w2.heap.size := (by have := hb2.sizes; omega); have hy2 : w.heap.size < w2.heap.size := (by omega)
  go_wp2
  go_ret2
  exact ⟨rfl, (by repeat (first | with_reducible exact Within.refl _ | with_reducible assumption | with_reducible refine Within.alloc ?_ _ | with_reducible refine Within.drew ?_ | with_reducible refine Within.setCell ?_ (by first | (simp; done) | (simp; omega)) _ | with_reducible refine Within.trans ?_ (by assumption)))⟩
set_option maxRecDepth 100000 in
set_option maxHeartbeats 600000 in
theorem madeNorm_D (neg : Bool) (mant k q D m : Nat) (e : Int) (hb : mant < 18446744073709551616) (t1 : ((mant : Int) == 0) = false) (h1 : e ≤ 2150) (h2 : -2150 ≤ e) (K : Hid (k < 64)) (KE : Hid (Lib.ctz 64 mant = k)) (Q : Hid (q = mant / 2 ^ k)) (HQ : Hid (q < 18446744073709551616)) (hD : min ((53 : Int) - Lib.bitLen q) (e + k + 1074) = D) (hL : (Lib.bitLen q : Int) ≤ 53) (he : -1074 ≤ e + k) (HD : Hid (D < 64)) (MQ : Hid (m = q * 2 ^ D)) (HM : Hid (m < 18446744073709551616)) (hm : (4503599627370496 : Int) ≤ m) (hm2 : m < 2 * 4503599627370496) (h4 : e + k - D + 1075 < 2047) (w : World) (hT : Tab w) : Calls Tryz.prog 150 #[.agg #[.bool neg, .int .u64 mant, .int .i64 e], dbl] w fun e' w' => e' = .returned (.tuple #[.int .u64 (joinD neg (e + k - D + 1075) (m - 4503599627370496)), .int .i64 (joinED (e + k - D + 1075) (m - 4503599627370496))]) ∧ Within w w' := by
  have d6 : True → decide ((m : Int) < 4503599627370496) = false := fun _ => decide_eq_false (by omega)
  have HMM := Lib.hid (show 4503599627370496 ≤ m by omega)
  have HM2 := Lib.hid hm2
  have ewm : IntKind.u64.wrap ((m : Int) - 4503599627370496) = ((m - 4503599627370496 : Nat) : Int) := by rw [IntKind.wrap_u64]; omega
  clear hm hm2
  have HB := Lib.hid hb; clear hb
  have TZ := Lib.hid (fun w => bits_tz64 mant HB.out w)
  have hq : (mant : Int) / 2 ^ k = (q : Int) := by rw [Q.out]; simp
  have hsh := shr_u64 mant k K.out
  rw [← Q.out] at hsh
  have hk : (k : Int) < 64 := by have := K.out; omega
  have ew : IntKind.i64.wrap (e + k) = e + k := by rw [IntKind.wrap_i64]; omega
  have LN := Lib.hid (fun w => bits_len64 q HQ.out w)
  have hshl := shl_u64 q D HD.out (by rw [← MQ.out]; exact HM.out)
  rw [← MQ.out] at hshl
  have hm3 : IntKind.u64.wrap ((q : Int) * 2 ^ D) = m := by rw [show (q : Int) * 2 ^ D = (m : Int) by rw [MQ.out]; simp, IntKind.wrap_u64]; have := HM.out; omega
  generalize Lib.bitLen q = L at *
  rw [KE.out] at TZ
  go_enter Tryz.func150, Tryz.ntmps150
  go_wp2_with fail
  refine (TZ.out _ (hT.of (by repeat (first | with_reducible exact Within.refl _ | with_reducible assumption | with_reducible refine Within.alloc ?_ _ | with_reducible refine Within.drew ?_ | with_reducible refine Within.setCell ?_ (by first | (simp; done) | (simp; omega)) _ | with_reducible refine Within.trans ?_ (by assumption))))).mono ?_; rintro e1 w1 ⟨rfl, rfl⟩
  go_wp2_with fail
  refine wp_region_within (by kernel_rfl) (by kernel_rfl) ?_
  repeat
    apply wpq_step rfl
    · intro wq hCq
      have hcq := hCq.cells
      go_simp
      first | rfl | (trace_state; fail)
    simp only [Act.put, List.setIfInBounds_toArray, List.set_cons_zero, List.set_cons_succ]
  refine wpQuiet_nil ?_
  intro w1 hb1
  have hc1 := hb1.cells; have hz1 : w.heap.size + 1 < w1.heap.size := (by have := hb1.sizes; simp at this; omega); have hy1 : w.heap.size < w1.heap.size := (by omega)
  go_wp2_with fail
  refine (LN.out _).mono ?_; rintro e2 w2 ⟨rfl, rfl⟩
  go_wp2_with fail
  refine (hidden_D _).mono ?_; rintro e2 w2 ⟨rfl, hb2⟩
  have hc2 := hb2.cells; have hz2 : w.heap.size + 1 < w2.heap.size := (by have := hb2.sizes; omega); have hy2 : w.heap.size < w2.heap.size := (by omega)
  go_wp2_with fail
  refine wp_region_within (by kernel_rfl) (by kernel_rfl) ?_
  repeat
    apply wpq_step rfl
    · intro wq hCq
      have hcq := hCq.cells
      go_simp
      first | rfl | exact hCq.call (hidden_D _) | exact hCq.call (join_D neg _ _ (by omega) (by omega) (by have := HM2.out; omega) _) | (trace_state; fail)
    simp only [Act.put, List.setIfInBounds_toArray, List.set_cons_zero, List.set_cons_succ]
  refine wpQuiet_nil ?_
  intro w3 hb3
  go_wp2
  go_ret2
  exact ⟨rfl, (by repeat (first | with_reducible exact Within.refl _ | with_reducible assumption | with_reducible refine Within.alloc ?_ _ | with_reducible refine Within.drew ?_ | with_reducible refine Within.setCell ?_ (by first | (simp; done) | (simp; omega)) _ | with_reducible refine Within.trans ?_ (by assumption)))⟩
theorem lt_bitLen (x : Nat) (hx : x < 18446744073709551616) : x < 2 ^ Lib.bitLen x := by
  by_cases h : x = 0
  · subst h; decide
  · rw [bitLen_log2 x h hx]; exact Nat.lt_log2_self
theorem oddM_lt (x : Nat) (hx : x < 18446744073709551616) : oddM x < 18446744073709551616 := by
  unfold oddM
  exact Nat.lt_of_le_of_lt (Nat.div_le_self _ _) hx
theorem topD_lt (mant : Nat) (e : Int) (hm : mant < 18446744073709551616) (h : badD mant e = false) : topD mant e < 2 * 4503599627370496 := by
  have hb := lt_bitLen (oddM mant) (oddM_lt mant hm)
  have hl : Lib.bitLen (oddM mant) ≤ 53 := by unfold badD at h; simp at h; omega
  have hd : downD mant e ≤ 53 - Lib.bitLen (oddM mant) := by unfold downD; omega
  unfold topD
  have h1 : oddM mant * 2 ^ downD mant e ≤ oddM mant * 2 ^ (53 - Lib.bitLen (oddM mant)) := Nat.mul_le_mul_left _ (Nat.pow_le_pow_right (by decide) hd)
  have h2 : oddM mant * 2 ^ (53 - Lib.bitLen (oddM mant)) < 2 ^ Lib.bitLen (oddM mant) * 2 ^ (53 - Lib.bitLen (oddM mant)) := (Nat.mul_lt_mul_right (Nat.two_pow_pos _)).2 hb
  have h3 : 2 ^ Lib.bitLen (oddM mant) * 2 ^ (53 - Lib.bitLen (oddM mant)) = 2 ^ 53 := by rw [← Nat.pow_add]; congr 1; omega
  have h4 : (2 : Nat) ^ 53 = 2 * 4503599627370496 := rfl
  omega
theorem made_D (neg : Bool) (mant : Nat) (e : Int) (hb : mant < 18446744073709551616) (w : World) (hT : Tab w) :
    Calls Tryz.prog 150 #[.agg #[.bool neg, .int .u64 mant, .int .i64 e], dbl] w fun e' w' => e' = .returned (.tuple #[.int .u64 (madeD neg mant e), .int .i64 (madeED mant e)]) ∧ Within w w' := by
  by_cases h0 : mant = 0
  · subst h0
    have := madeZero_D neg e w
    simpa [madeD, madeED] using this
  have t1 : ((mant : Int) == 0) = false := beq_eq_false_iff_ne.2 (by omega)
  by_cases h1 : 2150 < e ∨ e < -2150
  · have hbad : badD mant e = true := by unfold badD; simp; omega
    have hv : (madeD neg mant e : Int) = 0 ∧ madeED mant e = 10 := by unfold madeD madeED; rw [if_neg h0, if_neg h0, if_pos hbad, if_pos hbad]; exact ⟨rfl, rfl⟩
    rw [hv.1, hv.2]
    exact madeFar_D neg mant e t1 h1 w
  obtain ⟨_, hz, hk⟩ := ctz_split mant h0 hb
  clear hz
  have hq := oddM_lt mant hb
  by_cases h3 : (53 : Nat) < Lib.bitLen (oddM mant) ∨ e + Lib.ctz 64 mant < -1074
  · have hbad : badD mant e = true := by unfold badD oddE; simp; omega
    have hv : (madeD neg mant e : Int) = 0 ∧ madeED mant e = 10 := by unfold madeD madeED; rw [if_neg h0, if_neg h0, if_pos hbad, if_pos hbad]; exact ⟨rfl, rfl⟩
    rw [hv.1, hv.2]
    exact madeBad_D neg mant (Lib.ctz 64 mant) (oddM mant) e hb t1 (by omega) (by omega) (Lib.hid hk) (Lib.hid rfl) (Lib.hid rfl) (Lib.hid hq) h3 w hT
  have hbad : badD mant e = false := by unfold badD oddE; simp; omega
  have htop := topD_lt mant e hb hbad
  have hnb : ¬ (badD mant e = true) := by simp [hbad]
  have hl : Lib.bitLen (oddM mant) ≤ 53 := by omega
  have hD : min ((53 : Int) - Lib.bitLen (oddM mant)) (e + Lib.ctz 64 mant + 1074) = downD mant e := by unfold downD oddE; omega
  have hD2 : downD mant e < 64 := by unfold downD; omega
  by_cases h4 : topD mant e < 4503599627370496
  · have hf : fieldD mant e = 0 := by unfold fieldD; rw [if_pos h4]
    have hv : madeD neg mant e = joinD neg 0 (topD mant e) ∧ madeED mant e = joinED 0 (topD mant e) := by
      unfold madeD madeED; rw [if_neg h0, if_neg h0, if_neg hnb, if_neg hnb, hf, if_neg (by decide), if_neg (by decide), Nat.mod_eq_of_lt h4]; exact ⟨rfl, rfl⟩
    rw [hv.1, hv.2]
    exact madeLow_D neg mant (Lib.ctz 64 mant) (oddM mant) (downD mant e) (topD mant e) e hb t1 (by omega) (by omega) (Lib.hid hk) (Lib.hid rfl) (Lib.hid rfl) (Lib.hid hq) hD (by omega) (by omega) (Lib.hid hD2) (Lib.hid rfl) (Lib.hid (by omega)) (by omega) w hT
  have hf : fieldD mant e = e + Lib.ctz 64 mant - downD mant e + 1075 := by unfold fieldD oddE; rw [if_neg h4]
  by_cases h5 : 2047 ≤ fieldD mant e
  · have hv : (madeD neg mant e : Int) = 0 ∧ madeED mant e = 10 := by
      unfold madeD madeED; rw [if_neg h0, if_neg h0, if_neg hnb, if_neg hnb, if_pos h5, if_pos h5]; exact ⟨rfl, rfl⟩
    rw [hv.1, hv.2]
    exact madeOver_D neg mant (Lib.ctz 64 mant) (oddM mant) (downD mant e) (topD mant e) e hb t1 (by omega) (by omega) (Lib.hid hk) (Lib.hid rfl) (Lib.hid rfl) (Lib.hid hq) hD (by omega) (by omega) (Lib.hid hD2) (Lib.hid rfl) (Lib.hid (by omega)) (by omega) (by omega) w hT
  · have hmod : topD mant e % 4503599627370496 = topD mant e - 4503599627370496 := by omega
    have hv : madeD neg mant e = joinD neg (e + Lib.ctz 64 mant - downD mant e + 1075) (topD mant e - 4503599627370496) ∧ madeED mant e = joinED (e + Lib.ctz 64 mant - downD mant e + 1075) (topD mant e - 4503599627370496) := by
      unfold madeD madeED; rw [if_neg h0, if_neg h0, if_neg hnb, if_neg hnb, if_neg h5, if_neg h5, hmod, hf]; exact ⟨rfl, rfl⟩
    rw [hv.1, hv.2]
    exact madeNorm_D neg mant (Lib.ctz 64 mant) (oddM mant) (downD mant e) (topD mant e) e hb t1 (by omega) (by omega) (Lib.hid hk) (Lib.hid rfl) (Lib.hid rfl) (Lib.hid hq) hD (by omega) (by omega) (Lib.hid hD2) (Lib.hid rfl) (Lib.hid (by omega)) (by omega) htop (by omega) w hT
set_option maxRecDepth 100000 in
set_option maxHeartbeats 600000 in
theorem Class_D (a : Nat) (ha : a < 18446744073709551616) (w : World) : Calls Tryz.prog 116 #[.float .f64 a] w fun e w' => e = .returned (.int .i64 (classD a)) ∧ Within w w' := by
  have HA := Lib.hid ha; clear ha
  go_enter Tryz.func116, Tryz.ntmps116
  go_wp2_with fail
  refine (of_D _).mono ?_; rintro e1 w1 ⟨rfl, hb1⟩
  go_wp2_with fail
  refine (class_D a HA.out _).mono ?_; rintro e2 w2 ⟨rfl, hb2⟩
  go_wp2
  go_ret
  exact ⟨rfl, (by repeat (first | with_reducible exact Within.refl _ | with_reducible assumption | with_reducible refine Within.alloc ?_ _ | with_reducible refine Within.drew ?_ | with_reducible refine Within.setCell ?_ (by first | (simp; done) | (simp; omega)) _ | with_reducible refine Within.trans ?_ (by assumption)))⟩
set_option maxRecDepth 100000 in
set_option maxHeartbeats 600000 in
theorem number_D (b : Nat) (e : Int) (w : World) : Calls Tryz.prog 149 #[.int .u64 b, .int .i64 e] w fun e' w' => e' = .returned (.tuple #[.float .f64 b, .int .i64 e]) ∧ Within w w' := by
  go_enter Tryz.func149, Tryz.ntmps149
  go_wp2
  go_ret2
  exact ⟨rfl, (by repeat (first | with_reducible exact Within.refl _ | with_reducible assumption | with_reducible refine Within.alloc ?_ _ | with_reducible refine Within.drew ?_ | with_reducible refine Within.setCell ?_ (by first | (simp; done) | (simp; omega)) _ | with_reducible refine Within.trans ?_ (by assumption)))⟩
set_option maxRecDepth 100000 in
set_option maxHeartbeats 600000 in
theorem Parts_D (a : Nat) (ha : a < 18446744073709551616) (w : World) (hT : Tab w) : Calls Tryz.prog 117 #[.float .f64 a] w fun e w' => e = .returned (.tuple #[.agg #[.bool (pNegD a), .int .u64 (pMantD a), .int .i64 (pExpD a)], .int .i64 (pErrD a)]) ∧ Within w w' := by
  have HA := Lib.hid ha; clear ha
  go_enter Tryz.func117, Tryz.ntmps117
  go_wp2_with fail
  refine (of_D _).mono ?_; rintro e1 w1 ⟨rfl, hb1⟩
  go_wp2_with fail
  refine (parts_D a HA.out _ (hT.of (by repeat (first | with_reducible exact Within.refl _ | with_reducible assumption | with_reducible refine Within.alloc ?_ _ | with_reducible refine Within.drew ?_ | with_reducible refine Within.setCell ?_ (by first | (simp; done) | (simp; omega)) _ | with_reducible refine Within.trans ?_ (by assumption))))).mono ?_; rintro e2 w2 ⟨rfl, hb2⟩
  have hf1 := hb1.frozens; have hc1 := hb1.cells; have hf2 := hb2.frozens; have hc2 := hb2.cells
  have hz1 : w.heap.size < w1.heap.size := (by have := hb1.sizes; simp at this; omega)
  have hz2 : w.heap.size < w2.heap.size := (by have := hb2.sizes; omega)
  go_wp2
  refine bodyPost_ret (v := .tuple #[.agg #[.bool (pNegD a), .int .u64 (pMantD a), .int .i64 (pExpD a)], .int .i64 (pErrD a)]) (by simp [results, Tryz.results117, go_sem, hc1, hc2, hz1]) rfl ⟨rfl, ?_⟩
  exact (by repeat (first | with_reducible exact Within.refl _ | with_reducible assumption | with_reducible refine Within.alloc ?_ _ | with_reducible refine Within.drew ?_ | with_reducible refine Within.setCell ?_ (by first | (simp; done) | (simp; omega)) _ | with_reducible refine Within.trans ?_ (by assumption)))
set_option maxRecDepth 100000 in
set_option maxHeartbeats 600000 in
theorem Of_D (neg : Bool) (mant : Nat) (e : Int) (hm : mant < 18446744073709551616) (w : World) (hT : Tab w) : Calls Tryz.prog 118 #[.agg #[.bool neg, .int .u64 mant, .int .i64 e]] w fun e' w' => e' = .returned (.tuple #[.float .f64 (madeD neg mant e), .int .i64 (madeED mant e)]) ∧ Within w w' := by
  have HA := Lib.hid hm; clear hm
  go_enter Tryz.func118, Tryz.ntmps118
  go_wp2
  refine wp_region_within (by kernel_rfl) (by kernel_rfl) ?_
  repeat
    apply wpq_step rfl
    · intro wq hCq
      have hcq := hCq.cells
      go_simp
      first | rfl | exact hCq.call (of_D _) | exact hCq.call (made_D neg mant e HA.out _ (hT.of (((Within.refl _).alloc _).trans hCq))) | exact hCq.call (number_D _ _ _) | (trace_state; fail)
    simp only [Act.put, List.setIfInBounds_toArray, List.set_cons_zero, List.set_cons_succ]
  refine wpQuiet_nil ?_
  intro w1 hC1
  go_wp2
  go_ret2
  exact ⟨rfl, (by repeat (first | with_reducible exact Within.refl _ | with_reducible assumption | with_reducible refine Within.alloc ?_ _ | with_reducible refine Within.drew ?_ | with_reducible refine Within.setCell ?_ (by first | (simp; done) | (simp; omega)) _ | with_reducible refine Within.trans ?_ (by assumption)))⟩
end Go.Proofs.YtjmaggfddinbkaaGreatDoor
end

section
namespace Go.Proofs.YtjmaggfddinbkaaGreatDoor
open Go.RowKit
theorem ne_self64 (a : Nat) : (FloatKind.f64.format.order a a != some .eq) = nanD a := by
  have := Fp.order64_self a
  show (!(Ieee.double.order a a == some .eq)) = _
  rw [this, Bool.not_not]; rfl
theorem canonD_nan {a : Nat} (h : nanD a = true) : canonD a = 9221120237041090561 := if_pos h
theorem canonD_id {a : Nat} (h : nanD a = false) : canonD a = a := by unfold canonD; rw [if_neg (by simp [h])]
theorem odd_split {x : Nat} (h : x ≠ 0) (hx : x < 18446744073709551616) : ∃ m, oddM x = 2 * m + 1 ∧ x = 2 ^ Lib.ctz 64 x * (2 * m + 1) ∧ Lib.ctz 64 x < 64 := by
  obtain ⟨m, h1, h2⟩ := ctz_split x h hx
  refine ⟨m, ?_, h1, h2⟩
  unfold oddM
  have hp := Nat.two_pow_pos (Lib.ctz 64 x)
  generalize Lib.ctz 64 x = k at *
  rw [h1, Nat.mul_div_cancel_left _ hp]
set_option maxRecDepth 100000 in
set_option maxHeartbeats 600000 in
theorem Rbits_D (a : Nat) (w : World) : Calls Tryz.prog 94 #[.float .f64 a] w fun e w' => e = .returned (.int .u64 (canonD a)) ∧ w = w' := by
  cases hn : nanD a
  · rw [canonD_id hn]
    have hx : (FloatKind.f64.format.order a a != some .eq) = false := by rw [ne_self64]; exact hn
    clear hn
    go_enter Tryz.func94, Tryz.ntmps94
    go_wp2
    go_ret
    exact ⟨rfl, rfl⟩
  · rw [canonD_nan hn]
    have hx : (FloatKind.f64.format.order a a != some .eq) = true := by rw [ne_self64]; exact hn
    clear hn
    go_enter Tryz.func94, Tryz.ntmps94
    go_wp2
    go_ret
    exact ⟨rfl, rfl⟩
set_option maxRecDepth 100000 in
set_option maxHeartbeats 600000 in
theorem Rsplit_D (a : Nat) (ha : a < 18446744073709551616) (w : World) : Calls Tryz.prog 127 #[.float .f64 a] w fun e w' => e = .returned (.tuple #[.bool (negD a), .int .i64 (expD a), .int .u64 (fracD a)]) ∧ w = w' := by
  have HL := Lib.hid (canonD_lt ha)
  unfold negD expD fracD
  clear ha
  have HB := Lib.hid (fun w => Rbits_D a w)
  generalize canonD a = c at *
  go_enter Tryz.func127, Tryz.ntmps127
  go_wp2_with fail
  refine (HB.out _).mono ?_; rintro e1 w1 ⟨rfl, rfl⟩
  go_wp2
  go_ret3
  refine ⟨ret3 (v_bool ?_) (v_int ?_) (v_int ?_), rfl⟩
  · show ((c : Int) / 9223372036854775808 == 1) = _
    rw [Bool.eq_iff_iff, beq_iff_eq, decide_eq_true_iff]; have := HL.out; omega
  · show ((c : Int) / 4503599627370496 % 2048) = _
    omega
  · show ((c : Int) % 4503599627370496) = _
    omega
set_option maxRecDepth 100000 in
set_option maxHeartbeats 600000 in
theorem Rnan_D (w : World) : Calls Tryz.prog 112 #[] w fun e w' => e = .returned (.float .f64 9221120237041090561) ∧ w = w' := by
  go_enter Tryz.func112, Tryz.ntmps112
  go_wp2
  go_ret
  exact ⟨rfl, rfl⟩
theorem nat_eq (a b : Nat) : ((a : Int) == (b : Int)) = decide (a = b) := by rw [Bool.eq_iff_iff, beq_iff_eq, decide_eq_true_iff]; omega
set_option maxRecDepth 100000 in
set_option maxHeartbeats 600000 in
theorem Rclassify (e f m : Nat) (w : World) : Calls Tryz.prog 146 #[.int .i64 e, .int .u64 f, .int .i64 m] w fun e' w' => e' = .returned (.int .i64 (classOf e f m)) ∧ w = w' := by
  have b1 : ((e : Int) == (m : Int)) = decide (e = m) := nat_eq e m
  have b2 : ((f : Int) != 0) = decide (f ≠ 0) := by rw [Bool.eq_iff_iff, bne_iff_ne, decide_eq_true_iff]; omega
  have b3 : ((e : Int) == 0) = decide (e = 0) := nat_eq e 0
  have b4 : ((f : Int) == 0) = decide (f = 0) := nat_eq f 0
  generalize hr : classOf e f m = r
  unfold classOf at hr
  by_cases h1 : e = m <;> by_cases h2 : f = 0 <;> by_cases h3 : e = 0
  · rw [decide_eq_true h1] at b1; rw [decide_eq_false (by omega : ¬ f ≠ 0)] at b2; rw [decide_eq_true h3] at b3; rw [decide_eq_true h2] at b4
    have hv : r = 2 := by rw [← hr, if_neg (by omega), if_pos h1]
    subst hv; clear hr h1 h2 h3
    go_enter Tryz.func146, Tryz.ntmps146
    go_wp2
    go_ret
    exact ⟨rfl, rfl⟩
  · rw [decide_eq_true h1] at b1; rw [decide_eq_false (by omega : ¬ f ≠ 0)] at b2; rw [decide_eq_false h3] at b3; rw [decide_eq_true h2] at b4
    have hv : r = 2 := by rw [← hr, if_neg (by omega), if_pos h1]
    subst hv; clear hr h1 h2 h3
    go_enter Tryz.func146, Tryz.ntmps146
    go_wp2
    go_ret
    exact ⟨rfl, rfl⟩
  · rw [decide_eq_true h1] at b1; rw [decide_eq_true (by omega : f ≠ 0)] at b2; rw [decide_eq_true h3] at b3; rw [decide_eq_false h2] at b4
    have hv : r = 1 := by rw [← hr, if_pos ⟨h1, h2⟩]
    subst hv; clear hr h1 h2 h3
    go_enter Tryz.func146, Tryz.ntmps146
    go_wp2
    go_ret
    exact ⟨rfl, rfl⟩
  · rw [decide_eq_true h1] at b1; rw [decide_eq_true (by omega : f ≠ 0)] at b2; rw [decide_eq_false h3] at b3; rw [decide_eq_false h2] at b4
    have hv : r = 1 := by rw [← hr, if_pos ⟨h1, h2⟩]
    subst hv; clear hr h1 h2 h3
    go_enter Tryz.func146, Tryz.ntmps146
    go_wp2
    go_ret
    exact ⟨rfl, rfl⟩
  · rw [decide_eq_false h1] at b1; rw [decide_eq_false (by omega : ¬ f ≠ 0)] at b2; rw [decide_eq_true h3] at b3; rw [decide_eq_true h2] at b4
    have hv : r = 3 := by rw [← hr, if_neg (by omega), if_neg h1, if_pos ⟨h3, h2⟩]
    subst hv; clear hr h1 h2 h3
    go_enter Tryz.func146, Tryz.ntmps146
    go_wp2
    go_ret
    exact ⟨rfl, rfl⟩
  · rw [decide_eq_false h1] at b1; rw [decide_eq_false (by omega : ¬ f ≠ 0)] at b2; rw [decide_eq_false h3] at b3; rw [decide_eq_true h2] at b4
    have hv : r = 5 := by rw [← hr, if_neg (by omega), if_neg h1, if_neg (by omega), if_neg h3]
    subst hv; clear hr h1 h2 h3
    go_enter Tryz.func146, Tryz.ntmps146
    go_wp2
    go_ret
    exact ⟨rfl, rfl⟩
  · rw [decide_eq_false h1] at b1; rw [decide_eq_true (by omega : f ≠ 0)] at b2; rw [decide_eq_true h3] at b3; rw [decide_eq_false h2] at b4
    have hv : r = 4 := by rw [← hr, if_neg (by omega), if_neg h1, if_neg (by omega), if_pos h3]
    subst hv; clear hr h1 h2 h3
    go_enter Tryz.func146, Tryz.ntmps146
    go_wp2
    go_ret
    exact ⟨rfl, rfl⟩
  · rw [decide_eq_false h1] at b1; rw [decide_eq_true (by omega : f ≠ 0)] at b2; rw [decide_eq_false h3] at b3; rw [decide_eq_false h2] at b4
    have hv : r = 5 := by rw [← hr, if_neg (by omega), if_neg h1, if_neg (by omega), if_neg h3]
    subst hv; clear hr h1 h2 h3
    go_enter Tryz.func146, Tryz.ntmps146
    go_wp2
    go_ret
    exact ⟨rfl, rfl⟩
set_option maxRecDepth 100000 in
set_option maxHeartbeats 600000 in
theorem Rclass_D (a : Nat) (ha : a < 18446744073709551616) (w : World) : Calls Tryz.prog 115 #[.float .f64 a] w fun e w' => e = .returned (.int .i64 (classD a)) ∧ w = w' := by
  have SP := Lib.hid (fun w => Rsplit_D a ha w)
  have HF : Hid (fracD a < 4503599627370496) := Nat.mod_lt _ (by decide)
  unfold classD
  clear ha
  generalize fracD a = f at *
  generalize expD a = e at *
  generalize negD a = n at *
  have g1 : IntKind.u64.wrap (f : Int) = f := by rw [IntKind.wrap_u64]; have := HF.out; omega
  go_enter Tryz.func115, Tryz.ntmps115
  go_wp2_with fail
  refine (SP.out _).mono ?_; rintro e1 w1 ⟨rfl, rfl⟩
  go_wp2_with fail
  refine (Rclassify e f 2047 _).mono ?_; rintro e2 w2 ⟨rfl, rfl⟩
  go_wp2
  go_ret
  exact ⟨rfl, rfl⟩
set_option maxRecDepth 100000 in
set_option maxHeartbeats 600000 in
theorem Rfinite (a : Nat) (ha : a < 18446744073709551616) (w : World) : Calls Tryz.prog 69 #[.float .f64 a] w fun e w' => e = .returned (.bool (decide (2 < classD a))) ∧ w = w' := by
  have CL := Lib.hid (fun w => Rclass_D a ha w)
  clear ha
  generalize classD a = c at *
  go_enter Tryz.func69, Tryz.ntmps69
  go_wp2_with fail
  refine (CL.out _).mono ?_; rintro e1 w1 ⟨rfl, rfl⟩
  go_wp2
  go_ret
  exact ⟨ret_bool rfl, rfl⟩
@[go_sem] theorem run_neg64 (P : Program) (a : Nat) (w : World) : Sem.run P (Op.unary UnOp.neg (Value.float .f64 a)) w = .ok (.float .f64 (Go.Op.negFloat .f64 a)) w := rfl
@[go_sem] theorem run_neg32 (P : Program) (a : Nat) (w : World) : Sem.run P (Op.unary UnOp.neg (Value.float .f32 a)) w = .ok (.float .f32 (Go.Op.negFloat .f32 a)) w := rfl
theorem mant_down {mant cz m M : Nat} (hcz : cz < 64) (hs : mant = 2 ^ cz * (2 * m + 1)) (hM : M = 2 * m + 1) : ∀ i, i ≤ cz →
    0 < mant / 2 ^ i ∧ (i = cz → mant / 2 ^ i = M ∧ mant / 2 ^ i % 2 = 1) ∧ (i < cz → mant / 2 ^ i % 2 = 0 ∧ mant / 2 ^ i / 2 = mant / 2 ^ (i + 1)) := by
  intro i hi
  obtain ⟨d, rfl⟩ : ∃ d, cz = i + d := ⟨cz - i, by omega⟩
  have e1 : mant / 2 ^ i = 2 ^ d * (2 * m + 1) := by
    rw [hs, Nat.pow_add, Nat.mul_assoc, Nat.mul_div_cancel_left _ (Nat.two_pow_pos i)]
  have e2 : mant / 2 ^ i / 2 = mant / 2 ^ (i + 1) := by rw [Nat.div_div_eq_div_mul, Nat.pow_succ]
  rw [e1] at *
  refine ⟨Nat.mul_pos (Nat.two_pow_pos _) (by omega), fun h => ?_, fun h => ⟨?_, e2⟩⟩
  · have : d = 0 := by omega
    subst this
    rw [Nat.pow_zero, Nat.one_mul]; omega
  · obtain ⟨d', rfl⟩ : ∃ d', d = d' + 1 := ⟨d - 1, by omega⟩
    rw [Nat.pow_succ, Nat.mul_right_comm]; omega
theorem nan_parts {a : Nat} (h : pErrD a ≠ 0) : pNegD a = false ∧ pMantD a = 0 ∧ pExpD a = 0 ∧ pErrD a = 4 := by
  unfold pErrD at h
  by_cases h7 : expD a = 2047
  · unfold pNegD pMantD pExpD pErrD; rw [if_pos h7, if_pos h7, if_pos (.inl h7), if_pos h7]; exact ⟨rfl, rfl, rfl, rfl⟩
  · rw [if_neg h7] at h; exact absurd rfl h
theorem fin_neg {a : Nat} (h : pErrD a = 0) : pNegD a = negD a := by
  unfold pErrD at h
  by_cases h7 : expD a = 2047
  · rw [if_pos h7] at h; omega
  · unfold pNegD; rw [if_neg h7]
set_option maxRecDepth 100000 in
set_option maxHeartbeats 600000 in
theorem Rodd_zero (e : Int) (w : World) : Calls Tryz.prog 128 #[.int .u64 0, .int .i64 e] w fun e' w' => e' = .returned (.tuple #[.int .u64 0, .int .i64 0]) ∧ w = w' := by
  go_enter Tryz.func128, Tryz.ntmps128
  go_wp2
  go_ret2
  exact ⟨rfl, rfl⟩
set_option maxRecDepth 100000 in
set_option maxHeartbeats 600000 in
theorem Rodd_any (mant : Nat) (e : Int) (h0 : mant ≠ 0) (hm : mant < 18446744073709551616) (hlo : -1099511627776 ≤ e) (hhi : e ≤ 1099511627776) (w : World) : Calls Tryz.prog 128 #[.int .u64 mant, .int .i64 e] w fun e' w' => e' = .returned (.tuple #[.int .u64 (oddM mant), .int .i64 (oddE mant e)]) ∧ w = w' := by
  have m0 : ((mant : Int) == 0) = false := by rw [beq_eq_false_iff_ne]; omega
  obtain ⟨m, ho, hs, hcz⟩ := odd_split h0 hm
  have hE : oddE mant e = e + (Lib.ctz 64 mant : Nat) := rfl
  generalize Lib.ctz 64 mant = cz at *
  generalize oddM mant = M at *
  generalize oddE mant e = E at *
  have HV := Lib.hid (mant_down hcz hs ho)
  have HB := Lib.hid (And.intro (And.intro hlo hhi) (And.intro hcz hE))
  have HML := Lib.hid hm
  clear hcz hs ho hE hlo hhi hm h0
  go_enter Tryz.func128, Tryz.ntmps128
  go_wp2
  go_loopw [0, 1] (fun t u wr => ∃ i : Nat, i ≤ cz ∧ t = .int .u64 (mant / 2 ^ i : Nat) ∧ u = .int .i64 (e + i) ∧ w = wr) (fun _ u _ => cz - (intOf u - e).toNat)
  case atStart => exact ⟨0, Nat.zero_le _, by rw [Nat.pow_zero, Nat.div_one], by rw [show e + ((0 : Nat) : Int) = e by omega], rfl⟩
  case round =>
    obtain ⟨i, hi, rfl, rfl, rfl⟩ := hrel
    have V := HV.out i hi
    have HI := Lib.hid hi
    by_cases hic : i = cz
    · have hp : (((mant / 2 ^ i : Nat) : Int) % 2 == 0) = false := by rw [beq_eq_false_iff_ne]; have := V.2.1 hic; omega
      have hM : mant / 2 ^ i = M := (V.2.1 hic).1
      have hE : e + (i : Int) = E := by have := HB.out.2.2; omega
      rw [hM] at hp ⊢; rw [hE]
      clear V hi hic hM hE
      go_wp2
      go_ret2
      exact ⟨rfl, rfl⟩
    · have hp : (((mant / 2 ^ i : Nat) : Int) % 2 == 0) = true := by rw [beq_iff_eq]; have := V.2.2 (by omega); omega
      have hn := (V.2.2 (by omega)).2
      have hvl : mant / 2 ^ i < 18446744073709551616 := Nat.lt_of_le_of_lt (Nat.div_le_self _ _) HML.out
      have g : IntKind.i64.wrap (e + (i : Int) + 1) = e + ((i + 1 : Nat) : Int) := by have := HB.out.1; have := HB.out.2.1; rw [IntKind.wrap_i64]; omega
      have HN := Lib.hid hic
      have hd : ((mant / 2 ^ i : Nat) : Int) / 2 = ((mant / 2 ^ (i + 1) : Nat) : Int) := by rw [← hn]; omega
      obtain ⟨v, hv⟩ : ∃ v, mant / 2 ^ i = v := ⟨_, rfl⟩
      rw [hv] at hp hd hvl ⊢
      obtain ⟨v', hv'⟩ : ∃ v', mant / 2 ^ (i + 1) = v' := ⟨_, rfl⟩
      rw [hv'] at hd
      have gw : IntKind.u64.wrap (v' : Int) = v' := by rw [IntKind.wrap_u64]; omega
      have HVL := Lib.hid hv'
      clear V hi hic hn hv hv' hvl
      go_wp2
      go_roundw
      case rel => exact ⟨i + 1, by have := HI.out; have := HN.out; omega, by rw [HVL.out], v_int (by omega), by first | trivial | rfl⟩
      case measure => have := HI.out; have := HN.out; simp [intOf]; omega
set_option maxRecDepth 100000 in
set_option maxHeartbeats 600000 in
theorem Rparts_nan (a fr : Nat) (ng : Bool) (w : World) (SP : Hid (∀ w, Calls Tryz.prog 127 #[.float .f64 a] w fun e w' => e = .returned (.tuple #[.bool ng, .int .i64 2047, .int .u64 fr]) ∧ w = w')) : Calls Tryz.prog 96 #[.float .f64 a] w fun e w' => e = .returned (.tuple #[.agg #[.bool false, .int .u64 0, .int .i64 0], .int .i64 4]) ∧ Within w w' := by
  go_enter Tryz.func96, Tryz.ntmps96
  go_wp2_with fail
  refine (SP.out _).mono ?_; rintro e1 w1 ⟨rfl, rfl⟩
  go_wp2
  refine bodyPost_ret (v := .tuple #[.agg #[.bool false, .int .u64 0, .int .i64 0], .int .i64 4]) (by simp [results, Tryz.results96, go_sem]) rfl ⟨rfl, ?_⟩
  exact (by repeat (first | with_reducible exact Within.refl _ | with_reducible assumption | with_reducible refine Within.alloc ?_ _ | with_reducible refine Within.drew ?_ | with_reducible refine Within.setCell ?_ (by first | (simp; done) | (simp; omega)) _ | with_reducible refine Within.trans ?_ (by assumption)))
set_option maxRecDepth 100000 in
set_option maxHeartbeats 600000 in
theorem Rparts_low (a fr M : Nat) (E : Int) (ng : Bool) (w : World) (SP : Hid (∀ w, Calls Tryz.prog 127 #[.float .f64 a] w fun e w' => e = .returned (.tuple #[.bool ng, .int .i64 0, .int .u64 fr]) ∧ w = w')) (OD : Hid (∀ w, Calls Tryz.prog 128 #[.int .u64 fr, .int .i64 (-1074)] w fun e w' => e = .returned (.tuple #[.int .u64 M, .int .i64 E]) ∧ w = w')) : Calls Tryz.prog 96 #[.float .f64 a] w fun e w' => e = .returned (.tuple #[.agg #[.bool ng, .int .u64 M, .int .i64 E], .int .i64 0]) ∧ Within w w' := by
  go_enter Tryz.func96, Tryz.ntmps96
  go_wp2_with fail
  refine (SP.out _).mono ?_; rintro e1 w1 ⟨rfl, rfl⟩
  go_wp2_with fail
  refine (OD.out _).mono ?_; rintro e2 w2 ⟨rfl, rfl⟩
  go_wp2
  refine bodyPost_ret (v := .tuple #[.agg #[.bool ng, .int .u64 M, .int .i64 E], .int .i64 0]) (by simp [results, Tryz.results96, go_sem]) rfl ⟨rfl, ?_⟩
  exact (by repeat (first | with_reducible exact Within.refl _ | with_reducible assumption | with_reducible refine Within.alloc ?_ _ | with_reducible refine Within.drew ?_ | with_reducible refine Within.setCell ?_ (by first | (simp; done) | (simp; omega)) _ | with_reducible refine Within.trans ?_ (by assumption)))
set_option maxRecDepth 100000 in
set_option maxHeartbeats 600000 in
theorem Rparts_norm (a fr M q g : Nat) (E e0 : Int) (ng : Bool) (w : World) (hq : 0 < q) (hq2 : q < 2047) (g1 : IntKind.u64.wrap ((fr : Int) + 4503599627370496) = (g : Int)) (g3 : IntKind.i64.wrap (((q - 1 : Nat) : Int) - 1074) = e0) (SP : Hid (∀ w, Calls Tryz.prog 127 #[.float .f64 a] w fun e w' => e = .returned (.tuple #[.bool ng, .int .i64 (q : Nat), .int .u64 fr]) ∧ w = w')) (OD : Hid (∀ w, Calls Tryz.prog 128 #[.int .u64 g, .int .i64 (e0)] w fun e w' => e = .returned (.tuple #[.int .u64 M, .int .i64 E]) ∧ w = w')) : Calls Tryz.prog 96 #[.float .f64 a] w fun e w' => e = .returned (.tuple #[.agg #[.bool ng, .int .u64 M, .int .i64 E], .int .i64 0]) ∧ Within w w' := by
  have n1 : ((q : Int) == 2047) = false := by rw [beq_eq_false_iff_ne]; omega
  have d1 : decide ((q : Int) > 0) = true := decide_eq_true (by omega)
  have t1 : 0 < q := hq
  have g2 : IntKind.i64.wrap ((q : Int) - 1) = ((q - 1 : Nat) : Int) := by rw [IntKind.wrap_i64]; omega
  generalize q - 1 = q1 at *
  clear hq hq2
  go_enter Tryz.func96, Tryz.ntmps96
  go_wp2_with fail
  refine (SP.out _).mono ?_; rintro e1 w1 ⟨rfl, rfl⟩
  go_wp2_with fail
  refine (OD.out _).mono ?_; rintro e2 w2 ⟨rfl, rfl⟩
  go_wp2
  refine bodyPost_ret (v := .tuple #[.agg #[.bool ng, .int .u64 M, .int .i64 E], .int .i64 0]) (by simp [results, Tryz.results96, go_sem]) rfl ⟨rfl, ?_⟩
  exact (by repeat (first | with_reducible exact Within.refl _ | with_reducible assumption | with_reducible refine Within.alloc ?_ _ | with_reducible refine Within.drew ?_ | with_reducible refine Within.setCell ?_ (by first | (simp; done) | (simp; omega)) _ | with_reducible refine Within.trans ?_ (by assumption)))
theorem Rparts_D (a : Nat) (ha : a < 18446744073709551616) (w : World) : Calls Tryz.prog 96 #[.float .f64 a] w fun e w' => e = .returned (.tuple #[.agg #[.bool (pNegD a), .int .u64 (pMantD a), .int .i64 (pExpD a)], .int .i64 (pErrD a)]) ∧ Within w w' := by
  have SP := Lib.hid (fun w => Rsplit_D a ha w)
  have hq : expD a < 2048 := Nat.mod_lt _ (by decide)
  have hfr : fracD a < 4503599627370496 := Nat.mod_lt _ (by decide)
  by_cases h7 : expD a = 2047
  · have np := nan_parts (a := a) (by unfold pErrD; rw [if_pos h7]; decide)
    rw [np.1, np.2.1, np.2.2.1, np.2.2.2]; rw [h7] at SP; exact Rparts_nan a _ _ w SP
  have pe : pErrD a = 0 := by unfold pErrD; rw [if_neg h7]
  rw [fin_neg pe, pe]
  by_cases h0 : expD a = 0
  · have hM : mantD a = fracD a := if_pos h0
    have hl : lowD a = -1074 := by unfold lowD; rw [if_pos h0]; rfl
    rw [h0] at SP
    by_cases hf : fracD a = 0
    · have p1 : pMantD a = 0 := by unfold pMantD; rw [if_neg h7, hM, hf]; exact Nat.zero_div _
      have p2 : pExpD a = 0 := if_pos (.inr (by rw [hM, hf]))
      rw [p1, p2]; rw [hf] at SP
      exact Rparts_low a 0 0 0 _ w SP (fun w => Rodd_zero (-1074) w)
    · have p1 : pMantD a = oddM (fracD a) := by unfold pMantD oddM; rw [if_neg h7, hM]
      have p2 : pExpD a = oddE (fracD a) (-1074) := by unfold pExpD oddE; rw [if_neg (by omega), hM, hl]
      rw [p1, p2]
      exact Rparts_low a _ _ _ _ w SP (fun w => Rodd_any (fracD a) (-1074) hf (by omega) (by decide) (by decide) w)
  · have hM : mantD a = fracD a + 4503599627370496 := if_neg h0
    have hl : lowD a = (expD a : Int) - 1075 := by unfold lowD; rw [if_neg h0]
    have p1 : pMantD a = oddM (fracD a + 4503599627370496) := by unfold pMantD oddM; rw [if_neg h7, hM]
    have p2 : pExpD a = oddE (fracD a + 4503599627370496) ((expD a : Int) - 1075) := by unfold pExpD oddE; rw [if_neg (by omega), hM, hl]
    rw [p1, p2]
    exact Rparts_norm a _ _ (expD a) (fracD a + 4503599627370496) _ ((expD a : Int) - 1075) _ w (by omega) (by omega) (by rw [IntKind.wrap_u64]; omega) (by rw [IntKind.wrap_i64]; omega) SP (fun w => Rodd_any (fracD a + 4503599627370496) ((expD a : Int) - 1075) (by omega) (by omega) (by omega) (by omega) w)
end Go.Proofs.YtjmaggfddinbkaaGreatDoor
end

section
namespace Go.Proofs.YtjmaggfddinbkaaGreatDoor
open Go.RowKit
def f64v (l : List Nat) : List Value := l.map fun (x : Nat) => .float .f64 x
theorem f64v_len (l : List Nat) : (f64v l).length = l.length := List.length_map ..
theorem add_block (a : Addr) (n : Nat) : (a.add n).block = a.block := by unfold Addr.add; split <;> rfl
theorem add_add (a : Addr) (i j : Nat) : (a.add i).add j = a.add (i + j) := by
  unfold Addr.add
  by_cases hi : i = 0 <;> by_cases hj : j = 0 <;> simp [hi, hj, Nat.add_assoc]
theorem add_nought (a : Addr) : a.add 0 = a := by unfold Addr.add; rw [if_pos rfl]
def SlAt (w : World) (A : Option Addr) (xs : List Value) : Prop := 0 < xs.length → ∃ ad, A = some ad ∧ ad.block < w.heap.size ∧ ∀ (j : Nat) u, xs[j]? = some u → w.cell? (ad.add j) = some u
theorem SlAt.nil {w : World} {A : Option Addr} : SlAt w A [] := fun h => absurd h (by simp)
theorem SlAt.of {w w' : World} {A : Option Addr} {xs : List Value} (h : SlAt w A xs) (k : Within w w') : SlAt w' A xs := fun hn => by
  obtain ⟨ad, e, hb, hc⟩ := h hn
  exact ⟨ad, e, Nat.lt_of_lt_of_le hb k.size, fun j u hu => (k.cell (by rw [add_block]; exact hb)).trans (hc j u hu)⟩
theorem SlAt.below {w w' : World} {A : Option Addr} {xs : List Value} {B : Nat} (h : SlAt w A xs) (hA : ∀ ad, A = some ad → ad.block < B) (k : Below B w w') : SlAt w' A xs := fun hn => by
  obtain ⟨ad, e, hb, hc⟩ := h hn
  exact ⟨ad, e, Nat.lt_of_lt_of_le hb k.size, fun j u hu => (k.cell (by rw [add_block]; exact hA ad e)).trans (hc j u hu)⟩
theorem SlAt.at {w : World} {A : Option Addr} {l : List Nat} {v : Nat → Value} (h : SlAt w A (l.map v)) {k : Nat} (hk : k < l.length) : ∃ ad, A = some ad ∧ ad.block < w.heap.size ∧ w.cell? (ad.add k) = some (v (l.getD k 0)) := by
  obtain ⟨ad, e, hb, hc⟩ := h (by rw [List.length_map]; omega)
  refine ⟨ad, e, hb, hc k _ ?_⟩
  rw [List.getElem?_map, List.getElem?_eq_getElem hk, Option.map_some]
  simp [List.getD, List.getElem?_eq_getElem hk]
theorem SlAt.take {w : World} {A : Option Addr} {xs : List Value} (h : SlAt w A xs) (k : Nat) : SlAt w A (xs.take k) := fun hn => by
  obtain ⟨ad, e, hb, hc⟩ := h (Nat.lt_of_lt_of_le hn (List.length_take_le' _ _))
  refine ⟨ad, e, hb, fun j u hu => hc j u ?_⟩
  rw [List.getElem?_take] at hu
  split at hu
  · exact hu
  · cases hu
theorem SlAt.drop {w : World} {ad : Addr} {xs : List Value} (h : SlAt w (some ad) xs) (k : Nat) : SlAt w (some (ad.add k)) (xs.drop k) := fun hn => by
  obtain ⟨ad', e, hb, hc⟩ := h (by rw [List.length_drop] at hn; omega)
  obtain rfl := Option.some.inj e
  refine ⟨_, rfl, by rw [add_block]; exact hb, fun j u hu => ?_⟩
  rw [add_add]
  exact hc _ u (by rw [← hu, List.getElem?_drop])
theorem f64v_one (l : List Nat) : ∀ u ∈ f64v l, u.oneCell' = true := fun u hu => by
  obtain ⟨x, _, rfl⟩ := List.mem_map.1 hu; rfl
theorem owns_form {w : World} {base : Nat} {E : TypeId} {v : Value} {n : Nat} {xs : List Value} (h : w.ownsRow base E 1 v n xs) : ∃ A c, v = .slice A n c ∧ n ≤ c ∧ SlAt w A xs ∧ (∀ ad, A = some ad → base ≤ ad.block) := by
  have hlen : xs.length = n := by have := h.1; simpa using this
  rcases h.2 with ⟨rfl, h0⟩ | ⟨g, cap, cur, rfl, hg, hb, hc, _, hsz, htk⟩
  · exact ⟨none, 0, by rw [h0], by omega, fun hn => by omega, fun ad e => by cases e⟩
  · refine ⟨_, _, rfl, hc, fun hn => ?_, fun ad e => by injection e with e; subst e; exact hg⟩
    obtain ⟨hlt, _⟩ := Array.getElem?_eq_some_iff.1 hb
    exact ⟨_, rfl, hlt, h.cells (g := g) rfl⟩
theorem run_app_nil {P : Program} (w : World) (base : Nat) (t ty e : TypeId) (i : TypeInfo) (ht : P.underlying t = some (.slice e)) (hi : P.info? e = some i)
    (v : Value) (n : Nat) (xs : List Value) (hown : w.ownsRow base e 1 v n xs) (c : Nat) : (Builtin.append_ #[t, t] ty #[v, .slice none 0 c]).run P w = .ok v w := by
  rcases hown.2 with ⟨rfl, rfl⟩ | ⟨g, cap, cur, rfl, _, _, hnc, _⟩
  · simp [Builtin.append_, run_underlying ht, sizeOf, typeInfo, hi, Builtin.lenOf, Builtin.firstCells]
  · simp [Builtin.append_, run_underlying ht, sizeOf, typeInfo, hi, Builtin.lenOf, Builtin.firstCells, hnc, storeCells]
theorem run_app {P : Program} (w : World) (base : Nat) (t ty e : TypeId) (i : TypeInfo) (z : Value) (bytes : Nat) (ht : P.underlying t = some (.slice e)) (hi : P.info? e = some i) (hz : i.zero = some z)
    (hsize : i.size = 1) (hby : i.bytes = bytes) (hzs : z.cells.size = 1) (v : Value) (n : Nat) (xs : List Value) (hown : w.ownsRow base e 1 v n xs)
    (A : Option Addr) (c : Nat) (news : List Value) (hr : SlAt w A news) (h1 : ∀ u ∈ news, u.oneCell' = true) (h63 : n + news.length ≤ maxLen) (hbytes : (n + news.length) * bytes ≤ 140737488355328) (hbase : base ≤ w.heap.size) :
    ∃ v' w', (Builtin.append_ #[t, t] ty #[v, .slice A news.length c]).run P w = .ok v' w' ∧ w'.ownsRow base e 1 v' (n + news.length) (xs ++ news) ∧ w.grownBy w' v.ownBlock ∧ (v'.ownBlock = v.ownBlock ∨ v'.ownBlock = some w.heap.size) := by
  rcases A with _ | ad
  · have hn : news = [] := by
      rcases Nat.eq_zero_or_pos news.length with h0 | h0
      · exact List.eq_nil_of_length_eq_zero h0
      · obtain ⟨ad, h, _⟩ := hr h0
        cases h
    subst hn
    exact ⟨v, w, run_app_nil w base t ty e i ht hi v n xs hown c, by simpa using hown, World.grownBy.refl w _, .inl rfl⟩
  · have hcells : ∀ j u, news[j]? = some u → w.cell? (ad.add j) = some u := by
      intro j u hu
      have h0 : 0 < news.length := by
        rcases Nat.eq_zero_or_pos news.length with h0 | h0
        · rw [List.eq_nil_of_length_eq_zero h0] at hu; simp at hu
        · exact h0
      obtain ⟨ad', h, _, hc⟩ := hr h0
      injection h with h
      subst h
      exact hc j u hu
    obtain ⟨v', w', hrun, h2, h3, _, h5⟩ := run_append_own_at (P := P) w base t ty e i z 1 bytes ht hi hz hsize hby hzs (by decide) v n xs hown ad news.length c news (by simp) hcells h1 h63 hbytes hbase
    exact ⟨v', w', hrun, h2, h3, h5⟩
theorem grown_below {w w' : World} {base : Nat} {E : TypeId} {v : Value} {n : Nat} {xs : List Value} (h : w.ownsRow base E 1 v n xs) (hb : base ≤ w.heap.size) (k : w.grownBy w' v.ownBlock) : Below base w w' :=
  (Below.refl base w).grown k hb (fun j hj => (h.lt j hj).1)
theorem within_grown {w w' : World} (k : Within w w') : w.grownBy w' none := ⟨k.os, k.tape, k.output, k.size, fun i hi _ => k.block i hi⟩
theorem Tryz.infoF64 : (Tryz.prog.info? 29).map (fun i => (i.zero, i.size, i.bytes)) = some (some (.float .f64 0), 1, 8) := by kernel_rfl
def OwnF (w : World) (base : Nat) (v : Value) (l : List Nat) : Prop := w.ownsRow base 29 1 v l.length (f64v l)
theorem run_app_f64 (w : World) (base : Nat) (v : Value) (l m : List Nat) (hown : OwnF w base v l) (A : Option Addr) (c : Nat) (hr : SlAt w A (f64v m)) (hl : (l.length + m.length) * 8 ≤ 140737488355328) (hbase : base ≤ w.heap.size) :
    ∃ v' w', (Builtin.append_ #[24, 24] 24 #[v, .slice A m.length c]).run Tryz.prog w = .ok v' w' ∧ OwnF w' base v' (l ++ m) ∧ Below base w w' := by
  obtain ⟨i0, hi0, hz0, hz1, hz2⟩ := info_parts Tryz.infoF64
  obtain ⟨v', w', h1, h2, h3, _⟩ := run_app (P := Tryz.prog) w base 24 24 29 i0 (.float .f64 0) 8 (by kernel_rfl) hi0 hz0 hz1 hz2 rfl v l.length (f64v l) hown A c (f64v m) hr (f64v_one m) (by rw [f64v_len]; unfold maxLen; omega) (by rw [f64v_len]; omega) hbase
  rw [f64v_len] at h1 h2
  refine ⟨v', w', h1, ?_, grown_below hown hbase h3⟩
  unfold OwnF f64v
  rw [List.length_append, List.map_append]; exact h2
theorem OwnF.form {w : World} {base : Nat} {v : Value} {l : List Nat} (h : OwnF w base v l) : ∃ A c, v = .slice A l.length c ∧ l.length ≤ c ∧ SlAt w A (f64v l) ∧ (∀ ad, A = some ad → base ≤ ad.block) := owns_form h
theorem OwnF.of {w w' : World} {base : Nat} {v : Value} {l : List Nat} (h : OwnF w base v l) (k : Within w w') : OwnF w' base v l := h.kept (within_grown k) (by cases hv : v.ownBlock <;> simp)
theorem OwnF.nil_ (w : World) (base : Nat) : OwnF w base (.slice none 0 0) [] := World.ownsRow_nil _ _ _ _
theorem wpList_append_run {P : Program} {w : World} {ops : Array Oper} {rest : List Oper} {o : Oper} {a : Act} {Q : Exit → Act → World → Prop} (hgd : o.guard = none) (s x : Operand) (t : TypeId)
    (ho : o.op = .call { callee := .builtin .append, args := #[s, x], argTypes := #[t, t] }) (vs vx : Value) (hs : a.eval s = vs) (hx : a.eval x = vx) {v' : Value} {w' : World}
    (hrun : (Builtin.append_ #[t, t] o.type #[vs, vx]).run P w = .ok v' w') (h : wpList P ops Q rest (a.put o.dst v') w') : wpList P ops Q (o :: rest) a w :=
  wpList_plain hgd fun K hK => by
    unfold Oper.wp execOp
    simp only [ho, resolve, invoke, builtin, Sem.run_bind, Sem.run_pure, Result.andThen_ok, List.map_toArray, List.map_cons, List.map_nil, hs, hx, hrun]
    exact hK _ _ h
theorem SlAt.one (w : World) (u : Value) (E : TypeId) : SlAt (w.alloc (.cells #[u] E)) (some ⟨w.heap.size, 0, none⟩) [u] := fun _ => by
  refine ⟨_, rfl, by simp, fun j v hv => ?_⟩
  cases j with
  | zero =>
    simp at hv
    subst hv
    rw [add_nought, World.cell?_alloc_at _ _ _ _ rfl]; rfl
  | succ j => simp at hv
theorem run_app_float (w : World) (base : Nat) (v : Value) (l : List Nat) (x : Nat) (hown : OwnF w base v l) (hl : (l.length + 1) * 8 ≤ 140737488355328) (hbase : base ≤ w.heap.size) :
    ∃ v' w', (Builtin.append_ #[24, 24] 24 #[v, .slice (some ⟨w.heap.size, 0, none⟩) 1 1]).run Tryz.prog (w.alloc (.cells #[.float .f64 x] 29)) = .ok v' w' ∧ OwnF w' base v' (l ++ [x]) ∧ Below base w w' := by
  obtain ⟨v', w', h1, h2, h3⟩ := run_app_f64 (w.alloc (.cells #[.float .f64 x] 29)) base v l [x] (hown.of ((Within.refl w).alloc _)) (some ⟨w.heap.size, 0, none⟩) 1 (SlAt.one w _ _) hl (by simp; omega)
  exact ⟨v', w', h1, h2, ((Below.refl base w).alloc hbase _).trans h3⟩
theorem owns_less {w : World} {base base' : Nat} {E : TypeId} {v : Value} {n : Nat} {xs : List Value} (h : w.ownsRow base E 1 v n xs) (k : base' ≤ base) : w.ownsRow base' E 1 v n xs := by
  refine ⟨h.1, ?_⟩
  rcases h.2 with h2 | ⟨g, cap, cur, h1, hb, h3⟩
  · exact .inl h2
  · exact .inr ⟨g, cap, cur, h1, Nat.le_trans k hb, h3⟩
theorem OwnF.less {w : World} {base base' : Nat} {v : Value} {l : List Nat} (h : OwnF w base v l) (k : base' ≤ base) : OwnF w base' v l := owns_less h k
theorem OwnF.set {w : World} {base : Nat} {v : Value} {l : List Nat} (h : OwnF w base v l) {p : Addr} (hp : p.block < base) (u : Value) : OwnF (w.setCell p u) base v l := ownsRow_setCell_below h hp u
theorem classD_range (a : Nat) : 1 ≤ classD a ∧ classD a ≤ 5 := by
  unfold classD classOf; split <;> (try split) <;> (try split) <;> (try split) <;> omega
def finD (x : Nat) : Bool := decide (2 < classD x)
theorem take_snoc_getD {l : List Nat} {k : Nat} (h : k < l.length) : l.take (k + 1) = l.take k ++ [l.getD k 0] := by
  rw [List.take_add_one, List.getElem?_eq_getElem h]; simp [List.getD, List.getElem?_eq_getElem h]
def Words64 (l : List Nat) : Prop := ∀ x ∈ l, x < 18446744073709551616
theorem Words64.at {l : List Nat} (h : Words64 l) {k : Nat} (hk : k < l.length) : l.getD k 0 < 18446744073709551616 := by
  rw [List.getD, List.getElem?_eq_getElem hk]; exact h _ (List.getElem_mem hk)
theorem all_snoc {p : Nat → Bool} {l : List Nat} {k : Nat} (h : k < l.length) : (l.take (k + 1)).all p = ((l.take k).all p && p (l.getD k 0)) := by
  rw [take_snoc_getD h, List.all_append]; simp
theorem all_false {p : Nat → Bool} {l : List Nat} {k : Nat} (h : k < l.length) (hp : p (l.getD k 0) = false) : l.all p = false := by
  rw [List.all_eq_false]
  refine ⟨l.getD k 0, ?_, by rw [hp]; decide⟩
  rw [List.getD, List.getElem?_eq_getElem h]; exact List.getElem_mem h
theorem class_yes {x : Nat} (h : finD x = true) : ((classD x : Int) == 1) = false ∧ ((classD x : Int) == 2) = false := by
  have : 2 < classD x := of_decide_eq_true h
  exact ⟨beq_eq_false_iff_ne.2 (by omega), beq_eq_false_iff_ne.2 (by omega)⟩
theorem class_no {x : Nat} (h : finD x = false) : classD x = 1 ∨ classD x = 2 := by
  have h1 : ¬ 2 < classD x := of_decide_eq_false h
  have := classD_range x
  omega
set_option maxRecDepth 100000 in
set_option maxHeartbeats 600000 in
theorem Finite_any (A : Option Addr) (c : Nat) (l : List Nat) (hw : Words64 l) (hl : l.length ≤ 1152921504606846976) (w : World) (hr : SlAt w A (f64v l)) : Calls Tryz.prog 73 #[.slice A l.length c] w fun e w' => e = .returned (.bool (l.all finD)) ∧ Within w w' := by
  have HW := Lib.hid hw; have HR := Lib.hid hr; clear hw hr
  go_enter Tryz.func73, Tryz.ntmps73
  go_wp2
  go_loopw [8] (fun iv wr => ∃ k : Nat, k ≤ l.length ∧ iv = .int .i64 (k : Int) ∧ (l.take k).all finD = true ∧ Within w wr) (fun iv _ => l.length - (intOf iv).toNat)
  case atStart => exact ⟨0, Nat.zero_le _, rfl, rfl, Within.refl _⟩
  case round =>
    obtain ⟨k, hk, rfl, hall, hin⟩ := hrel
    have HA := Lib.hid hall; clear hall
    by_cases hlt : k < l.length
    · obtain ⟨ad, rfl, hblk, hc⟩ := (HR.out.of hin).at hlt
      obtain ⟨x, hx⟩ : ∃ x, x = l.getD k 0 := ⟨_, rfl⟩
      have hx2 : x < 18446744073709551616 := by rw [hx]; exact HW.out.at hlt
      rw [← hx] at hc
      have HX := Lib.hid hx; have HX2 := Lib.hid hx2; clear hx hx2
      by_cases hf : finD x = true
      · have hnext : (l.take (k + 1)).all finD = true := by rw [all_snoc hlt, HA.out, ← HX.out, hf]; rfl
        have HN := Lib.hid hnext; clear hnext
        obtain ⟨g1, g2⟩ := class_yes hf
        clear hf
        go_wp2_with fail
        refine (Class_D x HX2.out _).mono ?_; rintro e1 w1 ⟨rfl, hb1⟩
        go_wp2
        go_roundw
        case rel => exact ⟨k + 1, hlt, by go_num, HN.out, (by repeat (first | with_reducible exact Within.refl _ | with_reducible assumption | with_reducible refine Within.alloc ?_ _ | with_reducible refine Within.drew ?_ | with_reducible refine Within.setCell ?_ (by first | (simp; done) | (simp; omega)) _ | with_reducible refine Within.trans ?_ (by assumption)))⟩
        case measure => simp [intOf]; omega
      · have hno : l.all finD = false := all_false hlt (by rw [← HX.out]; simpa using hf)
        have HNO := Lib.hid hno; clear hno
        have hc1 := class_no (by simpa using hf : finD x = false)
        have CL := Lib.hid (fun w => Class_D x HX2.out w)
        generalize classD x = cx at *
        clear hf
        rcases hc1 with rfl | rfl
        · go_wp2_with fail
          refine (CL.out _).mono ?_; rintro e1 w1 ⟨rfl, hb1⟩
          go_wp2
          go_ret
          exact ⟨ret_bool HNO.out.symm, (by repeat (first | with_reducible exact Within.refl _ | with_reducible assumption | with_reducible refine Within.alloc ?_ _ | with_reducible refine Within.drew ?_ | with_reducible refine Within.setCell ?_ (by first | (simp; done) | (simp; omega)) _ | with_reducible refine Within.trans ?_ (by assumption)))⟩
        go_wp2_with fail
        refine (CL.out _).mono ?_; rintro e1 w1 ⟨rfl, hb1⟩
        go_wp2
        go_ret
        exact ⟨ret_bool HNO.out.symm, (by repeat (first | with_reducible exact Within.refl _ | with_reducible assumption | with_reducible refine Within.alloc ?_ _ | with_reducible refine Within.drew ?_ | with_reducible refine Within.setCell ?_ (by first | (simp; done) | (simp; omega)) _ | with_reducible refine Within.trans ?_ (by assumption)))⟩
    · obtain rfl : k = l.length := by omega
      go_wp2
      go_ret
      exact ⟨ret_bool (by rw [← HA.out, List.take_of_length_le (Nat.le_refl _)]), hin⟩
set_option maxRecDepth 100000 in
set_option maxHeartbeats 600000 in
theorem RallFinite_any (A : Option Addr) (c : Nat) (l : List Nat) (hw : Words64 l) (hl : l.length ≤ 1152921504606846976) (w : World) (hr : SlAt w A (f64v l)) : Calls Tryz.prog 76 #[.slice A l.length c] w fun e w' => e = .returned (.bool (l.all finD)) ∧ Within w w' := by
  have HW := Lib.hid hw; have HR := Lib.hid hr; clear hw hr
  go_enter Tryz.func76, Tryz.ntmps76
  go_wp2
  go_loopw [7] (fun iv wr => ∃ k : Nat, k ≤ l.length ∧ iv = .int .i64 (k : Int) ∧ (l.take k).all finD = true ∧ Within w wr) (fun iv _ => l.length - (intOf iv).toNat)
  case atStart => exact ⟨0, Nat.zero_le _, rfl, rfl, Within.refl _⟩
  case round =>
    obtain ⟨k, hk, rfl, hall, hin⟩ := hrel
    have HA := Lib.hid hall; clear hall
    by_cases hlt : k < l.length
    · obtain ⟨ad, rfl, hblk, hc⟩ := (HR.out.of hin).at hlt
      obtain ⟨x, hx⟩ : ∃ x, x = l.getD k 0 := ⟨_, rfl⟩
      have hx2 : x < 18446744073709551616 := by rw [hx]; exact HW.out.at hlt
      rw [← hx] at hc
      have HX := Lib.hid hx; have HX2 := Lib.hid hx2; clear hx hx2
      by_cases hf : finD x = true
      · have hnext : (l.take (k + 1)).all finD = true := by rw [all_snoc hlt, HA.out, ← HX.out, hf]; rfl
        have HN := Lib.hid hnext; clear hnext
        have FI := Lib.hid (fun w => Rfinite x HX2.out w)
        have hf' : decide (2 < classD x) = true := hf
        rw [hf'] at FI
        clear hf hf'
        go_wp2_with fail
        refine (FI.out _).mono ?_; rintro e1 w1 ⟨rfl, rfl⟩
        go_wp2
        go_roundw
        case rel => exact ⟨k + 1, hlt, by go_num, HN.out, (by repeat (first | with_reducible exact Within.refl _ | with_reducible assumption | with_reducible refine Within.alloc ?_ _ | with_reducible refine Within.drew ?_ | with_reducible refine Within.setCell ?_ (by first | (simp; done) | (simp; omega)) _ | with_reducible refine Within.trans ?_ (by assumption)))⟩
        case measure => simp [intOf]; omega
      · have hno : l.all finD = false := all_false hlt (by rw [← HX.out]; simpa using hf)
        have HNO := Lib.hid hno; clear hno
        have FI := Lib.hid (fun w => Rfinite x HX2.out w)
        have hf' : decide (2 < classD x) = false := by simpa [finD] using hf
        rw [hf'] at FI
        clear hf hf'
        go_wp2_with fail
        refine (FI.out _).mono ?_; rintro e1 w1 ⟨rfl, rfl⟩
        go_wp2
        go_ret
        exact ⟨ret_bool HNO.out.symm, (by repeat (first | with_reducible exact Within.refl _ | with_reducible assumption | with_reducible refine Within.alloc ?_ _ | with_reducible refine Within.drew ?_ | with_reducible refine Within.setCell ?_ (by first | (simp; done) | (simp; omega)) _ | with_reducible refine Within.trans ?_ (by assumption)))⟩
    · obtain rfl : k = l.length := by omega
      go_wp2
      go_ret
      exact ⟨ret_bool (by rw [← HA.out, List.take_of_length_le (Nat.le_refl _)]), hin⟩
end Go.Proofs.YtjmaggfddinbkaaGreatDoor
end

section
namespace Go.Proofs.YtjmaggfddinbkaaGreatDoor.P64
open Go.RowKit
theorem ctz_top (n : Nat) (h : n < 18446744073709551616) : Lib.ctz 64 n ≤ 64 := by
  by_cases h0 : n = 0
  · subst h0; decide
  · obtain ⟨_, _, _, h1⟩ := odd_split h0 h
    omega
theorem pExpD_range (b : Nat) : -1074 ≤ pExpD b ∧ pExpD b ≤ 1100 := by
  unfold pExpD
  have h1 := expD_lt b
  have h2 := ctz_top (mantD b) (by have := mantD_lt b; omega)
  split
  · omega
  · unfold lowD; split <;> omega
theorem pMantD_lt (b : Nat) : pMantD b < 18446744073709551616 := by
  unfold pMantD
  have h := mantD_lt b
  split
  · decide
  · exact Nat.lt_of_le_of_lt (Nat.div_le_self _ _) (by omega)
def wholeI (b : Nat) : Int := sgv (pNegD b) (pMantD b) * 2 ^ (pExpD b + 1074).toNat
def NewI (W : World) (v : Int) (e : Ending) (w' : World) : Prop := ∃ g, e = .returned (.pointer (some ⟨g, 0, none⟩)) ∧ IntB w' g v ∧ W.heap.size ≤ g ∧ Within W w'
theorem dg_len_of {n e k : Nat} (h : n < 2 ^ e) (he : e ≤ 64 * k) : (dg n).length ≤ k :=
  dg_len_le (Nat.lt_of_lt_of_le h (by rw [show (18446744073709551616 : Nat) = 2 ^ 64 from rfl, ← Nat.pow_mul]; exact Nat.pow_le_pow_right (by decide) he))
theorem wholeI_lt (b : Nat) : (wholeI b).natAbs < 2 ^ (64 + (pExpD b + 1074).toNat) := by
  unfold wholeI
  rw [Int.natAbs_mul, sgv_abs]
  have h1 := pMantD_lt b
  have e : ((2 : Int) ^ (pExpD b + 1074).toNat).natAbs = 2 ^ (pExpD b + 1074).toNat := by rw [Int.natAbs_pow]; rfl
  rw [e, Nat.pow_add]
  exact Nat.mul_lt_mul_of_pos_right h1 (Nat.two_pow_pos _)
theorem lim36 {k : Nat} (h : k ≤ 2174) : 64 + k ≤ 64 * 36 := by omega
theorem wholeI_len (b : Nat) : (dg (wholeI b).natAbs).length ≤ 36 :=
  dg_len_of (wholeI_lt b) (lim36 (by have := (pExpD_range b).2; omega))
set_option maxRecDepth 100000 in
set_option maxHeartbeats 1000000 in
theorem Ewhole0 (x : Nat) (neg : Bool) (m : Nat) (p : Int) (k : Nat) (er : Value) (hm : m < 18446744073709551616) (hk : p + 1074 = (k : Int)) (hk2 : k ≤ 2200) (w : World)
    (CP : Hid (Calls Tryz.prog 117 #[.float .f64 x] w fun e w' => e = .returned (.tuple #[.agg #[.bool neg, .int .u64 (m : Int), .int .i64 p], er]) ∧ Within w w')) :
    Calls Tryz.prog 80 #[.float .f64 x] w (NewI w (sgv neg m * 2 ^ k)) := by
  have HM := Lib.hid hm; clear hm
  have HK := Lib.hid hk2
  have gk : IntKind.i64.wrap (p + 1074) = (k : Int) := by rw [hk, IntWalk.i64_in _ (by omega)]
  have gk2 : IntKind.u64.wrap (k : Int) = (k : Int) := by rw [IntKind.wrap_u64]; omega
  clear hk hk2
  go_enter Tryz.func80, Tryz.ntmps80
  go_wp2_with fail
  refine CP.out.mono ?_; rintro e1 w1 ⟨rfl, hb1⟩
  have HT : IntTy ((w1.alloc (.cells #[.bool neg, .int .u64 (m : Int), .int .i64 p] 97)).alloc (.cells #[.bool false, .slice none 0 0] 121)) (w1.heap.size + 1) := by
    have := (IntB.made (w1.alloc (.cells #[.bool neg, .int .u64 (m : Int), .int .i64 p] 97))).ty
    simpa using this
  go_wp2_with fail
  have k0 : ((w1.alloc (.cells #[.bool neg, .int .u64 (m : Int), .int .i64 p] 97)).alloc (.cells #[.bool false, .slice none 0 0] 121)).cell? ⟨w1.heap.size, 0, none⟩ = some (.bool neg) := by simp [go_sem]
  have k2 : ((w1.alloc (.cells #[.bool neg, .int .u64 (m : Int), .int .i64 p] 97)).alloc (.cells #[.bool false, .slice none 0 0] 121)).cell? ⟨w1.heap.size, 2, none⟩ = some (.int .i64 p) := by simp [go_sem]
  have HW2 : Within w ((w1.alloc (.cells #[.bool neg, .int .u64 (m : Int), .int .i64 p] 97)).alloc (.cells #[.bool false, .slice none 0 0] 121)) := (hb1.alloc _).alloc _
  obtain ⟨W2, hW2⟩ : ∃ W2, W2 = (w1.alloc (.cells #[.bool neg, .int .u64 (m : Int), .int .i64 p] 97)).alloc (.cells #[.bool false, .slice none 0 0] 121) := ⟨_, rfl⟩
  have hsz : W2.heap.size = w1.heap.size + 2 := by rw [hW2]; simp
  have hw1 := hb1.size
  rw [← hW2] at HT k0 k2 HW2 ⊢
  clear hW2
  have HS := Lib.hid hsz; have HL := Lib.hid hw1
  clear hsz hw1
  refine (PsetUint64 (w1.heap.size + 1) m HM.out W2 HT).mono ?_; rintro e2 w2 ⟨rfl, hI2, hG2⟩
  have q0 := hG2.cell k0 (by simp)
  have q2 := hG2.cell k2 (by simp)
  have hlen : (dg (m : Int).natAbs).length ≤ 1 := by
    rw [Int.natAbs_natCast]; exact dg_len_le (by have := HM.out; simpa using this)
  have HLN := Lib.hid hlen; clear hlen
  cases neg
  · go_wp2_with fail
    refine (Plsh (w1.heap.size + 1) (w1.heap.size + 1) k (m : Int) (Nat.le_trans HLN.out (by decide)) (Nat.le_trans HK.out (by decide)) w2 hI2.ty hI2).mono ?_; rintro e3 w3 ⟨rfl, hI3, hG3⟩
    go_wp2
    go_ret
    exact ⟨_, rfl, hI3, by have := HL.out; omega, Within.grown HW2 (grown_trans hG2 hG3) (by have := HL.out; omega)⟩
  · go_wp2_with fail
    refine (Pneg (w1.heap.size + 1) (w1.heap.size + 1) (m : Int) (Nat.le_trans HLN.out (by decide)) w2 hI2.ty hI2).mono ?_; rintro e3 w3 ⟨rfl, hI3, hG3⟩
    have r2 := hG3.cell q2 (by simp)
    go_wp2_with fail
    refine (Plsh (w1.heap.size + 1) (w1.heap.size + 1) k (-(m : Int)) (by rw [Int.natAbs_neg]; exact Nat.le_trans HLN.out (by decide)) (Nat.le_trans HK.out (by decide)) w3 hI3.ty hI3).mono ?_; rintro e4 w4 ⟨rfl, hI4, hG4⟩
    go_wp2
    go_ret
    exact ⟨_, rfl, hI4, by have := HL.out; omega, Within.grown HW2 (grown_trans (grown_trans hG2 hG3) hG4) (by have := HL.out; omega)⟩
theorem Ewhole (b : Nat) (hb : b < 18446744073709551616) (w : World) (hT : Tab w) : Calls Tryz.prog 80 #[.float .f64 b] w (NewI w (wholeI b)) := by
  have := pExpD_range b
  exact Ewhole0 b (pNegD b) (pMantD b) (pExpD b) (pExpD b + 1074).toNat (.int .i64 (pErrD b)) (pMantD_lt b) (by omega) (by omega) w (Lib.hid (Parts_D b hb w hT))
end Go.Proofs.YtjmaggfddinbkaaGreatDoor.P64
end

section
namespace Go.Proofs.YtjmaggfddinbkaaGreatDoor.P64
open Go.RowKit
theorem mul_len {a b : Int} {n m : Nat} (ha : (dg a.natAbs).length ≤ n) (hb : (dg b.natAbs).length ≤ m) : (dg (a * b).natAbs).length ≤ n + m := by
  rw [Int.natAbs_mul]; exact dg_mul_len ha hb
set_option maxRecDepth 100000 in
set_option maxHeartbeats 1000000 in
theorem Ecross (ga gb gc gd : Nat) (a b c d : Int) (w : World) (ha : IntB w ga a) (hb : IntB w gb b) (hc : IntB w gc c) (hd : IntB w gd d)
    (la : (dg a.natAbs).length ≤ 40) (lb : (dg b.natAbs).length ≤ 40) (lc : (dg c.natAbs).length ≤ 40) (ld : (dg d.natAbs).length ≤ 40) :
    Calls Tryz.prog 79 #[.pointer (some ⟨ga, 0, none⟩), .pointer (some ⟨gb, 0, none⟩), .pointer (some ⟨gc, 0, none⟩), .pointer (some ⟨gd, 0, none⟩)] w fun e w' => e = .returned (.int .i64 (cmpI (a * d) (b * c))) ∧ Within w w' := by
  have HA := Lib.hid ha; have HB := Lib.hid hb; have HC := Lib.hid hc; have HD := Lib.hid hd; clear ha hb hc hd
  have LA := Lib.hid (And.intro (And.intro la lb) (And.intro lc ld)); clear la lb lc ld
  have HT := Lib.hid (IntB.made w).ty
  have b1 : Within w (w.alloc (.cells #[.bool false, .slice none 0 0] 121)) := (Within.refl w).alloc _
  go_enter Tryz.func79, Tryz.ntmps79
  go_wp2_with fail
  refine (Pmul w.heap.size ga gd a d (Nat.le_trans LA.out.1.1 (by decide)) (Nat.le_trans LA.out.2.2 (by decide)) _ HT.out (HA.out.of b1) (HD.out.of b1)).mono ?_; rintro e1 w1 ⟨rfl, hI1, hG1⟩
  have hW1 : Within w w1 := Within.grown b1 hG1 (Nat.le_refl _)
  have HT2 := Lib.hid (IntB.made w1).ty
  have b2 : Within w1 (w1.alloc (.cells #[.bool false, .slice none 0 0] 121)) := (Within.refl w1).alloc _
  go_wp2_with fail
  refine (Pmul w1.heap.size gb gc b c (Nat.le_trans LA.out.1.2 (by decide)) (Nat.le_trans LA.out.2.1 (by decide)) _ HT2.out (HB.out.of (hW1.trans b2)) (HC.out.of (hW1.trans b2))).mono ?_; rintro e2 w2 ⟨rfl, hI2, hG2⟩
  have hW2 : Within w1 w2 := Within.grown b2 hG2 (Nat.le_refl _)
  go_wp2_with fail
  refine (Pcmp w.heap.size w1.heap.size (a * d) (b * c) (Nat.le_trans (mul_len LA.out.1.1 LA.out.2.2) (by decide)) (Nat.le_trans (mul_len LA.out.1.2 LA.out.2.1) (by decide)) w2 (hI1.of hW2) hI2).mono ?_; rintro e3 w3 ⟨rfl, hb3⟩
  go_wp2
  go_ret
  exact ⟨rfl, (hW1.trans hW2).trans hb3⟩
theorem slAt_made (w : World) (l : List Nat) (C : Array Value) (t : TypeId) (hC : C = (f64v l).toArray) : SlAt (w.alloc (.cells C t)) (some ⟨w.heap.size, 0, none⟩) (f64v l) := by
  subst hC
  intro _
  refine ⟨_, rfl, by simp, fun j u hu => ?_⟩
  rw [add_zero_off]
  have h1 := heap_alloc_new w (.cells (f64v l).toArray t)
  unfold World.cell?
  rw [h1]
  simpa using hu
def detI (a b c d : Nat) : Int := cmpI (wholeI a * wholeI d) (wholeI b * wholeI c)
set_option maxRecDepth 100000 in
set_option maxHeartbeats 1000000 in
theorem Edet (a b c d : Nat) (ha : a < 18446744073709551616) (hb : b < 18446744073709551616) (hc : c < 18446744073709551616) (hd : d < 18446744073709551616) (w : World) (hT : Tab w) :
    Calls Tryz.prog 22 #[.float .f64 a, .float .f64 b, .float .f64 c, .float .f64 d] w fun e w' => e = .returned (.tuple #[.int .i64 (if [a, b, c, d].all finD then detI a b c d else 0), .int .i64 (if [a, b, c, d].all finD then 0 else 4)]) ∧ Within w w' := by
  have HA := Lib.hid ha; have HB := Lib.hid hb; have HC := Lib.hid hc; have HD := Lib.hid hd; have HT := Lib.hid hT; clear ha hb hc hd hT
  have CF := Lib.hid (fun (w' : World) hr => Finite_any (some ⟨w.heap.size, 0, none⟩) 4 [a, b, c, d] (by intro x hx; have := HA.out; have := HB.out; have := HC.out; have := HD.out; simp at hx; omega) (by simp) w' hr)
  have HS := Lib.hid (slAt_made w [a, b, c, d] _ 29 rfl)
  obtain ⟨al, hal⟩ : ∃ al, al = [a, b, c, d].all finD := ⟨_, rfl⟩
  rw [← hal] at CF ⊢
  clear hal
  have b1 : ∀ C, Within w (w.alloc (.cells C 29)) := fun C => (Within.refl w).alloc _
  cases al
  · go_enter Tryz.func22, Tryz.ntmps22
    go_wp2_with fail
    refine (CF.out _ HS.out).mono ?_; rintro e1 w1 ⟨rfl, hb1⟩
    go_wp2
    go_ret2
    exact ⟨rfl, (b1 _).trans hb1⟩
  · go_enter Tryz.func22, Tryz.ntmps22
    go_wp2_with fail
    refine (CF.out _ HS.out).mono ?_; rintro e1 w1 ⟨rfl, hb1'⟩
    have hb1 := (b1 _).trans hb1'
    clear hb1'
    go_wp2_with fail
    refine (Ewhole a HA.out w1 (HT.out.of hb1)).mono ?_; rintro e1 w2 ⟨g1, rfl, hI1, hg1, hb2⟩
    go_wp2_with fail
    refine (Ewhole b HB.out w2 (HT.out.of (hb1.trans hb2))).mono ?_; rintro e1 w3 ⟨g2, rfl, hI2, hg2, hb3⟩
    go_wp2_with fail
    refine (Ewhole c HC.out w3 (HT.out.of ((hb1.trans hb2).trans hb3))).mono ?_; rintro e1 w4 ⟨g3, rfl, hI3, hg3, hb4⟩
    go_wp2_with fail
    refine (Ewhole d HD.out w4 (HT.out.of (((hb1.trans hb2).trans hb3).trans hb4))).mono ?_; rintro e1 w5 ⟨g4, rfl, hI4, hg4, hb5⟩
    go_wp2_with fail
    refine (Ecross g1 g2 g3 g4 _ _ _ _ w5 (hI1.of ((hb3.trans hb4).trans hb5)) (hI2.of (hb4.trans hb5)) (hI3.of hb5) hI4 (Nat.le_trans (wholeI_len a) (by decide)) (Nat.le_trans (wholeI_len b) (by decide)) (Nat.le_trans (wholeI_len c) (by decide)) (Nat.le_trans (wholeI_len d) (by decide))).mono ?_; rintro e1 w6 ⟨rfl, hb6⟩
    go_wp2
    go_ret2
    exact ⟨rfl, ((((hb1.trans hb2).trans hb3).trans hb4).trans hb5).trans hb6⟩
end Go.Proofs.YtjmaggfddinbkaaGreatDoor.P64
end

section
namespace Go.Proofs.YtjmaggfddinbkaaGreatDoor
open Go.RowKit
theorem c_nn {c : Nat} (h : c % 9223372036854775808 ≤ 9218868437227405312) : Fp.isNaN64 c = false := decide_eq_false (by omega)
theorem c_lt {x y : Nat} (hx : x % 9223372036854775808 ≤ 9218868437227405312) (hy : y % 9223372036854775808 ≤ 9218868437227405312) : (FloatKind.f64.format.order x y == some .lt) = decide (Fp.un Ieee.double x < Fp.un Ieee.double y) := by
  show (Ieee.double.order x y == some .lt) = _
  rw [Fp.lt64 x y (c_nn hx) (c_nn hy), ← Fp.key_double, ← Fp.key_double]
  exact decide_eq_decide.2 (Fp.un_lt_iff Ieee.double x y).symm
theorem c_gt {x y : Nat} (hx : x % 9223372036854775808 ≤ 9218868437227405312) (hy : y % 9223372036854775808 ≤ 9218868437227405312) : (FloatKind.f64.format.order x y == some .gt) = decide (Fp.un Ieee.double y < Fp.un Ieee.double x) := by
  show (Ieee.double.order x y == some .gt) = _
  rw [Fp.gt64 x y (c_nn hx) (c_nn hy), ← Fp.key_double, ← Fp.key_double]
  exact decide_eq_decide.2 (Fp.un_lt_iff Ieee.double y x).symm
theorem c_eq {x y : Nat} (hx : x % 9223372036854775808 ≤ 9218868437227405312) (hy : y % 9223372036854775808 ≤ 9218868437227405312) : (FloatKind.f64.format.order x y == some .eq) = decide (Fp.un Ieee.double x = Fp.un Ieee.double y) := by
  show (Ieee.double.order x y == some .eq) = _
  rw [Fp.eq64 x y (c_nn hx) (c_nn hy), ← Fp.key_double, ← Fp.key_double]
  exact decide_eq_decide.2 (Fp.un_eq_iff Ieee.double x y).symm
theorem c_ge {x y : Nat} (hx : x % 9223372036854775808 ≤ 9218868437227405312) (hy : y % 9223372036854775808 ≤ 9218868437227405312) : (FloatKind.f64.format.order x y == some .gt || FloatKind.f64.format.order x y == some .eq) = decide (Fp.un Ieee.double y ≤ Fp.un Ieee.double x) := by
  rw [c_gt hx hy, c_eq hx hy, Bool.eq_iff_iff, Bool.or_eq_true, decide_eq_true_iff, decide_eq_true_iff, decide_eq_true_iff]; omega
theorem c_nan {x y : Nat} (h : 9218868437227405312 < x % 9223372036854775808 ∨ 9218868437227405312 < y % 9223372036854775808) (o : Ordering) : (FloatKind.f64.format.order x y == some o) = false := by
  show (Ieee.double.order x y == some o) = false
  rw [Fp.order64_nan x y (h.imp (fun h => decide_eq_true h) (fun h => decide_eq_true h))]
  rfl
theorem c_zero {r : Nat} : (FloatKind.f64.format.order r 0 == some .eq) = decide (r % 9223372036854775808 = 0) := by
  by_cases h : 9218868437227405312 < r % 9223372036854775808
  · rw [c_nan (.inl h), decide_eq_false (by omega)]
  show (Ieee.double.order r 0 == some .eq) = _
  rw [Fp.eq64 _ _ (c_nn (by omega)) (c_nn (by decide))]
  unfold Fp.key64
  refine decide_eq_decide.2 ?_
  split <;> omega
theorem sub_self_zero (x : Nat) :
    (x % 9223372036854775808 < 9218868437227405312 → floatBits .sub .f64 x x = some 0) ∧ (¬ x % 9223372036854775808 < 9218868437227405312 → floatBits .sub .f64 x x = none) := by
  constructor
  · intro hf
    have := Fp.sub_fin Ieee.double x x (by rw [Fp.rg64, Fp.dI]; exact hf) (by rw [Fp.rg64, Fp.dI]; exact hf)
    show Ieee.double.sub x x = some 0
    rw [this, Int.sub_self, if_pos rfl, Bool.and_not_self]
    rfl
  · intro hf
    show ((Ieee.double.read x).sum (Ieee.double.read x).opposite).map Ieee.double.write = none
    rcases Nat.lt_or_ge 9218868437227405312 (x % 9223372036854775808) with g | g
    · obtain ⟨s, k, hr⟩ := read_nan g
      rw [hr]; rfl
    · rw [Fp.read_inf Ieee.double x (by rw [Fp.rg64, Fp.dI]; omega) Fp.dBI]
      cases Fp.sg Ieee.double x <;> rfl
end Go.Proofs.YtjmaggfddinbkaaGreatDoor
end

section
namespace Go.Proofs.YtjmaggfddinbkaaGreatDoor
def twoS (u v : Option Nat) : Option Nat := fop .add u v
def twoL (u v : Option Nat) : Option Nat := fop .add (fop .sub u (fop .sub (twoS u v) (fop .sub (twoS u v) u))) (fop .sub v (fop .sub (twoS u v) u))
def quiL (u v : Option Nat) : Option Nat := fop .sub v (fop .sub (twoS u v) u)
def halC (u : Option Nat) : Option Nat := fop .mul (some 4728779608772575232) u
def halH (u : Option Nat) : Option Nat := fop .sub (halC u) (fop .sub (halC u) u)
def halL (u : Option Nat) : Option Nat := fop .sub u (halH u)
def proP (u v : Option Nat) : Option Nat := fop .mul u v
def proE (u v : Option Nat) : Option Nat :=
  fop .sub (fop .mul (halL u) (halL v)) (fop .sub (fop .sub (fop .sub (proP u v) (fop .mul (halH u) (halH v))) (fop .mul (halL u) (halH v))) (fop .mul (halH u) (halL v)))
end Go.Proofs.YtjmaggfddinbkaaGreatDoor
end

section
namespace Go.Proofs.YtjmaggfddinbkaaGreatDoor
open Go.RowKit
def Pr (S L : Option Nat) (W : World) (e : Ending) (w' : World) : Prop := ∃ s l, e = .returned (.tuple #[.float .f64 s, .float .f64 l]) ∧ s < 18446744073709551616 ∧ l < 18446744073709551616 ∧ fv s = S ∧ fv l = L ∧ Within W w'
theorem fv_arF (op : BinOp) (x y : Nat) (w : World) : fv (arF op x y w) = fop op (fv x) (fv y) := (fv_ar op x y w).1
theorem arF_lt (op : BinOp) (x y : Nat) (w : World) : arF op x y w < 18446744073709551616 := (fv_ar op x y w).2
theorem canon_eq {x y : Nat} (h : fv x = fv y) : canonD x = canonD y := by
  unfold fv at h
  unfold canonD nanD
  by_cases hx : 9218868437227405312 < x % 9223372036854775808 <;> by_cases hy : 9218868437227405312 < y % 9223372036854775808
  · rw [decide_eq_true hx, decide_eq_true hy, if_pos rfl, if_pos rfl]
  · rw [if_pos hx, if_neg hy] at h; cases h
  · rw [if_neg hx, if_pos hy] at h; cases h
  · rw [if_neg hx, if_neg hy] at h
    rw [decide_eq_false hx, decide_eq_false hy, if_neg Bool.false_ne_true, if_neg Bool.false_ne_true]
    exact Option.some.inj h
set_option maxRecDepth 100000 in
set_option maxHeartbeats 600000 in
theorem etwo_any (a b : Nat) (ha : a < 18446744073709551616) (hb : b < 18446744073709551616) (w : World) : Calls Tryz.prog 85 #[.float .f64 a, .float .f64 b] w (Pr (twoS (fv a) (fv b)) (twoL (fv a) (fv b)) w) := by
  have hadd := fun t x y w => run_ar .add (.inr (.inl rfl)) t x y Tryz.prog w
  have hsub := fun t x y w => run_ar .sub (.inl rfl) t x y Tryz.prog w
  have hmul := fun t x y w => run_ar .mul (.inr (.inr (.inl rfl))) t x y Tryz.prog w
  go_enter Tryz.func85, Tryz.ntmps85
  go_wp2
  go_ret2
  exact ⟨_, _, rfl, (by first | assumption | exact arF_lt _ _ _ _), (by first | assumption | exact arF_lt _ _ _ _), (by simp only [fv_arF]; rfl), (by simp only [fv_arF]; rfl), (by repeat (first | with_reducible exact Within.refl _ | with_reducible assumption | with_reducible refine arW_within ?_ _ _ _ | with_reducible refine Within.alloc ?_ _ | with_reducible refine Within.drew ?_ | with_reducible refine Within.trans ?_ (by assumption)))⟩
set_option maxRecDepth 100000 in
set_option maxHeartbeats 600000 in
theorem rtwo_any (a b : Nat) (ha : a < 18446744073709551616) (hb : b < 18446744073709551616) (w : World) : Calls Tryz.prog 53 #[.float .f64 a, .float .f64 b] w (Pr (twoS (fv a) (fv b)) (twoL (fv a) (fv b)) w) := by
  have hadd := fun t x y w => run_ar .add (.inr (.inl rfl)) t x y Tryz.prog w
  have hsub := fun t x y w => run_ar .sub (.inl rfl) t x y Tryz.prog w
  have hmul := fun t x y w => run_ar .mul (.inr (.inr (.inl rfl))) t x y Tryz.prog w
  go_enter Tryz.func53, Tryz.ntmps53
  go_wp2
  go_ret2
  exact ⟨_, _, rfl, (by first | assumption | exact arF_lt _ _ _ _), (by first | assumption | exact arF_lt _ _ _ _), (by simp only [fv_arF]; rfl), (by simp only [fv_arF]; rfl), (by repeat (first | with_reducible exact Within.refl _ | with_reducible assumption | with_reducible refine arW_within ?_ _ _ _ | with_reducible refine Within.alloc ?_ _ | with_reducible refine Within.drew ?_ | with_reducible refine Within.trans ?_ (by assumption)))⟩
set_option maxRecDepth 100000 in
set_option maxHeartbeats 600000 in
theorem equick_any (a b : Nat) (ha : a < 18446744073709551616) (hb : b < 18446744073709551616) (w : World) : Calls Tryz.prog 87 #[.float .f64 a, .float .f64 b] w (Pr (twoS (fv a) (fv b)) (quiL (fv a) (fv b)) w) := by
  have hadd := fun t x y w => run_ar .add (.inr (.inl rfl)) t x y Tryz.prog w
  have hsub := fun t x y w => run_ar .sub (.inl rfl) t x y Tryz.prog w
  have hmul := fun t x y w => run_ar .mul (.inr (.inr (.inl rfl))) t x y Tryz.prog w
  go_enter Tryz.func87, Tryz.ntmps87
  go_wp2
  go_ret2
  exact ⟨_, _, rfl, (by first | assumption | exact arF_lt _ _ _ _), (by first | assumption | exact arF_lt _ _ _ _), (by simp only [fv_arF]; rfl), (by simp only [fv_arF]; rfl), (by repeat (first | with_reducible exact Within.refl _ | with_reducible assumption | with_reducible refine arW_within ?_ _ _ _ | with_reducible refine Within.alloc ?_ _ | with_reducible refine Within.drew ?_ | with_reducible refine Within.trans ?_ (by assumption)))⟩
set_option maxRecDepth 100000 in
set_option maxHeartbeats 600000 in
theorem rquick_any (a b : Nat) (ha : a < 18446744073709551616) (hb : b < 18446744073709551616) (w : World) : Calls Tryz.prog 55 #[.float .f64 a, .float .f64 b] w (Pr (twoS (fv a) (fv b)) (quiL (fv a) (fv b)) w) := by
  have hadd := fun t x y w => run_ar .add (.inr (.inl rfl)) t x y Tryz.prog w
  have hsub := fun t x y w => run_ar .sub (.inl rfl) t x y Tryz.prog w
  have hmul := fun t x y w => run_ar .mul (.inr (.inr (.inl rfl))) t x y Tryz.prog w
  go_enter Tryz.func55, Tryz.ntmps55
  go_wp2
  go_ret2
  exact ⟨_, _, rfl, (by first | assumption | exact arF_lt _ _ _ _), (by first | assumption | exact arF_lt _ _ _ _), (by simp only [fv_arF]; rfl), (by simp only [fv_arF]; rfl), (by repeat (first | with_reducible exact Within.refl _ | with_reducible assumption | with_reducible refine arW_within ?_ _ _ _ | with_reducible refine Within.alloc ?_ _ | with_reducible refine Within.drew ?_ | with_reducible refine Within.trans ?_ (by assumption)))⟩
set_option maxRecDepth 100000 in
set_option maxHeartbeats 600000 in
theorem esplit_any (a : Nat) (ha : a < 18446744073709551616) (w : World) : Calls Tryz.prog 95 #[.float .f64 a] w (Pr (halH (fv a)) (halL (fv a)) w) := by
  have hadd := fun t x y w => run_ar .add (.inr (.inl rfl)) t x y Tryz.prog w
  have hsub := fun t x y w => run_ar .sub (.inl rfl) t x y Tryz.prog w
  have hmul := fun t x y w => run_ar .mul (.inr (.inr (.inl rfl))) t x y Tryz.prog w
  go_enter Tryz.func95, Tryz.ntmps95
  go_wp2
  go_ret2
  exact ⟨_, _, rfl, (by first | assumption | exact arF_lt _ _ _ _), (by first | assumption | exact arF_lt _ _ _ _), (by simp only [fv_arF]; rfl), (by simp only [fv_arF]; rfl), (by repeat (first | with_reducible exact Within.refl _ | with_reducible assumption | with_reducible refine arW_within ?_ _ _ _ | with_reducible refine Within.alloc ?_ _ | with_reducible refine Within.drew ?_ | with_reducible refine Within.trans ?_ (by assumption)))⟩
set_option maxRecDepth 100000 in
set_option maxHeartbeats 600000 in
theorem rsplit_any (a : Nat) (ha : a < 18446744073709551616) (w : World) : Calls Tryz.prog 56 #[.float .f64 a] w (Pr (halH (fv a)) (halL (fv a)) w) := by
  have hadd := fun t x y w => run_ar .add (.inr (.inl rfl)) t x y Tryz.prog w
  have hsub := fun t x y w => run_ar .sub (.inl rfl) t x y Tryz.prog w
  have hmul := fun t x y w => run_ar .mul (.inr (.inr (.inl rfl))) t x y Tryz.prog w
  go_enter Tryz.func56, Tryz.ntmps56
  go_wp2
  go_ret2
  exact ⟨_, _, rfl, (by first | assumption | exact arF_lt _ _ _ _), (by first | assumption | exact arF_lt _ _ _ _), (by simp only [fv_arF]; rfl), (by simp only [fv_arF]; rfl), (by repeat (first | with_reducible exact Within.refl _ | with_reducible assumption | with_reducible refine arW_within ?_ _ _ _ | with_reducible refine Within.alloc ?_ _ | with_reducible refine Within.drew ?_ | with_reducible refine Within.trans ?_ (by assumption)))⟩
set_option maxRecDepth 100000 in
set_option maxHeartbeats 600000 in
theorem both_any (a b : Nat) (ha : a < 18446744073709551616) (hb : b < 18446744073709551616) (w : World) : Calls Tryz.prog 84 #[.float .f64 a, .float .f64 b] w (fun e w' => e = .returned (.tuple #[.float .f64 (canonD a), .float .f64 (canonD b)]) ∧ Within w w') := by
  have CA := Lib.hid (fun w => Canon_D a ha w)
  have CB := Lib.hid (fun w => Canon_D b hb w)
  go_enter Tryz.func84, Tryz.ntmps84
  go_wp2_with fail
  refine (CA.out _).mono ?_; rintro e1 w1 ⟨rfl, hb1⟩
  go_wp2_with fail
  refine (CB.out _).mono ?_; rintro e2 w2 ⟨rfl, hb2⟩
  go_wp2
  go_ret2
  exact ⟨rfl, (by repeat (first | with_reducible exact Within.refl _ | with_reducible assumption | with_reducible refine arW_within ?_ _ _ _ | with_reducible refine Within.alloc ?_ _ | with_reducible refine Within.drew ?_ | with_reducible refine Within.trans ?_ (by assumption)))⟩
set_option maxRecDepth 100000 in
set_option maxHeartbeats 600000 in
theorem eprod_any (a b : Nat) (ha : a < 18446744073709551616) (hb : b < 18446744073709551616) (w : World) : Calls Tryz.prog 90 #[.float .f64 a, .float .f64 b] w (Pr (proP (fv a) (fv b)) (proE (fv a) (fv b)) w) := by
  have hadd := fun t x y w => run_ar .add (.inr (.inl rfl)) t x y Tryz.prog w
  have hsub := fun t x y w => run_ar .sub (.inl rfl) t x y Tryz.prog w
  have hmul := fun t x y w => run_ar .mul (.inr (.inr (.inl rfl))) t x y Tryz.prog w
  have SA := Lib.hid (fun w => esplit_any a ha w)
  have SB := Lib.hid (fun w => esplit_any b hb w)
  go_enter Tryz.func90, Tryz.ntmps90
  go_wp2_with fail
  refine (SA.out _).mono ?_; rintro e1 w1 ⟨h, l, rfl, hh, hl, vh, vl, hb1⟩
  go_wp2_with fail
  refine (SB.out _).mono ?_; rintro e2 w2 ⟨i, k, rfl, hi, hk, vi, vk, hb2⟩
  have VH := Lib.hid vh; have VL := Lib.hid vl; have VI := Lib.hid vi; have VK := Lib.hid vk; clear vh vl vi vk
  go_wp2
  go_ret2
  exact ⟨_, _, rfl, (by first | assumption | exact arF_lt _ _ _ _), (by first | assumption | exact arF_lt _ _ _ _), (by simp only [fv_arF]; rfl), (by simp only [fv_arF, VH.out, VL.out, VI.out, VK.out]; rfl), (by repeat (first | with_reducible exact Within.refl _ | with_reducible assumption | with_reducible refine arW_within ?_ _ _ _ | with_reducible refine Within.alloc ?_ _ | with_reducible refine Within.drew ?_ | with_reducible refine Within.trans ?_ (by assumption)))⟩
set_option maxRecDepth 100000 in
set_option maxHeartbeats 600000 in
theorem rprod_any (a b : Nat) (ha : a < 18446744073709551616) (hb : b < 18446744073709551616) (w : World) : Calls Tryz.prog 58 #[.float .f64 a, .float .f64 b] w (Pr (proP (fv a) (fv b)) (proE (fv a) (fv b)) w) := by
  have hadd := fun t x y w => run_ar .add (.inr (.inl rfl)) t x y Tryz.prog w
  have hsub := fun t x y w => run_ar .sub (.inl rfl) t x y Tryz.prog w
  have hmul := fun t x y w => run_ar .mul (.inr (.inr (.inl rfl))) t x y Tryz.prog w
  have SA := Lib.hid (fun w => rsplit_any a ha w)
  have SB := Lib.hid (fun w => rsplit_any b hb w)
  go_enter Tryz.func58, Tryz.ntmps58
  go_wp2_with fail
  refine (SA.out _).mono ?_; rintro e1 w1 ⟨h, l, rfl, hh, hl, vh, vl, hb1⟩
  go_wp2_with fail
  refine (SB.out _).mono ?_; rintro e2 w2 ⟨i, k, rfl, hi, hk, vi, vk, hb2⟩
  have VH := Lib.hid vh; have VL := Lib.hid vl; have VI := Lib.hid vi; have VK := Lib.hid vk; clear vh vl vi vk
  go_wp2
  go_ret2
  exact ⟨_, _, rfl, (by first | assumption | exact arF_lt _ _ _ _), (by first | assumption | exact arF_lt _ _ _ _), (by simp only [fv_arF]; rfl), (by simp only [fv_arF, VH.out, VL.out, VI.out, VK.out]; rfl), (by repeat (first | with_reducible exact Within.refl _ | with_reducible assumption | with_reducible refine arW_within ?_ _ _ _ | with_reducible refine Within.alloc ?_ _ | with_reducible refine Within.drew ?_ | with_reducible refine Within.trans ?_ (by assumption)))⟩
set_option maxRecDepth 100000 in
set_option maxHeartbeats 600000 in
theorem Etwo_any (a b : Nat) (ha : a < 18446744073709551616) (hb : b < 18446744073709551616) (w : World) : Calls Tryz.prog 27 #[.float .f64 a, .float .f64 b] w (fun e w' => ∃ s l, e = .returned (.tuple #[.float .f64 (canonD s), .float .f64 (canonD l)]) ∧ s < 18446744073709551616 ∧ l < 18446744073709551616 ∧ fv s = twoS (fv a) (fv b) ∧ fv l = twoL (fv a) (fv b) ∧ Within w w') := by
  have TW := Lib.hid (fun w => etwo_any a b ha hb w)
  go_enter Tryz.func27, Tryz.ntmps27
  go_wp2_with fail
  refine (TW.out _).mono ?_; rintro e1 w1 ⟨s, l, rfl, hs, hl, vs, vl, hb1⟩
  have VS := Lib.hid vs; have VL := Lib.hid vl; clear vs vl
  go_wp2_with fail
  refine (both_any s l hs hl _).mono ?_; rintro e2 w2 ⟨rfl, hb2⟩
  go_wp2
  go_ret2
  exact ⟨s, l, rfl, hs, hl, VS.out, VL.out, (by repeat (first | with_reducible exact Within.refl _ | with_reducible assumption | with_reducible refine arW_within ?_ _ _ _ | with_reducible refine Within.alloc ?_ _ | with_reducible refine Within.drew ?_ | with_reducible refine Within.trans ?_ (by assumption)))⟩
set_option maxRecDepth 100000 in
set_option maxHeartbeats 600000 in
theorem Equick_any (a b : Nat) (ha : a < 18446744073709551616) (hb : b < 18446744073709551616) (w : World) : Calls Tryz.prog 32 #[.float .f64 a, .float .f64 b] w (fun e w' => ∃ s l, e = .returned (.tuple #[.float .f64 (canonD s), .float .f64 (canonD l)]) ∧ s < 18446744073709551616 ∧ l < 18446744073709551616 ∧ fv s = twoS (fv a) (fv b) ∧ fv l = quiL (fv a) (fv b) ∧ Within w w') := by
  have TW := Lib.hid (fun w => equick_any a b ha hb w)
  go_enter Tryz.func32, Tryz.ntmps32
  go_wp2_with fail
  refine (TW.out _).mono ?_; rintro e1 w1 ⟨s, l, rfl, hs, hl, vs, vl, hb1⟩
  have VS := Lib.hid vs; have VL := Lib.hid vl; clear vs vl
  go_wp2_with fail
  refine (both_any s l hs hl _).mono ?_; rintro e2 w2 ⟨rfl, hb2⟩
  go_wp2
  go_ret2
  exact ⟨s, l, rfl, hs, hl, VS.out, VL.out, (by repeat (first | with_reducible exact Within.refl _ | with_reducible assumption | with_reducible refine arW_within ?_ _ _ _ | with_reducible refine Within.alloc ?_ _ | with_reducible refine Within.drew ?_ | with_reducible refine Within.trans ?_ (by assumption)))⟩
set_option maxRecDepth 100000 in
set_option maxHeartbeats 600000 in
theorem Esplit_any (a : Nat) (ha : a < 18446744073709551616) (w : World) : Calls Tryz.prog 43 #[.float .f64 a] w (fun e w' => ∃ s l, e = .returned (.tuple #[.float .f64 (canonD s), .float .f64 (canonD l)]) ∧ s < 18446744073709551616 ∧ l < 18446744073709551616 ∧ fv s = halH (fv a) ∧ fv l = halL (fv a) ∧ Within w w') := by
  have TW := Lib.hid (fun w => esplit_any a ha w)
  go_enter Tryz.func43, Tryz.ntmps43
  go_wp2_with fail
  refine (TW.out _).mono ?_; rintro e1 w1 ⟨s, l, rfl, hs, hl, vs, vl, hb1⟩
  have VS := Lib.hid vs; have VL := Lib.hid vl; clear vs vl
  go_wp2_with fail
  refine (both_any s l hs hl _).mono ?_; rintro e2 w2 ⟨rfl, hb2⟩
  go_wp2
  go_ret2
  exact ⟨s, l, rfl, hs, hl, VS.out, VL.out, (by repeat (first | with_reducible exact Within.refl _ | with_reducible assumption | with_reducible refine arW_within ?_ _ _ _ | with_reducible refine Within.alloc ?_ _ | with_reducible refine Within.drew ?_ | with_reducible refine Within.trans ?_ (by assumption)))⟩
set_option maxRecDepth 100000 in
set_option maxHeartbeats 600000 in
theorem Eprod_any (a b : Nat) (ha : a < 18446744073709551616) (hb : b < 18446744073709551616) (w : World) : Calls Tryz.prog 57 #[.float .f64 a, .float .f64 b] w (fun e w' => ∃ s l, e = .returned (.tuple #[.float .f64 (canonD s), .float .f64 (canonD l)]) ∧ s < 18446744073709551616 ∧ l < 18446744073709551616 ∧ fv s = proP (fv a) (fv b) ∧ fv l = proE (fv a) (fv b) ∧ Within w w') := by
  have TW := Lib.hid (fun w => eprod_any a b ha hb w)
  go_enter Tryz.func57, Tryz.ntmps57
  go_wp2_with fail
  refine (TW.out _).mono ?_; rintro e1 w1 ⟨s, l, rfl, hs, hl, vs, vl, hb1⟩
  have VS := Lib.hid vs; have VL := Lib.hid vl; clear vs vl
  go_wp2_with fail
  refine (both_any s l hs hl _).mono ?_; rintro e2 w2 ⟨rfl, hb2⟩
  go_wp2
  go_ret2
  exact ⟨s, l, rfl, hs, hl, VS.out, VL.out, (by repeat (first | with_reducible exact Within.refl _ | with_reducible assumption | with_reducible refine arW_within ?_ _ _ _ | with_reducible refine Within.alloc ?_ _ | with_reducible refine Within.drew ?_ | with_reducible refine Within.trans ?_ (by assumption)))⟩
end Go.Proofs.YtjmaggfddinbkaaGreatDoor
end

section
namespace Go.Proofs.YtjmaggfddinbkaaGreatDoor
def finV : Option Nat → Bool
  | none => false
  | some x => decide (x % 9223372036854775808 < 9218868437227405312)
def nzV : Option Nat → Bool
  | none => true
  | some x => decide (x % 9223372036854775808 ≠ 0)
def finW (x : Nat) : Bool := decide (x % 9223372036854775808 < 9218868437227405312)
theorem finV_fv (x : Nat) : finV (fv x) = finW x := by
  unfold fv finW
  split
  · exact (decide_eq_false (by omega)).symm
  · rfl
theorem nzV_fv (x : Nat) : nzV (fv x) = decide (x % 9223372036854775808 ≠ 0) := by
  unfold fv
  split
  · exact (decide_eq_true (by omega)).symm
  · rfl
def layV (l : List (Option Nat)) (h : Option Nat) : List (Option Nat) := if nzV h then l ++ [h] else l
theorem layV_len (l : List (Option Nat)) (h : Option Nat) : (layV l h).length ≤ l.length + 1 := by
  unfold layV; split
  · simp
  · omega
structure Lay where
  q : Option Nat
  l : List (Option Nat)
  ov : Bool
def Lay.see (s : Lay) (a b : Option Nat) : Bool := s.ov || !finV a || !finV b
def growStep (s : Lay) (e : Option Nat) : Lay := ⟨twoS s.q e, layV s.l (twoL s.q e), s.see (twoS s.q e) (twoL s.q e)⟩
def growSt (es : List (Option Nat)) (b : Option Nat) : Lay := es.foldl growStep ⟨b, [], false⟩
def Lay.all (s : Lay) : List (Option Nat) := layV s.l s.q
def Lay.err (s : Lay) : Int := if s.ov then 5 else if 64 < s.all.length then 2 else 0
def Lay.out (s : Lay) : List (Option Nat) := if s.err = 0 then s.all else []
theorem fold_take {α β : Type} (f : α → β → α) (s : α) (l : List β) (d : β) {k : Nat} (h : k < l.length) : (l.take (k + 1)).foldl f s = f ((l.take k).foldl f s) (l.getD k d) := by
  have e : l.take (k + 1) = l.take k ++ [l.getD k d] := by
    rw [List.take_add_one, List.getD, List.getElem?_eq_getElem h]; rfl
  rw [e, List.foldl_append]; rfl
theorem growSt_len (es : List (Option Nat)) (b : Option Nat) : (growSt es b).l.length ≤ es.length := by
  have key : ∀ (es : List (Option Nat)) (s : Lay), (es.foldl growStep s).l.length ≤ s.l.length + es.length := by
    intro es
    induction es with
    | nil => intro s; exact Nat.le_refl _
    | cons e es ih =>
      intro s
      have h1 := ih (growStep s e)
      have h2 : (growStep s e).l.length ≤ s.l.length + 1 := layV_len _ _
      simp only [List.foldl_cons, List.length_cons]
      omega
  have := key es ⟨b, [], false⟩
  simpa [growSt] using this
def downStep (s : Lay) (e : Option Nat) : Lay :=
  let S := twoS s.q e
  let h := quiL s.q e
  if nzV h then ⟨h, s.l ++ [S], s.see S h⟩ else ⟨S, s.l, s.see S h⟩
def upStep (s : Lay) (g : Option Nat) : Lay := ⟨twoS g s.q, layV s.l (quiL g s.q), s.see (twoS g s.q) (quiL g s.q)⟩
end Go.Proofs.YtjmaggfddinbkaaGreatDoor
end

section
namespace Go.Proofs.YtjmaggfddinbkaaGreatDoor
open Go.RowKit
theorem finD_is {x : Nat} (h : x < 18446744073709551616) : finD x = finW x := by
  unfold finD finW classD classOf expD fracD canonD nanD
  refine decide_eq_decide.2 ?_
  by_cases hn : 9218868437227405312 < x % 9223372036854775808
  · rw [decide_eq_true hn, if_pos rfl]
    simp
    omega
  · rw [decide_eq_false hn, if_neg Bool.false_ne_true]
    split
    · omega
    split
    · omega
    split
    · omega
    split <;> omega
theorem fin_sub (x : Nat) (w : World) : (FloatKind.f64.format.order (arF .sub x x w) 0 == some .eq) = finW x := by
  unfold arF finW
  obtain ⟨h1, h2⟩ := sub_self_zero x
  by_cases hf : x % 9223372036854775808 < 9218868437227405312
  · rw [h1 hf, decide_eq_true hf]
    show (FloatKind.f64.format.order 0 0 == some .eq) = true
    decide
  · rw [h2 hf, decide_eq_false hf]
    exact c_nan (.inl (cut_nan x x _).1) _
def LayP (w : World) (p : Nat) (L : List (Option Nat)) (ov : Bool) : Prop :=
  ∃ sv ls, w.cell? ⟨p, 0, none⟩ = some sv ∧ w.cell? ⟨p, 1, none⟩ = some (.bool ov) ∧ (∀ i, w.frozen? ⟨p, i, none⟩ = false) ∧ OwnF w (p + 1) sv ls ∧ Words64 ls ∧ ls.map fv = L
theorem LayP.lt {w : World} {p : Nat} {L : List (Option Nat)} {ov : Bool} (h : LayP w p L ov) : p < w.heap.size := by
  obtain ⟨sv, ls, h0, _⟩ := h
  exact World.block_lt_of_cell? _ _ h0
theorem LayP.of {w w' : World} {p : Nat} {L : List (Option Nat)} {ov : Bool} (h : LayP w p L ov) (k : Within w w') : LayP w' p L ov := by
  have hl := h.lt
  obtain ⟨sv, ls, h0, h1, hf, ho, hw, hm⟩ := h
  exact ⟨sv, ls, (k.cells _ _ hl).trans h0, (k.cells _ _ hl).trans h1, fun i => (k.frozens _ i hl).trans (hf i), ho.of k, hw, hm⟩
theorem LayP.see {w : World} {p : Nat} {L : List (Option Nat)} {ov : Bool} (h : LayP w p L ov) (b : Bool) : LayP (w.setCell ⟨p, 1, none⟩ (.bool b)) p L b := by
  obtain ⟨sv, ls, h0, h1, hf, ho, hw, hm⟩ := h
  have hl := World.block_lt_of_cell? _ _ h0
  exact ⟨sv, ls, by go_simp, by go_simp, fun i => by go_simp, ho.set (Nat.lt_succ_self p) _, hw, hm⟩
def ResF (W : World) (L : List (Option Nat)) (er : Int) (e : Ending) (w' : World) : Prop := ∃ sv ls, e = .returned (.tuple #[sv, .int .i64 er]) ∧ OwnF w' W.heap.size sv ls ∧ Words64 ls ∧ ls.map fv = L ∧ Within W w'
theorem below_within {W w w' : World} {p : Nat} (h : Within W w) (k : Below p w w') (hp : W.heap.size ≤ p) : Within W w' := Below.trans h (Below.mono k hp)
set_option maxRecDepth 100000 in
set_option maxHeartbeats 600000 in
theorem efinite_any (x : Nat) (w : World) : Calls Tryz.prog 66 #[.float .f64 x] w fun e w' => e = .returned (.bool (finW x)) ∧ Within w w' := by
  have hsub := fun t x y w => run_ar .sub (.inl rfl) t x y Tryz.prog w
  have hf := fun w => fin_sub x w
  go_enter Tryz.func66, Tryz.ntmps66
  go_wp2
  go_ret
  exact ⟨rfl, (by repeat (first | with_reducible exact Within.refl _ | with_reducible assumption | with_reducible refine arW_within ?_ _ _ _ | with_reducible refine Within.alloc ?_ _ | with_reducible refine Within.drew ?_ | with_reducible refine Within.trans ?_ (by assumption)))⟩
set_option maxRecDepth 100000 in
set_option maxHeartbeats 600000 in
theorem see_ov (p a b : Nat) (L : List (Option Nat)) (w : World) (h : LayP w p L true) : Calls Tryz.prog 89 #[.pointer (some ⟨p, 0, none⟩), .float .f64 a, .float .f64 b] w fun e w' => e = .returned (.tuple #[.float .f64 a, .float .f64 b]) ∧ LayP w' p L (true || !finW a || !finW b) ∧ Below p w w' := by
  have hL0 := h.lt
  have hLL := Lib.hid h
  obtain ⟨sv, ls, s0, t0, u0, _⟩ := h
  have FI := Lib.hid (fun x w => efinite_any x w)
  have e : (true || !finW a || !finW b) = true := rfl
  rw [e]
  clear e
  go_enter Tryz.func89, Tryz.ntmps89
  go_wp2
  go_ret2
  exact ⟨rfl, hLL.out.see true, Below.setCell (p := ⟨p, 1, none⟩) (Below.refl _ _) (Nat.le_refl p) _⟩
set_option maxRecDepth 100000 in
set_option maxHeartbeats 600000 in
theorem see_a (p a b : Nat) (L : List (Option Nat)) (ha : finW a = false) (w : World) (h : LayP w p L false) : Calls Tryz.prog 89 #[.pointer (some ⟨p, 0, none⟩), .float .f64 a, .float .f64 b] w fun e w' => e = .returned (.tuple #[.float .f64 a, .float .f64 b]) ∧ LayP w' p L (false || !finW a || !finW b) ∧ Below p w w' := by
  have hL0 := h.lt
  have hLL := Lib.hid h
  obtain ⟨sv, ls, s0, t0, u0, _⟩ := h
  have FI := Lib.hid (fun x w => efinite_any x w)
  have e : (false || !finW a || !finW b) = true := by rw [ha]; rfl
  rw [e]
  clear e
  have HA := Lib.hid ha; clear ha
  go_enter Tryz.func89, Tryz.ntmps89
  go_wp2_with fail
  refine (FI.out a _).mono ?_; rintro e1 w1 ⟨rfl, hb1⟩
  rw [HA.out]
  have hL1 := hLL.out.of hb1
  obtain ⟨sv1, ls1, s1, t1, u1, _⟩ := hL1
  have z1 : p < w1.heap.size := Nat.lt_of_lt_of_le hL0 hb1.sizes
  have hL1 := hLL.out.of hb1
  go_wp2
  go_ret2
  exact ⟨rfl, (hL1).see true, Below.setCell (p := ⟨p, 1, none⟩) (Below.mono hb1 (Nat.le_of_lt hL0)) (Nat.le_refl p) _⟩
set_option maxRecDepth 100000 in
set_option maxHeartbeats 600000 in
theorem see_b (p a b : Nat) (L : List (Option Nat)) (ha : finW a = true) (w : World) (h : LayP w p L false) : Calls Tryz.prog 89 #[.pointer (some ⟨p, 0, none⟩), .float .f64 a, .float .f64 b] w fun e w' => e = .returned (.tuple #[.float .f64 a, .float .f64 b]) ∧ LayP w' p L (false || !finW a || !finW b) ∧ Below p w w' := by
  have hL0 := h.lt
  have hLL := Lib.hid h
  obtain ⟨sv, ls, s0, t0, u0, _⟩ := h
  have FI := Lib.hid (fun x w => efinite_any x w)
  have e : (false || !finW a || !finW b) = !finW b := by rw [ha]; rfl
  rw [e]
  clear e
  have HA := Lib.hid ha; clear ha
  go_enter Tryz.func89, Tryz.ntmps89
  go_wp2_with fail
  refine (FI.out a _).mono ?_; rintro e1 w1 ⟨rfl, hb1⟩
  rw [HA.out]
  have hL1 := hLL.out.of hb1
  obtain ⟨sv1, ls1, s1, t1, u1, _⟩ := hL1
  have z1 : p < w1.heap.size := Nat.lt_of_lt_of_le hL0 hb1.sizes
  have hL1 := hLL.out.of hb1
  go_wp2_with fail
  refine (FI.out b _).mono ?_; rintro e2 w2 ⟨rfl, hb2'⟩
  have hb2 := hb1.trans hb2'
  have hL2 := hLL.out.of hb2
  obtain ⟨sv2, ls2, s2, t2, u2, _⟩ := hL2
  have z2 : p < w2.heap.size := Nat.lt_of_lt_of_le hL0 hb2.sizes
  have hL2 := hLL.out.of hb2
  go_wp2
  go_ret2
  exact ⟨rfl, (hL2).see (!finW b), Below.setCell (p := ⟨p, 1, none⟩) (Below.mono hb2 (Nat.le_of_lt hL0)) (Nat.le_refl p) _⟩
theorem see_any (p a b : Nat) (L : List (Option Nat)) (ov : Bool) (w : World) (h : LayP w p L ov) : Calls Tryz.prog 89 #[.pointer (some ⟨p, 0, none⟩), .float .f64 a, .float .f64 b] w fun e w' => e = .returned (.tuple #[.float .f64 a, .float .f64 b]) ∧ LayP w' p L (ov || !finW a || !finW b) ∧ Below p w w' := by
  cases ov
  · cases ha : finW a
    · have := see_a p a b L ha w h
      rwa [ha] at this
    · have := see_b p a b L ha w h
      rwa [ha] at this
  · exact see_ov p a b L w h
theorem SlAt.two (w : World) (u v : Value) (E : TypeId) : SlAt (w.alloc (.cells #[u, v] E)) (some ⟨w.heap.size, 0, none⟩) [u, v] := fun _ => by
  refine ⟨_, rfl, by simp, fun j x hj => ?_⟩
  match j, hj with
  | 0, hj =>
    have e : u = x := by simpa using hj
    subst e
    rw [add_nought, World.cell?_alloc_at _ _ _ _ rfl]; rfl
  | 1, hj =>
    have e : v = x := by simpa using hj
    subst e
    rw [show (Addr.add ⟨w.heap.size, 0, none⟩ 1) = ⟨w.heap.size, 1, none⟩ from rfl, World.cell?_alloc_at _ _ _ _ rfl]; rfl
  | j + 2, hj => simp at hj
set_option maxRecDepth 100000 in
set_option maxHeartbeats 600000 in
theorem elay_no (p x : Nat) (L : List (Option Nat)) (ov : Bool) (hx : x % 9223372036854775808 = 0) (w : World) (h : LayP w p L ov) : Calls Tryz.prog 91 #[.pointer (some ⟨p, 0, none⟩), .float .f64 x] w fun e w' => e = .returned (.tuple #[]) ∧ LayP w' p (layV L (fv x)) ov ∧ Below p w w' := by
  have hz : (FloatKind.f64.format.order x 0 == some .eq) = true := by rw [c_zero, decide_eq_true hx]
  have hne : (FloatKind.f64.format.order x 0 != some .eq) = false := by simp [bne, hz]
  have hl : layV L (fv x) = L := by unfold layV; rw [nzV_fv, decide_eq_false (fun g => g hx)]; rfl
  rw [hl]
  clear hx hl
  have hLL := Lib.hid h; clear h
  go_enter Tryz.func91, Tryz.ntmps91
  go_wp2
  go_end0
  exact ⟨rfl, hLL.out, Below.refl _ _⟩
set_option maxRecDepth 100000 in
set_option maxHeartbeats 600000 in
theorem elay_yes (p x : Nat) (L : List (Option Nat)) (ov : Bool) (hx : ¬ x % 9223372036854775808 = 0) (hx2 : x < 18446744073709551616) (hn : L.length ≤ 1000000) (w : World) (h : LayP w p L ov) : Calls Tryz.prog 91 #[.pointer (some ⟨p, 0, none⟩), .float .f64 x] w fun e w' => e = .returned (.tuple #[]) ∧ LayP w' p (layV L (fv x)) ov ∧ Below p w w' := by
  have hz : (FloatKind.f64.format.order x 0 == some .eq) = false := by rw [c_zero, decide_eq_false hx]
  have hne : (FloatKind.f64.format.order x 0 != some .eq) = true := by simp [bne, hz]
  have hl : layV L (fv x) = L ++ [fv x] := by unfold layV; rw [nzV_fv, decide_eq_true hx]; rfl
  rw [hl]
  clear hx hl
  have hL0 := h.lt
  obtain ⟨sv, ls, s0, t0, u0, hown, hw, hm⟩ := h
  obtain ⟨A, c, rfl, _, _, _⟩ := hown.form
  have hlen : ls.length = L.length := by rw [← hm, List.length_map]
  obtain ⟨v', w', hrun, hown', hbl'⟩ := run_app_float w (p + 1) _ _ x hown (by omega) hL0
  obtain ⟨A2, c2, rfl, _, _, _⟩ := hown'.form
  have RUN := Lib.hid hrun; have HOW := Lib.hid hown'
  obtain ⟨n2, hn2⟩ : ∃ n2, n2 = (ls ++ [x]).length := ⟨_, rfl⟩
  rw [← hn2] at RUN HOW
  clear hn2
  have HW := Lib.hid hw; have HM := Lib.hid hm
  clear hrun hown' hown hw hm hlen hn
  have s1 : w'.cell? ⟨p, 1, none⟩ = some (.bool ov) := (hbl'.cell (p := ⟨p, 1, none⟩) (Nat.lt_succ_self p)).trans t0
  have s2 : ∀ i, w'.frozen? ⟨p, i, none⟩ = false := fun i => (hbl'.frozen (p := ⟨p, i, none⟩) (Nat.lt_succ_self p)).trans (u0 i)
  have s3 : w'.cell? ⟨p, 0, none⟩ = some (.slice A ls.length c) := (hbl'.cell (p := ⟨p, 0, none⟩) (Nat.lt_succ_self p)).trans s0
  have s4 : p < w'.heap.size := World.block_lt_of_cell? _ _ s3
  obtain ⟨n, hn⟩ : ∃ n, n = ls.length := ⟨_, rfl⟩
  rw [← hn] at s0 s3 RUN
  clear hn
  go_enter Tryz.func91, Tryz.ntmps91
  go_wp2_with (at_builtin; refine wpList_append_run rfl (.tmp 10) (.tmp 12) 24 rfl _ _ rfl rfl RUN.out ?_)
  go_end0
  exact ⟨rfl, ⟨_, ls ++ [x], by go_simp, by go_simp, fun i => by go_simp, (HOW.out).set (Nat.lt_succ_self p) _, (fun y hy => by rcases List.mem_append.1 hy with hy | hy; exact HW.out y hy; rcases List.mem_singleton.1 hy with rfl; exact hx2), by rw [List.map_append, HM.out]; rfl⟩, Below.setCell (p := ⟨p, 0, none⟩) (Below.mono hbl' (Nat.le_succ p)) (Nat.le_refl p) _⟩
theorem elay_any (p x : Nat) (L : List (Option Nat)) (ov : Bool) (hx : x < 18446744073709551616) (hn : L.length ≤ 1000000) (w : World) (h : LayP w p L ov) : Calls Tryz.prog 91 #[.pointer (some ⟨p, 0, none⟩), .float .f64 x] w fun e w' => e = .returned (.tuple #[]) ∧ LayP w' p (layV L (fv x)) ov ∧ Below p w w' := by
  by_cases h0 : x % 9223372036854775808 = 0
  · exact elay_no p x L ov h0 w h
  · exact elay_yes p x L ov h0 hx hn w h
def endE (L : List (Option Nat)) (ov : Bool) : Int := if ov then 5 else if 64 < L.length then 2 else 0
set_option maxRecDepth 100000 in
set_option maxHeartbeats 600000 in
theorem eend_ov (p : Nat) (L : List (Option Nat)) (w : World) (h : LayP w p L true) : Calls Tryz.prog 92 #[.pointer (some ⟨p, 0, none⟩)] w fun e w' => (∃ sv ls, e = .returned (.tuple #[sv, .int .i64 5]) ∧ OwnF w' (p + 1) sv ls ∧ Words64 ls ∧ ls.map fv = []) ∧ w = w' := by
  obtain ⟨sv, ls, s0, t0, u0, _⟩ := h
  go_enter Tryz.func92, Tryz.ntmps92
  go_wp2
  go_ret2
  exact ⟨⟨_, [], rfl, OwnF.nil_ _ _, (fun x hx => by cases hx), rfl⟩, rfl⟩
set_option maxRecDepth 100000 in
set_option maxHeartbeats 600000 in
theorem eend_long (p : Nat) (L : List (Option Nat)) (hn : 64 < L.length) (w : World) (h : LayP w p L false) : Calls Tryz.prog 92 #[.pointer (some ⟨p, 0, none⟩)] w fun e w' => (∃ sv ls, e = .returned (.tuple #[sv, .int .i64 2]) ∧ OwnF w' (p + 1) sv ls ∧ Words64 ls ∧ ls.map fv = []) ∧ w = w' := by
  obtain ⟨sv, ls, s0, t0, u0, hown, hw, hm⟩ := h
  obtain ⟨A, c, rfl, _, _, _⟩ := hown.form
  have hlen : ls.length = L.length := by rw [← hm, List.length_map]
  obtain ⟨n, hn2⟩ : ∃ n, n = ls.length := ⟨_, rfl⟩
  rw [← hn2] at s0
  have d1 : decide ((n : Int) > 64) = true := decide_eq_true (by omega)
  clear hown hw hm hlen hn hn2
  go_enter Tryz.func92, Tryz.ntmps92
  go_wp2
  go_ret2
  exact ⟨⟨_, [], rfl, OwnF.nil_ _ _, (fun x hx => by cases hx), rfl⟩, rfl⟩
set_option maxRecDepth 100000 in
set_option maxHeartbeats 600000 in
theorem eend_fine (p : Nat) (L : List (Option Nat)) (hn : L.length ≤ 64) (w : World) (h : LayP w p L false) : Calls Tryz.prog 92 #[.pointer (some ⟨p, 0, none⟩)] w fun e w' => (∃ sv ls, e = .returned (.tuple #[sv, .int .i64 0]) ∧ OwnF w' (p + 1) sv ls ∧ Words64 ls ∧ ls.map fv = L) ∧ w = w' := by
  obtain ⟨sv, ls, s0, t0, u0, hown, hw, hm⟩ := h
  obtain ⟨A, c, rfl, _, _, _⟩ := hown.form
  have hlen : ls.length = L.length := by rw [← hm, List.length_map]
  have HO := Lib.hid hown; have HW := Lib.hid hw; have HM := Lib.hid hm
  obtain ⟨n, hn2⟩ : ∃ n, n = ls.length := ⟨_, rfl⟩
  rw [← hn2] at s0 HO
  have d1 : decide ((n : Int) > 64) = false := decide_eq_false (by omega)
  clear hown hw hm hlen hn hn2
  go_enter Tryz.func92, Tryz.ntmps92
  go_wp2
  go_ret2
  exact ⟨⟨_, ls, rfl, HO.out, HW.out, HM.out⟩, rfl⟩
theorem eend_any (p : Nat) (L : List (Option Nat)) (ov : Bool) (w : World) (h : LayP w p L ov) : Calls Tryz.prog 92 #[.pointer (some ⟨p, 0, none⟩)] w fun e w' => (∃ sv ls, e = .returned (.tuple #[sv, .int .i64 (endE L ov)]) ∧ OwnF w' (p + 1) sv ls ∧ Words64 ls ∧ ls.map fv = (if endE L ov = 0 then L else [])) ∧ w = w' := by
  unfold endE
  cases ov
  · rw [if_neg Bool.false_ne_true]
    by_cases hn : 64 < L.length
    · rw [if_pos hn, if_neg (by decide)]; exact eend_long p L hn w h
    · rw [if_neg hn, if_pos rfl]; exact eend_fine p L (by omega) w h
  · rw [if_pos rfl, if_neg (by decide)]; exact eend_ov p L w h
end Go.Proofs.YtjmaggfddinbkaaGreatDoor
end

section
namespace Go.Proofs.YtjmaggfddinbkaaGreatDoor
open Go.RowKit
theorem LayP.made (w : World) (T : TypeId) : LayP (w.alloc (.cells #[.slice none 0 0, .bool false] T)) w.heap.size [] false := by
  refine ⟨.slice none 0 0, [], ?_, ?_, fun i => ?_, OwnF.nil_ _ _, (fun x hx => by cases hx), rfl⟩
  · rw [World.cell?_alloc_at _ _ _ _ rfl]; rfl
  · rw [World.cell?_alloc_at _ _ _ _ rfl]; rfl
  · simp
def gs (es : List Nat) (b k : Nat) : Lay := ((es.map fv).take k).foldl growStep ⟨fv b, [], false⟩
theorem gs_zero (es : List Nat) (b : Nat) : gs es b 0 = ⟨fv b, [], false⟩ := by unfold gs; rw [List.take_zero]; rfl
theorem gs_all (es : List Nat) (b : Nat) : gs es b es.length = growSt (es.map fv) (fv b) := by
  unfold gs growSt
  rw [List.take_of_length_le (by rw [List.length_map]; exact Nat.le_refl _)]
theorem getD_fv (es : List Nat) {k : Nat} (h : k < es.length) : (es.map fv).getD k none = fv (es.getD k 0) := by
  simp [List.getD, h]
theorem gs_succ (es : List Nat) (b : Nat) {k : Nat} (h : k < es.length) : gs es b (k + 1) = growStep (gs es b k) (fv (es.getD k 0)) := by
  unfold gs
  rw [fold_take growStep _ (es.map fv) none (by rw [List.length_map]; exact h), getD_fv es h]
theorem gs_len (es : List Nat) (b k : Nat) : (gs es b k).l.length ≤ es.length := by
  have := growSt_len ((es.map fv).take k) (fv b)
  have h2 : ((es.map fv).take k).length ≤ es.length := by rw [List.length_take, List.length_map]; exact Nat.min_le_right _ _
  exact Nat.le_trans this h2
set_option maxRecDepth 100000 in
set_option maxHeartbeats 600000 in
theorem egrow_any (A : Option Addr) (c : Nat) (es : List Nat) (b : Nat) (hw : Words64 es) (hl : es.length ≤ 100000) (hb : b < 18446744073709551616) (w : World) (hr : SlAt w A (f64v es)) : Calls Tryz.prog 67 #[.slice A es.length c, .float .f64 b] w (ResF w (growSt (es.map fv) (fv b)).out (growSt (es.map fv) (fv b)).err) := by
  have HW := Lib.hid hw; have HR := Lib.hid hr; have HL := Lib.hid hl; have HB := Lib.hid hb; have hl2 : es.length ≤ 1152921504606846976 := by omega
  clear hw hr hl hb
  have LAY0 := LayP.made w 94
  go_enter Tryz.func67, Tryz.ntmps67
  go_wp2
  go_loopw [7, 15] (fun qv iv wr => ∃ k q : Nat, k ≤ es.length ∧ iv = .int .i64 (k : Int) ∧ qv = .float .f64 q ∧ q < 18446744073709551616 ∧ fv q = (gs es b k).q ∧ LayP wr w.heap.size (gs es b k).l (gs es b k).ov ∧ Within w wr) (fun _ iv _ => es.length - (intOf iv).toNat)
  case atStart => exact ⟨0, b, Nat.zero_le _, rfl, rfl, HB.out, by rw [gs_zero], by rw [gs_zero]; exact LAY0, (by repeat (first | with_reducible exact Within.refl _ | with_reducible assumption | with_reducible refine arW_within ?_ _ _ _ | with_reducible refine Within.alloc ?_ _ | with_reducible refine Within.drew ?_ | with_reducible refine Within.trans ?_ (by assumption)))⟩
  case round =>
    obtain ⟨k, q, hk, rfl, rfl, hq, vq, hL, hin⟩ := hrel
    have HQ := Lib.hid hq; have VQ := Lib.hid vq; have LL := Lib.hid hL; clear hq vq hL
    by_cases hlt : k < es.length
    · obtain ⟨ad, rfl, hblk, hc⟩ := (HR.out.of hin).at hlt
      obtain ⟨x, hx⟩ : ∃ x, x = es.getD k 0 := ⟨_, rfl⟩
      have hx2 : x < 18446744073709551616 := by rw [hx]; exact HW.out.at hlt
      rw [← hx] at hc
      have HX2 := Lib.hid hx2; clear hx2
      have hnext := gs_succ es b hlt
      rw [← hx] at hnext
      have HN := Lib.hid hnext; clear hnext hx
      have TW := Lib.hid (fun w => etwo_any q x HQ.out HX2.out w)
      have hlen := Nat.le_trans (gs_len es b k) HL.out
      have HLEN := Lib.hid hlen; clear hlen
      go_wp2_with fail
      refine (TW.out _).mono ?_; rintro e1 w1 ⟨s, l, rfl, hs, hl', vs, vl, hb1⟩
      have HS := Lib.hid hs; have HL2 := Lib.hid hl'; have VS := Lib.hid vs; have VL := Lib.hid vl; clear hs hl' vs vl
      have L1 := Lib.hid (LL.out.of hb1)
      go_wp2_with fail
      refine (see_any _ s l _ _ _ L1.out).mono ?_; rintro e2 w2 ⟨rfl, hL2, hb2⟩
      have L2 := Lib.hid hL2; clear hL2
      go_wp2_with fail
      refine (elay_any _ l _ _ HL2.out (Nat.le_trans HLEN.out (by decide)) _ L2.out).mono ?_; rintro e3 w3 ⟨rfl, hL3, hb3⟩
      have hin3 : Within w w3 := below_within (below_within (hin.trans hb1) hb2 (Nat.le_refl _)) hb3 (Nat.le_refl _)
      have L3 := Lib.hid hL3; clear hL3 hb1 hb2 hb3
      go_wp2
      go_roundw
      case rel =>
        refine ⟨k + 1, s, hlt, by go_num, rfl, HS.out, ?_, ?_, hin3⟩
        · rw [HN.out, VS.out, VQ.out]; rfl
        · rw [HN.out]
          have h := L3.out
          rw [VL.out, VQ.out] at h
          have e : ((gs es b k).ov || !finW s || !finW l) = (gs es b k).see (twoS (gs es b k).q (fv x)) (twoL (gs es b k).q (fv x)) := by
            unfold Lay.see; rw [← VQ.out, ← VS.out, ← VL.out, finV_fv, finV_fv]
          rw [e] at h
          exact h
      case measure => simp [intOf]; omega
    · obtain rfl : k = es.length := by omega
      have vq2 := VQ.out
      rw [gs_all] at vq2
      have l0 := LL.out
      rw [gs_all] at l0
      have VQ2 := Lib.hid vq2; have LL2 := Lib.hid l0; clear vq2 l0
      have hlen : (growSt (es.map fv) (fv b)).l.length ≤ 1000000 := Nat.le_trans (growSt_len _ _) (by rw [List.length_map]; exact Nat.le_trans HL.out (by decide))
      have HLEN := Lib.hid hlen; clear hlen
      go_wp2_with fail
      refine (elay_any _ q _ _ HQ.out HLEN.out _ LL2.out).mono ?_; rintro e3 w3 ⟨rfl, hL3, hb3⟩
      rw [VQ2.out] at hL3
      have hin3 : Within w w3 := below_within hin hb3 (Nat.le_refl _)
      have L3 := Lib.hid hL3; clear hL3 hb3
      go_wp2_with fail
      refine (eend_any _ _ _ _ L3.out).mono ?_; rintro e4 w4 ⟨⟨sv, ls, rfl, hown, hw', hm⟩, rfl⟩
      have HO := Lib.hid hown; have HM := Lib.hid hm; have HWW := Lib.hid hw'; clear hown hm hw'
      go_wp2
      go_ret2
      exact ⟨_, ls, rfl, HO.out.less (Nat.le_succ _), HWW.out, HM.out, hin3⟩
end Go.Proofs.YtjmaggfddinbkaaGreatDoor
end

section
namespace Go.Proofs.YtjmaggfddinbkaaGreatDoor
open Go.RowKit
/-! amounts by their parts -/
theorem fin_canon {b : Nat} (h : b % 9223372036854775808 < 9218868437227405312) : canonD b = b := by
  unfold canonD
  rw [if_neg]
  unfold nanD
  simp; omega
theorem fin_exp {b : Nat} (h : b % 9223372036854775808 < 9218868437227405312) : expD b = b % 9223372036854775808 / 4503599627370496 ∧ fracD b = b % 4503599627370496 ∧ expD b < 2047 := by
  unfold expD fracD
  rw [fin_canon h]
  omega
theorem mag_parts {b : Nat} (h : b % 9223372036854775808 < 9218868437227405312) : Fp.mag Ieee.double (b % 9223372036854775808) = mantD b * 2 ^ (lowD b + 1074).toNat := by
  obtain ⟨h1, h2, h3⟩ := fin_exp h
  unfold Fp.mag mantD lowD
  rw [Fp.dB, h2, h1]
  by_cases h0 : b % 9223372036854775808 < 4503599627370496
  · rw [if_pos h0, if_pos (by omega), if_pos (by omega), show (((1 : Nat) : Int) - 1075 + 1074).toNat = 0 from rfl, Nat.pow_zero, Nat.mul_one]
    omega
  · rw [if_neg h0, if_neg (by omega), if_neg (by omega), show (((b % 9223372036854775808 / 4503599627370496 : Nat) : Int) - 1075 + 1074).toNat = b % 9223372036854775808 / 4503599627370496 - 1 by omega]
    congr 1
    omega
theorem lowD_ge (b : Nat) : -1074 ≤ lowD b := by unfold lowD; split <;> omega
theorem mag_odd {b : Nat} (h : b % 9223372036854775808 < 9218868437227405312) : Fp.mag Ieee.double (b % 9223372036854775808) = pMantD b * 2 ^ (pExpD b + 1074).toNat := by
  rw [mag_parts h]
  obtain ⟨_, _, h3⟩ := fin_exp h
  unfold pMantD pExpD
  rw [if_neg (by omega)]
  by_cases h0 : mantD b = 0
  · rw [if_pos (.inr h0), h0, Nat.zero_mul, Nat.zero_div, Nat.zero_mul]
  · rw [if_neg (by omega)]
    obtain ⟨m, e1, e2, e3⟩ := odd_split h0 (by have := mantD_lt b; omega)
    have hl := lowD_ge b
    generalize Lib.ctz 64 (mantD b) = k at *
    rw [show (lowD b + (k : Int) + 1074).toNat = k + (lowD b + 1074).toNat by omega, Nat.pow_add, ← Nat.mul_assoc]
    congr 1
    rw [e2, Nat.mul_div_cancel_left _ (Nat.two_pow_pos k), Nat.mul_comm]
theorem sg_is {b : Nat} (hb : b < 18446744073709551616) : Fp.sg Ieee.double b = decide (9223372036854775808 ≤ b) := by
  unfold Fp.sg
  rw [show Ieee.double.signWeight = 9223372036854775808 by decide +kernel]
  exact decide_eq_decide.2 (by omega)
theorem whole_un {b : Nat} (hb : b < 18446744073709551616) (h : b % 9223372036854775808 < 9218868437227405312) : P64.wholeI b = Fp.un Ieee.double b := by
  obtain ⟨_, _, h3⟩ := fin_exp h
  have hn0 : pNegD b = decide (9223372036854775808 ≤ b) := by
    unfold pNegD negD
    rw [if_neg (by omega), fin_canon h]
  unfold P64.wholeI Fp.un P64.sgv
  rw [hn0, Fp.rg64, mag_odd h]
  have hs := sg_is hb
  rw [hs]
  by_cases hn : 9223372036854775808 ≤ b
  · rw [if_pos (decide_eq_true hn), if_pos (decide_eq_true hn), Int.neg_mul]; simp
  · rw [if_neg (by simpa using hn), if_neg (by simpa using hn)]; simp
theorem top_le {p : Int} (h : 1023 < p) : Fp.dtop ≤ (p + 1074).toNat := by
  have : Fp.dtop = 2098 := rfl
  omega
theorem pExp_hi {b : Nat} (h : b % 9223372036854775808 < 9218868437227405312) : pExpD b ≤ 1023 := by
  by_cases h0 : pMantD b = 0
  · have : pExpD b = 0 := by
      obtain ⟨_, _, h3⟩ := fin_exp h
      unfold pMantD at h0
      rw [if_neg (by omega)] at h0
      unfold pExpD
      by_cases hm : mantD b = 0
      · rw [if_pos (.inr hm)]
      · obtain ⟨m, e1, e2, e3⟩ := odd_split hm (by have := mantD_lt b; omega)
        unfold oddM at e1; omega
    omega
  · have h1 := mag_odd h
    have h2 : Fp.mag Ieee.double (b % 9223372036854775808) < Fp.mag Ieee.double 9218868437227405312 := (Fp.mag_lt_iff Ieee.double).2 h
    have h3 : Fp.mag Ieee.double 9218868437227405312 = 2 ^ Fp.dtop := by
      have := Fp.mag_infD
      rw [Fp.dI] at this
      exact this
    rcases Int.lt_or_le 1023 (pExpD b) with hc | hc
    · exfalso
      have h4 : 2 ^ Fp.dtop ≤ 2 ^ (pExpD b + 1074).toNat := Nat.pow_le_pow_right (by decide) (top_le hc)
      have h5 : 2 ^ (pExpD b + 1074).toNat ≤ pMantD b * 2 ^ (pExpD b + 1074).toNat := Nat.le_mul_of_pos_left _ (Nat.pos_of_ne_zero h0)
      rw [h1, h3] at h2
      exact absurd (Nat.lt_of_lt_of_le h2 (Nat.le_trans h4 h5)) (Nat.lt_irrefl _)
    · exact hc
end Go.Proofs.YtjmaggfddinbkaaGreatDoor
end

section
namespace Go.Proofs.YtjmaggfddinbkaaGreatDoor
open Go.RowKit
theorem odd_one : oddM 1 = 1 := by decide
theorem ctz_one : Lib.ctz 64 1 = 0 := by decide
theorem bitLen_one : Lib.bitLen 1 = 1 := by decide
theorem down_one (e : Int) : downD 1 e = min 52 (e + 1074).toNat := by
  unfold downD oddE
  rw [odd_one, ctz_one, bitLen_one]
  omega
theorem bad_one {e : Int} (h1 : -1074 ≤ e) (h2 : e ≤ 1023) : badD 1 e = false := by
  unfold badD oddE
  rw [odd_one, ctz_one, bitLen_one, decide_eq_false (by omega), decide_eq_false (by omega), decide_eq_false (by omega), decide_eq_false (by omega)]; rfl
theorem pow52 : (2 : Nat) ^ 52 = 4503599627370496 := by decide
theorem join_low {t : Nat} (h : t < 4503599627370496) : joinD false 0 t = t := by
  unfold joinD bitsOfD
  rw [if_neg (by omega), if_neg Bool.false_ne_true, show (0 : Int).toNat * 4503599627370496 + t + 0 = t by simp, fin_canon (by omega)]
theorem join_high {n : Nat} (h : n ≤ 2046) : joinD false (n : Int) 0 = n * 4503599627370496 := by
  unfold joinD bitsOfD
  rw [if_neg (by omega), if_neg Bool.false_ne_true, Int.toNat_natCast, Nat.add_zero, fin_canon (by omega)]
theorem last_is {e : Int} (h1 : -1074 ≤ e) (h2 : e ≤ 1023) : madeD false 1 e < 9218868437227405312 ∧ Fp.mag Ieee.double (madeD false 1 e) = 2 ^ (e + 1074).toNat := by
  unfold madeD fieldD topD
  rw [if_neg (by decide), bad_one h1 h2, if_neg Bool.false_ne_true, odd_one, down_one, Nat.one_mul]
  rcases Nat.lt_or_ge (e + 1074).toNat 52 with hk | hk
  · rw [Nat.min_eq_right (Nat.le_of_lt hk)]
    have ht : 2 ^ (e + 1074).toNat < 4503599627370496 := by rw [← pow52]; exact Nat.pow_lt_pow_right (by decide) hk
    generalize 2 ^ (e + 1074).toNat = t at *
    rw [if_pos ht, if_neg (by omega), Nat.mod_eq_of_lt ht, join_low ht]
    exact ⟨by omega, by rw [Fp.mag_lt _ _ (by rw [Fp.dB]; exact ht)]⟩
  · rw [Nat.min_eq_left hk, pow52, if_neg (Nat.lt_irrefl 4503599627370496), show oddE 1 e - ((52 : Nat) : Int) + 1075 = (((e + 1074).toNat - 51 : Nat) : Int) by unfold oddE; rw [ctz_one]; omega]
    generalize hK : (e + 1074).toNat = K at *
    rw [if_neg (by omega), join_high (by omega)]
    refine ⟨by omega, ?_⟩
    unfold Fp.mag
    rw [Fp.dB, if_neg (by omega), Nat.mul_mod_left, Nat.add_zero, Nat.mul_div_cancel _ (by decide), ← pow52, ← Nat.pow_add, show 52 + (K - 51 - 1) = K by omega]
theorem un_pos {r : Nat} (h : r < 9223372036854775808) : Fp.un Ieee.double r = Fp.mag Ieee.double r := by
  unfold Fp.un
  rw [sg_is (by omega), decide_eq_false (by omega), if_neg Bool.false_ne_true, Fp.rg64, Nat.mod_eq_of_lt h]
def lowB (a b : Nat) : Bool := decide ((Fp.un Ieee.double a).natAbs < 2 ^ (pExpD b + 1074).toNat)
def absB (x : Nat) : Nat := if Fp.un Ieee.double x < 0 then x - 9223372036854775808 else x
theorem sub63 {x : Nat} (h : 9223372036854775808 ≤ x) (hx : x < 18446744073709551616) (hf : x % 9223372036854775808 < 9218868437227405312) : x - 9223372036854775808 < 9223372036854775808 ∧ (x - 9223372036854775808) % 9223372036854775808 < 9218868437227405312 ∧ x - 9223372036854775808 = x % 9223372036854775808 := by omega
theorem absB_is {x : Nat} (hx : x < 18446744073709551616) (h : x % 9223372036854775808 < 9218868437227405312) : absB x < 18446744073709551616 ∧ absB x % 9223372036854775808 < 9218868437227405312 ∧ Fp.un Ieee.double (absB x) = (Fp.un Ieee.double x).natAbs := by
  unfold absB
  by_cases h0 : Fp.un Ieee.double x < 0
  · rw [if_pos h0]
    have hs := un_sign (x := x) (by omega)
    rw [decide_eq_true h0] at hs
    rw [sg_is hx] at hs
    have hge := of_decide_eq_true hs
    obtain ⟨k1, k2, k3⟩ := sub63 hge hx h
    refine ⟨Nat.lt_trans k1 (by decide), k2, ?_⟩
    rw [un_pos k1, un_abs, Fp.rg64, k3]
  · rw [if_neg h0]
    exact ⟨hx, h, (Int.natAbs_of_nonneg (Int.not_lt.1 h0)).symm⟩
theorem geq_low {a b : Nat} (ha : a < 18446744073709551616) (fa : a % 9223372036854775808 < 9218868437227405312) (fb : b % 9223372036854775808 < 9218868437227405312) :
    (FloatKind.f64.format.order (absB a) (madeD false 1 (pExpD b)) == some .gt || FloatKind.f64.format.order (absB a) (madeD false 1 (pExpD b)) == some .eq) = !lowB a b := by
  obtain ⟨h1, h2⟩ := last_is (P64.pExpD_range b).1 (pExp_hi fb)
  obtain ⟨_, k2, k3⟩ := absB_is ha fa
  rw [c_ge (by omega) (by rw [Nat.mod_eq_of_lt (by omega)]; omega), k3, un_pos (by omega), h2]
  unfold lowB
  generalize 2 ^ (pExpD b + 1074).toNat = P
  by_cases h : (Fp.un Ieee.double a).natAbs < P
  · rw [decide_eq_true h, decide_eq_false (by omega)]; rfl
  · rw [decide_eq_false h, decide_eq_true (by omega)]; rfl
theorem neg_flip {a : Nat} (ha : a < 9223372036854775808) : a ^^^ 2 ^ 63 = a + 9223372036854775808 := by
  have := Nat.two_pow_add_eq_or_of_lt (i := 63) (b := a) ha 1
  rw [Nat.mul_one] at this
  rw [show a + 9223372036854775808 = 2 ^ 63 + a by omega, this, Nat.xor_comm]
  apply Nat.eq_of_testBit_eq
  intro i
  rw [Nat.testBit_xor, Nat.testBit_or, Nat.testBit_two_pow]
  by_cases hi : 63 = i
  · subst hi
    rw [Nat.testBit_lt_two_pow ha]; simp
  · simp [hi]
theorem neg_float {x : Nat} (h : 9223372036854775808 ≤ x) (hx : x < 18446744073709551616) : Go.Op.negFloat .f64 x = x - 9223372036854775808 := by
  have g := neg_flip (a := x - 9223372036854775808) (by omega)
  rw [show x - 9223372036854775808 + 9223372036854775808 = x by omega] at g
  show x ^^^ 2 ^ 63 = _
  conv => lhs; rw [← g]
  rw [Nat.xor_assoc, Nat.xor_self, Nat.xor_zero]
theorem un_neg_ge {x : Nat} (hx : x < 18446744073709551616) (h0 : Fp.un Ieee.double x < 0) : 9223372036854775808 ≤ x := by
  have hs := un_sign (x := x) (by omega)
  rw [decide_eq_true h0, sg_is hx] at hs
  exact of_decide_eq_true hs
set_option maxHeartbeats 600000 in
theorem Eabs (x : Nat) (hx : x < 18446744073709551616) (h : x % 9223372036854775808 < 9218868437227405312) (w : World) : Calls Tryz.prog 74 #[.float .f64 x] w fun e w' => e = .returned (.float .f64 (absB x)) ∧ w = w' := by
  have h0 := c_lt (x := x) (y := 0) (by omega) (by decide)
  rw [show Fp.un Ieee.double 0 = 0 by rw [un_pos (by decide), Fp.mag_zero]; rfl] at h0
  unfold absB
  by_cases hn : Fp.un Ieee.double x < 0
  · rw [decide_eq_true hn] at h0
    rw [if_pos hn]
    have hf := neg_float (un_neg_ge hx hn) hx
    clear hn
    go_enter Tryz.func74, Tryz.ntmps74
    go_wp2
    go_ret
    exact ⟨by rw [← hf]; rfl, rfl⟩
  · rw [decide_eq_false hn] at h0
    rw [if_neg hn]
    clear hn
    go_enter Tryz.func74, Tryz.ntmps74
    go_wp2
    go_ret
    exact ⟨rfl, rfl⟩
set_option maxRecDepth 100000 in
set_option maxHeartbeats 600000 in
theorem Elast (b : Nat) (hb : b < 18446744073709551616) (w : World) (hT : Tab w) : Calls Tryz.prog 75 #[.float .f64 b] w fun e w' => e = .returned (.float .f64 (madeD false 1 (pExpD b))) ∧ Within w w' := by
  have HB := Lib.hid hb; have HT := Lib.hid hT; clear hb hT
  have CO := Lib.hid (fun w hT => Of_D false 1 (pExpD b) (by decide) w hT)
  have CP := Lib.hid (Parts_D b HB.out w HT.out)
  obtain ⟨e, he⟩ : ∃ e, e = pExpD b := ⟨_, rfl⟩
  rw [← he] at CO CP ⊢
  obtain ⟨r, hr⟩ : ∃ r, r = madeD false 1 e := ⟨_, rfl⟩
  obtain ⟨er, her⟩ : ∃ er, er = madeED 1 e := ⟨_, rfl⟩
  rw [← hr, ← her] at CO
  rw [← hr]
  clear hr her he
  go_enter Tryz.func75, Tryz.ntmps75
  go_wp2_with fail
  refine CP.out.mono ?_; rintro e1 w1 ⟨rfl, hb1⟩
  go_wp2_with fail
  refine (CO.out _ (HT.out.of (hb1.alloc _))).mono ?_; rintro e2 w2 ⟨rfl, hb2⟩
  go_wp2
  go_ret
  exact ⟨rfl, (hb1.alloc _).trans hb2⟩
end Go.Proofs.YtjmaggfddinbkaaGreatDoor
end

section
namespace Go.Proofs.YtjmaggfddinbkaaGreatDoor
def FzL : List (Option Nat) → List Int → Prop
  | [], [] => True
  | v :: vs, z :: zs => Fz v z ∧ FzL vs zs
  | _, _ => False
theorem FzL.length : ∀ {vs : List (Option Nat)} {zs : List Int}, FzL vs zs → vs.length = zs.length
  | [], [], _ => rfl
  | _ :: _, _ :: _, h => by simp [h.2.length]
  | [], _ :: _, h => h.elim
  | _ :: _, [], h => h.elim
theorem FzL.append : ∀ {vs : List (Option Nat)} {zs : List Int} {us : List (Option Nat)} {ys : List Int}, FzL vs zs → FzL us ys → FzL (vs ++ us) (zs ++ ys)
  | [], [], _, _, _, g => g
  | _ :: _, _ :: _, _, _, h, g => ⟨h.1, h.2.append g⟩
  | [], _ :: _, _, _, h, _ => h.elim
  | _ :: _, [], _, _, h, _ => h.elim
theorem FzL.one {v : Option Nat} {z : Int} (h : Fz v z) : FzL [v] [z] := ⟨h, trivial⟩
theorem FzL.reverse : ∀ {vs : List (Option Nat)} {zs : List Int}, FzL vs zs → FzL vs.reverse zs.reverse
  | [], [], _ => trivial
  | v :: vs, z :: zs, h => by
    rw [List.reverse_cons, List.reverse_cons]
    exact h.2.reverse.append (FzL.one h.1)
  | [], _ :: _, h => h.elim
  | _ :: _, [], h => h.elim
theorem fz_some {v : Option Nat} (h : finV v = true) : ∃ z, Fz v z := by
  cases v with
  | none => cases h
  | some x => exact ⟨_, x, rfl, of_decide_eq_true h, rfl⟩
theorem Fz.fin {v : Option Nat} {z : Int} (h : Fz v z) : finV v = true := by
  obtain ⟨x, rfl, hx, _⟩ := h
  exact decide_eq_true hx
theorem un_zero {x : Nat} : Fp.un Ieee.double x = 0 ↔ x % 9223372036854775808 = 0 := by
  have h : (Fp.un Ieee.double x).natAbs = Fp.mag Ieee.double (x % 9223372036854775808) := by rw [un_abs, Fp.rg64]
  constructor
  · intro h0
    rw [h0] at h
    have : Fp.mag Ieee.double 0 = Fp.mag Ieee.double (x % 9223372036854775808) := by rw [Fp.mag_zero]; exact h
    exact ((Fp.mag_inj Ieee.double).1 this).symm
  · intro h0
    rw [h0, Fp.mag_zero] at h
    omega
end Go.Proofs.YtjmaggfddinbkaaGreatDoor
end

section
namespace Go.Proofs.YtjmaggfddinbkaaGreatDoor.Fp
open Ieee
open Ieee
variable (f : Format)
theorem signed_prod (s t : Bool) (m n : Nat) : (if (s ^^ t) then -((m * n : Nat) : Int) else ((m * n : Nat) : Int)) = (if s then -(m : Int) else (m : Int)) * (if t then -(n : Int) else (n : Int)) := by
  cases s <;> cases t <;> simp [Int.neg_mul, Int.mul_neg]
theorem fma_fin (hl : f.leastPlace ≤ 0) (x y z : Nat) (hx : rg f x < f.infRung) (hy : rg f y < f.infRung) (hz : rg f z < f.infRung) :
    f.fma x y z = some (f.word (if un f x * un f y + un f z * 2 ^ deep f = 0 then (sg f x ^^ sg f y) && sg f z else decide (un f x * un f y + un f z * 2 ^ deep f < 0)) (min (grid f (un f x * un f y + un f z * 2 ^ deep f).natAbs (deep f)) f.infRung)) := by
  obtain ⟨m, i, r1, l1, u1⟩ := read_fin f x hx
  obtain ⟨n, j, r2, l2, u2⟩ := read_fin f y hy
  obtain ⟨q, k, r3, l3, u3⟩ := read_fin f z hz
  have hd : ((deep f : Nat) : Int) = - f.leastPlace := by unfold deep; omega
  unfold Format.fma
  rw [r1, r2, r3]
  show some (f.nearest _ _ _) = _
  generalize ht : signed (sg f x ^^ sg f y) (m * n) (i + j - min (i + j) k).toNat + signed (sg f z) q (k - min (i + j) k).toNat = t
  have hprod : un f x * un f y = if (sg f x ^^ sg f y) then -((m * n * 2 ^ (i + j - (f.leastPlace - (deep f : Nat))).toNat : Nat) : Int) else ((m * n * 2 ^ (i + j - (f.leastPlace - (deep f : Nat))).toNat : Nat) : Int) := by
    have e : m * n * 2 ^ (i + j - (f.leastPlace - (deep f : Nat))).toNat = m * 2 ^ (i - f.leastPlace).toNat * (n * 2 ^ (j - f.leastPlace).toNat) := by
      rw [show (i + j - (f.leastPlace - (deep f : Nat))).toNat = (i - f.leastPlace).toNat + (j - f.leastPlace).toNat by omega, Nat.pow_add, Nat.mul_mul_mul_comm]
    rw [e, signed_prod, un_of_read f u1, un_of_read f u2]
  have hsum3 : un f z * 2 ^ deep f = if sg f z then -((q * 2 ^ (k - (f.leastPlace - (deep f : Nat))).toNat : Nat) : Int) else ((q * 2 ^ (k - (f.leastPlace - (deep f : Nat))).toNat : Nat) : Int) := by
    rw [un_of_read f u3, show (k - (f.leastPlace - (deep f : Nat))).toNat = (k - f.leastPlace).toNat + deep f by omega, Nat.pow_add, ← Nat.mul_assoc]
    have e2 : ((q * 2 ^ (k - f.leastPlace).toNat * 2 ^ deep f : Nat) : Int) = ((q * 2 ^ (k - f.leastPlace).toNat : Nat) : Int) * 2 ^ deep f := by
      rw [Int.natCast_mul (q * 2 ^ (k - f.leastPlace).toNat), Int.natCast_pow]; rfl
    rw [e2]
    cases sg f z
    · rfl
    · simp only [if_true]; rw [Int.neg_mul]
  have hsum : un f x * un f y + un f z * 2 ^ deep f = t * 2 ^ (min (i + j) k - (f.leastPlace - (deep f : Nat))).toNat := by
    rw [hprod, hsum3, ← signed_units _ _ _ (min (i + j) k) _ (by omega) (by omega), ← signed_units _ _ _ (min (i + j) k) _ (by omega) (by omega), ← Int.add_mul, ht]
  rw [nearest_deep f _ _ _ (deep f) (by omega), hsum]
  have hp : (0 : Int) < 2 ^ (min (i + j) k - (f.leastPlace - (deep f : Nat))).toNat := by exact_mod_cast two_pow_pos _
  have e1 : (t * 2 ^ (min (i + j) k - (f.leastPlace - (deep f : Nat))).toNat = 0) ↔ t = 0 := by
    constructor
    · intro h; rcases Int.mul_eq_zero.1 h with h | h
      · exact h
      · omega
    · intro h; rw [h, Int.zero_mul]
  have e2 : (t * 2 ^ (min (i + j) k - (f.leastPlace - (deep f : Nat))).toNat < 0) ↔ t < 0 := by
    constructor
    · intro h
      by_cases h0 : t < 0
      · exact h0
      · have := Int.mul_nonneg (show 0 ≤ t by omega) (Int.le_of_lt hp); omega
    · intro h; exact Int.mul_neg_of_neg_of_pos h hp
  have e3 : (t * 2 ^ (min (i + j) k - (f.leastPlace - (deep f : Nat))).toNat).natAbs = t.natAbs * 2 ^ (min (i + j) k - (f.leastPlace - (deep f : Nat))).toNat := by
    rw [Int.natAbs_mul, Int.natAbs_pow]; rfl
  simp only [e1, e2, e3]
end Go.Proofs.YtjmaggfddinbkaaGreatDoor.Fp
namespace Go.Proofs.YtjmaggfddinbkaaGreatDoor
theorem neg_un {p : Nat} (hp : p < 18446744073709551616) (fp : p % 9223372036854775808 < 9218868437227405312) :
    Go.Op.negFloat .f64 p < 18446744073709551616 ∧ Go.Op.negFloat .f64 p % 9223372036854775808 < 9218868437227405312 ∧ Fp.un Ieee.double (Go.Op.negFloat .f64 p) = -Fp.un Ieee.double p := by
  by_cases h : 9223372036854775808 ≤ p
  · rw [neg_float h hp]
    refine ⟨by omega, by omega, ?_⟩
    unfold Fp.un
    rw [sg_is (by omega), sg_is hp, decide_eq_false (by omega), decide_eq_true h, Fp.rg64, Fp.rg64, if_neg Bool.false_ne_true, if_pos rfl, show (p - 9223372036854775808) % 9223372036854775808 = p % 9223372036854775808 by omega]
    omega
  · have e : Go.Op.negFloat .f64 p = p + 9223372036854775808 := neg_flip (by omega)
    rw [e]
    refine ⟨by omega, by omega, ?_⟩
    unfold Fp.un
    rw [sg_is (by omega), sg_is hp, decide_eq_true (by omega), decide_eq_false h, Fp.rg64, Fp.rg64, if_neg Bool.false_ne_true, if_pos rfl, show (p + 9223372036854775808) % 9223372036854775808 = p % 9223372036854775808 by omega]
end Go.Proofs.YtjmaggfddinbkaaGreatDoor
end

section
namespace Go.Proofs.YtjmaggfddinbkaaGreatDoor
def wval : List Nat → Nat
  | [] => 0
  | x :: l => x + 4294967296 * wval l
def Words (l : List Nat) : Prop := ∀ x ∈ l, x < 4294967296
def lo (l : List Nat) (k : Nat) : Nat := wval (l.take k)
theorem wval_append (a b : List Nat) : wval (a ++ b) = wval a + 4294967296 ^ a.length * wval b := by
  induction a with
  | nil => simp [wval]
  | cons x a ih => simp only [List.cons_append, wval, ih, List.length_cons, Nat.pow_succ]; rw [Nat.mul_add, ← Nat.mul_assoc, Nat.mul_comm 4294967296 (4294967296 ^ a.length), Nat.add_assoc]
theorem wval_zeros (n : Nat) : wval (List.replicate n 0) = 0 := by
  induction n with
  | zero => rfl
  | succ n ih => simp [List.replicate_succ, wval, ih]
theorem wval_lt (l : List Nat) (h : Words l) : wval l < 4294967296 ^ l.length := by
  induction l with
  | nil => simp [wval]
  | cons x l ih =>
    have h1 := ih (fun y hy => h y (List.mem_cons_of_mem _ hy))
    have h2 := h x List.mem_cons_self
    simp only [wval, List.length_cons, Nat.pow_succ]
    omega
theorem lo_zero (l : List Nat) : lo l 0 = 0 := by simp [lo, wval]
theorem lo_all (l : List Nat) {k : Nat} (h : l.length ≤ k) : lo l k = wval l := by unfold lo; rw [List.take_of_length_le h]
theorem lo_succ (l : List Nat) (k : Nat) : lo l (k + 1) = lo l k + 4294967296 ^ k * l.getD k 0 := by
  unfold lo
  by_cases h : k < l.length
  · rw [List.take_succ_eq_append_getElem h, wval_append, List.length_take, Nat.min_eq_left (by omega), List.getD_eq_getElem?_getD, List.getElem?_eq_getElem h]
    simp [wval]
  · rw [List.take_of_length_le (by omega), List.take_of_length_le (by omega), List.getD_eq_getElem?_getD, List.getElem?_eq_none (by omega)]
    simp
theorem lo_set_same (l : List Nat) (k x : Nat) : lo (l.set k x) k = lo l k := by
  unfold lo; rw [List.take_set_of_le (Nat.le_refl _)]
theorem getD_set_eq (l : List Nat) (k x : Nat) (h : k < l.length) : (l.set k x).getD k 0 = x := by
  simp [List.getD_eq_getElem?_getD, h]
theorem lset_ne (l : List Nat) (k j x : Nat) (h : k ≠ j) : (l.set k x).getD j 0 = l.getD j 0 := by
  simp [List.getD_eq_getElem?_getD, h]
theorem lo_set_succ (l : List Nat) (k x : Nat) (h : k < l.length) : lo (l.set k x) (k + 1) = lo l k + 4294967296 ^ k * x := by
  rw [lo_succ, lo_set_same, getD_set_eq l k x h]
theorem Words.set {l : List Nat} (h : Words l) (k x : Nat) (hx : x < 4294967296) : Words (l.set k x) := by
  intro y hy
  rcases List.mem_or_eq_of_mem_set hy with h1 | h1
  · exact h y h1
  · omega
theorem Words.getD {l : List Nat} (h : Words l) (k : Nat) : l.getD k 0 < 4294967296 := by
  by_cases hk : k < l.length
  · rw [List.getD_eq_getElem?_getD, List.getElem?_eq_getElem hk]; exact h _ (List.getElem_mem hk)
  · rw [List.getD_eq_getElem?_getD, List.getElem?_eq_none (by omega)]; decide
theorem Words.take {l : List Nat} (h : Words l) (k : Nat) : Words (l.take k) := fun y hy => h y (List.mem_of_mem_take hy)
theorem Words.drop {l : List Nat} (h : Words l) (k : Nat) : Words (l.drop k) := fun y hy => h y (List.mem_of_mem_drop hy)
theorem Words.zeros (n : Nat) : Words (List.replicate n 0) := fun y hy => by rw [(List.mem_replicate.1 hy).2]; decide
theorem lo_lt (l : List Nat) (h : Words l) (k : Nat) : lo l k < 4294967296 ^ k := by
  have h1 := wval_lt _ (h.take k)
  refine Nat.lt_of_lt_of_le h1 (Nat.pow_le_pow_right (by decide) ?_)
  rw [List.length_take]; exact Nat.min_le_left _ _
theorem wval_split (l : List Nat) (k : Nat) : wval l = lo l k + 4294967296 ^ k * wval (l.drop k) := by
  by_cases h : k ≤ l.length
  · conv => lhs; rw [← List.take_append_drop k l]
    rw [wval_append, List.length_take, Nat.min_eq_left h]; rfl
  · rw [lo_all l (by omega), List.drop_eq_nil_of_le (by omega)]; simp [wval]
/-! the words of a number -/
def dg (n : Nat) : List Nat := if n = 0 then [] else n % 4294967296 :: dg (n / 4294967296)
termination_by n
decreasing_by omega
theorem dg_zero : dg 0 = [] := by unfold dg; rfl
theorem dg_pos {n : Nat} (h : n ≠ 0) : dg n = n % 4294967296 :: dg (n / 4294967296) := by rw [dg, if_neg h]
theorem wval_dg (n : Nat) : wval (dg n) = n := by
  induction n using Nat.strongRecOn with
  | ind n ih =>
    by_cases h : n = 0
    · subst h; rw [dg_zero]; rfl
    · rw [dg_pos h]; simp only [wval]; rw [ih _ (by omega)]; omega
theorem words_dg (n : Nat) : Words (dg n) := by
  induction n using Nat.strongRecOn with
  | ind n ih =>
    by_cases h : n = 0
    · subst h; rw [dg_zero]; intro x hx; simp at hx
    · rw [dg_pos h]
      intro x hx
      rcases List.mem_cons.1 hx with h1 | h1
      · omega
      · exact ih _ (by omega) x h1
theorem dg_eq_nil {n : Nat} (h : dg n = []) : n = 0 := by have := wval_dg n; rw [h] at this; exact this.symm
theorem dg_len_pos {n : Nat} (h : n ≠ 0) : 0 < (dg n).length := by rw [dg_pos h]; simp
theorem dg_of (l : List Nat) (hw : Words l) (hl : 0 < l.length → l.getD (l.length - 1) 0 ≠ 0) : l = dg (wval l) := by
  induction l with
  | nil => rw [show wval [] = 0 from rfl, dg_zero]
  | cons x l ih =>
    have hx := hw x List.mem_cons_self
    have hl' : 0 < l.length → l.getD (l.length - 1) 0 ≠ 0 := by
      intro h
      have := hl (by simp)
      simp only [List.length_cons, Nat.add_sub_cancel] at this
      obtain ⟨k, hk⟩ : ∃ k, l.length = k + 1 := ⟨l.length - 1, by omega⟩
      rw [hk] at this ⊢
      simpa using this
    have ih' := ih (fun y hy => hw y (List.mem_cons_of_mem _ hy)) hl'
    have hne : wval (x :: l) ≠ 0 := by
      simp only [wval]
      intro h0
      have hx0 : x = 0 := by omega
      have hv0 : wval l = 0 := by omega
      rw [hv0, dg_zero] at ih'
      subst ih'
      have := hl (by simp)
      simp at this
      exact this hx0
    rw [dg_pos hne]
    simp only [wval]
    rw [show (x + 4294967296 * wval l) % 4294967296 = x by omega, show (x + 4294967296 * wval l) / 4294967296 = wval l by omega, ← ih']
theorem dg_last {n : Nat} (h : n ≠ 0) : (dg n).getD ((dg n).length - 1) 0 ≠ 0 := by
  induction n using Nat.strongRecOn with
  | ind n ih =>
    rw [dg_pos h]
    by_cases h1 : n / 4294967296 = 0
    · rw [h1, dg_zero]; simp; omega
    · have := ih _ (by omega) h1
      obtain ⟨k, hk⟩ : ∃ k, (dg (n / 4294967296)).length = k + 1 := ⟨_, (Nat.succ_pred_eq_of_pos (dg_len_pos h1)).symm⟩
      rw [hk] at this
      simp only [List.length_cons, hk, Nat.add_sub_cancel] at this ⊢
      simpa using this
theorem dg_cut (l : List Nat) (hw : Words l) (j : Nat) (hj : j ≤ l.length) (hz : ∀ i, j ≤ i → l.getD i 0 = 0) (hn : 0 < j → l.getD (j - 1) 0 ≠ 0) : l.take j = dg (wval l) := by
  have hd : wval (l.drop j) = 0 := by
    have : ∀ (m : List Nat), (∀ i, m.getD i 0 = 0) → wval m = 0 := by
      intro m
      induction m with
      | nil => intro _; rfl
      | cons x m ih =>
        intro h
        have h0 := h 0
        have h1 := ih (fun i => by have := h (i + 1); simpa using this)
        simp at h0
        simp [wval, h0, h1]
    apply this
    intro i
    have := hz (j + i) (by omega)
    simp only [List.getD_eq_getElem?_getD, List.getElem?_drop] at this ⊢
    exact this
  have e : wval l = wval (l.take j) := by rw [wval_split l j, hd]; simp [lo]
  rw [e]
  apply dg_of _ (hw.take j)
  intro h
  rw [List.length_take, Nat.min_eq_left hj] at h ⊢
  have := hn h
  simp only [List.getD_eq_getElem?_getD, List.getElem?_take] at this ⊢
  rw [if_pos (by omega)]
  exact this
theorem dg_len_le {n k : Nat} (h : n < 4294967296 ^ k) : (dg n).length ≤ k := by
  induction k generalizing n with
  | zero => have : n = 0 := by simpa using h
            subst this; rw [dg_zero]; exact Nat.le_refl _
  | succ k ih =>
    by_cases h0 : n = 0
    · subst h0; rw [dg_zero]; exact Nat.zero_le _
    · rw [dg_pos h0, List.length_cons]
      have : n / 4294967296 < 4294967296 ^ k := by
        rw [Nat.div_lt_iff_lt_mul (by decide), ← Nat.pow_succ]; exact h
      have := ih this
      omega
theorem lt_of_dg (n : Nat) : n < 4294967296 ^ (dg n).length := by have := wval_lt _ (words_dg n); rwa [wval_dg] at this
theorem dg_len_mono {a b : Nat} (h : a ≤ b) : (dg a).length ≤ (dg b).length := dg_len_le (Nat.lt_of_le_of_lt h (lt_of_dg b))
theorem lt_of_len {a b : Nat} (h : (dg a).length < (dg b).length) : a < b := by
  rcases Nat.lt_or_ge a b with h1 | h1
  · exact h1
  · have := dg_len_mono h1; omega
theorem lt_of_top {a b i : Nat} (hl : (dg a).length = (dg b).length) (he : ∀ j, i < j → (dg a).getD j 0 = (dg b).getD j 0) (hlt : (dg a).getD i 0 < (dg b).getD i 0) : a < b := by
  have hs : ∀ (x y : List Nat), x.length = y.length → (∀ j, i < j → x.getD j 0 = y.getD j 0) → x.drop (i + 1) = y.drop (i + 1) := by
    intro x y hxy hj
    apply List.ext_getElem?
    intro k
    rw [List.getElem?_drop, List.getElem?_drop]
    have := hj (i + 1 + k) (by omega)
    simp only [List.getD_eq_getElem?_getD] at this
    by_cases hk : i + 1 + k < x.length
    · rw [List.getElem?_eq_getElem hk, List.getElem?_eq_getElem (by omega)] at this ⊢
      simpa using this
    · rw [List.getElem?_eq_none (by omega), List.getElem?_eq_none (by omega)]
  have hd := hs _ _ hl he
  have ha := wval_split (dg a) (i + 1)
  have hb := wval_split (dg b) (i + 1)
  rw [wval_dg, lo_succ] at ha hb
  rw [hd] at ha
  have h1 := lo_lt (dg a) (words_dg a) i
  generalize lo (dg a) i = p at *
  generalize lo (dg b) i = q at *
  generalize wval (List.drop (i + 1) (dg b)) = r at *
  generalize (dg a).getD i 0 = x at *
  generalize (dg b).getD i 0 = y at *
  have h2 : 4294967296 ^ i * x + 4294967296 ^ i ≤ 4294967296 ^ i * y := by rw [← Nat.mul_succ]; exact Nat.mul_le_mul_left _ hlt
  generalize 4294967296 ^ i * x = X at *
  generalize 4294967296 ^ i * y = Y at *
  generalize 4294967296 ^ i = Z at *
  generalize 4294967296 ^ (i+1) * r = W at *
  omega
theorem eq_of_all {a b : Nat} (hl : (dg a).length = (dg b).length) (he : ∀ j, (dg a).getD j 0 = (dg b).getD j 0) : a = b := by
  have : dg a = dg b := by
    apply List.ext_getElem hl
    intro i h1 h2
    have := he i
    simpa [List.getD_eq_getElem?_getD, h1, h2] using this
  rw [← wval_dg a, ← wval_dg b, this]
/-! rounds of sums, differences, products, shifts -/
theorem plus_step {P lo0 la lb c a b : Nat} (h : lo0 + P * c = la + lb) : lo0 + P * ((a + c + b) % 4294967296) + P * 4294967296 * ((a + c + b) / 4294967296) = la + P * a + (lb + P * b) := by
  have e : (a + c + b) % 4294967296 + 4294967296 * ((a + c + b) / 4294967296) = a + c + b := Nat.mod_add_div _ _
  have e2 : P * ((a + c + b) % 4294967296) + P * 4294967296 * ((a + c + b) / 4294967296) = P * a + P * c + P * b := by
    rw [Nat.mul_assoc, ← Nat.mul_add, e, Nat.mul_add, Nat.mul_add]
  omega
theorem minus_less {P lo0 la lb br a b : Nat} (h : lo0 + lb = la + P * br) (hb : br + b ≤ 4294967296) : lo0 + P * (a + 4294967296 - (br + b)) + (lb + P * b) = la + P * a + P * 4294967296 * 1 := by
  have e : P * (a + 4294967296 - (br + b)) + (P * br + P * b) = P * a + P * 4294967296 := by
    rw [← Nat.mul_add, ← Nat.mul_add, ← Nat.mul_add]; congr 1; omega
  omega
theorem minus_more {P lo0 la lb br a b : Nat} (h : lo0 + lb = la + P * br) (hge : br + b ≤ a) : lo0 + P * (a - (br + b)) + (lb + P * b) = la + P * a + P * 4294967296 * 0 := by
  have e : P * (a - (br + b)) + (P * br + P * b) = P * a := by
    rw [← Nat.mul_add, ← Nat.mul_add]; congr 1; omega
  omega
theorem minus_end {n o a b br : Nat} (h : o + b = a + 4294967296 ^ n * br) (ho : o < 4294967296 ^ n) (hb : b ≤ a) : br = 0 ∧ o = a - b := by
  generalize 4294967296 ^ n = P at *
  rcases br with _ | br
  · simp at h; omega
  · exfalso
    have : P ≤ P * (br + 1) := Nat.le_mul_of_pos_right _ (by omega)
    omega
theorem word_mul {a b : Nat} (ha : a < 4294967296) (hb : b < 4294967296) : a * b ≤ 18446744065119617025 := Nat.le_trans (Nat.mul_le_mul (Nat.le_of_lt_succ (n := 4294967295) (by omega)) (Nat.le_of_lt_succ (n := 4294967295) (by omega))) (by decide)
theorem times_step {P Q lo1 lo0 c s x y z : Nat} (h : lo1 + P * c = lo0 + s) (t : Nat) (ht : t = x * y + z + c) (hs : Q = P * (x * y)) : lo1 + P * (t % 4294967296) + P * 4294967296 * (t / 4294967296) = lo0 + P * z + (s + Q) := by
  have e : t % 4294967296 + 4294967296 * (t / 4294967296) = t := Nat.mod_add_div _ _
  have e2 : P * (t % 4294967296) + P * 4294967296 * (t / 4294967296) = P * t := by
    rw [Nat.mul_assoc, ← Nat.mul_add, e]
  have e3 : P * t = P * (x * y) + P * z + P * c := by rw [ht, Nat.mul_add, Nat.mul_add]
  omega
theorem left_low {m s : Nat} (hs : s < 32) : (m * 2 ^ s) % 4294967296 = (m % 2 ^ (32 - s)) * 2 ^ s := by
  rw [show (4294967296 : Nat) = 2 ^ (32 - s) * 2 ^ s by rw [← Nat.pow_add, show 32 - s + s = 32 by omega], Nat.mul_mod_mul_right]
theorem left_high {m s : Nat} (hm : m < 4294967296) : (m * 2 ^ s) / 4294967296 < 2 ^ s := by
  rw [Nat.div_lt_iff_lt_mul (by decide), Nat.mul_comm (2 ^ s)]; exact Nat.mul_lt_mul_of_pos_right hm (Nat.two_pow_pos s)
theorem left_step {P lo0 x t A : Nat} (h : lo0 + P * x = A) : lo0 + P * (x + t % 4294967296) + P * 4294967296 * (t / 4294967296) = A + P * t := by
  have e : t % 4294967296 + 4294967296 * (t / 4294967296) = t := Nat.mod_add_div _ _
  have e2 : P * (t % 4294967296) + P * 4294967296 * (t / 4294967296) = P * t := by
    rw [Nat.mul_assoc, ← Nat.mul_add, e]
  rw [Nat.mul_add]; omega
theorem right_digit (D s i : Nat) (l : List Nat) (hl : D = wval l) (hw : Words l) (hs : s < 32) : (D / 2 ^ s) / 4294967296 ^ i % 4294967296 = (l.getD i 0 + 4294967296 * l.getD (i + 1) 0) / 2 ^ s % 4294967296 := by
  have e : D / 4294967296 ^ i = l.getD i 0 + 4294967296 * (l.getD (i + 1) 0 + 4294967296 * wval (l.drop (i + 2))) := by
    have hd : wval (l.drop i) = l.getD i 0 + 4294967296 * wval (l.drop (i + 1)) := by
      by_cases h : i < l.length
      · rw [List.drop_eq_getElem_cons h]; simp [wval, List.getD_eq_getElem?_getD, h]
      · rw [List.drop_eq_nil_of_le (by omega), List.drop_eq_nil_of_le (by omega)]; simp [wval, List.getD_eq_getElem?_getD, h]
    have hd2 : wval (l.drop (i + 1)) = l.getD (i + 1) 0 + 4294967296 * wval (l.drop (i + 2)) := by
      by_cases h : i + 1 < l.length
      · rw [List.drop_eq_getElem_cons h]; simp [wval, List.getD_eq_getElem?_getD, h]
      · rw [List.drop_eq_nil_of_le (by omega), List.drop_eq_nil_of_le (by omega)]; simp [wval, List.getD_eq_getElem?_getD, h]
    rw [hl, wval_split l i, Nat.add_mul_div_left _ _ (Nat.pow_pos (by decide)), Nat.div_eq_of_lt (lo_lt l hw i), hd, hd2]; omega
  rw [Nat.div_div_eq_div_mul, Nat.mul_comm (2 ^ s), ← Nat.div_div_eq_div_mul, e]
  generalize wval (l.drop (i + 2)) = r
  generalize l.getD i 0 = x
  generalize l.getD (i + 1) 0 = y
  have h2 : (4294967296 : Nat) = 2 ^ s * 2 ^ (32 - s) := by rw [← Nat.pow_add, show s + (32 - s) = 32 by omega]
  rw [show x + 4294967296 * (y + 4294967296 * r) = (x + 4294967296 * y) + 2 ^ s * (4294967296 * (2 ^ (32 - s) * r)) by
    rw [Nat.mul_add 4294967296 y, ← Nat.add_assoc]
    congr 1
    rw [Nat.mul_left_comm (2 ^ s), ← Nat.mul_assoc (2 ^ s), ← h2], Nat.add_mul_div_left _ _ (Nat.two_pow_pos s), Nat.add_mul_mod_self_left]
theorem mod_succ (X i : Nat) : X % 4294967296 ^ (i + 1) = X % 4294967296 ^ i + 4294967296 ^ i * (X / 4294967296 ^ i % 4294967296) := by
  rw [Nat.pow_succ, Nat.mod_mul]
/-! how two stand -/
def cmpN (a b : Nat) : Int := if a < b then -1 else if b < a then 1 else 0
theorem cmpN_lt {a b : Nat} (h : a < b) : cmpN a b = -1 := if_pos h
theorem cmpN_gt {a b : Nat} (h : b < a) : cmpN a b = 1 := by unfold cmpN; rw [if_neg (by omega), if_pos h]
theorem cmpN_eq (a : Nat) : cmpN a a = 0 := by unfold cmpN; rw [if_neg (by omega), if_neg (by omega)]
end Go.Proofs.YtjmaggfddinbkaaGreatDoor
end

section
namespace Go.Proofs.YtjmaggfddinbkaaGreatDoor
open Go.RowKit
def RowAt (w : World) (A : Option Addr) (l : List Nat) : Prop :=
  0 < l.length → ∃ g m f, A = some ⟨g, 0, none⟩ ∧ l.length ≤ m ∧ w.rowIs g 133 m f ∧ ∀ i, i < l.length → f i = .int .u32 ((l.getD i 0 : Nat) : Int)
def OwnW (w : World) (g : Nat) (l : List Nat) : Prop := w.rowIs g 133 l.length (fun i => .int .u32 ((l.getD i 0 : Nat) : Int))
def IntTy (w : World) (g : Nat) : Prop := ∃ b s, w.heap[g]? = some (.cells #[.bool b, s] 102 (0, 0))
def IntB (w : World) (g : Nat) (v : Int) : Prop :=
  ∃ A c, w.heap[g]? = some (.cells #[.bool (decide (v < 0)), .slice A (dg v.natAbs).length c] 102 (0, 0)) ∧ (dg v.natAbs).length ≤ c ∧ RowAt w A (dg v.natAbs)
theorem rowIs_ne {w : World} {g h : Nat} {m : Nat} {f : Nat → Value} (k : w.rowIs g 133 m f) (hz : IntTy w h) : g ≠ h := by
  rintro rfl
  obtain ⟨c, hb, _⟩ := k
  obtain ⟨b, s, hz⟩ := hz
  rw [hb] at hz
  injection hz with hz
  injection hz with _ ht
  exact absurd ht (by decide)
theorem RowAt.of_block {w w' : World} {A : Option Addr} {l : List Nat} (h : RowAt w A l) (hk : ∀ g m f, w.rowIs g 133 m f → w'.heap[g]? = w.heap[g]?) : RowAt w' A l := by
  intro hl
  obtain ⟨g, m, f, e, hm, hr, hf⟩ := h hl
  exact ⟨g, m, f, e, hm, hr.of_block (hk _ _ _ hr), hf⟩
theorem RowAt.of {w w' : World} {A : Option Addr} {l : List Nat} (h : RowAt w A l) (k : Within w w') : RowAt w' A l := h.of_block fun _ _ _ hr => k.block _ hr.lt
theorem RowAt.grown {w w' : World} {A : Option Addr} {l : List Nat} {z : Nat} (h : RowAt w A l) (hz : IntTy w z) (k : w.grownBy w' (some z)) : RowAt w' A l :=
  h.of_block fun _ _ _ hr => k.block _ hr.lt (fun e => rowIs_ne hr hz (by injection e))
theorem RowAt.setInt {w : World} {A : Option Addr} {l : List Nat} {z o : Nat} (h : RowAt w A l) (hz : IntTy w z) (u : Value) : RowAt (w.setCell ⟨z, o, none⟩ u) A l :=
  h.of_block fun _ _ _ hr => Below.heap_setCell w _ u _ (rowIs_ne hr hz)
theorem RowAt.take {w : World} {A : Option Addr} {l : List Nat} (h : RowAt w A l) (k : Nat) : RowAt w A (l.take k) := by
  intro hl
  have hl' : 0 < l.length := Nat.lt_of_lt_of_le hl (List.length_take_le' _ _)
  obtain ⟨g, m, f, e, hm, hr, hf⟩ := h hl'
  refine ⟨g, m, f, e, Nat.le_trans (List.length_take_le' _ _) hm, hr, fun i hi => ?_⟩
  have hi' : i < l.length := Nat.lt_of_lt_of_le hi (List.length_take_le' _ _)
  rw [hf i hi']
  have : i < k := Nat.lt_of_lt_of_le hi (List.length_take_le _ _)
  simp [List.getD_eq_getElem?_getD, List.getElem?_take, this]
theorem RowAt.nil {w : World} {A : Option Addr} : RowAt w A [] := fun h => absurd h (by simp)
theorem OwnW.at {w : World} {g : Nat} {l : List Nat} (h : OwnW w g l) : RowAt w (some ⟨g, 0, none⟩) l := fun _ => ⟨g, _, _, rfl, Nat.le_refl _, h, fun _ _ => rfl⟩
theorem OwnW.made (w : World) (n : Nat) : OwnW (w.alloc (.cells (madeCells #[.int .u32 0] n) 133)) w.heap.size (List.replicate n 0) := by
  have h := World.rowIs_made w (.int .u32 0) n 133
  unfold OwnW
  rw [List.length_replicate]
  refine h.congr fun i hi => ?_
  simp [List.getD_eq_getElem?_getD, hi]
theorem OwnW.set {w : World} {g : Nat} {l : List Nat} (h : OwnW w g l) (i x : Nat) (hi : i < l.length) : OwnW (w.setCell ⟨g, i, none⟩ (.int .u32 (x : Int))) g (l.set i x) := by
  have k := World.rowIs.set h i (.int .u32 (x : Int))
  unfold OwnW
  rw [List.length_set]
  refine k.congr fun j hj => ?_
  show (if j = i then _ else _) = _
  by_cases e : j = i
  · subst e; rw [if_pos rfl, getD_set_eq _ _ _ hi]
  · rw [if_neg e, lset_ne _ _ _ _ (fun h => e h.symm)]
theorem OwnW.cell {w : World} {g : Nat} {l : List Nat} (h : OwnW w g l) {i : Nat} (hi : i < l.length) : w.cell? ⟨g, i, none⟩ = some (.int .u32 ((l.getD i 0 : Nat) : Int)) := World.rowIs.cell h hi
theorem OwnW.frozen {w : World} {g : Nat} {l : List Nat} (h : OwnW w g l) (i : Nat) : w.frozen? ⟨g, i, none⟩ = false := World.rowIs.frozen h i
theorem OwnW.of_block {w w' : World} {g : Nat} {l : List Nat} (h : OwnW w g l) (e : w'.heap[g]? = w.heap[g]?) : OwnW w' g l := World.rowIs.of_block h e
theorem OwnW.alloc {w : World} {g : Nat} {l : List Nat} (h : OwnW w g l) (o : Obj) : OwnW (w.alloc o) g l := World.rowIs.alloc h o
theorem OwnW.drew {w : World} {g : Nat} {l : List Nat} (h : OwnW w g l) : OwnW w.drew g l := h
theorem OwnW.lt {w : World} {g : Nat} {l : List Nat} (h : OwnW w g l) : g < w.heap.size := World.rowIs.lt h
theorem RowAt.cell {w : World} {A : Option Addr} {l : List Nat} (h : RowAt w A l) {i : Nat} (hi : i < l.length) : ∃ g, A = some ⟨g, 0, none⟩ ∧ g < w.heap.size ∧ w.cell? ⟨g, i, none⟩ = some (.int .u32 ((l.getD i 0 : Nat) : Int)) := by
  obtain ⟨g, m, f, e, hm, hr, hf⟩ := h (by omega)
  exact ⟨g, e, hr.lt, by rw [hr.cell (by omega), hf i hi]⟩
theorem IntB.ty {w : World} {g : Nat} {v : Int} (h : IntB w g v) : IntTy w g := by
  obtain ⟨A, c, hb, _⟩ := h
  exact ⟨_, _, hb⟩
theorem IntB.lt {w : World} {g : Nat} {v : Int} (h : IntB w g v) : g < w.heap.size := by
  obtain ⟨A, c, hb, _⟩ := h
  obtain ⟨hlt, _⟩ := Array.getElem?_eq_some_iff.1 hb
  exact hlt
theorem IntTy.lt {w : World} {g : Nat} (h : IntTy w g) : g < w.heap.size := by
  obtain ⟨A, c, hb⟩ := h
  obtain ⟨hlt, _⟩ := Array.getElem?_eq_some_iff.1 hb
  exact hlt
theorem IntTy.of {w w' : World} {g : Nat} (h : IntTy w g) (k : Within w w') : IntTy w' g := by
  have := h.lt
  obtain ⟨b, s, hb⟩ := h
  exact ⟨b, s, (k.block _ this).trans hb⟩
theorem IntB.of {w w' : World} {g : Nat} {v : Int} (h : IntB w g v) (k : Within w w') : IntB w' g v := by
  have hl := h.lt
  obtain ⟨A, c, hb, hc, hr⟩ := h
  exact ⟨A, c, (k.block _ hl).trans hb, hc, hr.of k⟩
theorem IntB.grown {w w' : World} {g z : Nat} {v : Int} (h : IntB w g v) (hz : IntTy w z) (hne : g ≠ z) (k : w.grownBy w' (some z)) : IntB w' g v := by
  have hl := h.lt
  obtain ⟨A, c, hb, hc, hr⟩ := h
  exact ⟨A, c, (k.block _ hl (fun e => hne (by injection e))).trans hb, hc, hr.grown hz k⟩
theorem IntB.cells {w : World} {g : Nat} {v : Int} (h : IntB w g v) : ∃ A c, w.cell? ⟨g, 0, none⟩ = some (.bool (decide (v < 0))) ∧ w.cell? ⟨g, 1, none⟩ = some (.slice A (dg v.natAbs).length c) ∧ (dg v.natAbs).length ≤ c ∧ RowAt w A (dg v.natAbs) := by
  obtain ⟨A, c, hb, hc, hr⟩ := h
  exact ⟨A, c, by simp [World.cell?, hb], by simp [World.cell?, hb], hc, hr⟩
theorem IntTy.frozen {w : World} {g : Nat} (h : IntTy w g) (i : Nat) : w.frozen? ⟨g, i, none⟩ = false := by
  obtain ⟨b, s, hb⟩ := h
  simp [World.frozen?, hb]
theorem IntTy.cells {w : World} {g : Nat} (h : IntTy w g) : ∃ b s, w.cell? ⟨g, 0, none⟩ = some (.bool b) ∧ w.cell? ⟨g, 1, none⟩ = some s := by
  obtain ⟨b, s, hb⟩ := h
  exact ⟨b, s, by simp [World.cell?, hb], by simp [World.cell?, hb]⟩
theorem IntB.made (w : World) : IntB (w.alloc (.cells #[.bool false, .slice none 0 0] 102)) w.heap.size 0 :=
  ⟨none, 0, by rw [show (dg (0 : Int).natAbs) = [] from dg_zero]; exact heap_alloc_new w _, by rw [show (dg (0 : Int).natAbs) = [] from dg_zero]; exact Nat.le_refl _, by rw [show (dg (0 : Int).natAbs) = [] from dg_zero]; exact RowAt.nil⟩
theorem Within.grown {W w w' : World} {z : Nat} (h : Within W w) (k : w.grownBy w' (some z)) (hz : W.heap.size ≤ z) : Within W w' :=
  Below.grown h k h.size (fun _ e => by injection e with e; omega)
theorem grown_trans {a b c : World} {z : Nat} (h : a.grownBy b (some z)) (k : b.grownBy c (some z)) : a.grownBy c (some z) :=
  ⟨k.os.trans h.os, k.tape.trans h.tape, k.output.trans h.output, Nat.le_trans h.size k.size, fun i hi hne => (k.block i (Nat.lt_of_lt_of_le hi h.size) hne).trans (h.block i hi hne)⟩
theorem grown_within {a b : World} (z : Nat) (h : Within a b) : a.grownBy b (some z) := ⟨h.os, h.tape, h.output, h.size, fun i hi _ => h.block i hi⟩
theorem grown_set {a w : World} {z o : Nat} (h : a.grownBy w (some z)) (u : Value) : a.grownBy (w.setCell ⟨z, o, none⟩ u) (some z) :=
  ⟨h.os, h.tape, h.output, by simpa [World.setCell] using h.size, fun i hi hne => (Below.heap_setCell w _ u i (fun e => hne (by subst e; rfl))).trans (h.block i hi hne)⟩
def RetW (W : World) (n : Nat) (e : Ending) (w' : World) : Prop := ∃ A c, e = .returned (.slice A (dg n).length c) ∧ (dg n).length ≤ c ∧ RowAt w' A (dg n) ∧ Within W w'
def PutI (W : World) (z : Nat) (v : Int) (e : Ending) (w' : World) : Prop := e = .returned (.pointer (some ⟨z, 0, none⟩)) ∧ IntB w' z v ∧ W.grownBy w' (some z)
def Small (n : Nat) : Prop := (dg n).length ≤ 1000000
theorem Small.le {a b : Nat} (h : Small b) (k : a ≤ b) : Small a := Nat.le_trans (dg_len_mono k) h
end Go.Proofs.YtjmaggfddinbkaaGreatDoor
end

section
namespace Go.Proofs.YtjmaggfddinbkaaGreatDoor
open Go.RowKit
theorem lastWord (l : List Nat) : ∃ j, j ≤ l.length ∧ (∀ i, j ≤ i → l.getD i 0 = 0) ∧ (0 < j → l.getD (j - 1) 0 ≠ 0) := by
  have : ∀ n, n ≤ l.length → (∀ i, n ≤ i → l.getD i 0 = 0) → ∃ j, j ≤ l.length ∧ (∀ i, j ≤ i → l.getD i 0 = 0) ∧ (0 < j → l.getD (j - 1) 0 ≠ 0) := by
    intro n
    induction n with
    | zero => intro h1 h2; exact ⟨0, h1, h2, fun h => absurd h (by omega)⟩
    | succ n ih =>
      intro h1 h2
      by_cases h : l.getD n 0 = 0
      · exact ih (by omega) (fun i hi => by
          rcases Nat.eq_or_lt_of_le hi with e | e
          · subst e; exact h
          · exact h2 i e)
      · exact ⟨n + 1, h1, h2, fun _ => by rw [Nat.add_sub_cancel]; exact h⟩
  exact this l.length (Nat.le_refl _) (fun i hi => by simp [List.getD_eq_getElem?_getD, hi])
def slen : Value → Nat | .slice _ n _ => n | _ => 0
def CutRel (l : List Nat) (A : Option Addr) (c : Nat) (m : Value) : Prop := ∃ j : Nat, j ≤ l.length ∧ m = .slice A j c ∧ ∀ i, j ≤ i → l.getD i 0 = 0
set_option maxRecDepth 100000 in
set_option maxHeartbeats 600000 in
theorem Bcut (l : List Nat) (A : Option Addr) (c : Nat) (hw : Words l) (hc : l.length ≤ c) (hl : l.length ≤ 2000000) (w : World) (hr : RowAt w A l) :
    Calls Tryz.prog 159 #[.slice A l.length c] w fun e w' => e = .returned (.slice A (dg (wval l)).length c) ∧ w = w' := by
  have HW := Lib.hid hw; have HR := Lib.hid hr; clear hw hr
  go_enter Tryz.func159, Tryz.ntmps159
  go_wp2
  go_loop [0] (fun m => CutRel l A c m) (fun m => slen m)
  case atStart => exact ⟨l.length, Nat.le_refl _, rfl, fun i hi => by simp [List.getD_eq_getElem?_getD, hi]⟩
  case round =>
    obtain ⟨j, hj, rfl, hz⟩ := hrel
    have HZ := Lib.hid hz; clear hz
    rcases Nat.eq_zero_or_pos j with h0 | h0
    · subst h0
      go_wp2
      go_ret
      refine ⟨?_, rfl⟩
      have := dg_cut l HW.out 0 (Nat.zero_le _) HZ.out (fun h => absurd h (by omega))
      rw [← this]; simp
    · obtain ⟨g, rfl, _, hcell⟩ := (HR.out.cell (i := j - 1) (by omega))
      obtain ⟨i, rfl⟩ : ∃ i, j = i + 1 := ⟨j - 1, by omega⟩
      rw [Nat.add_sub_cancel] at hcell
      have g1 : IntKind.i64.wrap ((↑(i + 1) : Int) - 1) = (i : Int) := by rw [IntWalk.i64_in _ (by omega)]; omega
      obtain ⟨x, hxe⟩ : ∃ x, x = l.getD i 0 := ⟨_, rfl⟩
      rw [← hxe] at hcell
      have HXE := Lib.hid hxe; clear hxe
      rcases x with _ | x
      · go_wp2
        go_round
        case rel => exact ⟨i, by omega, rfl, fun k hk => by
          rcases Nat.eq_or_lt_of_le hk with h | h
          · subst h; exact HXE.out.symm
          · exact HZ.out k h⟩
        case measure => simp [slen]
      · have hx' : (((x + 1 : Nat) : Int) == 0) = false := beq_eq_false_iff_ne.2 (by omega)
        have hx2 : ((x : Int) + 1 == 0) = false := beq_eq_false_iff_ne.2 (by omega)
        go_wp2
        go_ret
        refine ⟨?_, rfl⟩
        have := dg_cut l HW.out (i + 1) hj HZ.out (fun _ => by rw [Nat.add_sub_cancel, ← HXE.out]; omega)
        rw [← this]; simp; omega
theorem put_heap {w : World} {z : Nat} (h : IntTy w z) (b : Bool) (s : Value) : ((w.setCell ⟨z, 1, none⟩ s).setCell ⟨z, 0, none⟩ (.bool b)).heap[z]? = some (.cells #[.bool b, s] 102 (0, 0)) := by
  obtain ⟨b', s', hb⟩ := h
  simp [World.setCell, Array.getElem?_modify, hb]
theorem put_is {w : World} {z : Nat} (h : IntTy w z) (A : Option Addr) (c : Nat) (v : Int) (hc : (dg v.natAbs).length ≤ c) (hr : RowAt w A (dg v.natAbs)) :
    PutI w z v (.returned (.pointer (some ⟨z, 0, none⟩))) ((w.setCell ⟨z, 1, none⟩ (.slice A (dg v.natAbs).length c)).setCell ⟨z, 0, none⟩ (.bool (decide (v < 0)))) := by
  have g1 : w.grownBy (w.setCell ⟨z, 1, none⟩ (.slice A (dg v.natAbs).length c)) (some z) := grown_set (World.grownBy.refl _ _) _
  refine ⟨rfl, ⟨A, c, put_heap h _ _, hc, ?_⟩, grown_set g1 _⟩
  have := hr.grown h g1
  refine RowAt.setInt this ?_ _
  obtain ⟨b', s', hb⟩ := h
  exact ⟨b', (.slice A (dg v.natAbs).length c), by simp [World.setCell, Array.getElem?_modify, hb]⟩
def sgv (neg : Bool) (n : Nat) : Int := if neg then -(n : Int) else n
theorem sgv_abs (neg : Bool) (n : Nat) : (sgv neg n).natAbs = n := by unfold sgv; split <;> omega
theorem sgv_neg (neg : Bool) (n : Nat) : decide (sgv neg n < 0) = (neg && decide (0 < n)) := by
  unfold sgv; cases neg
  · simp
  · simp
set_option maxRecDepth 100000 in
set_option maxHeartbeats 600000 in
theorem Bput0 (z : Nat) (neg : Bool) (l : List Nat) (A : Option Addr) (c : Nat) (b0 : Bool) (s0 : Value) (n : Nat) (B : Bool) (w : World)
    (c0 : w.cell? ⟨z, 0, none⟩ = some (.bool b0)) (c1 : w.cell? ⟨z, 1, none⟩ = some s0) (f0 : w.frozen? ⟨z, 0, none⟩ = false) (f1 : w.frozen? ⟨z, 1, none⟩ = false)
    (hB : (neg && decide (0 < n)) = B)
    (CT : Hid (∀ w', w = w' → Calls Tryz.prog 159 #[.slice A l.length c] w' fun e w'' => e = .returned (.slice A n c) ∧ w' = w'')) :
    Calls Tryz.prog 129 #[.pointer (some ⟨z, 0, none⟩), .bool neg, .slice A l.length c] w fun e w' => e = .returned (.pointer (some ⟨z, 0, none⟩)) ∧ (w.setCell ⟨z, 1, none⟩ (.slice A n c)).setCell ⟨z, 0, none⟩ (.bool B) = w' := by
  have hn : neg = true → ∀ k : Nat, (decide ((k : Int) > 0)) = decide (0 < k) := fun _ k => by simp
  cases neg
  · simp only [Bool.false_and] at hB
    subst hB
    go_enter Tryz.func129, Tryz.ntmps129
    go_wp2_with fail
    refine (CT.out _ rfl).mono ?_; rintro e1 w1 ⟨rfl, rfl⟩
    go_wp2
    go_ret
    exact ⟨rfl, rfl⟩
  · simp only [Bool.true_and] at hB
    subst hB
    go_enter Tryz.func129, Tryz.ntmps129
    go_wp2_with fail
    refine (CT.out _ rfl).mono ?_; rintro e1 w1 ⟨rfl, rfl⟩
    go_wp2
    go_ret
    exact ⟨rfl, rfl⟩
theorem Bput (z : Nat) (neg : Bool) (l : List Nat) (A : Option Addr) (c : Nat) (hw : Words l) (hc : l.length ≤ c) (hl : l.length ≤ 2000000) (w : World) (hr : RowAt w A l) (hz : IntTy w z) :
    Calls Tryz.prog 129 #[.pointer (some ⟨z, 0, none⟩), .bool neg, .slice A l.length c] w (PutI w z (sgv neg (wval l))) := by
  obtain ⟨b0, s0, c0, c1⟩ := hz.cells
  have hle : (dg (wval l)).length ≤ l.length := dg_len_le (wval_lt l hw)
  refine (Bput0 z neg l A c b0 s0 (dg (wval l)).length (decide (sgv neg (wval l) < 0)) w c0 c1 (hz.frozen 0) (hz.frozen 1) ?_ (Lib.hid fun w' e => e ▸ Bcut l A c hw hc hl w hr)).mono ?_
  · rw [sgv_neg]
    congr 1
    rw [decide_eq_decide]
    constructor
    · intro h
      rcases Nat.eq_zero_or_pos (wval l) with h0 | h0
      · rw [h0, dg_zero] at h; simp at h
      · exact h0
    · intro h; exact dg_len_pos (by omega)
  · rintro e w' ⟨rfl, rfl⟩
    have := put_is hz A c (sgv neg (wval l)) (by rw [sgv_abs]; omega) (by
      rw [sgv_abs]
      intro hpos
      have hne : wval l ≠ 0 := fun h => by rw [h, dg_zero] at hpos; simp at hpos
      obtain ⟨j, hj, hjj⟩ : ∃ j, j ≤ l.length ∧ l.take j = dg (wval l) := by
        obtain ⟨j, hj, h1, h2⟩ : ∃ j, j ≤ l.length ∧ (∀ i, j ≤ i → l.getD i 0 = 0) ∧ (0 < j → l.getD (j - 1) 0 ≠ 0) := lastWord l
        exact ⟨j, hj, dg_cut l hw j hj h1 h2⟩
      rw [← hjj] at hpos ⊢
      exact hr.take j hpos)
    rw [sgv_abs] at this
    exact this
end Go.Proofs.YtjmaggfddinbkaaGreatDoor
end

section
namespace Go.Proofs.YtjmaggfddinbkaaGreatDoor
open Go.RowKit
attribute [go_sem] firmAt firmUpon
theorem Tryz.infoW : (Tryz.prog.info? 133).map (fun i => (i.zero, i.size, i.bytes)) = some (some (.int .u32 0), 1, 4) := by kernel_rfl
def uv (l : List Nat) : List Value := l.map fun (x : Nat) => .int .u32 (x : Int)
theorem add_zero_off (g j : Nat) : (⟨g, 0, none⟩ : Addr).add j = ⟨g, j, none⟩ := by
  unfold Addr.add; split
  · rename_i h; subst h; rfl
  · simp
theorem uv_at (l : List Nat) {j : Nat} {u : Value} (h : (uv l)[j]? = some u) : j < l.length ∧ u = .int .u32 ((l.getD j 0 : Nat) : Int) := by
  unfold uv at h
  rw [List.getElem?_map] at h
  by_cases hj : j < l.length
  · rw [List.getElem?_eq_getElem hj] at h
    refine ⟨hj, ?_⟩
    simp at h
    rw [← h]; simp [List.getD_eq_getElem?_getD, hj]
  · rw [List.getElem?_eq_none (by omega)] at h; simp at h
theorem rowAt_of_owns {w : World} {base n : Nat} {v : Value} {l : List Nat} (h : w.ownsRow base 133 1 v n (uv l)) : ∃ A c, v = .slice A l.length c ∧ l.length ≤ c ∧ RowAt w A l := by
  have hlen : l.length = n := by have := h.1; simpa [uv] using this
  subst hlen
  rcases h.2 with ⟨rfl, h0⟩ | ⟨g, cap, cur, rfl, _, hb, hc, _, hsz, htk⟩
  · refine ⟨none, 0, by rw [h0], by omega, ?_⟩
    intro hp; omega
  · refine ⟨_, _, rfl, hc, fun _ => ⟨g, cur.size, fun i => (cur[i]?).getD undef, rfl, by omega, ⟨cur, hb, rfl, fun i hi => by simp [hi]⟩, fun i hi => ?_⟩⟩
    have : (cur.toList.take (l.length * 1))[i]? = (uv l)[i]? := by rw [htk]
    rw [List.getElem?_take, if_pos (by omega), Array.getElem?_toList] at this
    show (cur[i]?).getD undef = _
    rw [this]
    unfold uv
    simp [List.getD_eq_getElem?_getD, hi]
theorem run_append_nil_nil {P : Program} (w : World) (t ty e : TypeId) (i : TypeInfo) (ht : P.underlying t = some (.slice e)) (hi : P.info? e = some i) (c : Nat) : (Builtin.append_ #[t, t] ty #[.slice none 0 0, .slice none 0 c]).run P w = .ok (.slice none 0 0) w := by
  simp [Builtin.append_, run_underlying ht, sizeOf, typeInfo, hi, Builtin.lenOf, Builtin.firstCells]
theorem run_copy {w : World} (A : Option Addr) (l : List Nat) (c : Nat) (hr : RowAt w A l) (hl : l.length ≤ 3000000) :
    ∃ A' c' w', (Builtin.append_ #[100, 100] 100 #[.slice none 0 0, .slice A l.length c]).run Tryz.prog w = .ok (.slice A' l.length c') w' ∧ l.length ≤ c' ∧ RowAt w' A' l ∧ Within w w' := by
  obtain ⟨i0, hi0, hz0, hz1, hz2⟩ := info_parts Tryz.infoW
  have hU : Tryz.prog.underlying 100 = some (.slice 133) := by kernel_rfl
  rcases A with _ | ad
  · have h0 : l = [] := by
      rcases Nat.eq_zero_or_pos l.length with h | h
      · exact List.eq_nil_of_length_eq_zero h
      · obtain ⟨g, _, _, e, _⟩ := hr h; cases e
    subst h0
    exact ⟨none, 0, w, run_append_nil_nil w _ _ _ i0 hU hi0 c, by simp, RowAt.nil, Within.refl _⟩
  · have hcells : ∀ j u, (uv l)[j]? = some u → w.cell? (ad.add j) = some u := by
      intro j u hu
      obtain ⟨hj, rfl⟩ := uv_at l hu
      obtain ⟨g, e, _, hc⟩ := hr.cell hj
      have e' := Option.some.inj e
      rw [e', add_zero_off]; exact hc
    obtain ⟨v', w', hrun, h2, h3, _, _⟩ := run_append_own_at (P := Tryz.prog) w w.heap.size 100 100 133 i0 (.int .u32 0) 1 4 hU hi0 hz0 hz1 hz2 rfl (by decide) (.slice none 0 0) 0 [] (World.ownsRow_nil _ _ _ _) ad l.length c (uv l)
      (by simp [uv]) hcells (by intro u hu; obtain ⟨x, _, rfl⟩ := List.mem_map.1 hu; rfl) (by unfold maxLen; omega) (by omega) (Nat.le_refl _)
    rw [List.nil_append] at h2
    obtain ⟨A', c', rfl, hc, hr'⟩ := rowAt_of_owns h2
    refine ⟨A', c', w', hrun, hc, hr', ⟨h3.os, h3.tape, h3.output, h3.size, fun k hk => h3.block k hk (by intro e; cases e)⟩⟩
theorem RowAt.drew {w : World} {A : Option Addr} {l : List Nat} (h : RowAt w A l) : RowAt w.drew A l := h
theorem wp_copy {w : World} {o : Oper} {a : Act} {K : Act → World → Prop} {Q : Exit → Act → World → Prop} (s x : Operand) (A : Option Addr) (l : List Nat) (c : Nat)
    (ho : o.op = .call { callee := .builtin .append, args := #[s, x], argTypes := #[100, 100] }) (ht : o.type = 100) (hs : a.eval s = .slice none 0 0) (hx : a.eval x = .slice A l.length c) (hr : RowAt w A l) (hl : l.length ≤ 3000000)
    (h : ∀ A' c' w', l.length ≤ c' → RowAt w' A' l → Within w w' → K (a.put o.dst (.slice A' l.length c')) w') : o.wp Tryz.prog a w K Q := by
  obtain ⟨A', c', w', hrun, h1, h2, h3⟩ := run_copy A l c hr hl
  rw [← ht] at hrun
  unfold Oper.wp execOp
  simp only [ho, resolve, invoke, builtin, Sem.run_bind, Sem.run_pure, Result.andThen_ok, List.map_toArray, List.map_cons, List.map_nil, hs, hx, ht] at hrun ⊢
  rw [hrun]
  exact h A' c' w' h1 h2 h3
end Go.Proofs.YtjmaggfddinbkaaGreatDoor
end

section
namespace Go.Proofs.YtjmaggfddinbkaaGreatDoor
open Go.RowKit
theorem Tryz.infoU32 : (Tryz.prog.info? 133).map (fun i => (i.zero, i.size, i.bytes)) = some (some (.int .u32 0), 1, 4) := by kernel_rfl
theorem RowAt.cut {w : World} {A : Option Addr} {l : List Nat} (hr : RowAt w A l) (hw : Words l) : RowAt w A (dg (wval l)) := by
  intro hpos
  obtain ⟨j, hj, h1, h2⟩ := lastWord l
  have hjj := dg_cut l hw j hj h1 h2
  rw [← hjj] at hpos ⊢
  exact hr.take j hpos
theorem retW_cut {W w : World} {A : Option Addr} {l : List Nat} {c n : Nat} (hr : RowAt w A l) (hw : Words l) (hc : l.length ≤ c) (hW : Within W w) (hn : wval l = n) : RetW W n (.returned (.slice A (dg (wval l)).length c)) w := by
  subst hn
  exact ⟨A, c, rfl, Nat.le_trans (dg_len_le (wval_lt l hw)) hc, hr.cut hw, hW⟩
def PlusRel (W : World) (g : Nat) (la lb : List Nat) (cv iv : Value) (wr : World) : Prop :=
  ∃ (k c : Nat) (o : List Nat), k ≤ la.length ∧ c ≤ 1 ∧ cv = .int .u64 (c : Int) ∧ iv = .int .i64 (k : Int) ∧ o.length = la.length + 1 ∧ Words o ∧ OwnW wr g o ∧ lo o k + 4294967296 ^ k * c = lo la k + lo lb k ∧ Within W wr
theorem PlusRel.step {W wr : World} {g : Nat} {la lb o : List Nat} {k c x y : Nat} (u v q : Int) (hk : k < la.length) (hc : c ≤ 1) (ho : o.length = la.length + 1) (hwo : Words o) (hown : OwnW wr g o) (hval : lo o k + 4294967296 ^ k * c = lo la k + lo lb k) (hin : Within W wr)
    (hx : x = la.getD k 0) (hy : y = lb.getD k 0) (hx2 : x < 4294967296) (hy2 : y < 4294967296) (hg : W.heap.size ≤ g) (hu : u = (((x + c + y) / 4294967296 : Nat) : Int)) (hv : v = (((x + c + y) % 4294967296 : Nat) : Int)) (hq : q = ((k + 1 : Nat) : Int)) :
    PlusRel W g la lb (.int .u64 u) (.int .i64 q) (wr.setCell ⟨g, k, none⟩ (.int .u32 v)) := by
  subst hu hv hq
  refine ⟨k + 1, (x + c + y) / 4294967296, o.set k ((x + c + y) % 4294967296), by omega, by omega, rfl, rfl, by rw [List.length_set]; exact ho, hwo.set _ _ (by omega), hown.set _ _ (by omega), ?_, hin.setCell hg _⟩
  rw [lo_set_succ _ _ _ (by omega), lo_succ la, lo_succ lb, ← hx, ← hy, Nat.pow_succ]
  have := plus_step (P := 4294967296 ^ k) (a := x) (b := y) hval
  omega
set_option maxRecDepth 100000 in
set_option maxHeartbeats 600000 in
theorem Bplus_ge (la lb : List Nat) (A Bv : Option Addr) (ca cb : Nat) (hwa : Words la) (hwb : Words lb) (hla : la.length ≤ 1500000) (hge : lb.length ≤ la.length) (w : World) (hra : RowAt w A la) (hrb : RowAt w Bv lb) :
    Calls Tryz.prog 134 #[.slice A la.length ca, .slice Bv lb.length cb] w (RetW w (wval la + wval lb)) := by
  have hmk := run_make_row' (P := Tryz.prog) 100 133 (.int .u32 0) 4 (by kernel_rfl) Tryz.infoU32 rfl .i64 .i64 (la.length + 1) (by omega) (by omega)
  rw [show ((la.length + 1 : Nat) : Int) = (la.length : Int) + 1 by omega] at hmk
  have d1 : decide (la.length < lb.length) = false := decide_eq_false (by omega)
  have HWA := Lib.hid hwa; have HWB := Lib.hid hwb; have HRA := Lib.hid hra; have HRB := Lib.hid hrb; clear hwa hwb hra hrb
  have HGE := Lib.hid hge; clear hge
  have HM := OwnW.made w (la.length + 1)
  go_enter Tryz.func134, Tryz.ntmps134
  go_wp2
  go_loopw [7, 8] (fun cv iv wr => PlusRel w w.heap.size la lb cv iv wr) (fun _ iv _ => la.length - (intOf iv).toNat)
  case atStart => exact ⟨0, 0, _, Nat.zero_le _, Nat.zero_le _, rfl, rfl, by simp, Words.zeros _, HM, by simp [lo_zero], (Within.refl w).alloc _⟩
  case round =>
    obtain ⟨k, c, o, hk, hc, rfl, rfl, ho, hwo, hown, hval, hin⟩ := hrel
    have HV := Lib.hid hval; have HO := Lib.hid ho; have HWO := Lib.hid hwo; clear hval ho hwo
    rcases Nat.lt_or_ge k la.length with hlt | hlt
    · obtain ⟨ga, rfl, hga, hca⟩ := (HRA.out.of hin).cell hlt
      obtain ⟨x, hxe⟩ : ∃ x, x = la.getD k 0 := ⟨_, rfl⟩
      have hx : x < 4294967296 := by rw [hxe]; exact HWA.out.getD k
      rw [← hxe] at hca
      have HXE := Lib.hid hxe; clear hxe
      have hco := hown.cell (i := k) (by rw [HO.out]; omega)
      have hfo := hown.frozen k
      rcases Nat.lt_or_ge k lb.length with hlb | hlb
      · obtain ⟨gb, rfl, hgb, hcb⟩ := (HRB.out.of hin).cell hlb
        obtain ⟨y, hye⟩ : ∃ y, y = lb.getD k 0 := ⟨_, rfl⟩
        have hy : y < 4294967296 := by rw [hye]; exact HWB.out.getD k
        rw [← hye] at hcb
        have HYE := Lib.hid hye; clear hye
        go_wp2
        go_roundw
        case rel => exact PlusRel.step (x := x) (y := y) _ _ _ hlt hc HO.out HWO.out hown HV.out hin HXE.out HYE.out hx hy (Nat.le_refl _) (by omega) (by omega) (by omega)
        case measure => simp [intOf]; omega
      · have hy0 : 0 = lb.getD k 0 := by simp [List.getD_eq_getElem?_getD, hlb]
        have HY0 := Lib.hid hy0; clear hy0
        go_wp2
        go_roundw
        case rel => exact PlusRel.step (x := x) (y := 0) _ _ _ hlt hc HO.out HWO.out hown HV.out hin HXE.out HY0.out hx (by decide) (Nat.le_refl _) (by omega) (by omega) (by omega)
        case measure => simp [intOf]; omega
    · obtain rfl : k = la.length := by omega
      have hco := hown.cell (i := la.length) (by rw [HO.out]; omega)
      have hfo := hown.frozen la.length
      have hsz := HO.out
      have hown2 := hown.set la.length c (by omega)
      have HL : Hid ((o.set la.length c).length = la.length + 1) := by rw [List.length_set]; exact hsz
      have CT := Lib.hid (Bcut (o.set la.length c) (some ⟨w.heap.size, 0, none⟩) (la.length + 1) (HWO.out.set _ _ (by omega)) (by rw [HL.out]; exact Nat.le_refl _) (by rw [HL.out]; omega) _ hown2.at)
      rw [HL.out] at CT
      clear hsz hown2
      go_wp2_with fail
      refine (CT.out).mono ?_; rintro e1 w1 ⟨rfl, rfl⟩
      go_wp2
      go_ret
      refine retW_cut (hown.set la.length c (by rw [HO.out]; omega)).at (HWO.out.set _ _ (by omega)) (by rw [HL.out]; exact Nat.le_refl _) (hin.setCell (Nat.le_refl _) _) ?_
      rw [← lo_all (o.set la.length c) (Nat.le_of_eq HL.out), lo_set_succ _ _ _ (by rw [HO.out]; omega), HV.out, lo_all _ (Nat.le_refl _), lo_all _ HGE.out]
set_option maxRecDepth 100000 in
set_option maxHeartbeats 600000 in
theorem Bplus_lt (lb la : List Nat) (Bv A : Option Addr) (cb ca : Nat) (hwa : Words lb) (hwb : Words la) (hla : lb.length ≤ 1500000) (hgt : la.length < lb.length) (w : World) (hra : RowAt w Bv lb) (hrb : RowAt w A la) :
    Calls Tryz.prog 134 #[.slice A la.length ca, .slice Bv lb.length cb] w (RetW w (wval lb + wval la)) := by
  have hmk := run_make_row' (P := Tryz.prog) 100 133 (.int .u32 0) 4 (by kernel_rfl) Tryz.infoU32 rfl .i64 .i64 (lb.length + 1) (by omega) (by omega)
  rw [show ((lb.length + 1 : Nat) : Int) = (lb.length : Int) + 1 by omega] at hmk
  have d1 : decide (la.length < lb.length) = true := decide_eq_true (by omega)
  have HWA := Lib.hid hwa; have HWB := Lib.hid hwb; have HRA := Lib.hid hra; have HRB := Lib.hid hrb; clear hwa hwb hra hrb
  have HGE := Lib.hid (Nat.le_of_lt hgt); clear hgt
  have HM := OwnW.made w (lb.length + 1)
  go_enter Tryz.func134, Tryz.ntmps134
  go_wp2
  go_loopw [7, 8] (fun cv iv wr => PlusRel w w.heap.size lb la cv iv wr) (fun _ iv _ => lb.length - (intOf iv).toNat)
  case atStart => exact ⟨0, 0, _, Nat.zero_le _, Nat.zero_le _, rfl, rfl, by simp, Words.zeros _, HM, by simp [lo_zero], (Within.refl w).alloc _⟩
  case round =>
    obtain ⟨k, c, o, hk, hc, rfl, rfl, ho, hwo, hown, hval, hin⟩ := hrel
    have HV := Lib.hid hval; have HO := Lib.hid ho; have HWO := Lib.hid hwo; clear hval ho hwo
    rcases Nat.lt_or_ge k lb.length with hlt | hlt
    · obtain ⟨ga, rfl, hga, hca⟩ := (HRA.out.of hin).cell hlt
      obtain ⟨x, hxe⟩ : ∃ x, x = lb.getD k 0 := ⟨_, rfl⟩
      have hx : x < 4294967296 := by rw [hxe]; exact HWA.out.getD k
      rw [← hxe] at hca
      have HXE := Lib.hid hxe; clear hxe
      have hco := hown.cell (i := k) (by rw [HO.out]; omega)
      have hfo := hown.frozen k
      rcases Nat.lt_or_ge k la.length with hlb | hlb
      · obtain ⟨gb, rfl, hgb, hcb⟩ := (HRB.out.of hin).cell hlb
        obtain ⟨y, hye⟩ : ∃ y, y = la.getD k 0 := ⟨_, rfl⟩
        have hy : y < 4294967296 := by rw [hye]; exact HWB.out.getD k
        rw [← hye] at hcb
        have HYE := Lib.hid hye; clear hye
        go_wp2
        go_roundw
        case rel => exact PlusRel.step (x := x) (y := y) _ _ _ hlt hc HO.out HWO.out hown HV.out hin HXE.out HYE.out hx hy (Nat.le_refl _) (by omega) (by omega) (by omega)
        case measure => simp [intOf]; omega
      · have hy0 : 0 = la.getD k 0 := by simp [List.getD_eq_getElem?_getD, hlb]
        have HY0 := Lib.hid hy0; clear hy0
        go_wp2
        go_roundw
        case rel => exact PlusRel.step (x := x) (y := 0) _ _ _ hlt hc HO.out HWO.out hown HV.out hin HXE.out HY0.out hx (by decide) (Nat.le_refl _) (by omega) (by omega) (by omega)
        case measure => simp [intOf]; omega
    · obtain rfl : k = lb.length := by omega
      have hco := hown.cell (i := lb.length) (by rw [HO.out]; omega)
      have hfo := hown.frozen lb.length
      have hsz := HO.out
      have hown2 := hown.set lb.length c (by omega)
      have HL : Hid ((o.set lb.length c).length = lb.length + 1) := by rw [List.length_set]; exact hsz
      have CT := Lib.hid (Bcut (o.set lb.length c) (some ⟨w.heap.size, 0, none⟩) (lb.length + 1) (HWO.out.set _ _ (by omega)) (by rw [HL.out]; exact Nat.le_refl _) (by rw [HL.out]; omega) _ hown2.at)
      rw [HL.out] at CT
      clear hsz hown2
      go_wp2_with fail
      refine (CT.out).mono ?_; rintro e1 w1 ⟨rfl, rfl⟩
      go_wp2
      go_ret
      refine retW_cut (hown.set lb.length c (by rw [HO.out]; omega)).at (HWO.out.set _ _ (by omega)) (by rw [HL.out]; exact Nat.le_refl _) (hin.setCell (Nat.le_refl _) _) ?_
      rw [← lo_all (o.set lb.length c) (Nat.le_of_eq HL.out), lo_set_succ _ _ _ (by rw [HO.out]; omega), HV.out, lo_all _ (Nat.le_refl _), lo_all _ HGE.out]
theorem Bplus (a b : Nat) (A Bv : Option Addr) (ca cb : Nat) (ha : (dg a).length ≤ 1500000) (hb : (dg b).length ≤ 1500000) (w : World) (hra : RowAt w A (dg a)) (hrb : RowAt w Bv (dg b)) :
    Calls Tryz.prog 134 #[.slice A (dg a).length ca, .slice Bv (dg b).length cb] w (RetW w (a + b)) := by
  rcases Nat.lt_or_ge (dg a).length (dg b).length with h | h
  · have := Bplus_lt (dg b) (dg a) Bv A cb ca (words_dg b) (words_dg a) hb h w hrb hra
    rw [wval_dg, wval_dg, Nat.add_comm] at this
    exact this
  · have := Bplus_ge (dg a) (dg b) A Bv ca cb (words_dg a) (words_dg b) ha h w hra hrb
    rw [wval_dg, wval_dg] at this
    exact this
end Go.Proofs.YtjmaggfddinbkaaGreatDoor
end

section
namespace Go.Proofs.YtjmaggfddinbkaaGreatDoor
open Go.RowKit
theorem IntB.rd {w : World} {g : Nat} {v : Int} (h : IntB w g v) : ∃ A c, w.cell? ⟨g, 0, none⟩ = some (.bool (decide (v < 0))) ∧ w.cell? ⟨g, 1, none⟩ = some (.slice A (dg v.natAbs).length c) ∧ RowAt w A (dg v.natAbs) := by
  obtain ⟨A, c, h0, h1, _, hr⟩ := h.cells
  exact ⟨A, c, h0, h1, hr⟩
theorem sgv_not (v : Int) : sgv (!decide (v < 0)) v.natAbs = -v := by
  unfold sgv; by_cases h : v < 0
  · rw [decide_eq_true h, if_neg (by decide)]; omega
  · rw [decide_eq_false h, if_pos (by decide)]; omega
theorem sgv_no (n : Nat) : sgv false n = n := rfl
theorem PutI.trans {W w : World} {z : Nat} {v : Int} {e : Ending} {w' : World} (h : Within W w) (k : PutI w z v e w') : PutI W z v e w' := ⟨k.1, k.2.1, grown_trans (grown_within z h) k.2.2⟩
theorem wval_two (n : Nat) : wval [n % 4294967296, n / 4294967296] = n := by
  simp only [wval]; omega
theorem two_at (w : World) (x y : Nat) (C : Array Value) (hC : C = #[.int .u32 (x : Int), .int .u32 (y : Int)]) : RowAt (w.alloc (.cells C 133)) (some ⟨w.heap.size, 0, none⟩) [x, y] := by
  subst hC
  intro _
  have h := World.rowIs_alloc w #[.int .u32 (x : Int), .int .u32 (y : Int)] 133 (fun i => .int .u32 (([x, y].getD i 0 : Nat) : Int)) (by
    intro i hi
    have : i = 0 ∨ i = 1 := by simp at hi; omega
    rcases this with rfl | rfl <;> rfl)
  exact ⟨_, _, _, rfl, Nat.le_refl _, h, fun i _ => rfl⟩
set_option maxRecDepth 100000 in
set_option maxHeartbeats 600000 in
theorem Bwords (n : Nat) (hn : n < 18446744073709551616) (w : World) : Calls Tryz.prog 130 #[.int .u64 (n : Int)] w (RetW w n) := by
  have hh : (n : Int) / 4294967296 % 4294967296 = (n : Int) / 4294967296 := by omega
  have HN := Lib.hid hn; clear hn
  have CT := Lib.hid (fun (w' : World) (hr : RowAt w' (some ⟨w.heap.size, 0, none⟩) [n % 4294967296, n / 4294967296]) => Bcut [n % 4294967296, n / 4294967296] (some ⟨w.heap.size, 0, none⟩) 2 (by intro x hx; have := HN.out; simp at hx; omega) (by simp) (by simp) w' hr)
  go_enter Tryz.func130, Tryz.ntmps130
  go_wp2_with fail
  refine (CT.out _ (two_at w _ _ _ (by simp))).mono ?_; rintro e1 w1 ⟨rfl, rfl⟩
  go_wp2
  go_ret
  exact retW_cut (two_at w _ _ _ (by simp)) (by intro x hx; have := HN.out; simp at hx; omega) (by simp) ((Within.refl w).alloc _) (wval_two n)
set_option maxRecDepth 100000 in
set_option maxHeartbeats 600000 in
theorem BsetUint64 (z n : Nat) (hn : n < 18446744073709551616) (w : World) (hz : IntTy w z) : Calls Tryz.prog 97 #[.pointer (some ⟨z, 0, none⟩), .int .u64 (n : Int)] w (PutI w z n) := by
  have HZ := Lib.hid hz; clear hz
  have HN := Lib.hid hn; clear hn
  go_enter Tryz.func97, Tryz.ntmps97
  go_wp2_with fail
  refine (Bwords n HN.out w).mono ?_; rintro e1 w1 ⟨A1, c1, rfl, hc1, hr1, hb1⟩
  go_wp2_with fail
  refine (Bput z false (dg n) A1 c1 (words_dg n) hc1 (Nat.le_trans (dg_len_le (k := 2) HN.out) (by decide)) w1 hr1 (HZ.out.of hb1)).mono ?_; rintro e2 w2 ⟨rfl, hI, hG⟩
  go_wp2
  go_ret
  rw [wval_dg, sgv_no] at hI
  exact ⟨rfl, hI, grown_trans (grown_within z hb1) hG⟩
set_option maxRecDepth 100000 in
set_option maxHeartbeats 600000 in
theorem BsetInt64_neg (z : Nat) (n : Int) (m : Nat) (b : Bool) (hn : n < 0) (hb : b = true) (hm : n = -(m : Int)) (hl : m ≤ 9223372036854775808) (w : World) (hz : IntTy w z) : Calls Tryz.prog 145 #[.pointer (some ⟨z, 0, none⟩), .int .i64 n] w (PutI w z (sgv b m)) := by
  have HZ := Lib.hid hz; clear hz
  have HL := Lib.hid (show m < 18446744073709551616 by omega)
  have d : decide (n < 0) = true := decide_eq_true hn
  have HB := Lib.hid hb; clear hb
  have g : IntKind.u64.wrap (-IntKind.u64.wrap n) = (m : Int) := by rw [IntKind.wrap_u64, IntKind.wrap_u64]; omega
  clear hn hm hl
  go_enter Tryz.func145, Tryz.ntmps145
  go_wp2_with fail
  refine (Bwords m HL.out w).mono ?_; rintro e1 w1 ⟨A1, c1, rfl, hc1, hr1, hb1⟩
  go_wp2_with fail
  refine (Bput z true (dg m) A1 c1 (words_dg m) hc1 (Nat.le_trans (dg_len_le (k := 2) HL.out) (by decide)) w1 hr1 (HZ.out.of hb1)).mono ?_; rintro e2 w2 ⟨rfl, hI, hG⟩
  go_wp2
  go_ret
  rw [wval_dg] at hI
  rw [HB.out]
  exact ⟨rfl, hI, grown_trans (grown_within z hb1) hG⟩
set_option maxRecDepth 100000 in
set_option maxHeartbeats 600000 in
theorem BsetInt64_pos (z : Nat) (n : Int) (m : Nat) (b : Bool) (hn : ¬ n < 0) (hb : b = false) (hm : n = (m : Int)) (hl : m ≤ 9223372036854775807) (w : World) (hz : IntTy w z) : Calls Tryz.prog 145 #[.pointer (some ⟨z, 0, none⟩), .int .i64 n] w (PutI w z (sgv b m)) := by
  have HZ := Lib.hid hz; clear hz
  have HL := Lib.hid (show m < 18446744073709551616 by omega)
  have d : decide (n < 0) = false := decide_eq_false hn
  have HB := Lib.hid hb; clear hb
  have g : IntKind.u64.wrap n = (m : Int) := by rw [IntKind.wrap_u64]; omega
  clear hn hm hl
  go_enter Tryz.func145, Tryz.ntmps145
  go_wp2_with fail
  refine (Bwords m HL.out w).mono ?_; rintro e1 w1 ⟨A1, c1, rfl, hc1, hr1, hb1⟩
  go_wp2_with fail
  refine (Bput z false (dg m) A1 c1 (words_dg m) hc1 (Nat.le_trans (dg_len_le (k := 2) HL.out) (by decide)) w1 hr1 (HZ.out.of hb1)).mono ?_; rintro e2 w2 ⟨rfl, hI, hG⟩
  go_wp2
  go_ret
  rw [wval_dg] at hI
  rw [HB.out]
  exact ⟨rfl, hI, grown_trans (grown_within z hb1) hG⟩
theorem BsetInt64 (z : Nat) (n : Int) (h1 : -9223372036854775808 ≤ n) (h2 : n ≤ 9223372036854775807) (w : World) (hz : IntTy w z) : Calls Tryz.prog 145 #[.pointer (some ⟨z, 0, none⟩), .int .i64 n] w (PutI w z n) := by
  by_cases h : n < 0
  · have := BsetInt64_neg z n n.natAbs true h rfl (by omega) (by omega) w hz
    rwa [show sgv true n.natAbs = n by unfold sgv; rw [if_pos rfl]; omega] at this
  · have := BsetInt64_pos z n n.natAbs false h rfl (by omega) (by omega) w hz
    rwa [show sgv false n.natAbs = n by unfold sgv; rw [if_neg (by decide)]; omega] at this
def NewI (W : World) (v : Int) (e : Ending) (w' : World) : Prop := ∃ g, e = .returned (.pointer (some ⟨g, 0, none⟩)) ∧ IntB w' g v ∧ W.heap.size ≤ g ∧ Within W w'
set_option maxRecDepth 100000 in
set_option maxHeartbeats 600000 in
theorem BnewInt (n : Int) (h1 : -9223372036854775808 ≤ n) (h2 : n ≤ 9223372036854775807) (w : World) : Calls Tryz.prog 114 #[.int .i64 n] w (NewI w n) := by
  have SI := Lib.hid (fun (w' : World) (hz : IntTy w' w.heap.size) => BsetInt64 w.heap.size n h1 h2 w' hz)
  have HT := Lib.hid (IntB.made w).ty
  clear h1 h2
  go_enter Tryz.func114, Tryz.ntmps114
  go_wp2_with fail
  refine (SI.out _ HT.out).mono ?_; rintro e1 w1 ⟨rfl, hI, hG⟩
  go_wp2
  go_ret
  exact ⟨_, rfl, hI, Nat.le_refl _, Within.grown ((Within.refl w).alloc _) hG (Nat.le_refl _)⟩
set_option maxRecDepth 100000 in
set_option maxHeartbeats 600000 in
theorem Bneg0 (z x : Nat) (b : Bool) (A : Option Addr) (l : List Nat) (c : Nat) (hw : Words l) (hl : l.length ≤ 2000000) (w : World) (hz : IntTy w z) (c0 : w.cell? ⟨x, 0, none⟩ = some (.bool b)) (c1 : w.cell? ⟨x, 1, none⟩ = some (.slice A l.length c)) (hr : RowAt w A l) : Calls Tryz.prog 98 #[.pointer (some ⟨z, 0, none⟩), .pointer (some ⟨x, 0, none⟩)] w (PutI w z (sgv (!b) (wval l))) := by
  have HZ := Lib.hid hz; have HW := Lib.hid hw; have HR := Lib.hid hr; clear hz hw hr
  have hlt := World.block_lt_of_cell? w _ c0
  go_enter Tryz.func98, Tryz.ntmps98
  go_wp2
  refine wp_region_sched (fun W => W.cell? ⟨x, 0, none⟩ = some (.bool b) ∧ W.cell? ⟨x, 1, none⟩ = some (.slice A l.length c)) 11 [(0, true), (1, true), (2, true), (3, true), (4, true), (5, true), (6, true), (7, true), (8, true), (9, true), (10, false), (11, false), (12, false)] (by kernel_rfl) (by kernel_rfl) ⟨c0, c1⟩ ?_
  intro hS
  repeat
    apply sched_firm rfl rfl hS
    · intro wq hq
      have hq0 := hq.1; have hq1 := hq.2
      clear hq
      go_simp
      first | rfl | (trace_state; fail)
    try simp only [Act.put, List.setIfInBounds_toArray, List.set_cons_zero, List.set_cons_succ]
  refine sched_one rfl rfl (fun K hK => ?_)
  refine wp_copy (.const (.slice none 0 0)) (.tmp 14) A l c rfl rfl rfl rfl (RowAt.drew HR.out) (Nat.le_trans hl (by decide)) ?_
  intro A' c' w2 hc' hr' hb'
  have hb2 : Within w w2 := (Within.refl w).drew.trans hb'
  refine hK _ _ (fun h => ⟨(hb2.cells _ _ hlt).trans c0, (hb2.cells _ _ hlt).trans c1⟩) ?_
  clear hK K
  try simp only [Act.put, List.setIfInBounds_toArray, List.set_cons_zero, List.set_cons_succ]
  refine sched_one rfl rfl (fun K hK => ?_)
  go_simp
  refine (Bput z (!b) l A' c' HW.out hc' hl w2 hr' (HZ.out.of hb2)).mono ?_
  rintro e3 w3 ⟨rfl, hI, hG⟩
  refine hK _ _ (fun h => absurd h (by decide)) ?_
  clear hK K
  try simp only [Act.put, List.setIfInBounds_toArray, List.set_cons_zero, List.set_cons_succ]
  refine sched_one rfl rfl (fun K hK => ?_)
  go_simp
  refine hK _ _ (fun h => absurd h (by decide)) ?_
  clear hK K
  try simp only [Act.put, List.setIfInBounds_toArray, List.set_cons_zero, List.set_cons_succ]
  refine sched_nil ?_
  go_wp2
  go_ret
  exact ⟨rfl, hI, grown_trans (grown_within z hb2) hG⟩
theorem Bneg (z x : Nat) (v : Int) (hl : (dg v.natAbs).length ≤ 2000000) (w : World) (hz : IntTy w z) (hx : IntB w x v) : Calls Tryz.prog 98 #[.pointer (some ⟨z, 0, none⟩), .pointer (some ⟨x, 0, none⟩)] w (PutI w z (-v)) := by
  obtain ⟨A, c, c0, c1, hr⟩ := hx.rd
  have := Bneg0 z x _ A (dg v.natAbs) c (words_dg _) hl w hz c0 c1 hr
  rw [wval_dg, sgv_not] at this
  exact this
end Go.Proofs.YtjmaggfddinbkaaGreatDoor
end

section
namespace Go.Proofs.YtjmaggfddinbkaaGreatDoor
open Go.RowKit
theorem repl_getD (n j : Nat) : (List.replicate n 0).getD j 0 = 0 := by
  rw [List.getD_eq_getElem?_getD, List.getElem?_replicate]
  by_cases h : j < n
  · rw [if_pos h]; rfl
  · rw [if_neg h]; rfl
def LeftRel (W : World) (g : Nat) (la : List Nat) (W0 S0 : Nat) (iv : Value) (wr : World) : Prop :=
  ∃ (k : Nat) (o : List Nat), k ≤ la.length ∧ iv = .int .i64 (k : Int) ∧ o.length = W0 + la.length + 1 ∧ Words o ∧ OwnW wr g o ∧ lo o (W0 + k + 1) = lo la k * 2 ^ S0 * 4294967296 ^ W0 ∧ o.getD (W0 + k) 0 < 2 ^ S0 ∧ (∀ j, W0 + k < j → o.getD j 0 = 0) ∧ Within W wr
theorem low_lt {x S0 z : Nat} (hS : S0 < 32) (hz : z < 2 ^ S0) : z + x * 2 ^ S0 % 4294967296 < 4294967296 := by
  rw [left_low hS]
  have h1 : x % 2 ^ (32 - S0) < 2 ^ (32 - S0) := Nat.mod_lt _ (Nat.two_pow_pos _)
  have h2 : (x % 2 ^ (32 - S0) + 1) * 2 ^ S0 ≤ 2 ^ (32 - S0) * 2 ^ S0 := Nat.mul_le_mul_right _ h1
  rw [← Nat.pow_add, show 32 - S0 + S0 = 32 by omega, Nat.add_mul] at h2
  omega
theorem low_or {x S0 z : Nat} (hS : S0 < 32) (hz : z < 2 ^ S0) : bits .or .u32 (z : Int) ((x * 2 ^ S0 % 4294967296 : Nat) : Int) = ((z + x * 2 ^ S0 % 4294967296 : Nat) : Int) := by
  have h1 := low_lt (x := x) hS hz
  rw [u32_or_nat _ _ (by omega) (by omega), Nat.or_comm, nat_join S0 _ _ (by rw [left_low hS, Nat.mul_mod_left]) hz, Nat.add_comm]
theorem LeftRel.step {W wr : World} {g : Nat} {la o : List Nat} {W0 S0 k x z : Nat} (u v q : Int) (hk : k < la.length) (hS : S0 < 32) (ho : o.length = W0 + la.length + 1) (hwo : Words o) (hown : OwnW wr g o)
    (hval : lo o (W0 + k + 1) = lo la k * 2 ^ S0 * 4294967296 ^ W0) (hlow : z < 2 ^ S0) (hzero : ∀ j, W0 + k < j → o.getD j 0 = 0) (hin : Within W wr)
    (hx : x = la.getD k 0) (hz : z = o.getD (W0 + k) 0) (hx2 : x < 4294967296) (hg : W.heap.size ≤ g) (hu : u = ((z + x * 2 ^ S0 % 4294967296 : Nat) : Int)) (hv : v = ((x * 2 ^ S0 / 4294967296 : Nat) : Int)) (hq : q = ((k + 1 : Nat) : Int)) :
    LeftRel W g la W0 S0 (.int .i64 q) ((wr.setCell ⟨g, W0 + k, none⟩ (.int .u32 u)).setCell ⟨g, W0 + k + 1, none⟩ (.int .u32 v)) := by
  subst hu hv hq
  have hh := left_high (m := x) (s := S0) hx2
  have h32 : 2 ^ S0 ≤ 4294967296 := by rw [show (4294967296 : Nat) = 2 ^ 32 from rfl]; exact Nat.pow_le_pow_right (by decide) (by omega)
  have hl := low_lt (x := x) hS hlow
  generalize hL : x * 2 ^ S0 % 4294967296 = L at *
  generalize hH : x * 2 ^ S0 / 4294967296 = H at *
  have ho1 : (o.set (W0 + k) (z + L)).length = W0 + la.length + 1 := by rw [List.length_set]; exact ho
  refine ⟨k + 1, (o.set (W0 + k) (z + L)).set (W0 + k + 1) H, by omega, rfl, by rw [List.length_set]; exact ho1, (hwo.set _ _ hl).set _ _ (by omega), (hown.set _ _ (by omega)).set _ _ (by omega), ?_, ?_, ?_, (hin.setCell hg _).setCell hg _⟩
  · rw [show W0 + (k + 1) + 1 = W0 + k + 1 + 1 by omega, lo_set_succ _ _ _ (by omega), lo_set_succ _ _ _ (by omega), lo_succ la, ← hx]
    rw [lo_succ, ← hz] at hval
    have := left_step (P := 4294967296 ^ (W0 + k)) (t := x * 2 ^ S0) hval
    rw [hL, hH] at this
    rw [Nat.pow_succ, this, Nat.add_mul, Nat.add_mul, Nat.pow_add]
    congr 1
    rw [Nat.mul_comm (4294967296 ^ W0), Nat.mul_assoc, Nat.mul_assoc, Nat.mul_assoc, Nat.mul_comm (4294967296 ^ W0), Nat.mul_assoc]
  · rw [show W0 + (k + 1) = W0 + k + 1 by omega, getD_set_eq _ _ _ (by omega)]; exact hh
  · intro j hj
    rw [lset_ne _ _ _ _ (by omega), lset_ne _ _ _ _ (by omega)]
    exact hzero j (by omega)
set_option maxRecDepth 100000 in
set_option maxHeartbeats 600000 in
theorem Bleft_pos (la : List Nat) (A : Option Addr) (ca n W0 S0 : Nat) (hwa : Words la) (hla : la.length ≤ 500000) (h0 : 0 < la.length) (hn : n = 32 * W0 + S0) (hS : S0 < 32) (hW : W0 ≤ 500000) (w : World) (hra : RowAt w A la) :
    Calls Tryz.prog 161 #[.slice A la.length ca, .int .u64 (n : Int)] w (RetW w (wval la * 2 ^ n)) := by
  have hmk := run_make_row' (P := Tryz.prog) 100 133 (.int .u32 0) 4 (by kernel_rfl) Tryz.infoU32 rfl .i64 .i64 (W0 + la.length + 1) (by omega) (by omega)
  rw [show ((W0 + la.length + 1 : Nat) : Int) = (W0 : Int) + (la.length : Int) + 1 by omega] at hmk
  have HWA := Lib.hid hwa; have HRA := Lib.hid hra; clear hwa hra
  have hq : (n : Int) / 32 = (W0 : Int) := by omega
  have hr : (n : Int) % 32 = (S0 : Int) := by omega
  have d0 : ((la.length : Int) == 0) = false := beq_eq_false_iff_ne.2 (by omega)
  have HN := Lib.hid hn; clear hn
  have HM := OwnW.made w (W0 + la.length + 1)
  go_enter Tryz.func161, Tryz.ntmps161
  go_wp2
  go_loopw [8] (fun iv wr => LeftRel w w.heap.size la W0 S0 iv wr) (fun iv _ => la.length - (intOf iv).toNat)
  case atStart => exact ⟨0, _, Nat.zero_le _, rfl, by simp, Words.zeros _, HM, by
    rw [lo_zero, lo]
    rw [show (List.replicate (W0 + la.length + 1) 0).take (W0 + 0 + 1) = List.replicate (W0 + 0 + 1) 0 by rw [List.take_replicate]; congr 1; omega, wval_zeros]; simp, by
    rw [repl_getD]; exact Nat.two_pow_pos _, fun j _ => repl_getD _ _, (Within.refl w).alloc _⟩
  case round =>
    obtain ⟨k, o, hk, rfl, ho, hwo, hown, hval, hlow, hzero, hin⟩ := hrel
    have HV := Lib.hid hval; have HO := Lib.hid ho; have HWO := Lib.hid hwo; have HZ := Lib.hid hzero; clear hval ho hwo hzero
    rcases Nat.lt_or_ge k la.length with hlt | hlt
    · obtain ⟨ga, rfl, hga, hca⟩ := (HRA.out.of hin).cell hlt
      obtain ⟨x, hxe⟩ : ∃ x, x = la.getD k 0 := ⟨_, rfl⟩
      have hx : x < 4294967296 := by rw [hxe]; exact HWA.out.getD k
      rw [← hxe] at hca
      have HXE := Lib.hid hxe; clear hxe
      obtain ⟨z, hze⟩ : ∃ z, z = o.getD (W0 + k) 0 := ⟨_, rfl⟩
      have hco := hown.cell (i := W0 + k) (by rw [HO.out]; omega)
      have hfo := hown.frozen (W0 + k)
      have hco1 := hown.cell (i := W0 + k + 1) (by rw [HO.out]; omega)
      have hfo1 := hown.frozen (W0 + k + 1)
      rw [← hze] at hco hlow
      have HZE := Lib.hid hze; clear hze
      have gsh : IntKind.u64.wrap ((x : Int) * 2 ^ S0) = ((x * 2 ^ S0 : Nat) : Int) := by
        have e : (x : Int) * 2 ^ S0 = ((x * 2 ^ S0 : Nat) : Int) := by simp
        have := left_high (m := x) (s := S0) hx
        have h32 : 2 ^ S0 ≤ 4294967296 := by rw [show (4294967296 : Nat) = 2 ^ 32 from rfl]; exact Nat.pow_le_pow_right (by decide) (by omega)
        rw [e, IntKind.wrap_u64]; omega
      have gor := low_or (x := x) hS hlow
      have hH : x * 2 ^ S0 / 4294967296 < 4294967296 := by
        have := left_high (m := x) (s := S0) hx
        have h32 : 2 ^ S0 ≤ 4294967296 := by rw [show (4294967296 : Nat) = 2 ^ 32 from rfl]; exact Nat.pow_le_pow_right (by decide) (by omega)
        omega
      have hstep := fun (u v q : Int) => LeftRel.step (S0 := S0) (x := x) (z := z) u v q hlt hS HO.out HWO.out hown HV.out hlow HZ.out hin HXE.out HZE.out hx (Nat.le_refl _)
      have HST := Lib.hid hstep; clear hstep
      obtain ⟨t, ht⟩ : ∃ t, t = x * 2 ^ S0 := ⟨_, rfl⟩
      rw [← ht] at gsh gor hH
      rw [Int.natCast_emod] at gor
      have HT := Lib.hid ht; clear ht
      have g3 : (t : Int) / 4294967296 % 4294967296 = ((t / 4294967296 : Nat) : Int) := by omega
      go_wp2
      go_roundw
      case rel => exact HST.out _ _ _ (by rw [← HT.out]; first | rfl | exact gor) (by rw [← HT.out]; first | rfl | exact g3) (by omega)
      case measure => simp [intOf]; omega
    · obtain rfl : k = la.length := by omega
      have CT := Lib.hid (Bcut o (some ⟨w.heap.size, 0, none⟩) (W0 + la.length + 1) HWO.out (by rw [HO.out]; exact Nat.le_refl _) (by rw [HO.out]; omega) _ hown.at)
      rw [HO.out] at CT
      go_wp2_with fail
      refine (CT.out).mono ?_; rintro e1 w1 ⟨rfl, rfl⟩
      go_wp2
      go_ret
      refine retW_cut hown.at HWO.out (by rw [HO.out]; exact Nat.le_refl _) hin ?_
      rw [← lo_all o (Nat.le_of_eq HO.out), HV.out, lo_all _ (Nat.le_refl _), HN.out, Nat.mul_assoc, show (4294967296 : Nat) = 2 ^ 32 from rfl, ← Nat.pow_mul, ← Nat.pow_add, Nat.add_comm S0]
set_option maxRecDepth 100000 in
set_option maxHeartbeats 600000 in
theorem Bleft_nil (A : Option Addr) (ca n : Nat) (w : World) : Calls Tryz.prog 161 #[.slice A 0 ca, .int .u64 (n : Int)] w (RetW w 0) := by
  go_enter Tryz.func161, Tryz.ntmps161
  go_wp2
  go_ret
  exact ⟨none, 0, by rw [dg_zero]; rfl, by rw [dg_zero]; exact Nat.le_refl _, by rw [dg_zero]; exact RowAt.nil, Within.refl _⟩
theorem Bleft (a : Nat) (A : Option Addr) (ca n : Nat) (ha : (dg a).length ≤ 500000) (hn : n ≤ 16000000) (w : World) (hra : RowAt w A (dg a)) :
    Calls Tryz.prog 161 #[.slice A (dg a).length ca, .int .u64 (n : Int)] w (RetW w (a * 2 ^ n)) := by
  by_cases h : a = 0
  · subst h
    rw [dg_zero, Nat.zero_mul]
    exact Bleft_nil A ca n w
  · have := Bleft_pos (dg a) A ca n (n / 32) (n % 32) (words_dg a) ha (dg_len_pos h) (by omega) (by omega) (by omega) w hra
    rw [wval_dg] at this
    exact this
end Go.Proofs.YtjmaggfddinbkaaGreatDoor
end
