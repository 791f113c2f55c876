/- What the law's walk rests on, part 2: contracts of functions and plain facts. -/
import Derived.Test.YtgkcpnidmfejeaaGreatDoorZEnc1
set_option linter.unusedVariables false
set_option linter.unusedSimpArgs false
set_option maxRecDepth 100000
set_option maxHeartbeats 4000000
namespace Go.Proofs.YtgkcpnidmfejeaaGreatDoor
open Go.RowKit
def classOf (e fr most : Nat) : Int := if e = most ∧ fr ≠ 0 then 1 else if e = most then 2 else if e = 0 ∧ fr = 0 then 3 else if e = 0 then 4 else 5
def expD (b : Nat) : Nat := canonD b / 4503599627370496 % 2048
def fracD (b : Nat) : Nat := canonD b % 4503599627370496
def negD (b : Nat) : Bool := decide (9223372036854775808 ≤ canonD b)
def classD (b : Nat) : Int := classOf (expD b) (fracD b) 2047
theorem split_D (b : Nat) (hb : b < 18446744073709551616) (w : World) : Calls Tryz.prog 329 #[.int .u64 b, dbl] w fun e w' => e = .returned (.tuple #[.bool (negD b), .int .i64 (expD b), .int .u64 (fracD b)]) ∧ Within w w' := by
 have hc := canonD_lt hb
 have e1 := u64_sign (canonD b) hc
 have e2 := u64_mask 11 dc (canonD b / 4503599627370496) om
 have e3 := u64_mask 52 dc (canonD b) om
 simp only [show (2 ^ 11 - 1 : Nat) = 2047 from rfl, show (2 ^ 11 : Nat) = 2048 from rfl, show (2 ^ 52 - 1 : Nat) = 4503599627370495 from rfl, show (2 ^ 52 : Nat) = 4503599627370496 from rfl, Int.natCast_ediv, Int.natCast_emod, Int.natCast_mul, Int.cast_ofNat_Int] at e1 e2 e3
 have ew : IntKind.u64.wrap (canonD b : Int) = canonD b := by rw [IntKind.wrap_u64]; omega
 have e4 : IntKind.u64.wrap 4503599627370495 = 4503599627370495 := by decide
 have e5 : IntKind.u64.wrap 2047 = 2047 := by decide
 have e6 : IntKind.i64.wrap ((canonD b : Int) / 4503599627370496 % 2048) = (canonD b : Int) / 4503599627370496 % 2048 := by rw [IntKind.wrap_i64]; omega
 have e7 : IntKind.u64.wrap ((canonD b : Int) % 4503599627370496) = (canonD b : Int) % 4503599627370496 := by first | (rw [IntKind.wrap_u64]; omega) | (rw [IntKind.wrap_u32]; omega)
 go_enter Tryz.func329, Tryz.ntmps329
 go_wp2_with fail
 refine (canon_D b hb _).mono ?_; rintro e w1 ⟨rfl, hb1⟩
 have hc1 := hb1.cells; have hz1 : w.heap.size < w1.heap.size := by have := hb1.sizes; simp at this; omega
 go_wp2
 refine wp_region_within kr kr ?_
 repeat
  apply wpq_step rfl
  ·intro wq hCq
   have hcq := hCq.cells
   go_simp
   first | rfl | exact hCq.call (hidden_D _) | exact hCq.call (sign_D _) | (trace_state; fail)
  simp only [Act.put, List.setIfInBounds_toArray, List.set_cons_zero, List.set_cons_succ]
 refine wpQuiet_nil ?_
 intro w2 hC2
 go_wp2
 go_ret3
 refine ⟨ret3 (v_bool (b := negD b) ?_) (v_int (b := expD b) ?_) (v_int (b := fracD b) ?_), wi⟩
 ·show ((canonD b : Int) / 9223372036854775808 * 9223372036854775808 != 0) = negD b
  unfold negD
  rw [Bool.eq_iff_iff, bne_iff_ne, decide_eq_true_iff]; omega
 ·show ((canonD b : Int) / 4503599627370496 % 2048) = _
  unfold expD; omega
 ·show ((canonD b : Int) % 4503599627370496) = _
  unfold fracD; omega
theorem zz27 {p : Prop} (h : p := by
 go_enter Tryz.func266, Tryz.ntmps266
 go_wp2_with fail
 refine (split_D b hb _).mono ?_; rintro e w1 ⟨rfl, hb1⟩
 exact zz131) : p := h
theorem class_D (b : Nat) (hb : b < 18446744073709551616) (w : World) : Calls Tryz.prog 266 #[.int .u64 b, dbl] w fun e w' => e = .returned (.int .i64 (classD b)) ∧ Within w w' := by
 generalize hce : classD b = c
 unfold classD classOf at hce
 by_cases h1 : expD b = 2047
 ·have f1 : ((expD b : Int) == 2047) = true := beq_iff_eq.2 om
  by_cases h2 : fracD b = 0
  ·have f2 : ((fracD b : Int) != 0) = false := by rw [bne_eq_false_iff_eq]; omega
   rw [if_neg om, if_pos h1] at hce
   subst hce
   clear h1 h2
   exact zz27
  ·have f2 : ((fracD b : Int) != 0) = true := by rw [bne_iff_ne]; omega
   rw [if_pos ⟨h1, h2⟩] at hce
   subst hce
   clear h1 h2
   exact zz27
 ·have f1 : ((expD b : Int) == 2047) = false := beq_eq_false_iff_ne.2 om
  by_cases h3 : expD b = 0
  ·have f3 : ((expD b : Int) == 0) = true := beq_iff_eq.2 om
   by_cases h2 : fracD b = 0
   ·have f2 : ((fracD b : Int) == 0) = true := beq_iff_eq.2 om
    rw [if_neg om, if_neg h1, if_pos ⟨h3, h2⟩] at hce
    subst hce
    clear h1 h2 h3
    exact zz27
   ·have f2 : ((fracD b : Int) == 0) = false := beq_eq_false_iff_ne.2 om
    rw [if_neg om, if_neg h1, if_neg om, if_pos h3] at hce
    subst hce
    clear h1 h2 h3
    exact zz27
  ·have f3 : ((expD b : Int) == 0) = false := beq_eq_false_iff_ne.2 om
   rw [if_neg om, if_neg h1, if_neg om, if_neg h3] at hce
   subst hce
   clear h1 h3
   exact zz27
def bitsOfD (neg : Bool) (e fr : Nat) : Nat := e * 4503599627370496 + fr + (if neg then 9223372036854775808 else 0)
def joinD (neg : Bool) (e : Int) (fr : Nat) : Nat := if e < 0 ∨ 2047 < e ∨ 4503599627370496 ≤ fr then 0 else canonD (bitsOfD neg e.toNat fr)
def joinED (e : Int) (fr : Nat) : Int := if e < 0 ∨ 2047 < e ∨ 4503599627370496 ≤ fr then 1 else 0
theorem bitsOfD_lt (neg : Bool) {e fr : Nat} (h1 : e ≤ 2047) (h2 : fr < 4503599627370496) : bitsOfD neg e fr < 18446744073709551616 := by unfold bitsOfD; cases neg <;> simp <;> omega
theorem zz71 {p : Prop} (h : p := by
 have hv : (joinD neg e fr : Int) = 0 ∧ joinED e fr = 1 := by unfold joinD joinED; rw [if_pos om, if_pos om]; exact ⟨rfl, rfl⟩
 rw [hv.1, hv.2]; clear hv hb
 go_enter Tryz.func380, Tryz.ntmps380
 go_wp2
 go_ret2
 exact ⟨rfl, wi⟩) : p := h
theorem join_D (neg : Bool) (e : Int) (fr : Nat) (hlo : -9223372036854775808 ≤ e) (hhi : e ≤ 9223372036854775807) (hb : fr < 18446744073709551616) (w : World) : Calls Tryz.prog 380 #[.bool neg, .int .i64 e, .int .u64 fr, dbl] w fun e' w' => e' = .returned (.tuple #[.int .u64 (joinD neg e fr), .int .i64 (joinED e fr)]) ∧ Within w w' := by
 by_cases c1 : e < 0
 ·exact zz71
 by_cases c2 : 2047 < e
 ·exact zz71
 obtain ⟨k, rfl⟩ := Int.eq_ofNat_of_zero_le (show 0 ≤ e by omega)
 have c3 : (k : Int) ≤ 2047 := by omega
 by_cases c4 : 4503599627370496 ≤ fr
 ·have c5 : decide ((4503599627370496 : Int) ≤ fr) = true := decide_eq_true om
  have d1 : decide ((k : Int) < 0) = false := decide_eq_false om
  have d2 : decide ((2047 : Int) < k) = false := decide_eq_false om
  have ew3 : IntKind.u64.wrap (fr : Int) = fr := by rw [IntKind.wrap_u64]; omega
  have hv : (joinD neg k fr : Int) = 0 ∧ joinED k fr = 1 := by unfold joinD joinED; rw [if_pos om, if_pos om]; exact ⟨rfl, rfl⟩
  rw [hv.1, hv.2]; clear hv hlo hhi hb c4 c1 c2 c3
  go_enter Tryz.func380, Tryz.ntmps380
  go_wp2_with fail
  refine (hidden_D _).mono ?_; rintro e1 w1 ⟨rfl, hb1⟩
  have hc1 := hb1.cells; have hz1 : w.heap.size < w1.heap.size := by have := hb1.sizes; simp at this; omega
  go_wp2
  go_ret2
  exact ⟨rfl, wi⟩
 ·have c5 : decide ((4503599627370496 : Int) ≤ fr) = false := decide_eq_false om
  have d1 : decide ((k : Int) < 0) = false := decide_eq_false om
  have d2 : decide ((2047 : Int) < k) = false := decide_eq_false om
  have hv : (joinD neg k fr : Int) = canonD (bitsOfD neg k fr) ∧ joinED k fr = 0 := by unfold joinD joinED; rw [if_neg om, if_neg om]; exact ⟨rfl, rfl⟩
  rw [hv.1, hv.2]
  have hlt := Hh (bitsOfD_lt neg (e := k) (fr := fr) om om)
  have j1 := u64_join 52 (k * 4503599627370496) fr om om (by rw [show (2 : Nat) ^ 52 = 4503599627370496 from rfl]; omega) (by rw [show (2 : Nat) ^ 52 = 4503599627370496 from rfl]; omega)
  have j2 := u64_join 63 9223372036854775808 (k * 4503599627370496 + fr) om om dc (by rw [show (2 : Nat) ^ 63 = 9223372036854775808 from rfl]; omega)
  have j2' : bits .or .u64 ((k : Int) * 4503599627370496 + fr) 9223372036854775808 = (k : Int) * 4503599627370496 + fr + 9223372036854775808 := by
   rw [show (k : Int) * 4503599627370496 + fr = ((k * 4503599627370496 + fr : Nat) : Int) by omega, show (9223372036854775808 : Int) = ((9223372036854775808 : Nat) : Int) from rfl, u64_or_nat _ _ om om, Nat.or_comm, ← u64_or_nat _ _ om om, j2]
   omega
  simp only [Int.natCast_mul, Int.natCast_add, Int.cast_ofNat_Int] at j1
  have ew : IntKind.u64.wrap (k : Int) = k := by rw [IntKind.wrap_u64]; omega
  have ew2 : IntKind.u64.wrap ((k : Int) * 4503599627370496) = k * 4503599627370496 := by rw [IntKind.wrap_u64]; omega
  have ew3 : IntKind.u64.wrap (fr : Int) = fr := by rw [IntKind.wrap_u64]; omega
  have f0 : (0 : Int) ≤ k := by omega
  have f1 : (0 : Int) ≤ fr := by omega
  clear hv hlo hhi c1 c2 c4 hb j2 c3
  cases neg
  ·have j3 : (k : Int) * 4503599627370496 + fr = (bitsOfD false k fr : Int) := by
    unfold bitsOfD; simp
   have J3 := Hh j3; clear j3
   go_enter Tryz.func380, Tryz.ntmps380
   go_wp2_with fail
   refine (hidden_D _).mono ?_; rintro e1 w1 ⟨rfl, hb1⟩
   have hc1 := hb1.cells; have hz1 : w.heap.size < w1.heap.size := by have := hb1.sizes; simp at this; omega
   go_wp2_with fail
   rw [J3.out]
   refine (canon_D _ hlt.out _).mono ?_; rintro e2 w2 ⟨rfl, hb2⟩
   go_wp2
   go_ret2
   exact ⟨rfl, wi⟩
  ·have j3 : (k : Int) * 4503599627370496 + fr + 9223372036854775808 = (bitsOfD true k fr : Int) := by
    unfold bitsOfD; simp
   have J3 := Hh j3; clear j3
   go_enter Tryz.func380, Tryz.ntmps380
   go_wp2_with fail
   refine (hidden_D _).mono ?_; rintro e1 w1 ⟨rfl, hb1⟩
   have hc1 := hb1.cells; have hz1 : w.heap.size < w1.heap.size := by have := hb1.sizes; simp at this; omega
   go_wp2_with fail
   refine (sign_D _).mono ?_; rintro e2 w2 ⟨rfl, hb2⟩
   have hc2 := hb2.cells; have hz2 : w.heap.size < w2.heap.size := by have := hb2.sizes; omega
   go_wp2_with fail
   rw [J3.out]
   refine (canon_D _ hlt.out _).mono ?_; rintro e3 w3 ⟨rfl, hb3⟩
   go_wp2
   go_ret2
   exact ⟨rfl, wi⟩
theorem parts_eq {n : Bool} {a b c d z : Int} (h1 : a = b) (h2 : c = d) : Ending.returned (.tuple #[.agg #[.bool n, .int .u64 a, .int .i64 c], .int .i64 z]) = .returned (.tuple #[.agg #[.bool n, .int .u64 b, .int .i64 d], .int .i64 z]) := by rw [h1, h2]
def mantD (b : Nat) : Nat := if expD b = 0 then fracD b else fracD b + 4503599627370496
def lowD (b : Nat) : Int := ((if expD b = 0 then 1 else expD b : Nat) : Int) - 1075
theorem expD_lt (b : Nat) : expD b < 2048 := by unfold expD; omega
theorem fracD_lt (b : Nat) : fracD b < 4503599627370496 := by unfold fracD; omega
theorem mantD_lt (b : Nat) : mantD b < 2 * 4503599627370496 := by have := fracD_lt b; unfold mantD; split <;> omega
def pMantD (b : Nat) : Nat := if expD b = 2047 then 0 else mantD b / 2 ^ Lib.ctz 64 (mantD b)
def pExpD (b : Nat) : Int := if expD b = 2047 ∨ mantD b = 0 then 0 else lowD b + Lib.ctz 64 (mantD b)
def pNegD (b : Nat) : Bool := if expD b = 2047 then false else negD b
def pErrD (b : Nat) : Int := if expD b = 2047 then 4 else 0
theorem classD_nan {b : Nat} (h : expD b = 2047) : classD b = 1 ∨ classD b = 2 := by
 unfold classD classOf; by_cases h2 : fracD b = 0
 ·right; rw [if_neg om, if_pos h]
 ·left; rw [if_pos ⟨h, h2⟩]
theorem classD_zero {b : Nat} (h : expD b = 0) (h2 : fracD b = 0) : classD b = 3 := by
 unfold classD classOf; rw [if_neg om, if_neg om, if_pos ⟨h, h2⟩]
theorem classD_sub {b : Nat} (h : expD b = 0) (h2 : fracD b ≠ 0) : classD b = 4 := by
 unfold classD classOf; rw [if_neg om, if_neg om, if_neg om, if_pos h]
theorem classD_normal {b : Nat} (h : expD b ≠ 0) (h2 : expD b ≠ 2047) : classD b = 5 := by
 unfold classD classOf; rw [if_neg om, if_neg om, if_neg om, if_neg om]
theorem partsNan_D (b : Nat) (hb : b < 18446744073709551616) (cl : classD b = 1 ∨ classD b = 2) (w : World) (_ : Tab w) : Calls Tryz.prog 304 #[.int .u64 b, dbl] w fun e w' => e = .returned (.tuple #[.agg #[.bool (false), .int .u64 (0), .int .i64 (0)], .int .i64 (4)]) ∧ Within w w' := by
 have H0 := Hh hb
 have HE := expD_lt b
 have HF := Hh (fracD_lt b)
 have he : (expD b : Int) < 2048 := by omega
 have ewf : IntKind.u64.wrap (fracD b : Int) = fracD b := by have := HF.out; rw [IntKind.wrap_u64]; omega
 rcases cl with hcl | hcl
 all_goals
  have CL := Hh (class_D b H0.out)
  rw [hcl] at CL; clear hcl hb HE
  go_enter Tryz.func304, Tryz.ntmps304
  go_wp2_with fail
  refine (split_D b H0.out _).mono ?_; rintro e1 w1 ⟨rfl, hb1⟩
  have hc1 := hb1.cells; have hf1 := hb1.frozens; have hz1 : w.heap.size + 1 < w1.heap.size := (by have := hb1.sizes; simp at this; omega); have hy1 : w.heap.size < w1.heap.size := by omega
  have s0 : w1.cell? ⟨w.heap.size + 1, 0, none⟩ = some (.bool false) := by have := hc1 (w.heap.size + 1) 0 (by simp); simpa using this
  have s1 : w1.cell? ⟨w.heap.size + 1, 1, none⟩ = some (.int .u64 0) := by have := hc1 (w.heap.size + 1) 1 (by simp); simpa using this
  have s2 : w1.cell? ⟨w.heap.size + 1, 2, none⟩ = some (.int .i64 0) := by have := hc1 (w.heap.size + 1) 2 (by simp); simpa using this
  go_wp2_with fail
  refine (CL.out _).mono ?_; rintro e2 w2 ⟨rfl, hb2⟩
  have hc2 := hb2.cells; have hf2 := hb2.frozens; have hz2 : w1.heap.size < w2.heap.size := (by have := hb2.sizes; simp at this; omega); have hy2 : w.heap.size < w2.heap.size := om; have hx2 : w.heap.size + 1 < w2.heap.size := by omega
  have k0 : w2.cell? ⟨w1.heap.size, 0, none⟩ = some (.bool (negD b)) := by have := hc2 w1.heap.size 0 (by simp); simpa using this
  have k1 : w2.cell? ⟨w1.heap.size, 1, none⟩ = some (.int .u64 (fracD b)) := by have := hc2 w1.heap.size 1 (by simp); simpa using this
  have k2 : w2.cell? ⟨w1.heap.size, 2, none⟩ = some (.int .i64 ((expD b : Int) - 1075)) := by have := hc2 w1.heap.size 2 (by simp); simpa using this
  have r0 : w2.cell? ⟨w.heap.size + 1, 0, none⟩ = some (.bool false) := by rw [hc2 _ _ (by simp; omega), World.cell?_alloc_lt _ _ _ (by simpa using hz1)]; exact s0
  have r1 : w2.cell? ⟨w.heap.size + 1, 1, none⟩ = some (.int .u64 0) := by rw [hc2 _ _ (by simp; omega), World.cell?_alloc_lt _ _ _ (by simpa using hz1)]; exact s1
  have r2 : w2.cell? ⟨w.heap.size + 1, 2, none⟩ = some (.int .i64 0) := by rw [hc2 _ _ (by simp; omega), World.cell?_alloc_lt _ _ _ (by simpa using hz1)]; exact s2
  go_wp2
  refine bodyPost_ret (v := .tuple #[.agg #[.bool (false), .int .u64 (0), .int .i64 (0)], .int .i64 (4)]) (by simp [results, Tryz.results304, go_sem, r0, r1, r2]) rfl ⟨rfl, ?_⟩
  exact wi
theorem partsZero_D (b : Nat) (hb : b < 18446744073709551616) (cl : classD b = 3) (w : World) (_ : Tab w) : Calls Tryz.prog 304 #[.int .u64 b, dbl] w fun e w' => e = .returned (.tuple #[.agg #[.bool (negD b), .int .u64 (0), .int .i64 (0)], .int .i64 (0)]) ∧ Within w w' := by
 have H0 := Hh hb
 have HE := expD_lt b
 have HF := Hh (fracD_lt b)
 have he : (expD b : Int) < 2048 := by omega
 have ewf : IntKind.u64.wrap (fracD b : Int) = fracD b := by have := HF.out; rw [IntKind.wrap_u64]; omega
 have CL := Hh (class_D b H0.out)
 rw [cl] at CL
 clear cl hb HE
 go_enter Tryz.func304, Tryz.ntmps304
 go_wp2_with fail
 refine (split_D b H0.out _).mono ?_; rintro e1 w1 ⟨rfl, hb1⟩
 have hc1 := hb1.cells; have hf1 := hb1.frozens; have hz1 : w.heap.size + 1 < w1.heap.size := (by have := hb1.sizes; simp at this; omega); have hy1 : w.heap.size < w1.heap.size := by omega
 have s0 : w1.cell? ⟨w.heap.size + 1, 0, none⟩ = some (.bool false) := by have := hc1 (w.heap.size + 1) 0 (by simp); simpa using this
 have s1 : w1.cell? ⟨w.heap.size + 1, 1, none⟩ = some (.int .u64 0) := by have := hc1 (w.heap.size + 1) 1 (by simp); simpa using this
 have s2 : w1.cell? ⟨w.heap.size + 1, 2, none⟩ = some (.int .i64 0) := by have := hc1 (w.heap.size + 1) 2 (by simp); simpa using this
 go_wp2_with fail
 refine (CL.out _).mono ?_; rintro e2 w2 ⟨rfl, hb2⟩
 have hc2 := hb2.cells; have hf2 := hb2.frozens; have hz2 : w1.heap.size < w2.heap.size := (by have := hb2.sizes; simp at this; omega); have hy2 : w.heap.size < w2.heap.size := om; have hx2 : w.heap.size + 1 < w2.heap.size := by omega
 have k0 : w2.cell? ⟨w1.heap.size, 0, none⟩ = some (.bool (negD b)) := by have := hc2 w1.heap.size 0 (by simp); simpa using this
 have k1 : w2.cell? ⟨w1.heap.size, 1, none⟩ = some (.int .u64 (fracD b)) := by have := hc2 w1.heap.size 1 (by simp); simpa using this
 have k2 : w2.cell? ⟨w1.heap.size, 2, none⟩ = some (.int .i64 ((expD b : Int) - 1075)) := by have := hc2 w1.heap.size 2 (by simp); simpa using this
 have r0 : w2.cell? ⟨w.heap.size + 1, 0, none⟩ = some (.bool false) := by rw [hc2 _ _ (by simp; omega), World.cell?_alloc_lt _ _ _ (by simpa using hz1)]; exact s0
 have r1 : w2.cell? ⟨w.heap.size + 1, 1, none⟩ = some (.int .u64 0) := by rw [hc2 _ _ (by simp; omega), World.cell?_alloc_lt _ _ _ (by simpa using hz1)]; exact s1
 have r2 : w2.cell? ⟨w.heap.size + 1, 2, none⟩ = some (.int .i64 0) := by rw [hc2 _ _ (by simp; omega), World.cell?_alloc_lt _ _ _ (by simpa using hz1)]; exact s2
 go_wp2
 refine bodyPost_ret (v := .tuple #[.agg #[.bool (negD b), .int .u64 (0), .int .i64 (0)], .int .i64 (0)]) (by simp [results, Tryz.results304, go_sem, r0, r1, r2]) rfl ⟨rfl, ?_⟩
 exact wi
theorem partsSub_D (b : Nat) (hb : b < 18446744073709551616) (c2 : mantD b ≠ 0) (cl : classD b = 4) (em : mantD b = fracD b) (el : lowD b = expD b - 1075 + 1) (w : World) (hT : Tab w) : Calls Tryz.prog 304 #[.int .u64 b, dbl] w fun e w' => e = .returned (.tuple #[.agg #[.bool (negD b), .int .u64 ((mantD b / 2 ^ Lib.ctz 64 (mantD b) : Nat)), .int .i64 (lowD b + Lib.ctz 64 (mantD b))], .int .i64 (0)]) ∧ Within w w' := by
 have H0 := Hh hb
 have HE := expD_lt b
 have HF := Hh (fracD_lt b)
 have he : (expD b : Int) < 2048 := by omega
 have ewf : IntKind.u64.wrap (fracD b : Int) = fracD b := by have := HF.out; rw [IntKind.wrap_u64]; omega
 have HM := Hh (mantD_lt b)
 obtain ⟨_, hz, hk⟩ := ctz_split (mantD b) c2 (by have := HM.out; omega); clear hz
 have HK := Hh hk
 have hk : (Lib.ctz 64 (mantD b) : Int) < 64 := by omega
 have TZ := Hh (fun w => bits_tz64 (mantD b) (by have := HM.out; omega) w)
 generalize Lib.ctz 64 (mantD b) = k at *
 have CL := Hh (class_D b H0.out)
 rw [cl] at CL
 have EM := Hh em
 have EL := Hh el
 clear cl hb HE c2 em el
 go_enter Tryz.func304, Tryz.ntmps304
 go_wp2_with fail
 refine (split_D b H0.out _).mono ?_; rintro e1 w1 ⟨rfl, hb1⟩
 have hc1 := hb1.cells; have hf1 := hb1.frozens; have hz1 : w.heap.size + 1 < w1.heap.size := (by have := hb1.sizes; simp at this; omega); have hy1 : w.heap.size < w1.heap.size := by omega
 have s0 : w1.cell? ⟨w.heap.size + 1, 0, none⟩ = some (.bool false) := by have := hc1 (w.heap.size + 1) 0 (by simp); simpa using this
 have s1 : w1.cell? ⟨w.heap.size + 1, 1, none⟩ = some (.int .u64 0) := by have := hc1 (w.heap.size + 1) 1 (by simp); simpa using this
 have s2 : w1.cell? ⟨w.heap.size + 1, 2, none⟩ = some (.int .i64 0) := by have := hc1 (w.heap.size + 1) 2 (by simp); simpa using this
 go_wp2_with fail
 refine (CL.out _).mono ?_; rintro e2 w2 ⟨rfl, hb2⟩
 have hc2 := hb2.cells; have hf2 := hb2.frozens; have hz2 : w1.heap.size < w2.heap.size := (by have := hb2.sizes; simp at this; omega); have hy2 : w.heap.size < w2.heap.size := om; have hx2 : w.heap.size + 1 < w2.heap.size := by omega
 have k0 : w2.cell? ⟨w1.heap.size, 0, none⟩ = some (.bool (negD b)) := by have := hc2 w1.heap.size 0 (by simp); simpa using this
 have k1 : w2.cell? ⟨w1.heap.size, 1, none⟩ = some (.int .u64 (fracD b)) := by have := hc2 w1.heap.size 1 (by simp); simpa using this
 have k2 : w2.cell? ⟨w1.heap.size, 2, none⟩ = some (.int .i64 ((expD b : Int) - 1075)) := by have := hc2 w1.heap.size 2 (by simp); simpa using this
 have r0 : w2.cell? ⟨w.heap.size + 1, 0, none⟩ = some (.bool false) := by rw [hc2 _ _ (by simp; omega), World.cell?_alloc_lt _ _ _ (by simpa using hz1)]; exact s0
 have r1 : w2.cell? ⟨w.heap.size + 1, 1, none⟩ = some (.int .u64 0) := by rw [hc2 _ _ (by simp; omega), World.cell?_alloc_lt _ _ _ (by simpa using hz1)]; exact s1
 have r2 : w2.cell? ⟨w.heap.size + 1, 2, none⟩ = some (.int .i64 0) := by rw [hc2 _ _ (by simp; omega), World.cell?_alloc_lt _ _ _ (by simpa using hz1)]; exact s2
 go_wp2_with fail
 rw [← EM.out]
 refine (TZ.out _ (hT.of wi)).mono ?_; rintro e3 w3 ⟨rfl, rfl⟩
 go_wp2
 obtain ⟨m, hm⟩ : ∃ m : Int, m = (fracD b : Int) / 2 ^ k := ⟨_, rfl⟩
 rw [← hm]
 have HM2 := Hh hm; clear hm
 refine bodyPost_ret (v := .tuple #[.agg #[.bool (negD b), .int .u64 m, .int .i64 ((expD b : Int) - 1075 + 1 + k)], .int .i64 0]) ?_ ?_ ?_
 ·simp [results, Tryz.results304, go_sem, r0, r1, r2]
 ·rfl
 refine ⟨parts_eq ?_ ?_, ?_⟩
 ·rw [HM2.out, EM.out]; simp
 ·rw [EL.out]
 ·exact wi
theorem partsNorm_D (b : Nat) (hb : b < 18446744073709551616) (c2 : mantD b ≠ 0) (cl : classD b = 5) (em : mantD b = fracD b + 4503599627370496) (el : lowD b = expD b - 1075) (w : World) (hT : Tab w) : Calls Tryz.prog 304 #[.int .u64 b, dbl] w fun e w' => e = .returned (.tuple #[.agg #[.bool (negD b), .int .u64 ((mantD b / 2 ^ Lib.ctz 64 (mantD b) : Nat)), .int .i64 (lowD b + Lib.ctz 64 (mantD b))], .int .i64 (0)]) ∧ Within w w' := by
 have H0 := Hh hb
 have HE := expD_lt b
 have HF := Hh (fracD_lt b)
 have he : (expD b : Int) < 2048 := by omega
 have ewf : IntKind.u64.wrap (fracD b : Int) = fracD b := by have := HF.out; rw [IntKind.wrap_u64]; omega
 have HM := Hh (mantD_lt b)
 obtain ⟨_, hz, hk⟩ := ctz_split (mantD b) c2 (by have := HM.out; omega); clear hz
 have HK := Hh hk
 have hk : (Lib.ctz 64 (mantD b) : Int) < 64 := by omega
 have TZ := Hh (fun w => bits_tz64 (mantD b) (by have := HM.out; omega) w)
 generalize Lib.ctz 64 (mantD b) = k at *
 have CL := Hh (class_D b H0.out)
 rw [cl] at CL
 have EM := Hh em
 have EL := Hh el
 have j1 := u64_join 52 4503599627370496 (fracD b) dc (by have := HF.out; omega) dc (by rw [show (2 : Nat) ^ 52 = 4503599627370496 from rfl]; exact HF.out)
 have e1 : bits .or .u64 (fracD b : Int) 4503599627370496 = (mantD b : Int) := by
  rw [show (4503599627370496 : Int) = ((4503599627370496 : Nat) : Int) from rfl, u64_or_nat _ _ (by have := HF.out; omega) dc, Nat.or_comm, ← u64_or_nat _ _ dc (by have := HF.out; omega), j1, EM.out]; omega
 clear cl hb HE c2 em el j1
 go_enter Tryz.func304, Tryz.ntmps304
 go_wp2_with fail
 refine (split_D b H0.out _).mono ?_; rintro e1 w1 ⟨rfl, hb1⟩
 have hc1 := hb1.cells; have hf1 := hb1.frozens; have hz1 : w.heap.size + 1 < w1.heap.size := (by have := hb1.sizes; simp at this; omega); have hy1 : w.heap.size < w1.heap.size := by omega
 have s0 : w1.cell? ⟨w.heap.size + 1, 0, none⟩ = some (.bool false) := by have := hc1 (w.heap.size + 1) 0 (by simp); simpa using this
 have s1 : w1.cell? ⟨w.heap.size + 1, 1, none⟩ = some (.int .u64 0) := by have := hc1 (w.heap.size + 1) 1 (by simp); simpa using this
 have s2 : w1.cell? ⟨w.heap.size + 1, 2, none⟩ = some (.int .i64 0) := by have := hc1 (w.heap.size + 1) 2 (by simp); simpa using this
 go_wp2_with fail
 refine (CL.out _).mono ?_; rintro e2 w2 ⟨rfl, hb2⟩
 have hc2 := hb2.cells; have hf2 := hb2.frozens; have hz2 : w1.heap.size < w2.heap.size := (by have := hb2.sizes; simp at this; omega); have hy2 : w.heap.size < w2.heap.size := om; have hx2 : w.heap.size + 1 < w2.heap.size := by omega
 have k0 : w2.cell? ⟨w1.heap.size, 0, none⟩ = some (.bool (negD b)) := by have := hc2 w1.heap.size 0 (by simp); simpa using this
 have k1 : w2.cell? ⟨w1.heap.size, 1, none⟩ = some (.int .u64 (fracD b)) := by have := hc2 w1.heap.size 1 (by simp); simpa using this
 have k2 : w2.cell? ⟨w1.heap.size, 2, none⟩ = some (.int .i64 ((expD b : Int) - 1075)) := by have := hc2 w1.heap.size 2 (by simp); simpa using this
 have r0 : w2.cell? ⟨w.heap.size + 1, 0, none⟩ = some (.bool false) := by rw [hc2 _ _ (by simp; omega), World.cell?_alloc_lt _ _ _ (by simpa using hz1)]; exact s0
 have r1 : w2.cell? ⟨w.heap.size + 1, 1, none⟩ = some (.int .u64 0) := by rw [hc2 _ _ (by simp; omega), World.cell?_alloc_lt _ _ _ (by simpa using hz1)]; exact s1
 have r2 : w2.cell? ⟨w.heap.size + 1, 2, none⟩ = some (.int .i64 0) := by rw [hc2 _ _ (by simp; omega), World.cell?_alloc_lt _ _ _ (by simpa using hz1)]; exact s2
 go_wp2_with fail
 have g0 : w1.cell? ⟨w.heap.size, 0, none⟩ = some (.int .u64 52) := by have := hc1 w.heap.size 0 (by simp; omega); simpa using this
 have f0 : w2.cell? ⟨w.heap.size, 0, none⟩ = some (.int .u64 52) := by rw [hc2 _ _ (by simp; omega), World.cell?_alloc_lt _ _ _ (by simpa using hy1)]; exact g0
 have g1 : w1.cell? ⟨w.heap.size, 1, none⟩ = some (.int .i64 2047) := by have := hc1 w.heap.size 1 (by simp; omega); simpa using this
 have f1 : w2.cell? ⟨w.heap.size, 1, none⟩ = some (.int .i64 2047) := by rw [hc2 _ _ (by simp; omega), World.cell?_alloc_lt _ _ _ (by simpa using hy1)]; exact g1
 have g2 : w1.cell? ⟨w.heap.size, 2, none⟩ = some (.int .i64 1075) := by have := hc1 w.heap.size 2 (by simp; omega); simpa using this
 have f2 : w2.cell? ⟨w.heap.size, 2, none⟩ = some (.int .i64 1075) := by rw [hc2 _ _ (by simp; omega), World.cell?_alloc_lt _ _ _ (by simpa using hy1)]; exact g2
 have z1 : ∀ o, w2.frozen? ⟨w1.heap.size, o, none⟩ = false := fun o => by have := hf2 w1.heap.size o (by simp); simpa using this
 have y0 : ∀ o, w1.frozen? ⟨w.heap.size + 1, o, none⟩ = false := fun o => by have := hf1 (w.heap.size + 1) o (by simp); simpa using this
 have y1 : ∀ o, w2.frozen? ⟨w.heap.size + 1, o, none⟩ = false := fun o => by have := hf2 (w.heap.size + 1) o (by simp; omega); rw [World.frozen?_alloc_old _ _ _ (by simp; omega)] at this; rw [this]; exact y0 o
 go_region_with (first | (go_at_call 341; refine (hidden_D _).mono ?_; rintro e3 w3 ⟨rfl, hb3⟩; have hq3 := (Within.refl w2).drew.trans hb3; have hc3 := hq3.cells; have kk0 := (hc3 _ _ hz2).trans k0; have kk1 := (hc3 _ _ hz2).trans k1; have kk2 := (hc3 _ _ hz2).trans k2; have hz3 := Nat.lt_of_lt_of_le hz2 hq3.sizes; have hy3 := Nat.lt_of_lt_of_le hy2 hq3.sizes; have z3 := fun o => (hq3.frozens _ o hz2).trans (z1 o); have y3 := fun o => (hq3.frozens _ o hx2).trans (y1 o); have rr0 := (hc3 _ _ hx2).trans r0; have rr1 := (hc3 _ _ hx2).trans r1; have rr2 := (hc3 _ _ hx2).trans r2))
 all_goals
  go_wp2_with fail
  refine (TZ.out _ (hT.of wi)).mono ?_; rintro e4 w4 ⟨rfl, rfl⟩
  go_wp2
  obtain ⟨m, hm⟩ : ∃ m : Int, m = (mantD b : Int) / 2 ^ k := ⟨_, rfl⟩
  rw [← hm]
  have HM2 := Hh hm; clear hm
  refine bodyPost_ret (v := .tuple #[.agg #[.bool (negD b), .int .u64 m, .int .i64 ((expD b : Int) - 1075 + k)], .int .i64 0]) ?_ ?_ ?_
  ·simp [results, Tryz.results304, go_sem, rr0, rr1, rr2]
  ·rfl
  refine ⟨parts_eq ?_ ?_, ?_⟩
  ·rw [HM2.out]; simp
  ·rw [EL.out]
  ·exact wi
theorem parts_D (b : Nat) (hb : b < 18446744073709551616)  (w : World) (hT : Tab w) : Calls Tryz.prog 304 #[.int .u64 b, dbl] w fun e w' => e = .returned (.tuple #[.agg #[.bool (pNegD b), .int .u64 (pMantD b), .int .i64 (pExpD b)], .int .i64 (pErrD b)]) ∧ Within w w' := by
 by_cases c1 : expD b = 2047
 ·have hv : pNegD b = false ∧ (pMantD b : Int) = 0 ∧ pExpD b = 0 ∧ pErrD b = 4 := by
   unfold pNegD pMantD pExpD pErrD; rw [if_pos c1, if_pos c1, if_pos (.inl c1), if_pos c1]; exact ⟨rfl, rfl, rfl, rfl⟩
  rw [hv.1, hv.2.1, hv.2.2.1, hv.2.2.2]
  exact partsNan_D b hb (classD_nan c1) w hT
 by_cases c2 : mantD b = 0
 ·have c3 : expD b = 0 := by unfold mantD at c2; split at c2 <;> omega
  have c4 : fracD b = 0 := by unfold mantD at c2; rw [if_pos c3] at c2; exact c2
  have hv : pNegD b = negD b ∧ (pMantD b : Int) = 0 ∧ pExpD b = 0 ∧ pErrD b = 0 := by
   unfold pNegD pMantD pExpD pErrD; rw [if_neg c1, if_neg c1, if_pos (.inr c2), if_neg c1, c2]; simp
  rw [hv.1, hv.2.1, hv.2.2.1, hv.2.2.2]
  exact partsZero_D b hb (classD_zero c3 c4) w hT
 have hv : pNegD b = negD b ∧ (pMantD b : Int) = (mantD b / 2 ^ Lib.ctz 64 (mantD b) : Nat) ∧ pExpD b = lowD b + Lib.ctz 64 (mantD b) ∧ pErrD b = 0 := by
  unfold pNegD pMantD pExpD pErrD; rw [if_neg c1, if_neg c1, if_neg om, if_neg c1]; exact ⟨rfl, rfl, rfl, rfl⟩
 rw [hv.1, hv.2.1, hv.2.2.1, hv.2.2.2]
 by_cases c3 : expD b = 0
 ·have em : mantD b = fracD b := by unfold mantD; rw [if_pos c3]
  have el : lowD b = expD b - 1075 + 1 := by unfold lowD; rw [if_pos c3, c3]; rfl
  exact partsSub_D b hb c2 (classD_sub c3 om) em el w hT
 ·have em : mantD b = fracD b + 4503599627370496 := by unfold mantD; rw [if_neg c3]
  have el : lowD b = expD b - 1075 := by unfold lowD; rw [if_neg c3]
  exact partsNorm_D b hb c2 (classD_normal c3 c1) em el w hT
def oddM (mant : Nat) : Nat := mant / 2 ^ Lib.ctz 64 mant
def oddE (mant : Nat) (e : Int) : Int := e + Lib.ctz 64 mant
def badD (mant : Nat) (e : Int) : Bool := decide (2150 < e) || decide (e < -2150) || decide (53 < Lib.bitLen (oddM mant)) || decide (oddE mant e < -1074)
def downD (mant : Nat) (e : Int) : Nat := min (53 - Lib.bitLen (oddM mant)) (oddE mant e - -1074).toNat
def topD (mant : Nat) (e : Int) : Nat := oddM mant * 2 ^ downD mant e
def fieldD (mant : Nat) (e : Int) : Int := if topD mant e < 4503599627370496 then 0 else oddE mant e - downD mant e + 1075
def madeD (neg : Bool) (mant : Nat) (e : Int) : Nat := if mant = 0 then joinD neg 0 0 else if badD mant e then 0 else if 2047 ≤ fieldD mant e then 0 else joinD neg (fieldD mant e) (topD mant e % 4503599627370496)
def madeED (mant : Nat) (e : Int) : Int := if mant = 0 then joinED 0 0 else if badD mant e then 10 else if 2047 ≤ fieldD mant e then 10 else joinED (fieldD mant e) (topD mant e % 4503599627370496)
theorem madeZero_D (neg : Bool) (e : Int) (w : World) : Calls Tryz.prog 374 #[.agg #[.bool neg, .int .u64 0, .int .i64 e], dbl] w fun e' w' => e' = .returned (.tuple #[.int .u64 (joinD neg 0 0), .int .i64 (joinED 0 0)]) ∧ Within w w' := by
 go_enter Tryz.func374, Tryz.ntmps374
 go_wp2_with fail
 refine (join_D neg 0 0 dc dc dc _).mono ?_; rintro e1 w1 ⟨rfl, hb1⟩
 go_wp2
 go_ret2
 exact ⟨rfl, wi⟩
theorem madeFar_D (neg : Bool) (mant : Nat) (e : Int) (t1 : ((mant : Int) == 0) = false) (h : 2150 < e ∨ e < -2150) (w : World) : Calls Tryz.prog 374 #[.agg #[.bool neg, .int .u64 mant, .int .i64 e], dbl] w fun e' w' => e' = .returned (.tuple #[.int .u64 (0), .int .i64 (10)]) ∧ Within w w' := by
 rcases h with h | h
 all_goals
  go_enter Tryz.func374, Tryz.ntmps374
  go_wp2
  go_ret2
  exact ⟨rfl, wi⟩
theorem madeBad_D (neg : Bool) (mant k q : Nat) (e : Int) (hb : mant < 18446744073709551616) (t1 : ((mant : Int) == 0) = false) (h1 : e ≤ 2150) (h2 : -2150 ≤ e) (K : Hid (k < 64)) (KE : Hid (Lib.ctz 64 mant = k)) (Q : Hid (q = mant / 2 ^ k)) (HQ : Hid (q < 18446744073709551616)) (h3 : 53 < Lib.bitLen q ∨ e + k < -1074) (w : World) (hT : Tab w) : Calls Tryz.prog 374 #[.agg #[.bool neg, .int .u64 mant, .int .i64 e], dbl] w fun e' w' => e' = .returned (.tuple #[.int .u64 (0), .int .i64 (10)]) ∧ Within w w' := by
 have HB := Hh hb; clear hb
 have TZ := Hh (fun w => bits_tz64 mant HB.out w)
 have hq : (mant : Int) / 2 ^ k = (q : Int) := by rw [Q.out]; simp
 have hsh := shr_u64 mant k K.out
 rw [← Q.out] at hsh
 have hk : (k : Int) < 64 := by have := K.out; omega
 have ew : IntKind.i64.wrap (e + k) = e + k := by rw [IntKind.wrap_i64]; omega
 have LN := Hh (fun w => bits_len64 q HQ.out w)
 generalize hL : Lib.bitLen q = L at *
 rw [KE.out] at TZ
 go_enter Tryz.func374, Tryz.ntmps374
 go_wp2_with fail
 refine (TZ.out _ (hT.of wi)).mono ?_; rintro e1 w1 ⟨rfl, rfl⟩
 go_wp2_with fail
 refine wp_region_within kr kr ?_
 repeat
  apply wpq_step rfl
  ·intro wq hCq
   have hcq := hCq.cells
   go_simp
   rfl
  simp only [Act.put, List.setIfInBounds_toArray, List.set_cons_zero, List.set_cons_succ]
 refine wpQuiet_nil ?_
 intro w1 hb1
 have hc1 := hb1.cells; have hz1 : w.heap.size + 1 < w1.heap.size := (by have := hb1.sizes; simp at this; omega); have hy1 : w.heap.size < w1.heap.size := om
 go_wp2_with fail
 refine (LN.out _).mono ?_; rintro e2 w2 ⟨rfl, rfl⟩
 rcases h3 with h3 | h3
 all_goals
  go_wp2
  all_goals
   go_ret2
   exact ⟨rfl, wi⟩
theorem madeLow_D (neg : Bool) (mant k q D m : Nat) (e : Int) (hb : mant < 18446744073709551616) (t1 : ((mant : Int) == 0) = false) (h1 : e ≤ 2150) (h2 : -2150 ≤ e) (K : Hid (k < 64)) (KE : Hid (Lib.ctz 64 mant = k)) (Q : Hid (q = mant / 2 ^ k)) (HQ : Hid (q < 18446744073709551616)) (hD : min ((53 : Int) - Lib.bitLen q) (e + k + 1074) = D) (hL : (Lib.bitLen q : Int) ≤ 53) (he : -1074 ≤ e + k) (HD : Hid (D < 64)) (MQ : Hid (m = q * 2 ^ D)) (HM : Hid (m < 18446744073709551616)) (hm : (m : Int) < 4503599627370496) (w : World) (hT : Tab w) : Calls Tryz.prog 374 #[.agg #[.bool neg, .int .u64 mant, .int .i64 e], dbl] w fun e' w' => e' = .returned (.tuple #[.int .u64 (joinD neg 0 m), .int .i64 (joinED 0 m)]) ∧ Within w w' := by
 have d6 : True → decide ((m : Int) < 4503599627370496) = true := fun _ => decide_eq_true hm
 have HMM := Hh (show m < 4503599627370496 by omega); clear hm
 have HB := Hh hb; clear hb
 have TZ := Hh (fun w => bits_tz64 mant HB.out w)
 have hq : (mant : Int) / 2 ^ k = (q : Int) := by rw [Q.out]; simp
 have hsh := shr_u64 mant k K.out
 rw [← Q.out] at hsh
 have hk : (k : Int) < 64 := by have := K.out; omega
 have ew : IntKind.i64.wrap (e + k) = e + k := by rw [IntKind.wrap_i64]; omega
 have LN := Hh (fun w => bits_len64 q HQ.out w)
 have hshl := shl_u64 q D HD.out (by rw [← MQ.out]; exact HM.out)
 rw [← MQ.out] at hshl
 have hm2 : IntKind.u64.wrap ((q : Int) * 2 ^ D) = m := by rw [show (q : Int) * 2 ^ D = (m : Int) by rw [MQ.out]; simp, IntKind.wrap_u64]; have := HM.out; omega
 generalize Lib.bitLen q = L at *
 rw [KE.out] at TZ
 go_enter Tryz.func374, Tryz.ntmps374
 go_wp2_with fail
 refine (TZ.out _ (hT.of wi)).mono ?_; rintro e1 w1 ⟨rfl, rfl⟩
 go_wp2_with fail
 refine wp_region_within kr kr ?_
 repeat
  apply wpq_step rfl
  ·intro wq hCq
   have hcq := hCq.cells
   go_simp
   rfl
  simp only [Act.put, List.setIfInBounds_toArray, List.set_cons_zero, List.set_cons_succ]
 refine wpQuiet_nil ?_
 intro w1 hb1
 have hc1 := hb1.cells; have hz1 : w.heap.size + 1 < w1.heap.size := (by have := hb1.sizes; simp at this; omega); have hy1 : w.heap.size < w1.heap.size := om
 go_wp2_with fail
 refine (LN.out _).mono ?_; rintro e2 w2 ⟨rfl, rfl⟩
 go_wp2_with fail
 refine (hidden_D _).mono ?_; rintro e2 w2 ⟨rfl, hb2⟩
 have hc2 := hb2.cells; have hz2 : w.heap.size + 1 < w2.heap.size := (by have := hb2.sizes; omega); have hy2 : w.heap.size < w2.heap.size := om
 go_wp2_with fail
 refine (join_D neg 0 m dc dc (by have := HMM.out; omega) _).mono ?_; rintro e3 w3 ⟨rfl, hb3⟩
 go_wp2
 go_ret2
 exact ⟨rfl, wi⟩
theorem madeOver_D (neg : Bool) (mant k q D m : Nat) (e : Int) (hb : mant < 18446744073709551616) (t1 : ((mant : Int) == 0) = false) (h1 : e ≤ 2150) (h2 : -2150 ≤ e) (K : Hid (k < 64)) (KE : Hid (Lib.ctz 64 mant = k)) (Q : Hid (q = mant / 2 ^ k)) (HQ : Hid (q < 18446744073709551616)) (hD : min ((53 : Int) - Lib.bitLen q) (e + k + 1074) = D) (hL : (Lib.bitLen q : Int) ≤ 53) (he : -1074 ≤ e + k) (HD : Hid (D < 64)) (MQ : Hid (m = q * 2 ^ D)) (HM : Hid (m < 18446744073709551616)) (hm : (4503599627370496 : Int) ≤ m) (h4 : 2047 ≤ e + k - D + 1075) (w : World) (hT : Tab w) : Calls Tryz.prog 374 #[.agg #[.bool neg, .int .u64 mant, .int .i64 e], dbl] w fun e' w' => e' = .returned (.tuple #[.int .u64 (0), .int .i64 (10)]) ∧ Within w w' := by
 have d6 : True → decide ((m : Int) < 4503599627370496) = false := fun _ => decide_eq_false om
 have HMM := Hh (show 4503599627370496 ≤ m by omega); clear hm
 have HB := Hh hb; clear hb
 have TZ := Hh (fun w => bits_tz64 mant HB.out w)
 have hq : (mant : Int) / 2 ^ k = (q : Int) := by rw [Q.out]; simp
 have hsh := shr_u64 mant k K.out
 rw [← Q.out] at hsh
 have hk : (k : Int) < 64 := by have := K.out; omega
 have ew : IntKind.i64.wrap (e + k) = e + k := by rw [IntKind.wrap_i64]; omega
 have LN := Hh (fun w => bits_len64 q HQ.out w)
 have hshl := shl_u64 q D HD.out (by rw [← MQ.out]; exact HM.out)
 rw [← MQ.out] at hshl
 have hm2 : IntKind.u64.wrap ((q : Int) * 2 ^ D) = m := by rw [show (q : Int) * 2 ^ D = (m : Int) by rw [MQ.out]; simp, IntKind.wrap_u64]; have := HM.out; omega
 generalize Lib.bitLen q = L at *
 rw [KE.out] at TZ
 go_enter Tryz.func374, Tryz.ntmps374
 go_wp2_with fail
 refine (TZ.out _ (hT.of wi)).mono ?_; rintro e1 w1 ⟨rfl, rfl⟩
 go_wp2_with fail
 refine wp_region_within kr kr ?_
 repeat
  apply wpq_step rfl
  ·intro wq hCq
   have hcq := hCq.cells
   go_simp
   rfl
  simp only [Act.put, List.setIfInBounds_toArray, List.set_cons_zero, List.set_cons_succ]
 refine wpQuiet_nil ?_
 intro w1 hb1
 have hc1 := hb1.cells; have hz1 : w.heap.size + 1 < w1.heap.size := (by have := hb1.sizes; simp at this; omega); have hy1 : w.heap.size < w1.heap.size := om
 go_wp2_with fail
 refine (LN.out _).mono ?_; rintro e2 w2 ⟨rfl, rfl⟩
 go_wp2_with fail
 refine (hidden_D _).mono ?_; rintro e2 w2 ⟨rfl, hb2⟩
 have hc2 := hb2.cells; have hz2 : w.heap.size + 1 < w2.heap.size := (by have := hb2.sizes; omega); have hy2 : w.heap.size < w2.heap.size := om
 go_wp2
 go_ret2
 exact ⟨rfl, wi⟩
theorem madeNorm_D (neg : Bool) (mant k q D m : Nat) (e : Int) (hb : mant < 18446744073709551616) (t1 : ((mant : Int) == 0) = false) (h1 : e ≤ 2150) (h2 : -2150 ≤ e) (K : Hid (k < 64)) (KE : Hid (Lib.ctz 64 mant = k)) (Q : Hid (q = mant / 2 ^ k)) (HQ : Hid (q < 18446744073709551616)) (hD : min ((53 : Int) - Lib.bitLen q) (e + k + 1074) = D) (hL : (Lib.bitLen q : Int) ≤ 53) (he : -1074 ≤ e + k) (HD : Hid (D < 64)) (MQ : Hid (m = q * 2 ^ D)) (HM : Hid (m < 18446744073709551616)) (hm : (4503599627370496 : Int) ≤ m) (hm2 : m < 2 * 4503599627370496) (h4 : e + k - D + 1075 < 2047) (w : World) (hT : Tab w) : Calls Tryz.prog 374 #[.agg #[.bool neg, .int .u64 mant, .int .i64 e], dbl] w fun e' w' => e' = .returned (.tuple #[.int .u64 (joinD neg (e + k - D + 1075) (m - 4503599627370496)), .int .i64 (joinED (e + k - D + 1075) (m - 4503599627370496))]) ∧ Within w w' := by
 have d6 : True → decide ((m : Int) < 4503599627370496) = false := fun _ => decide_eq_false om
 have HMM := Hh (show 4503599627370496 ≤ m by omega)
 have HM2 := Hh hm2
 have ewm : IntKind.u64.wrap ((m : Int) - 4503599627370496) = ((m - 4503599627370496 : Nat) : Int) := by rw [IntKind.wrap_u64]; omega
 clear hm hm2
 have HB := Hh hb; clear hb
 have TZ := Hh (fun w => bits_tz64 mant HB.out w)
 have hq : (mant : Int) / 2 ^ k = (q : Int) := by rw [Q.out]; simp
 have hsh := shr_u64 mant k K.out
 rw [← Q.out] at hsh
 have hk : (k : Int) < 64 := by have := K.out; omega
 have ew : IntKind.i64.wrap (e + k) = e + k := by rw [IntKind.wrap_i64]; omega
 have LN := Hh (fun w => bits_len64 q HQ.out w)
 have hshl := shl_u64 q D HD.out (by rw [← MQ.out]; exact HM.out)
 rw [← MQ.out] at hshl
 have hm3 : IntKind.u64.wrap ((q : Int) * 2 ^ D) = m := by rw [show (q : Int) * 2 ^ D = (m : Int) by rw [MQ.out]; simp, IntKind.wrap_u64]; have := HM.out; omega
 generalize Lib.bitLen q = L at *
 rw [KE.out] at TZ
 go_enter Tryz.func374, Tryz.ntmps374
 go_wp2_with fail
 refine (TZ.out _ (hT.of wi)).mono ?_; rintro e1 w1 ⟨rfl, rfl⟩
 go_wp2_with fail
 refine wp_region_within kr kr ?_
 repeat
  apply wpq_step rfl
  ·intro wq hCq
   have hcq := hCq.cells
   go_simp
   rfl
  simp only [Act.put, List.setIfInBounds_toArray, List.set_cons_zero, List.set_cons_succ]
 refine wpQuiet_nil ?_
 intro w1 hb1
 have hc1 := hb1.cells; have hz1 : w.heap.size + 1 < w1.heap.size := (by have := hb1.sizes; simp at this; omega); have hy1 : w.heap.size < w1.heap.size := om
 go_wp2_with fail
 refine (LN.out _).mono ?_; rintro e2 w2 ⟨rfl, rfl⟩
 go_wp2_with fail
 refine (hidden_D _).mono ?_; rintro e2 w2 ⟨rfl, hb2⟩
 have hc2 := hb2.cells; have hz2 : w.heap.size + 1 < w2.heap.size := (by have := hb2.sizes; omega); have hy2 : w.heap.size < w2.heap.size := om
 go_wp2_with fail
 refine wp_region_within kr kr ?_
 repeat
  apply wpq_step rfl
  ·intro wq hCq
   have hcq := hCq.cells
   go_simp
   first | rfl | exact hCq.call (hidden_D _) | exact hCq.call (join_D neg _ _ om om (by have := HM2.out; omega) _) | (trace_state; fail)
  simp only [Act.put, List.setIfInBounds_toArray, List.set_cons_zero, List.set_cons_succ]
 refine wpQuiet_nil ?_
 intro w3 hb3
 go_wp2
 go_ret2
 exact ⟨rfl, wi⟩
theorem lt_bitLen (x : Nat) (hx : x < 18446744073709551616) : x < 2 ^ Lib.bitLen x := by
 by_cases h : x = 0
 ·subst h; decide
 ·rw [bitLen_log2 x h hx]; exact Nat.lt_log2_self
theorem oddM_lt (x : Nat) (hx : x < 18446744073709551616) : oddM x < 18446744073709551616 := by
 unfold oddM
 exact Nat.lt_of_le_of_lt (Nat.div_le_self _ _) hx
theorem topD_lt (mant : Nat) (e : Int) (hm : mant < 18446744073709551616) (h : badD mant e = false) : topD mant e < 2 * 4503599627370496 := by
 have hb := lt_bitLen (oddM mant) (oddM_lt mant hm)
 have hl : Lib.bitLen (oddM mant) ≤ 53 := by unfold badD at h; simp at h; omega
 have hd : downD mant e ≤ 53 - Lib.bitLen (oddM mant) := by unfold downD; omega
 unfold topD
 have h1 : oddM mant * 2 ^ downD mant e ≤ oddM mant * 2 ^ (53 - Lib.bitLen (oddM mant)) := Nat.mul_le_mul_left _ (Nat.pow_le_pow_right dc hd)
 have h2 : oddM mant * 2 ^ (53 - Lib.bitLen (oddM mant)) < 2 ^ Lib.bitLen (oddM mant) * 2 ^ (53 - Lib.bitLen (oddM mant)) := (Nat.mul_lt_mul_right (Nat.two_pow_pos _)).2 hb
 have h3 : 2 ^ Lib.bitLen (oddM mant) * 2 ^ (53 - Lib.bitLen (oddM mant)) = 2 ^ 53 := by rw [← Nat.pow_add]; congr 1; omega
 have h4 : (2 : Nat) ^ 53 = 2 * 4503599627370496 := rfl
 omega
theorem made_D (neg : Bool) (mant : Nat) (e : Int) (hb : mant < 18446744073709551616) (w : World) (hT : Tab w) :
 Calls Tryz.prog 374 #[.agg #[.bool neg, .int .u64 mant, .int .i64 e], dbl] w fun e' w' => e' = .returned (.tuple #[.int .u64 (madeD neg mant e), .int .i64 (madeED mant e)]) ∧ Within w w' := by
 by_cases h0 : mant = 0
 ·subst h0
  have := madeZero_D neg e w
  simpa [madeD, madeED] using this
 have t1 : ((mant : Int) == 0) = false := beq_eq_false_iff_ne.2 om
 by_cases h1 : 2150 < e ∨ e < -2150
 ·have hbad : badD mant e = true := by unfold badD; simp; omega
  have hv : (madeD neg mant e : Int) = 0 ∧ madeED mant e = 10 := by unfold madeD madeED; rw [if_neg h0, if_neg h0, if_pos hbad, if_pos hbad]; exact ⟨rfl, rfl⟩
  rw [hv.1, hv.2]
  exact madeFar_D neg mant e t1 h1 w
 obtain ⟨_, hz, hk⟩ := ctz_split mant h0 hb
 clear hz
 have hq := oddM_lt mant hb
 by_cases h3 : (53 : Nat) < Lib.bitLen (oddM mant) ∨ e + Lib.ctz 64 mant < -1074
 ·have hbad : badD mant e = true := by unfold badD oddE; simp; omega
  have hv : (madeD neg mant e : Int) = 0 ∧ madeED mant e = 10 := by unfold madeD madeED; rw [if_neg h0, if_neg h0, if_pos hbad, if_pos hbad]; exact ⟨rfl, rfl⟩
  rw [hv.1, hv.2]
  exact madeBad_D neg mant (Lib.ctz 64 mant) (oddM mant) e hb t1 om om (Hh hk) (Hh rfl) (Hh rfl) (Hh hq) h3 w hT
 have hbad : badD mant e = false := by unfold badD oddE; simp; omega
 have htop := topD_lt mant e hb hbad
 have hnb : ¬ (badD mant e = true) := by simp [hbad]
 have hl : Lib.bitLen (oddM mant) ≤ 53 := by omega
 have hD : min ((53 : Int) - Lib.bitLen (oddM mant)) (e + Lib.ctz 64 mant + 1074) = downD mant e := by unfold downD oddE; omega
 have hD2 : downD mant e < 64 := by unfold downD; omega
 by_cases h4 : topD mant e < 4503599627370496
 ·have hf : fieldD mant e = 0 := by unfold fieldD; rw [if_pos h4]
  have hv : madeD neg mant e = joinD neg 0 (topD mant e) ∧ madeED mant e = joinED 0 (topD mant e) := by
   unfold madeD madeED; rw [if_neg h0, if_neg h0, if_neg hnb, if_neg hnb, hf, if_neg dc, if_neg dc, Nat.mod_eq_of_lt h4]; exact ⟨rfl, rfl⟩
  rw [hv.1, hv.2]
  exact madeLow_D neg mant (Lib.ctz 64 mant) (oddM mant) (downD mant e) (topD mant e) e hb t1 om om (Hh hk) (Hh rfl) (Hh rfl) (Hh hq) hD om om (Hh hD2) (Hh rfl) (Hh om) om w hT
 have hf : fieldD mant e = e + Lib.ctz 64 mant - downD mant e + 1075 := by unfold fieldD oddE; rw [if_neg h4]
 by_cases h5 : 2047 ≤ fieldD mant e
 ·have hv : (madeD neg mant e : Int) = 0 ∧ madeED mant e = 10 := by
   unfold madeD madeED; rw [if_neg h0, if_neg h0, if_neg hnb, if_neg hnb, if_pos h5, if_pos h5]; exact ⟨rfl, rfl⟩
  rw [hv.1, hv.2]
  exact madeOver_D neg mant (Lib.ctz 64 mant) (oddM mant) (downD mant e) (topD mant e) e hb t1 om om (Hh hk) (Hh rfl) (Hh rfl) (Hh hq) hD om om (Hh hD2) (Hh rfl) (Hh om) om om w hT
 ·have hmod : topD mant e % 4503599627370496 = topD mant e - 4503599627370496 := by omega
  have hv : madeD neg mant e = joinD neg (e + Lib.ctz 64 mant - downD mant e + 1075) (topD mant e - 4503599627370496) ∧ madeED mant e = joinED (e + Lib.ctz 64 mant - downD mant e + 1075) (topD mant e - 4503599627370496) := by
   unfold madeD madeED; rw [if_neg h0, if_neg h0, if_neg hnb, if_neg hnb, if_neg h5, if_neg h5, hmod, hf]; exact ⟨rfl, rfl⟩
  rw [hv.1, hv.2]
  exact madeNorm_D neg mant (Lib.ctz 64 mant) (oddM mant) (downD mant e) (topD mant e) e hb t1 om om (Hh hk) (Hh rfl) (Hh rfl) (Hh hq) hD om om (Hh hD2) (Hh rfl) (Hh om) om htop om w hT
theorem Class_D (a : Nat) (ha : a < 18446744073709551616) (w : World) : Calls Tryz.prog 179 #[.float .f64 a] w fun e w' => e = .returned (.int .i64 (classD a)) ∧ Within w w' := by
 have HA := Hh ha; clear ha
 go_enter Tryz.func179, Tryz.ntmps179
 go_wp2_with fail
 refine (of_D _).mono ?_; rintro e1 w1 ⟨rfl, hb1⟩
 go_wp2_with fail
 refine (class_D a HA.out _).mono ?_; rintro e2 w2 ⟨rfl, hb2⟩
 go_wp2
 go_ret
 exact ⟨rfl, wi⟩
theorem number_D (b : Nat) (e : Int) (w : World) : Calls Tryz.prog 373 #[.int .u64 b, .int .i64 e] w fun e' w' => e' = .returned (.tuple #[.float .f64 b, .int .i64 e]) ∧ Within w w' := by
 go_enter Tryz.func373, Tryz.ntmps373
 go_wp2
 go_ret2
 exact ⟨rfl, wi⟩
theorem Parts_D (a : Nat) (ha : a < 18446744073709551616) (w : World) (hT : Tab w) : Calls Tryz.prog 234 #[.float .f64 a] w fun e w' => e = .returned (.tuple #[.agg #[.bool (pNegD a), .int .u64 (pMantD a), .int .i64 (pExpD a)], .int .i64 (pErrD a)]) ∧ Within w w' := by
 have HA := Hh ha; clear ha
 go_enter Tryz.func234, Tryz.ntmps234
 go_wp2_with fail
 refine (of_D _).mono ?_; rintro e1 w1 ⟨rfl, hb1⟩
 go_wp2_with fail
 refine (parts_D a HA.out _ (hT.of wi)).mono ?_; rintro e2 w2 ⟨rfl, hb2⟩
 have hf1 := hb1.frozens; have hc1 := hb1.cells; have hf2 := hb2.frozens; have hc2 := hb2.cells
 have hz1 : w.heap.size < w1.heap.size := (by have := hb1.sizes; simp at this; omega)
 have hz2 : w.heap.size < w2.heap.size := (by have := hb2.sizes; omega)
 go_wp2
 refine bodyPost_ret (v := .tuple #[.agg #[.bool (pNegD a), .int .u64 (pMantD a), .int .i64 (pExpD a)], .int .i64 (pErrD a)]) (by simp [results, Tryz.results234, go_sem, hc1, hc2, hz1]) rfl ⟨rfl, ?_⟩
 exact wi
theorem Of_D (neg : Bool) (mant : Nat) (e : Int) (hm : mant < 18446744073709551616) (w : World) (hT : Tab w) : Calls Tryz.prog 361 #[.agg #[.bool neg, .int .u64 mant, .int .i64 e]] w fun e' w' => e' = .returned (.tuple #[.float .f64 (madeD neg mant e), .int .i64 (madeED mant e)]) ∧ Within w w' := by
 have HA := Hh hm; clear hm
 go_enter Tryz.func361, Tryz.ntmps361
 go_wp2
 refine wp_region_within kr kr ?_
 repeat
  apply wpq_step rfl
  ·intro wq hCq
   have hcq := hCq.cells
   go_simp
   first | rfl | exact hCq.call (of_D _) | exact hCq.call (made_D neg mant e HA.out _ (hT.of (((Within.refl _).alloc _).trans hCq))) | exact hCq.call (number_D _ _ _) | (trace_state; fail)
  simp only [Act.put, List.setIfInBounds_toArray, List.set_cons_zero, List.set_cons_succ]
 refine wpQuiet_nil ?_
 intro w1 hC1
 go_wp2
 go_ret2
 exact ⟨rfl, wi⟩
end Go.Proofs.YtgkcpnidmfejeaaGreatDoor
section
namespace Go.Proofs.YtgkcpnidmfejeaaGreatDoor.Fp
open Ieee
variable (f : Format)
def num (s : Bool) (n : Nat) : Nat := f.word s (grid f n 0)
def Rep (n : Nat) : Prop := grid f n 0 < f.infRung ∧ mag f (grid f n 0) = n
def Is (a : Nat) (s : Bool) (n : Nat) : Prop := a < 2 ^ f.width ∧ rg f a < f.infRung ∧ sg f a = s ∧ mag f (rg f a) = n
theorem grid_of_mag (hF : 1 ≤ f.fractionBits) (r : Nat) : grid f (mag f r) 0 = r := by
 have := grid_mag f hF r 0
 rwa [Nat.pow_zero, Nat.mul_one] at this
theorem rep_mag (hF : 1 ≤ f.fractionBits) {r : Nat} (h : r < f.infRung) : Rep f (mag f r) := by
 unfold Rep; rw [grid_of_mag f hF]; exact ⟨h, rfl⟩
variable {f}
theorem Is.rep {a : Nat} {s : Bool} {n : Nat} (hF : 1 ≤ f.fractionBits) (h : Is f a s n) : Rep f n := by
 obtain ⟨_, h2, _, h4⟩ := h
 rw [← h4]; exact rep_mag f hF h2
theorem Is.eq {a : Nat} {s : Bool} {n : Nat} (hF : 1 ≤ f.fractionBits) (h : Is f a s n) : a = num f s n := by
 obtain ⟨h1, _, h3, h4⟩ := h
 unfold num
 rw [← h4, grid_of_mag f hF, ← h3]
 exact (word_sg_rg f a h1).symm
theorem Rep.is {n : Nat} (h : Rep f n) (s : Bool) : Is f (num f s n) s n := by
 obtain ⟨h1, h2⟩ := h
 have hl := inf_lt f
 have h3 : grid f n 0 < f.signWeight := by omega
 refine ⟨?_, by unfold num; rw [rg_word f s _ h3]; exact h1, sg_word f s _ h3, by unfold num; rw [rg_word f s _ h3]; exact h2⟩
 rw [width_eq]
 unfold num Format.word
 split <;> omega
variable (f)
def dtop : Nat := 2098
theorem pow_join {a b c : Nat} (h : a + b = c) : 2 ^ a * 2 ^ b = 2 ^ c := by rw [← Nat.pow_add, h]
theorem mag_infD : mag double double.infRung = 2 ^ dtop := by
 have e : mag double double.infRung = (4503599627370496 + 9218868437227405312 % 4503599627370496) * 2 ^ (9218868437227405312 / 4503599627370496 - 1) := by
  unfold mag; rw [if_neg dc, dB, dI]
 obtain ⟨k, hk⟩ : ∃ k, k = 9218868437227405312 / 4503599627370496 - 1 := ⟨_, rfl⟩
 have e2 : 4503599627370496 + 9218868437227405312 % 4503599627370496 = 2 ^ 52 := by omega
 rw [← hk, e2] at e
 exact e.trans (pow_join (by unfold dtop; omega))
theorem mul_is (hl : f.leastPlace ≤ 0) {a b n m p : Nat} {s t : Bool} (ha : Is f a s n) (hb : Is f b t m) (h : n * m = p * 2 ^ deep f) (hp : Rep f p) : f.mul a b = some (num f (s ^^ t) p) := by
 obtain ⟨_, a2, a3, a4⟩ := ha
 obtain ⟨_, b2, b3, b4⟩ := hb
 rw [mul_fin f hl a b a2 b2, a3, a4, b3, b4, h]
 have g := grid_shift f p (deep f) 0
 rw [Nat.zero_add] at g
 rw [g, Nat.min_eq_left (Nat.le_of_lt hp.1)]; rfl
def val (s : Bool) (n : Nat) : Int := if s then -(n : Int) else n
theorem Is.un {f : Format} {a : Nat} {s : Bool} {n : Nat} (h : Is f a s n) : un f a = val s n := by
 obtain ⟨_, _, h3, h4⟩ := h
 unfold Fp.un val; rw [h3, h4]
theorem Is.read {f : Format} {a n : Nat} {s : Bool} (h : Is f a s n) : ∃ m e, f.read a = .number s m e ∧ f.leastPlace ≤ e ∧ m * 2 ^ (e - f.leastPlace).toNat = n := by
 obtain ⟨_, h2, h3, h4⟩ := h
 obtain ⟨m, e, r1, l1, u1⟩ := read_fin f a h2
 exact ⟨m, e, by rw [r1, h3], l1, by rw [u1, h4]⟩
end Go.Proofs.YtgkcpnidmfejeaaGreatDoor.Fp
end
namespace Go.Proofs.YtgkcpnidmfejeaaGreatDoor
open Go.RowKit
theorem ne_self64 (a : Nat) : (FloatKind.f64.format.order a a != some .eq) = nanD a := by
 have := Fp.order64_self a
 show (!(Ieee.double.order a a == some .eq)) = _
 rw [this, Bool.not_not]; rfl
theorem canonD_nan {a : Nat} (h : nanD a = true) : canonD a = 9221120237041090561 := if_pos h
theorem canonD_id {a : Nat} (h : nanD a = false) : canonD a = a := by unfold canonD; rw [if_neg (by simp [h])]
theorem odd_split {x : Nat} (h : x ≠ 0) (hx : x < 18446744073709551616) : ∃ m, oddM x = 2 * m + 1 ∧ x = 2 ^ Lib.ctz 64 x * (2 * m + 1) ∧ Lib.ctz 64 x < 64 := by
 obtain ⟨m, h1, h2⟩ := ctz_split x h hx
 refine ⟨m, ?_, h1, h2⟩
 unfold oddM
 have hp := Nat.two_pow_pos (Lib.ctz 64 x)
 generalize Lib.ctz 64 x = k at *
 rw [h1, Nat.mul_div_cancel_left _ hp]
theorem Rbits_D (a : Nat) (w : World) : Calls Tryz.prog 278 #[.float .f64 a] w fun e w' => e = .returned (.int .u64 (canonD a)) ∧ w = w' := by
 cases hn : nanD a
 ·rw [canonD_id hn]
  have hx : (FloatKind.f64.format.order a a != some .eq) = false := by rw [ne_self64]; exact hn
  clear hn
  go_enter Tryz.func278, Tryz.ntmps278
  go_wp2
  go_ret
  exact ⟨rfl, rfl⟩
 ·rw [canonD_nan hn]
  have hx : (FloatKind.f64.format.order a a != some .eq) = true := by rw [ne_self64]; exact hn
  clear hn
  go_enter Tryz.func278, Tryz.ntmps278
  go_wp2
  go_ret
  exact ⟨rfl, rfl⟩
theorem Rsplit_D (a : Nat) (ha : a < 18446744073709551616) (w : World) : Calls Tryz.prog 223 #[.float .f64 a] w fun e w' => e = .returned (.tuple #[.bool (negD a), .int .i64 (expD a), .int .u64 (fracD a)]) ∧ w = w' := by
 have HL := Hh (canonD_lt ha)
 unfold negD expD fracD
 clear ha
 have HB := Hh (fun w => Rbits_D a w)
 generalize canonD a = c at *
 go_enter Tryz.func223, Tryz.ntmps223
 go_wp2_with fail
 refine (HB.out _).mono ?_; rintro e1 w1 ⟨rfl, rfl⟩
 go_wp2
 go_ret3
 refine ⟨ret3 (v_bool ?_) (v_int ?_) (v_int ?_), rfl⟩
 ·show ((c : Int) / 9223372036854775808 == 1) = _
  rw [Bool.eq_iff_iff, beq_iff_eq, decide_eq_true_iff]; have := HL.out; omega
 ·show ((c : Int) / 4503599627370496 % 2048) = _
  omega
 ·show ((c : Int) % 4503599627370496) = _
  omega
theorem nat_eq (a b : Nat) : ((a : Int) == (b : Int)) = decide (a = b) := by rw [Bool.eq_iff_iff, beq_iff_eq, decide_eq_true_iff]; omega
theorem zz40 {p : Prop} (h : p := by
 subst hv; clear hr h1 h2 h3
 go_enter Tryz.func224, Tryz.ntmps224
 go_wp2
 go_ret
 exact ⟨rfl, rfl⟩) : p := h
theorem Rclassify (e f m : Nat) (w : World) : Calls Tryz.prog 224 #[.int .i64 e, .int .u64 f, .int .i64 m] w fun e' w' => e' = .returned (.int .i64 (classOf e f m)) ∧ w = w' := by
 have b1 : ((e : Int) == (m : Int)) = decide (e = m) := nat_eq e m
 have b2 : ((f : Int) != 0) = decide (f ≠ 0) := by rw [Bool.eq_iff_iff, bne_iff_ne, decide_eq_true_iff]; omega
 have b3 : ((e : Int) == 0) = decide (e = 0) := nat_eq e 0
 have b4 : ((f : Int) == 0) = decide (f = 0) := nat_eq f 0
 generalize hr : classOf e f m = r
 unfold classOf at hr
 by_cases h1 : e = m <;> by_cases h2 : f = 0 <;> by_cases h3 : e = 0
 ·rw [decide_eq_true h1] at b1; rw [decide_eq_false (by omega : ¬ f ≠ 0)] at b2; rw [decide_eq_true h3] at b3; rw [decide_eq_true h2] at b4
  have hv : r = 2 := by rw [← hr, if_neg om, if_pos h1]
  exact zz40
 ·rw [decide_eq_true h1] at b1; rw [decide_eq_false (by omega : ¬ f ≠ 0)] at b2; rw [decide_eq_false h3] at b3; rw [decide_eq_true h2] at b4
  have hv : r = 2 := by rw [← hr, if_neg om, if_pos h1]
  exact zz40
 ·rw [decide_eq_true h1] at b1; rw [decide_eq_true (by omega : f ≠ 0)] at b2; rw [decide_eq_true h3] at b3; rw [decide_eq_false h2] at b4
  have hv : r = 1 := by rw [← hr, if_pos ⟨h1, h2⟩]
  exact zz40
 ·rw [decide_eq_true h1] at b1; rw [decide_eq_true (by omega : f ≠ 0)] at b2; rw [decide_eq_false h3] at b3; rw [decide_eq_false h2] at b4
  have hv : r = 1 := by rw [← hr, if_pos ⟨h1, h2⟩]
  exact zz40
 ·rw [decide_eq_false h1] at b1; rw [decide_eq_false (by omega : ¬ f ≠ 0)] at b2; rw [decide_eq_true h3] at b3; rw [decide_eq_true h2] at b4
  have hv : r = 3 := by rw [← hr, if_neg om, if_neg h1, if_pos ⟨h3, h2⟩]
  exact zz40
 ·rw [decide_eq_false h1] at b1; rw [decide_eq_false (by omega : ¬ f ≠ 0)] at b2; rw [decide_eq_false h3] at b3; rw [decide_eq_true h2] at b4
  have hv : r = 5 := by rw [← hr, if_neg om, if_neg h1, if_neg om, if_neg h3]
  exact zz40
 ·rw [decide_eq_false h1] at b1; rw [decide_eq_true (by omega : f ≠ 0)] at b2; rw [decide_eq_true h3] at b3; rw [decide_eq_false h2] at b4
  have hv : r = 4 := by rw [← hr, if_neg om, if_neg h1, if_neg om, if_pos h3]
  exact zz40
 ·rw [decide_eq_false h1] at b1; rw [decide_eq_true (by omega : f ≠ 0)] at b2; rw [decide_eq_false h3] at b3; rw [decide_eq_false h2] at b4
  have hv : r = 5 := by rw [← hr, if_neg om, if_neg h1, if_neg om, if_neg h3]
  exact zz40
theorem Rclass_D (a : Nat) (ha : a < 18446744073709551616) (w : World) : Calls Tryz.prog 130 #[.float .f64 a] w fun e w' => e = .returned (.int .i64 (classD a)) ∧ w = w' := by
 have SP := Hh (fun w => Rsplit_D a ha w)
 have HF : Hid (fracD a < 4503599627370496) := Nat.mod_lt _ dc
 unfold classD
 clear ha
 generalize fracD a = f at *
 generalize expD a = e at *
 generalize negD a = n at *
 have g1 : IntKind.u64.wrap (f : Int) = f := by rw [IntKind.wrap_u64]; have := HF.out; omega
 go_enter Tryz.func130, Tryz.ntmps130
 go_wp2_with fail
 refine (SP.out _).mono ?_; rintro e1 w1 ⟨rfl, rfl⟩
 go_wp2_with fail
 refine (Rclassify e f 2047 _).mono ?_; rintro e2 w2 ⟨rfl, rfl⟩
 go_wp2
 go_ret
 exact ⟨rfl, rfl⟩
theorem Rfinite (a : Nat) (ha : a < 18446744073709551616) (w : World) : Calls Tryz.prog 50 #[.float .f64 a] w fun e w' => e = .returned (.bool (decide (2 < classD a))) ∧ w = w' := by
 have CL := Hh (fun w => Rclass_D a ha w)
 clear ha
 generalize classD a = c at *
 go_enter Tryz.func50, Tryz.ntmps50
 go_wp2_with fail
 refine (CL.out _).mono ?_; rintro e1 w1 ⟨rfl, rfl⟩
 go_wp2
 go_ret
 exact ⟨ret_bool rfl, rfl⟩
@[go_sem] theorem run_neg64 (P : Program) (a : Nat) (w : World) : Sem.run P (Op.unary UnOp.neg (Value.float .f64 a)) w = .ok (.float .f64 (Go.Op.negFloat .f64 a)) w := rfl
@[go_sem] theorem run_neg32 (P : Program) (a : Nat) (w : World) : Sem.run P (Op.unary UnOp.neg (Value.float .f32 a)) w = .ok (.float .f32 (Go.Op.negFloat .f32 a)) w := rfl
theorem mant_down {mant cz m M : Nat} (hcz : cz < 64) (hs : mant = 2 ^ cz * (2 * m + 1)) (hM : M = 2 * m + 1) : ∀ i, i ≤ cz →
 0 < mant / 2 ^ i ∧ (i = cz → mant / 2 ^ i = M ∧ mant / 2 ^ i % 2 = 1) ∧ (i < cz → mant / 2 ^ i % 2 = 0 ∧ mant / 2 ^ i / 2 = mant / 2 ^ (i + 1)) := by
 intro i hi
 obtain ⟨d, rfl⟩ : ∃ d, cz = i + d := ⟨cz - i, by omega⟩
 have e1 : mant / 2 ^ i = 2 ^ d * (2 * m + 1) := by
  rw [hs, Nat.pow_add, Nat.mul_assoc, Nat.mul_div_cancel_left _ (Nat.two_pow_pos i)]
 have e2 : mant / 2 ^ i / 2 = mant / 2 ^ (i + 1) := by rw [Nat.div_div_eq_div_mul, Nat.pow_succ]
 rw [e1] at *
 refine ⟨Nat.mul_pos (Nat.two_pow_pos _) om, fun h => ?_, fun h => ⟨?_, e2⟩⟩
 ·have : d = 0 := by omega
  subst this
  rw [Nat.pow_zero, Nat.one_mul]; omega
 ·obtain ⟨d', rfl⟩ : ∃ d', d = d' + 1 := ⟨d - 1, by omega⟩
  rw [Nat.pow_succ, Nat.mul_right_comm]; omega
theorem nan_parts {a : Nat} (h : pErrD a ≠ 0) : pNegD a = false ∧ pMantD a = 0 ∧ pExpD a = 0 ∧ pErrD a = 4 := by
 unfold pErrD at h
 by_cases h7 : expD a = 2047
 ·unfold pNegD pMantD pExpD pErrD; rw [if_pos h7, if_pos h7, if_pos (.inl h7), if_pos h7]; exact ⟨rfl, rfl, rfl, rfl⟩
 ·rw [if_neg h7] at h; exact absurd rfl h
theorem fin_neg {a : Nat} (h : pErrD a = 0) : pNegD a = negD a := by
 unfold pErrD at h
 by_cases h7 : expD a = 2047
 ·rw [if_pos h7] at h; omega
 ·unfold pNegD; rw [if_neg h7]
theorem Rodd_zero (e : Int) (w : World) : Calls Tryz.prog 301 #[.int .u64 0, .int .i64 e] w fun e' w' => e' = .returned (.tuple #[.int .u64 0, .int .i64 0]) ∧ w = w' := by
 go_enter Tryz.func301, Tryz.ntmps301
 go_wp2
 go_ret2
 exact ⟨rfl, rfl⟩
theorem Rodd_any (mant : Nat) (e : Int) (h0 : mant ≠ 0) (hm : mant < 18446744073709551616) (hlo : -1099511627776 ≤ e) (hhi : e ≤ 1099511627776) (w : World) : Calls Tryz.prog 301 #[.int .u64 mant, .int .i64 e] w fun e' w' => e' = .returned (.tuple #[.int .u64 (oddM mant), .int .i64 (oddE mant e)]) ∧ w = w' := by
 have m0 : ((mant : Int) == 0) = false := by rw [beq_eq_false_iff_ne]; omega
 obtain ⟨m, ho, hs, hcz⟩ := odd_split h0 hm
 have hE : oddE mant e = e + (Lib.ctz 64 mant : Nat) := rfl
 generalize Lib.ctz 64 mant = cz at *
 generalize oddM mant = M at *
 generalize oddE mant e = E at *
 have HV := Hh (mant_down hcz hs ho)
 have HB := Hh (And.intro (And.intro hlo hhi) (And.intro hcz hE))
 have HML := Hh hm
 clear hcz hs ho hE hlo hhi hm h0
 go_enter Tryz.func301, Tryz.ntmps301
 go_wp2
 go_loopw [0, 1] (fun t u wr => ∃ i : Nat, i ≤ cz ∧ t = .int .u64 (mant / 2 ^ i : Nat) ∧ u = .int .i64 (e + i) ∧ w = wr) (fun _ u _ => cz - (intOf u - e).toNat)
 case atStart => exact ⟨0, Nat.zero_le _, by rw [Nat.pow_zero, Nat.div_one], by rw [show e + ((0 : Nat) : Int) = e by omega], rfl⟩
 case round =>
  obtain ⟨i, hi, rfl, rfl, rfl⟩ := hrel
  have V := HV.out i hi
  have HI := Hh hi
  by_cases hic : i = cz
  ·have hp : (((mant / 2 ^ i : Nat) : Int) % 2 == 0) = false := by rw [beq_eq_false_iff_ne]; have := V.2.1 hic; omega
   have hM : mant / 2 ^ i = M := (V.2.1 hic).1
   have hE : e + (i : Int) = E := by have := HB.out.2.2; omega
   rw [hM] at hp ⊢; rw [hE]
   clear V hi hic hM hE
   go_wp2
   go_ret2
   exact ⟨rfl, rfl⟩
  ·have hp : (((mant / 2 ^ i : Nat) : Int) % 2 == 0) = true := by rw [beq_iff_eq]; have := V.2.2 om; omega
   have hn := (V.2.2 om).2
   have hvl : mant / 2 ^ i < 18446744073709551616 := Nat.lt_of_le_of_lt (Nat.div_le_self _ _) HML.out
   have g : IntKind.i64.wrap (e + (i : Int) + 1) = e + ((i + 1 : Nat) : Int) := by have := HB.out.1; have := HB.out.2.1; rw [IntKind.wrap_i64]; omega
   have HN := Hh hic
   have hd : ((mant / 2 ^ i : Nat) : Int) / 2 = ((mant / 2 ^ (i + 1) : Nat) : Int) := by rw [← hn]; omega
   obtain ⟨v, hv⟩ : ∃ v, mant / 2 ^ i = v := ⟨_, rfl⟩
   rw [hv] at hp hd hvl ⊢
   obtain ⟨v', hv'⟩ : ∃ v', mant / 2 ^ (i + 1) = v' := ⟨_, rfl⟩
   rw [hv'] at hd
   have gw : IntKind.u64.wrap (v' : Int) = v' := by rw [IntKind.wrap_u64]; omega
   have HVL := Hh hv'
   clear V hi hic hn hv hv' hvl
   go_wp2
   go_roundw
   case rel => exact ⟨i + 1, by have := HI.out; have := HN.out; omega, by rw [HVL.out], v_int om, by first | trivial | rfl⟩
   case measure => have := HI.out; have := HN.out; simp [intOf]; omega
theorem Rparts_nan (a fr : Nat) (ng : Bool) (w : World) (SP : Hid (∀ w, Calls Tryz.prog 223 #[.float .f64 a] w fun e w' => e = .returned (.tuple #[.bool ng, .int .i64 2047, .int .u64 fr]) ∧ w = w')) : Calls Tryz.prog 229 #[.float .f64 a] w fun e w' => e = .returned (.tuple #[.agg #[.bool false, .int .u64 0, .int .i64 0], .int .i64 4]) ∧ Within w w' := by
 go_enter Tryz.func229, Tryz.ntmps229
 go_wp2_with fail
 refine (SP.out _).mono ?_; rintro e1 w1 ⟨rfl, rfl⟩
 go_wp2
 refine bodyPost_ret (v := .tuple #[.agg #[.bool false, .int .u64 0, .int .i64 0], .int .i64 4]) (by simp [results, Tryz.results229, go_sem]) rfl ⟨rfl, ?_⟩
 exact wi
theorem zz60 {p : Prop} (h : p := by
 go_enter Tryz.func229, Tryz.ntmps229
 go_wp2_with fail
 refine (SP.out _).mono ?_; rintro e1 w1 ⟨rfl, rfl⟩
 go_wp2_with fail
 refine (OD.out _).mono ?_; rintro e2 w2 ⟨rfl, rfl⟩
 go_wp2
 refine bodyPost_ret (v := .tuple #[.agg #[.bool ng, .int .u64 M, .int .i64 E], .int .i64 0]) (by simp [results, Tryz.results229, go_sem]) rfl ⟨rfl, ?_⟩
 exact wi) : p := h
theorem Rparts_low (a fr M : Nat) (E : Int) (ng : Bool) (w : World) (SP : Hid (∀ w, Calls Tryz.prog 223 #[.float .f64 a] w fun e w' => e = .returned (.tuple #[.bool ng, .int .i64 0, .int .u64 fr]) ∧ w = w')) (OD : Hid (∀ w, Calls Tryz.prog 301 #[.int .u64 fr, .int .i64 (-1074)] w fun e w' => e = .returned (.tuple #[.int .u64 M, .int .i64 E]) ∧ w = w')) : Calls Tryz.prog 229 #[.float .f64 a] w fun e w' => e = .returned (.tuple #[.agg #[.bool ng, .int .u64 M, .int .i64 E], .int .i64 0]) ∧ Within w w' := by
 exact zz60
theorem Rparts_norm (a fr M q g : Nat) (E e0 : Int) (ng : Bool) (w : World) (hq : 0 < q) (hq2 : q < 2047) (g1 : IntKind.u64.wrap ((fr : Int) + 4503599627370496) = (g : Int)) (g3 : IntKind.i64.wrap (((q - 1 : Nat) : Int) - 1074) = e0) (SP : Hid (∀ w, Calls Tryz.prog 223 #[.float .f64 a] w fun e w' => e = .returned (.tuple #[.bool ng, .int .i64 (q : Nat), .int .u64 fr]) ∧ w = w')) (OD : Hid (∀ w, Calls Tryz.prog 301 #[.int .u64 g, .int .i64 (e0)] w fun e w' => e = .returned (.tuple #[.int .u64 M, .int .i64 E]) ∧ w = w')) : Calls Tryz.prog 229 #[.float .f64 a] w fun e w' => e = .returned (.tuple #[.agg #[.bool ng, .int .u64 M, .int .i64 E], .int .i64 0]) ∧ Within w w' := by
 have n1 : ((q : Int) == 2047) = false := by rw [beq_eq_false_iff_ne]; omega
 have d1 : decide ((q : Int) > 0) = true := decide_eq_true om
 have t1 : 0 < q := hq
 have g2 : IntKind.i64.wrap ((q : Int) - 1) = ((q - 1 : Nat) : Int) := by rw [IntKind.wrap_i64]; omega
 generalize q - 1 = q1 at *
 clear hq hq2
 exact zz60
theorem Rparts_D (a : Nat) (ha : a < 18446744073709551616) (w : World) : Calls Tryz.prog 229 #[.float .f64 a] w fun e w' => e = .returned (.tuple #[.agg #[.bool (pNegD a), .int .u64 (pMantD a), .int .i64 (pExpD a)], .int .i64 (pErrD a)]) ∧ Within w w' := by
 have SP := Hh (fun w => Rsplit_D a ha w)
 have hq : expD a < 2048 := Nat.mod_lt _ dc
 have hfr : fracD a < 4503599627370496 := Nat.mod_lt _ dc
 by_cases h7 : expD a = 2047
 ·have np := nan_parts (a := a) (by unfold pErrD; rw [if_pos h7]; decide)
  rw [np.1, np.2.1, np.2.2.1, np.2.2.2]; rw [h7] at SP; exact Rparts_nan a _ _ w SP
 have pe : pErrD a = 0 := by unfold pErrD; rw [if_neg h7]
 rw [fin_neg pe, pe]
 by_cases h0 : expD a = 0
 ·have hM : mantD a = fracD a := if_pos h0
  have hl : lowD a = -1074 := by unfold lowD; rw [if_pos h0]; rfl
  rw [h0] at SP
  by_cases hf : fracD a = 0
  ·have p1 : pMantD a = 0 := by unfold pMantD; rw [if_neg h7, hM, hf]; exact Nat.zero_div _
   have p2 : pExpD a = 0 := if_pos (.inr (by rw [hM, hf]))
   rw [p1, p2]; rw [hf] at SP
   exact Rparts_low a 0 0 0 _ w SP (fun w => Rodd_zero (-1074) w)
  ·have p1 : pMantD a = oddM (fracD a) := by unfold pMantD oddM; rw [if_neg h7, hM]
   have p2 : pExpD a = oddE (fracD a) (-1074) := by unfold pExpD oddE; rw [if_neg om, hM, hl]
   rw [p1, p2]
   exact Rparts_low a _ _ _ _ w SP (fun w => Rodd_any (fracD a) (-1074) hf om dc dc w)
 ·have hM : mantD a = fracD a + 4503599627370496 := if_neg h0
  have hl : lowD a = (expD a : Int) - 1075 := by unfold lowD; rw [if_neg h0]
  have p1 : pMantD a = oddM (fracD a + 4503599627370496) := by unfold pMantD oddM; rw [if_neg h7, hM]
  have p2 : pExpD a = oddE (fracD a + 4503599627370496) ((expD a : Int) - 1075) := by unfold pExpD oddE; rw [if_neg om, hM, hl]
  rw [p1, p2]
  exact Rparts_norm a _ _ (expD a) (fracD a + 4503599627370496) _ ((expD a : Int) - 1075) _ w om om (by rw [IntKind.wrap_u64]; omega) (by rw [IntKind.wrap_i64]; omega) SP (fun w => Rodd_any (fracD a + 4503599627370496) ((expD a : Int) - 1075) om om om om w)
def f64v (l : List Nat) : List Value := l.map fun (x : Nat) => .float .f64 x
theorem add_block (a : Addr) (n : Nat) : (a.add n).block = a.block := by unfold Addr.add; split <;> rfl
theorem add_add (a : Addr) (i j : Nat) : (a.add i).add j = a.add (i + j) := by
 unfold Addr.add
 by_cases hi : i = 0 <;> by_cases hj : j = 0 <;> simp [hi, hj, Nat.add_assoc]
theorem add_nought (a : Addr) : a.add 0 = a := by unfold Addr.add; rw [if_pos rfl]
def SlAt (w : World) (A : Option Addr) (xs : List Value) : Prop := 0 < xs.length → ∃ ad, A = some ad ∧ ad.block < w.heap.size ∧ ∀ (j : Nat) u, xs[j]? = some u → w.cell? (ad.add j) = some u
theorem SlAt.nil {w : World} {A : Option Addr} : SlAt w A [] := fun h => absurd h (by simp)
theorem SlAt.of {w w' : World} {A : Option Addr} {xs : List Value} (h : SlAt w A xs) (k : Within w w') : SlAt w' A xs := fun hn => by
 obtain ⟨ad, e, hb, hc⟩ := h hn
 exact ⟨ad, e, Nat.lt_of_lt_of_le hb k.size, fun j u hu => (k.cell (by rw [add_block]; exact hb)).trans (hc j u hu)⟩
theorem SlAt.below {w w' : World} {A : Option Addr} {xs : List Value} {B : Nat} (h : SlAt w A xs) (hA : ∀ ad, A = some ad → ad.block < B) (k : Below B w w') : SlAt w' A xs := fun hn => by
 obtain ⟨ad, e, hb, hc⟩ := h hn
 exact ⟨ad, e, Nat.lt_of_lt_of_le hb k.size, fun j u hu => (k.cell (by rw [add_block]; exact hA ad e)).trans (hc j u hu)⟩
theorem SlAt.at {w : World} {A : Option Addr} {l : List Nat} {v : Nat → Value} (h : SlAt w A (l.map v)) {k : Nat} (hk : k < l.length) : ∃ ad, A = some ad ∧ ad.block < w.heap.size ∧ w.cell? (ad.add k) = some (v (l.getD k 0)) := by
 obtain ⟨ad, e, hb, hc⟩ := h (by rw [List.length_map]; omega)
 refine ⟨ad, e, hb, hc k _ ?_⟩
 rw [List.getElem?_map, List.getElem?_eq_getElem hk, Option.map_some]
 simp [List.getD, List.getElem?_eq_getElem hk]
theorem SlAt.take {w : World} {A : Option Addr} {xs : List Value} (h : SlAt w A xs) (k : Nat) : SlAt w A (xs.take k) := fun hn => by
 obtain ⟨ad, e, hb, hc⟩ := h (Nat.lt_of_lt_of_le hn (List.length_take_le' _ _))
 refine ⟨ad, e, hb, fun j u hu => hc j u ?_⟩
 rw [List.getElem?_take] at hu
 split at hu
 ·exact hu
 ·cases hu
theorem SlAt.drop {w : World} {ad : Addr} {xs : List Value} (h : SlAt w (some ad) xs) (k : Nat) : SlAt w (some (ad.add k)) (xs.drop k) := fun hn => by
 obtain ⟨ad', e, hb, hc⟩ := h (by rw [List.length_drop] at hn; omega)
 obtain rfl := Option.some.inj e
 refine ⟨_, rfl, by rw [add_block]; exact hb, fun j u hu => ?_⟩
 rw [add_add]
 exact hc _ u (by rw [← hu, List.getElem?_drop])
theorem owns_form {w : World} {base : Nat} {E : TypeId} {v : Value} {n : Nat} {xs : List Value} (h : w.ownsRow base E 1 v n xs) : ∃ A c, v = .slice A n c ∧ n ≤ c ∧ SlAt w A xs ∧ (∀ ad, A = some ad → base ≤ ad.block) := by
 have hlen : xs.length = n := by have := h.1; simpa using this
 rcases h.2 with ⟨rfl, h0⟩ | ⟨g, cap, cur, rfl, hg, hb, hc, _, hsz, htk⟩
 ·exact ⟨none, 0, by rw [h0], by omega, fun hn => by omega, fun ad e => by cases e⟩
 ·refine ⟨_, _, rfl, hc, fun hn => ?_, fun ad e => by injection e with e; subst e; exact hg⟩
  obtain ⟨hlt, _⟩ := Array.getElem?_eq_some_iff.1 hb
  exact ⟨_, rfl, hlt, h.cells (g := g) rfl⟩
theorem run_app_nil {P : Program} (w : World) (base : Nat) (t ty e : TypeId) (i : TypeInfo) (ht : P.underlying t = some (.slice e)) (hi : P.info? e = some i)
 (v : Value) (n : Nat) (xs : List Value) (hown : w.ownsRow base e 1 v n xs) (c : Nat) : (Builtin.append_ #[t, t] ty #[v, .slice none 0 c]).run P w = .ok v w := by
 rcases hown.2 with ⟨rfl, rfl⟩ | ⟨g, cap, cur, rfl, _, _, hnc, _⟩
 ·simp [Builtin.append_, run_underlying ht, sizeOf, typeInfo, hi, Builtin.lenOf, Builtin.firstCells]
 ·simp [Builtin.append_, run_underlying ht, sizeOf, typeInfo, hi, Builtin.lenOf, Builtin.firstCells, hnc, storeCells]
theorem run_app {P : Program} (w : World) (base : Nat) (t ty e : TypeId) (i : TypeInfo) (z : Value) (bytes : Nat) (ht : P.underlying t = some (.slice e)) (hi : P.info? e = some i) (hz : i.zero = some z)
 (hsize : i.size = 1) (hby : i.bytes = bytes) (hzs : z.cells.size = 1) (v : Value) (n : Nat) (xs : List Value) (hown : w.ownsRow base e 1 v n xs)
 (A : Option Addr) (c : Nat) (news : List Value) (hr : SlAt w A news) (h1 : ∀ u ∈ news, u.oneCell' = true) (h63 : n + news.length ≤ maxLen) (hbytes : (n + news.length) * bytes ≤ 140737488355328) (hbase : base ≤ w.heap.size) :
 ∃ v' w', (Builtin.append_ #[t, t] ty #[v, .slice A news.length c]).run P w = .ok v' w' ∧ w'.ownsRow base e 1 v' (n + news.length) (xs ++ news) ∧ w.grownBy w' v.ownBlock ∧ (v'.ownBlock = v.ownBlock ∨ v'.ownBlock = some w.heap.size) := by
 rcases A with _ | ad
 ·have hn : news = [] := by
   rcases Nat.eq_zero_or_pos news.length with h0 | h0
   ·exact List.eq_nil_of_length_eq_zero h0
   ·obtain ⟨ad, h, _⟩ := hr h0
    cases h
  subst hn
  exact ⟨v, w, run_app_nil w base t ty e i ht hi v n xs hown c, by simpa using hown, World.grownBy.refl w _, .inl rfl⟩
 ·have hcells : ∀ j u, news[j]? = some u → w.cell? (ad.add j) = some u := by
   intro j u hu
   have h0 : 0 < news.length := by
    rcases Nat.eq_zero_or_pos news.length with h0 | h0
    ·rw [List.eq_nil_of_length_eq_zero h0] at hu; simp at hu
    ·exact h0
   obtain ⟨ad', h, _, hc⟩ := hr h0
   injection h with h
   subst h
   exact hc j u hu
  obtain ⟨v', w', hrun, h2, h3, _, h5⟩ := run_append_own_at (P := P) w base t ty e i z 1 bytes ht hi hz hsize hby hzs dc v n xs hown ad news.length c news (by simp) hcells h1 h63 hbytes hbase
  exact ⟨v', w', hrun, h2, h3, h5⟩
theorem grown_below {w w' : World} {base : Nat} {E : TypeId} {v : Value} {n : Nat} {xs : List Value} (h : w.ownsRow base E 1 v n xs) (hb : base ≤ w.heap.size) (k : w.grownBy w' v.ownBlock) : Below base w w' :=
 (Below.refl base w).grown k hb (fun j hj => (h.lt j hj).1)
theorem within_grown {w w' : World} (k : Within w w') : w.grownBy w' none := ⟨k.os, k.tape, k.output, k.size, fun i hi _ => k.block i hi⟩
def OwnF (w : World) (base : Nat) (v : Value) (l : List Nat) : Prop := w.ownsRow base 28 1 v l.length (f64v l)
theorem OwnF.form {w : World} {base : Nat} {v : Value} {l : List Nat} (h : OwnF w base v l) : ∃ A c, v = .slice A l.length c ∧ l.length ≤ c ∧ SlAt w A (f64v l) ∧ (∀ ad, A = some ad → base ≤ ad.block) := owns_form h
theorem OwnF.of {w w' : World} {base : Nat} {v : Value} {l : List Nat} (h : OwnF w base v l) (k : Within w w') : OwnF w' base v l := h.kept (within_grown k) (by cases hv : v.ownBlock <;> simp)
theorem wpList_append_run {P : Program} {w : World} {ops : Array Oper} {rest : List Oper} {o : Oper} {a : Act} {Q : Exit → Act → World → Prop} (hgd : o.guard = none) (s x : Operand) (t : TypeId)
 (ho : o.op = .call { callee := .builtin .append, args := #[s, x], argTypes := #[t, t] }) (vs vx : Value) (hs : a.eval s = vs) (hx : a.eval x = vx) {v' : Value} {w' : World}
 (hrun : (Builtin.append_ #[t, t] o.type #[vs, vx]).run P w = .ok v' w') (h : wpList P ops Q rest (a.put o.dst v') w') : wpList P ops Q (o :: rest) a w :=
 wpList_plain hgd fun K hK => by
  unfold Oper.wp execOp
  simp only [ho, resolve, invoke, builtin, Sem.run_bind, Sem.run_pure, Result.andThen_ok, List.map_toArray, List.map_cons, List.map_nil, hs, hx, hrun]
  exact hK _ _ h
theorem SlAt.one (w : World) (u : Value) (E : TypeId) : SlAt (w.alloc (.cells #[u] E)) (some ⟨w.heap.size, 0, none⟩) [u] := fun _ => by
 refine ⟨_, rfl, by simp, fun j v hv => ?_⟩
 cases j with
 | zero =>
  simp at hv
  subst hv
  rw [add_nought, World.cell?_alloc_at _ _ _ _ rfl]; rfl
 | succ j => simp at hv
theorem owns_less {w : World} {base base' : Nat} {E : TypeId} {v : Value} {n : Nat} {xs : List Value} (h : w.ownsRow base E 1 v n xs) (k : base' ≤ base) : w.ownsRow base' E 1 v n xs := by
 refine ⟨h.1, ?_⟩
 rcases h.2 with h2 | ⟨g, cap, cur, h1, hb, h3⟩
 ·exact .inl h2
 ·exact .inr ⟨g, cap, cur, h1, Nat.le_trans k hb, h3⟩
theorem OwnF.less {w : World} {base base' : Nat} {v : Value} {l : List Nat} (h : OwnF w base v l) (k : base' ≤ base) : OwnF w base' v l := owns_less h k
theorem OwnF.set {w : World} {base : Nat} {v : Value} {l : List Nat} (h : OwnF w base v l) {p : Addr} (hp : p.block < base) (u : Value) : OwnF (w.setCell p u) base v l := ownsRow_setCell_below h hp u
theorem op_append_run {P : Program} {w : World} {o : Oper} {a : Act} {K : Act → World → Prop} {Q : Exit → Act → World → Prop} (s x : Operand) (t : TypeId)
 (ho : o.op = .call { callee := .builtin .append, args := #[s, x], argTypes := #[t, t] }) (vs vx : Value) (hs : a.eval s = vs) (hx : a.eval x = vx) {v' : Value} {w' : World}
 (hrun : (Builtin.append_ #[t, t] o.type #[vs, vx]).run P w = .ok v' w') (h : K (a.put o.dst v') w') : o.wp P a w K Q := by
 unfold Oper.wp execOp
 simp only [ho, resolve, invoke, builtin, Sem.run_bind, Sem.run_pure, Result.andThen_ok, List.map_toArray, List.map_cons, List.map_nil, hs, hx, hrun]
 exact h
theorem classD_range (a : Nat) : 1 ≤ classD a ∧ classD a ≤ 5 := by
 unfold classD classOf; split <;> (try split) <;> (try split) <;> (try split) <;> omega
def finD (x : Nat) : Bool := decide (2 < classD x)
theorem take_snoc_getD {l : List Nat} {k : Nat} (h : k < l.length) : l.take (k + 1) = l.take k ++ [l.getD k 0] := by
 rw [List.take_add_one, List.getElem?_eq_getElem h]; simp [List.getD, List.getElem?_eq_getElem h]
def Words64 (l : List Nat) : Prop := ∀ x ∈ l, x < 18446744073709551616
theorem Words64.at {l : List Nat} (h : Words64 l) {k : Nat} (hk : k < l.length) : l.getD k 0 < 18446744073709551616 := by
 rw [List.getD, List.getElem?_eq_getElem hk]; exact h _ (List.getElem_mem hk)
theorem all_snoc {p : Nat → Bool} {l : List Nat} {k : Nat} (h : k < l.length) : (l.take (k + 1)).all p = ((l.take k).all p && p (l.getD k 0)) := by
 rw [take_snoc_getD h, List.all_append]; simp
theorem all_false {p : Nat → Bool} {l : List Nat} {k : Nat} (h : k < l.length) (hp : p (l.getD k 0) = false) : l.all p = false := by
 rw [List.all_eq_false]
 refine ⟨l.getD k 0, ?_, by rw [hp]; decide⟩
 rw [List.getD, List.getElem?_eq_getElem h]; exact List.getElem_mem h
theorem class_yes {x : Nat} (h : finD x = true) : ((classD x : Int) == 1) = false ∧ ((classD x : Int) == 2) = false := by
 have : 2 < classD x := of_decide_eq_true h
 exact ⟨beq_eq_false_iff_ne.2 om, beq_eq_false_iff_ne.2 om⟩
theorem class_no {x : Nat} (h : finD x = false) : classD x = 1 ∨ classD x = 2 := by
 have h1 : ¬ 2 < classD x := of_decide_eq_false h
 have := classD_range x
 omega
theorem zz85 {p : Prop} (h : p := by
 go_wp2_with fail
 refine (CL.out _).mono ?_; rintro e1 w1 ⟨rfl, hb1⟩
 go_wp2
 go_ret
 exact ⟨ret_bool HNO.out.symm, wi⟩) : p := h
theorem Finite_any (A : Option Addr) (c : Nat) (l : List Nat) (hw : Words64 l) (hl : l.length ≤ 1152921504606846976) (w : World) (hr : SlAt w A (f64v l)) : Calls Tryz.prog 89 #[.slice A l.length c] w fun e w' => e = .returned (.bool (l.all finD)) ∧ Within w w' := by
 have HW := Hh hw; have HR := Hh hr; clear hw hr
 go_enter Tryz.func89, Tryz.ntmps89
 go_wp2
 go_loopw [8] (fun iv wr => ∃ k : Nat, k ≤ l.length ∧ iv = .int .i64 (k : Int) ∧ (l.take k).all finD = true ∧ Within w wr) (fun iv _ => l.length - (intOf iv).toNat)
 case atStart => exact ⟨0, Nat.zero_le _, rfl, rfl, Within.refl _⟩
 case round =>
  obtain ⟨k, hk, rfl, hall, hin⟩ := hrel
  have HA := Hh hall; clear hall
  by_cases hlt : k < l.length
  ·obtain ⟨ad, rfl, hblk, hc⟩ := (HR.out.of hin).at hlt
   obtain ⟨x, hx⟩ : ∃ x, x = l.getD k 0 := ⟨_, rfl⟩
   have hx2 : x < 18446744073709551616 := by rw [hx]; exact HW.out.at hlt
   rw [← hx] at hc
   have HX := Hh hx; have HX2 := Hh hx2; clear hx hx2
   by_cases hf : finD x = true
   ·have hnext : (l.take (k + 1)).all finD = true := by rw [all_snoc hlt, HA.out, ← HX.out, hf]; rfl
    have HN := Hh hnext; clear hnext
    obtain ⟨g1, g2⟩ := class_yes hf
    clear hf
    go_wp2_with fail
    refine (Class_D x HX2.out _).mono ?_; rintro e1 w1 ⟨rfl, hb1⟩
    go_wp2
    go_roundw
    case rel => exact ⟨k + 1, hlt, by go_num, HN.out, wi⟩
    case measure => simp [intOf]; omega
   ·have hno : l.all finD = false := all_false hlt (by rw [← HX.out]; simpa using hf)
    have HNO := Hh hno; clear hno
    have hc1 := class_no (by simpa using hf : finD x = false)
    have CL := Hh (fun w => Class_D x HX2.out w)
    generalize classD x = cx at *
    clear hf
    rcases hc1 with rfl | rfl
    ·exact zz85
    exact zz85
  ·obtain rfl : k = l.length := by omega
   go_wp2
   go_ret
   exact ⟨ret_bool (by rw [← HA.out, List.take_of_length_le (Nat.le_refl _)]), hin⟩
end Go.Proofs.YtgkcpnidmfejeaaGreatDoor
section
namespace Go.Proofs.YtgkcpnidmfejeaaGreatDoor.P64
open Go.RowKit
theorem ctz_top (n : Nat) (h : n < 18446744073709551616) : Lib.ctz 64 n ≤ 64 := by
 by_cases h0 : n = 0
 ·subst h0; decide
 ·obtain ⟨_, _, _, h1⟩ := odd_split h0 h
  omega
theorem pExpD_range (b : Nat) : -1074 ≤ pExpD b ∧ pExpD b ≤ 1100 := by
 unfold pExpD
 have h1 := expD_lt b
 have h2 := ctz_top (mantD b) (by have := mantD_lt b; omega)
 split
 ·omega
 ·unfold lowD; split <;> omega
theorem pMantD_lt (b : Nat) : pMantD b < 18446744073709551616 := by
 unfold pMantD
 have h := mantD_lt b
 split
 ·decide
 ·exact Nat.lt_of_le_of_lt (Nat.div_le_self _ _) om
def wholeI (b : Nat) : Int := sgv (pNegD b) (pMantD b) * 2 ^ (pExpD b + 1074).toNat
def NewI (W : World) (v : Int) (e : Ending) (w' : World) : Prop := ∃ g, e = .returned (.pointer (some ⟨g, 0, none⟩)) ∧ IntB w' g v ∧ W.heap.size ≤ g ∧ Within W w'
end Go.Proofs.YtgkcpnidmfejeaaGreatDoor.P64
end
section
namespace Go.Proofs.YtgkcpnidmfejeaaGreatDoor
open Go.RowKit
attribute [go_sem] firmAt firmUpon
section
variable {P : Program} {ops : Array Oper} {Q : Exit → Act → World → Prop} {S : World → Prop} {p k : Nat} {a : Act} {w : World} {t : Sch}
theorem sch_one_want {o : Oper} (ho : ops.toList[k]? = some o) (hg : Region.wanted o (yielded ops a.tmps) = true) (h : ∀ K : Act → World → Prop, (∀ a' w', (k < p → S w') → wpSch P ops (OnlyN Q) S p t a' w' → K a' w') → o.wp P a w K (OnlyN Q)) : wpSch P ops (OnlyN Q) S p (.one k t) a w := by
 show wpOp P ops (OnlyN Q) k _ a w
 unfold wpOp
 rw [Array.getElem?_toList] at ho
 simp only [ho]
 rw [if_pos hg]
 exact .inl (h _ fun a' w' hS hr => ⟨hS, hr⟩)
theorem sch_one_skip {o : Oper} (ho : ops.toList[k]? = some o) (hg : Region.wanted o (yielded ops a.tmps) = false) (hS : S w) (h2 : wpSch P ops (OnlyN Q) S p t (a.put o.dst undef) w) : wpSch P ops (OnlyN Q) S p (.one k t) a w := by
 show wpOp P ops (OnlyN Q) k _ a w
 unfold wpOp
 rw [Array.getElem?_toList] at ho
 simp only [ho]
 rw [if_neg (by rw [hg]; decide)]
 exact ⟨fun _ => hS, h2⟩
theorem wp_region_schB {Q : Exit → Act → World → Prop} {id : Nat} {a : Act} {w : World} (base : Nat) (F : World → Prop) (p : Nat) (t : Sch) (hm : P.follows .mixedOrders = true) (hB : t.okAll ops p = true) (hF : F w)
 (h : ∀ w0, F w0 → wpSch P ops (OnlyN Q) (Below base w0) p t a w0.drew) : (Code.region id ops true).wp P Q a w := wp_region_sch (Below base w) p t hm hB ((Below.refl base w).drew) fun _ => h w hF
end
end Go.Proofs.YtgkcpnidmfejeaaGreatDoor
end
section
namespace Go.Proofs.YtgkcpnidmfejeaaGreatDoor.P64
open Go.RowKit
theorem Pabs0 (z x : Nat) (sa : Bool) (na : Nat) (A : Option Addr) (ca : Nat) (ha : (dg na).length ≤ 400000) (w : World) (hz : IntTy w z) (a0 : w.cell? ⟨x, 0, none⟩ = some (.bool sa)) (a1 : w.cell? ⟨x, 1, none⟩ = some (.slice A (dg na).length ca)) (hra : RowAt w A (dg na)) : Calls Tryz.prog 259 #[.pointer (some ⟨z, 0, none⟩), .pointer (some ⟨x, 0, none⟩)] w (PutI w z (sgv false na)) := by
 have HZ := Hh hz; have HRA := Hh hra; clear hz hra
 have hlx := World.block_lt_of_cell? w _ a0
 have CL := Hh (fun w h => Pclone na A ca om w h)
 have HA := Hh ha; clear ha
 generalize hL : (dg na).length = L at *
 clear hL
 go_enter Tryz.func259, Tryz.ntmps259
 go_wp2_with fail
 refine (CL.out _ HRA.out).mono ?_; rintro e1 w1 ⟨A1, c1, rfl, hc1, hr1, hb1⟩
 go_wp2_with fail
 refine (Pmade z false na A1 c1 hc1 w1 hr1 (HZ.out.of hb1)).mono ?_; rintro e2 w2 ⟨rfl, hI, hG⟩
 exact zz84
theorem Pset0 (z x : Nat) (sa : Bool) (na : Nat) (A : Option Addr) (ca : Nat) (ha : (dg na).length ≤ 400000) (w : World) (hz : IntTy w z) (a0 : w.cell? ⟨x, 0, none⟩ = some (.bool sa)) (a1 : w.cell? ⟨x, 1, none⟩ = some (.slice A (dg na).length ca)) (hra : RowAt w A (dg na)) : Calls Tryz.prog 320 #[.pointer (some ⟨z, 0, none⟩), .pointer (some ⟨x, 0, none⟩)] w (PutI w z (sgv sa na)) := by
 have HZ := Hh hz; have HRA := Hh hra; clear hz hra
 have hlx := World.block_lt_of_cell? w _ a0
 have CL := Hh (fun w h => Pclone na A ca om w h)
 have HA := Hh ha; clear ha
 generalize hL : (dg na).length = L at *
 clear hL
 go_enter Tryz.func320, Tryz.ntmps320
 go_wp2
 refine wp_region_schG (fun W => W.cell? ⟨x, 0, none⟩ = some (.bool sa) ∧ W.cell? ⟨x, 1, none⟩ = some (.slice A L ca) ∧ RowAt W A (dg na) ∧ x < W.heap.size ∧ Within w W) 10 (.firm 0 (.firm 1 (.firm 2 (.firm 3 (.firm 4 (.firm 5 (.firm 6 (.firm 7 (.firm 8 (.one 9 (.one 10 (.one 11 .nil)))))))))))) kr kr ⟨a0, a1, HRA.out, hlx, Within.refl _⟩ ?_
 rintro w0 ⟨c0, c1, ra0, lx0, hw0⟩
 try simp only [pu]
 iterate 9
  apply sch_firm rfl rfl wi
  ·intro wq hq
   have hcq := hq.cells
   clear hq
   go_simp
   rfl
  try simp only [pu]
 refine sch_one rfl rfl (fun K hK => ?_)
 go_simp
 refine (CL.out _ (RowAt.drew ra0)).mono ?_; rintro e1 w1 ⟨A1, c1', rfl, hc1, hr1, hb1⟩
 have h1 : Within w0 w1 := (Within.refl w0).drew.trans hb1
 refine hK _ _ (fun _ => wi) ?_
 clear hK K
 try simp only [pu]
 refine sch_one rfl rfl (fun K hK => ?_)
 go_simp
 refine (Pmade z sa na A1 c1' hc1 _ hr1 (HZ.out.of (hw0.trans h1))).mono ?_; rintro e2 w2 ⟨rfl, hI, hG⟩
 refine hK _ _ ab ?_
 clear hK K
 try simp only [pu]
 refine sch_one rfl rfl (fun K hK => ?_)
 go_simp
 refine hK _ _ ab ?_
 clear hK K
 try simp only [pu]
 refine sch_nil ?_
 go_wp2
 go_ret
 exact ⟨rfl, hI, grown_trans (grown_within z (hw0.trans h1)) hG⟩
theorem Pabs (z x : Nat) (v : Int) (hl : (dg v.natAbs).length ≤ 400000) (w : World) (hz : IntTy w z) (hx : IntB w x v) : Calls Tryz.prog 259 #[.pointer (some ⟨z, 0, none⟩), .pointer (some ⟨x, 0, none⟩)] w (PutI w z (v.natAbs : Int)) := by
 obtain ⟨A, c, c0, c1, hr⟩ := hx.rd
 exact Pabs0 z x _ _ A c hl w hz c0 c1 hr
theorem Pset (z x : Nat) (v : Int) (hl : (dg v.natAbs).length ≤ 400000) (w : World) (hz : IntTy w z) (hx : IntB w x v) : Calls Tryz.prog 320 #[.pointer (some ⟨z, 0, none⟩), .pointer (some ⟨x, 0, none⟩)] w (PutI w z v) := by
 obtain ⟨A, c, c0, c1, hr⟩ := hx.rd
 have := Pset0 z x _ _ A c hl w hz c0 c1 hr
 rw [sgv_self] at this
 exact this
theorem Padd0 (z x y : Nat) (v : Int) (sb : Bool) (m : Nat) (Bv : Option Addr) (cb : Nat) (hn : (dg v.natAbs).length ≤ 1000000) (hm : (dg m).length ≤ 1000000) (w : World) (hz : IntTy w z) (hx : IntB w x v) (b0 : w.cell? ⟨y, 0, none⟩ = some (.bool sb)) (b1 : w.cell? ⟨y, 1, none⟩ = some (.slice Bv (dg m).length cb)) (hrb : RowAt w Bv (dg m)) : Calls Tryz.prog 255 #[.pointer (some ⟨z, 0, none⟩), .pointer (some ⟨x, 0, none⟩), .pointer (some ⟨y, 0, none⟩)] w (PutI w z (v + sgv sb m)) := by
 have PL := Hh (fun w hz hx hrb => Pplus z x v sb m Bv cb hn hm w hz hx hrb)
 have HZ := Hh hz; have HX := Hh hx; have HRB := Hh hrb
 have hly := World.block_lt_of_cell? w _ b0
 clear hz hx hrb hn hm
 generalize hL : (dg m).length = L at *
 clear hL
 go_enter Tryz.func255, Tryz.ntmps255
 go_wp2
 refine wp_region_schG (fun W => W.cell? ⟨y, 0, none⟩ = some (.bool sb) ∧ W.cell? ⟨y, 1, none⟩ = some (.slice Bv L cb) ∧ y < W.heap.size ∧ Within w W) 10 (.firm 0 (.firm 1 (.firm 2 (.firm 3 (.firm 4 (.firm 5 (.firm 6 (.firm 7 (.firm 8 (.firm 9 (.one 10 (.one 11 .nil)))))))))))) kr kr ⟨b0, b1, hly, Within.refl _⟩ ?_
 rintro w0 ⟨c0, c1, ly0, hw0⟩
 try simp only [pu]
 iterate 10
  apply sch_firm rfl rfl wi
  ·intro wq hq
   have hcq := hq.cells
   clear hq
   go_simp
   rfl
  try simp only [pu]
 refine sch_one rfl rfl (fun K hK => ?_)
 go_simp
 refine (PL.out _ (HZ.out.of hw0.drew) (HX.out.of hw0.drew) (HRB.out.of hw0.drew)).mono ?_; rintro e2 w2 ⟨rfl, hI, hG⟩
 refine hK _ _ ab ?_
 clear hK K
 try simp only [pu]
 refine sch_one rfl rfl (fun K hK => ?_)
 go_simp
 refine hK _ _ ab ?_
 clear hK K
 try simp only [pu]
 refine sch_nil ?_
 go_wp2
 go_ret
 exact ⟨rfl, hI, grown_trans (grown_within z hw0.drew) hG⟩
theorem Padd (z x y : Nat) (v u : Int) (hn : (dg v.natAbs).length ≤ 1000000) (hm : (dg u.natAbs).length ≤ 1000000) (w : World) (hz : IntTy w z) (hx : IntB w x v) (hy : IntB w y u) : Calls Tryz.prog 255 #[.pointer (some ⟨z, 0, none⟩), .pointer (some ⟨x, 0, none⟩), .pointer (some ⟨y, 0, none⟩)] w (PutI w z (v + u)) := by
 obtain ⟨A, c, c0, c1, hr⟩ := hy.rd
 have := Padd0 z x y v _ _ A c hn hm w hz hx c0 c1 hr
 rw [sgv_self] at this
 exact this
theorem zz105 {p : Prop} (h : p := by
 go_enter Tryz.func178, Tryz.ntmps178
 go_wp2
 go_ret
 exact ⟨rfl, rfl⟩) : p := h
theorem Psign_neg (x : Nat) (v : Int) (h : v < 0) (w : World) (hx : IntB w x v) : Calls Tryz.prog 178 #[.pointer (some ⟨x, 0, none⟩)] w (fun e w' => e = .returned (.int .i64 (-1)) ∧ w = w') := by
 obtain ⟨A, c, c0, c1, _⟩ := hx.rd
 rw [decide_eq_true h] at c0
 clear hx h
 exact zz105
theorem Psign_zero (x : Nat) (v : Int) (h : v = 0) (w : World) (hx : IntB w x v) : Calls Tryz.prog 178 #[.pointer (some ⟨x, 0, none⟩)] w (fun e w' => e = .returned (.int .i64 0) ∧ w = w') := by
 obtain ⟨A, c, c0, c1, _⟩ := hx.rd
 subst h
 rw [show (dg (0 : Int).natAbs) = [] from dg_zero] at c1
 rw [show decide ((0 : Int) < 0) = false from rfl] at c0
 have d : (((List.length ([] : List Nat) : Nat) : Int) == 0) = true := rfl
 clear hx
 exact zz105
theorem Psign_pos (x : Nat) (v : Int) (h : 0 < v) (w : World) (hx : IntB w x v) : Calls Tryz.prog 178 #[.pointer (some ⟨x, 0, none⟩)] w (fun e w' => e = .returned (.int .i64 1) ∧ w = w') := by
 obtain ⟨A, c, c0, c1, _⟩ := hx.rd
 rw [decide_eq_false om] at c0
 have hp := dg_len_pos (n := v.natAbs) om
 obtain ⟨k, hk⟩ : ∃ k, k = (dg v.natAbs).length := ⟨_, rfl⟩
 rw [← hk] at c1 hp
 clear hk
 have d : ((k : Int) == 0) = false := beq_eq_false_iff_ne.2 om
 have d2 : ¬ k = 0 := by omega
 clear hx h
 exact zz105
theorem Psign (x : Nat) (v : Int) (w : World) (hx : IntB w x v) : Calls Tryz.prog 178 #[.pointer (some ⟨x, 0, none⟩)] w (fun e w' => e = .returned (.int .i64 v.sign) ∧ w = w') := by
 rcases Int.lt_trichotomy v 0 with h | h | h
 ·rw [Int.sign_eq_neg_one_of_neg h]; exact Psign_neg x v h w hx
 ·subst h; exact Psign_zero x 0 rfl w hx
 ·rw [Int.sign_eq_one_of_pos h]; exact Psign_pos x v h w hx
theorem Prsh_false (z x n na : Nat) (A : Option Addr) (ca : Nat) (ha : (dg na).length ≤ 400000) (hca : (dg na).length ≤ ca) (hn : n ≤ 16000000) (w : World) (hz : IntTy w z) (a0 : w.cell? ⟨x, 0, none⟩ = some (.bool false)) (a1 : w.cell? ⟨x, 1, none⟩ = some (.slice A (dg na).length ca)) (hra : RowAt w A (dg na)) : Calls Tryz.prog 260 #[.pointer (some ⟨z, 0, none⟩), .pointer (some ⟨x, 0, none⟩), .int .u64 (n : Int)] w (PutI w z (sgv false (na / 2 ^ n))) := by
 have RI := Hh (Pright na A ca n ha hca hn w hra)
 have HZ := Hh hz
 obtain ⟨q, hq⟩ : ∃ q, q = na / 2 ^ n := ⟨_, rfl⟩
 rw [← hq] at RI ⊢
 clear hra ha hca hn hz hq
 generalize hL : (dg na).length = L at *
 clear hL
 go_enter Tryz.func260, Tryz.ntmps260
 go_wp2_with fail
 refine (RI.out).mono ?_; rintro e1 w1 ⟨A1, c1, lost, rfl, hc1, hr1, hlost, hb1⟩
 clear hlost
 go_wp2_with fail
 refine (Pmade z false q A1 c1 hc1 w1 hr1 (HZ.out.of hb1)).mono ?_; rintro e2 w2 ⟨rfl, hI, hG⟩
 exact zz84
theorem Prsh_true (z x n na : Nat) (A : Option Addr) (ca : Nat) (ha : (dg na).length ≤ 400000) (hca : (dg na).length ≤ ca) (hn : n ≤ 16000000) (hd : na % 2 ^ n = 0) (w : World) (hz : IntTy w z) (a0 : w.cell? ⟨x, 0, none⟩ = some (.bool true)) (a1 : w.cell? ⟨x, 1, none⟩ = some (.slice A (dg na).length ca)) (hra : RowAt w A (dg na)) : Calls Tryz.prog 260 #[.pointer (some ⟨z, 0, none⟩), .pointer (some ⟨x, 0, none⟩), .int .u64 (n : Int)] w (PutI w z (sgv true (na / 2 ^ n))) := by
 have RI := Hh (Pright na A ca n ha hca hn w hra)
 have HZ := Hh hz
 have HD := Hh hd; clear hd
 obtain ⟨q, hq⟩ : ∃ q, q = na / 2 ^ n := ⟨_, rfl⟩
 rw [← hq] at RI ⊢
 clear hra ha hca hn hz hq
 generalize hL : (dg na).length = L at *
 clear hL
 go_enter Tryz.func260, Tryz.ntmps260
 go_wp2_with fail
 refine (RI.out).mono ?_; rintro e1 w1 ⟨A1, c1, lost, rfl, hc1, hr1, hlost, hb1⟩
 have hl0 := hlost HD.out; subst hl0
 clear hlost
 go_wp2_with fail
 refine (Pmade z true q A1 c1 hc1 w1 hr1 (HZ.out.of hb1)).mono ?_; rintro e2 w2 ⟨rfl, hI, hG⟩
 exact zz84
theorem Prsh (z x n : Nat) (v : Int) (hl : (dg v.natAbs).length ≤ 400000) (hn : n ≤ 16000000) (hd : 0 ≤ v ∨ v.natAbs % 2 ^ n = 0) (w : World) (hz : IntTy w z) (hx : IntB w x v) : Calls Tryz.prog 260 #[.pointer (some ⟨z, 0, none⟩), .pointer (some ⟨x, 0, none⟩), .int .u64 (n : Int)] w (PutI w z (v / 2 ^ n)) := by
 obtain ⟨A, c, c0, c1, hc, hr⟩ := hx.cells
 by_cases h : v < 0
 ·rw [decide_eq_true h] at c0
  have hd2 := hd.resolve_left om
  have k := Prsh_true z x n v.natAbs A c hl hc hn hd2 w hz c0 c1 hr
  refine k.mono fun e w' g => PutI_eq g ?_
  have hp := Nat.two_pow_pos n
  obtain ⟨q, hq⟩ := Nat.dvd_of_mod_eq_zero hd2
  have e1 : v.natAbs / 2 ^ n = q := by rw [hq, Nat.mul_div_cancel_left _ hp]
  have e2 : v = -(q : Int) * ((2 ^ n : Nat) : Int) := by
   have h3 : ((v.natAbs : Nat) : Int) = ((2 ^ n * q : Nat) : Int) := by rw [hq]
   rw [Int.natCast_mul] at h3
   rw [Int.neg_mul, Int.mul_comm]
   omega
  rw [e1]
  show -(q : Int) = _
  rw [e2, Int.natCast_pow, show ((2 : Nat) : Int) = 2 from rfl, Int.mul_ediv_cancel _ (fun h0 => by have h5 : (0 : Int) < 2 ^ n := Int.pow_pos dc; omega)]
 ·rw [decide_eq_false h] at c0
  have k := Prsh_false z x n v.natAbs A c hl hc hn w hz c0 c1 hr
  refine k.mono fun e w' g => PutI_eq g ?_
  show ((v.natAbs / 2 ^ n : Nat) : Int) = _
  rw [Int.natCast_ediv, Int.natCast_pow, Int.natAbs_of_nonneg om]
  rfl
theorem dg_at0 (n : Nat) : (dg n).getD 0 0 = n % 18446744073709551616 := by
 by_cases h : n = 0
 ·subst h; rw [dg_zero]; rfl
 ·rw [dg_pos h]; rfl
theorem Plow (n : Nat) (A : Option Addr) (c : Nat) (hl : (dg n).length ≤ 2000000) (w : World) (hr : RowAt w A (dg n)) : Calls Tryz.prog 327 #[.slice A (dg n).length c] w (fun e w' => e = .returned (.int .u64 ((n % 18446744073709551616 : Nat) : Int)) ∧ w = w') := by
 have DG := Hh (fun w h => Pdigit (dg n) A c 0 (n % 18446744073709551616) (dg_at0 n).symm hl dc w h)
 have HR := Hh hr; clear hr
 obtain ⟨q, hq⟩ : ∃ q, q = n % 18446744073709551616 := ⟨_, rfl⟩
 rw [← hq] at DG ⊢
 clear hq
 rw [show ((0 : Nat) : Int) = 0 from rfl] at DG
 go_enter Tryz.func327, Tryz.ntmps327
 go_wp2_with fail
 refine (DG.out _ HR.out).mono ?_; rintro e1 w1 ⟨rfl, rfl⟩
 go_wp2
 go_ret
 exact ⟨rfl, rfl⟩
theorem Puint64_0 (x n : Nat) (sa : Bool) (A : Option Addr) (c : Nat) (hl : (dg n).length ≤ 2000000) (w : World) (a1 : w.cell? ⟨x, 1, none⟩ = some (.slice A (dg n).length c)) (hr : RowAt w A (dg n)) : Calls Tryz.prog 262 #[.pointer (some ⟨x, 0, none⟩)] w (fun e w' => e = .returned (.int .u64 ((n % 18446744073709551616 : Nat) : Int)) ∧ w = w') := by
 have LW := Hh (fun w h => Plow n A c hl w h)
 have HR := Hh hr; clear hr hl
 obtain ⟨q, hq⟩ : ∃ q, q = n % 18446744073709551616 := ⟨_, rfl⟩
 rw [← hq] at LW ⊢
 clear hq
 generalize hL : (dg n).length = L at *
 clear hL
 go_enter Tryz.func262, Tryz.ntmps262
 go_wp2_with fail
 refine (LW.out _ HR.out).mono ?_; rintro e1 w1 ⟨rfl, rfl⟩
 go_wp2
 go_ret
 exact ⟨rfl, rfl⟩
theorem Puint64 (x : Nat) (v : Int) (hl : (dg v.natAbs).length ≤ 2000000) (w : World) (hx : IntB w x v) : Calls Tryz.prog 262 #[.pointer (some ⟨x, 0, none⟩)] w (fun e w' => e = .returned (.int .u64 ((v.natAbs % 18446744073709551616 : Nat) : Int)) ∧ w = w') := by
 obtain ⟨A, c, c0, c1, hr⟩ := hx.rd
 exact Puint64_0 x v.natAbs true A c hl w c1 hr
theorem Pbit_0 (x n : Nat) (A : Option Addr) (c : Nat) (hl : (dg n).length ≤ 2000000) (w : World) (a1 : w.cell? ⟨x, 1, none⟩ = some (.slice A (dg n).length c)) (hr : RowAt w A (dg n)) : Calls Tryz.prog 321 #[.pointer (some ⟨x, 0, none⟩), .int .i64 0] w (fun e w' => e = .returned (.int .u64 ((n % 2 : Nat) : Int)) ∧ w = w') := by
 have DG := Hh (fun w h => Pdigit (dg n) A c 0 (n % 18446744073709551616) (dg_at0 n).symm hl dc w h)
 have HR := Hh hr; clear hr hl
 obtain ⟨q, hq⟩ : ∃ q, q = n % 18446744073709551616 := ⟨_, rfl⟩
 rw [← hq] at DG
 have hq2 : q < 18446744073709551616 := by omega
 have e2 : n % 2 = q % 2 := by omega
 rw [e2]
 clear hq e2
 rw [show ((0 : Nat) : Int) = 0 from rfl] at DG
 have ga : bits .and .u64 (q : Int) 1 = ((q % 2 : Nat) : Int) := by
  have := u64_and_nat q 1 hq2 dc
  rw [show (2 : Nat) = 2 ^ 1 from rfl, ← Nat.and_two_pow_sub_one_eq_mod]
  exact this
 have GA := Hh ga
 rw [Int.natCast_emod] at ga
 clear hq2
 generalize hL : (dg n).length = L at *
 clear hL
 go_enter Tryz.func321, Tryz.ntmps321
 go_wp2_with fail
 refine (DG.out _ HR.out).mono ?_; rintro e1 w1 ⟨rfl, rfl⟩
 go_wp2
 go_ret
 exact ⟨ret_int (by first | rfl | exact ga | exact GA.out | omega), rfl⟩
theorem Pbit (x : Nat) (v : Int) (hl : (dg v.natAbs).length ≤ 2000000) (w : World) (hx : IntB w x v) : Calls Tryz.prog 321 #[.pointer (some ⟨x, 0, none⟩), .int .i64 0] w (fun e w' => e = .returned (.int .u64 ((v.natAbs % 2 : Nat) : Int)) ∧ w = w') := by
 obtain ⟨A, c, c0, c1, hr⟩ := hx.rd
 exact Pbit_0 x v.natAbs A c hl w c1 hr
theorem PnewInt (n : Nat) (hn : n < 9223372036854775808) (w : World) : Calls Tryz.prog 237 #[.int .i64 (n : Int)] w (NewI w n) := by
 have WD := Hh (fun w => Pword n om w)
 have wn : IntKind.u64.wrap (n : Int) = (n : Int) := IntWalk.u64_in _ ⟨by omega, by omega⟩
 have d0 : decide ((n : Int) < 0) = false := decide_eq_false om
 have SI : Hid (∀ (z : Nat) w, IntTy w z → Calls Tryz.prog 307 #[.pointer (some ⟨z, 0, none⟩), .int .i64 (n : Int)] w (PutI w z (sgv false n))) := Hh (fun z w hz => by
  have HZ := Hh hz; clear hz
  go_enter Tryz.func307, Tryz.ntmps307
  go_wp2_with fail
  refine (WD.out _).mono ?_; rintro e1 w1 ⟨A1, c1, rfl, hc1, hr1, hb1⟩
  go_wp2_with fail
  refine (Pmade z false n A1 c1 hc1 w1 hr1 (HZ.out.of hb1)).mono ?_; rintro e2 w2 ⟨rfl, hI, hG⟩
  go_wp2
  go_ret
  exact ⟨rfl, hI, grown_trans (grown_within z hb1) hG⟩)
 have HT := (IntB.made w).ty
 clear hn wn d0
 go_enter Tryz.func237, Tryz.ntmps237
 go_wp2_with fail
 refine (SI.out w.heap.size _ HT).mono ?_; rintro e1 w1 ⟨rfl, hI, hG⟩
 go_wp2
 go_ret
 exact ⟨_, rfl, hI, Nat.le_refl _, Within.grown ((Within.refl w).alloc _) hG (Nat.le_refl _)⟩
end Go.Proofs.YtgkcpnidmfejeaaGreatDoor.P64
end
section
namespace Go.Proofs.YtgkcpnidmfejeaaGreatDoor.P64
open Go.RowKit
theorem dg_digit (n k : Nat) : (dg n).getD k 0 = n / 18446744073709551616 ^ k % 18446744073709551616 := by
 have h1 := lo_succ (dg n) k
 have hk : ∀ j, lo (dg n) j = n % 18446744073709551616 ^ j := by
  intro j
  have hs := wval_split (dg n) j
  rw [wval_dg] at hs
  have hl := lo_lt (dg n) (words_dg n) j
  have e : n % 18446744073709551616 ^ j = (lo (dg n) j + 18446744073709551616 ^ j * wval (List.drop j (dg n))) % 18446744073709551616 ^ j := by rw [← hs]
  rw [e, Nat.add_mul_mod_self_left, Nat.mod_eq_of_lt hl]
 rw [hk, hk, mod_succ] at h1
 have hp : 0 < 18446744073709551616 ^ k := Nat.pow_pos dc
 exact (Nat.eq_of_mul_eq_mul_left hp om).symm
theorem pow64 (k : Nat) : (18446744073709551616 : Nat) ^ k = 2 ^ (64 * k) := by rw [show (18446744073709551616 : Nat) = 2 ^ 64 from rfl, ← Nat.pow_mul]
theorem or_digit (a b k : Nat) : (a ||| b) / 18446744073709551616 ^ k % 18446744073709551616 = ((dg a).getD k 0 ||| (dg b).getD k 0) := by
 rw [dg_digit, dg_digit, pow64, Nat.or_div_two_pow, show (18446744073709551616 : Nat) = 2 ^ 64 from rfl, Nat.or_mod_two_pow]
theorem and_digit (a b k : Nat) : (a &&& b) / 18446744073709551616 ^ k % 18446744073709551616 = ((dg a).getD k 0 &&& (dg b).getD k 0) := by
 rw [dg_digit, dg_digit, pow64, ← Nat.shiftRight_eq_div_pow, Nat.shiftRight_and_distrib, Nat.shiftRight_eq_div_pow, Nat.shiftRight_eq_div_pow, show (18446744073709551616 : Nat) = 2 ^ 64 from rfl, Nat.and_mod_two_pow]
def DigRel (W : World) (g N v : Nat) (iv : Value) (wr : World) : Prop :=
 ∃ (k : Nat) (o : List Nat), k ≤ N ∧ iv = .int .i64 (k : Int) ∧ o.length = N ∧ Words o ∧ OwnW wr g o ∧ lo o k = v % 18446744073709551616 ^ k ∧ Within W wr
theorem DigRel.drew {W wr : World} {g N v : Nat} {iv : Value} (h : DigRel W g N v iv wr) : DigRel W g N v iv wr.drew := by
 obtain ⟨k, o, h1, h2, h3, h4, h5, h6, h7⟩ := h
 exact ⟨k, o, h1, h2, h3, h4, h5.drew, h6, h7.drew⟩
theorem DigRel.step {W wr : World} {g N v k : Nat} {o : List Nat} {d : Nat} (q : Int) (hk : k < N) (ho : o.length = N) (hwo : Words o) (hown : OwnW wr g o) (hval : lo o k = v % 18446744073709551616 ^ k) (hin : Within W wr) (hg : W.heap.size ≤ g)
 (hd : d = v / 18446744073709551616 ^ k % 18446744073709551616) (hq : q = ((k + 1 : Nat) : Int)) : DigRel W g N v (.int .i64 q) (wr.setCell ⟨g, k, none⟩ (.int .u64 (d : Int))) := by
 subst hq
 have hdl : d < 18446744073709551616 := by rw [hd]; exact Nat.mod_lt _ dc
 refine ⟨k + 1, o.set k d, hk, rfl, by rw [List.length_set]; exact ho, hwo.set _ _ hdl, hown.set _ _ om, ?_, hin.setCell hg _⟩
 rw [lo_set_succ _ _ _ om, mod_succ, hval, hd]
theorem zz30 {p : Prop} (h : p := by
 obtain rfl : k = N := by omega
 have CT := Hh (Pnorm o (some ⟨w0.heap.size, 0, none⟩) k HWO.out (by rw [HO.out]; exact Nat.le_refl _) (by rw [HO.out]; have := HLA.out; have := HN.out; omega) _ hown.at)
 rw [HO.out] at CT
 have ev : wval o = v := by rw [← lo_all o (Nat.le_of_eq HO.out), HV.out, Nat.mod_eq_of_lt HVL.out]
 have hr1 : RowAt wr (some ⟨w0.heap.size, 0, none⟩) (dg (wval o)) := hown.at.cut HWO.out
 have hlen : (dg (wval o)).length ≤ k := by
  have := dg_len_le (wval_lt o HWO.out); rw [HO.out] at this; exact this
 rw [ev] at hr1 hlen CT
 have PM := Hh (Pmade z false v (some ⟨w0.heap.size, 0, none⟩) k hlen wr hr1 (HZ.out.of hin2))
 clear hr1 hlen ev
 generalize hL : (dg v).length = L at *
 clear hL
 go_wp2_with fail
 refine (CT.out).mono ?_; rintro e1 w1 ⟨rfl, rfl⟩
 go_wp2_with fail
 refine (PM.out).mono ?_; rintro e2 w2 ⟨rfl, hI, hG⟩
 go_wp2
 go_ret
 exact ⟨rfl, hI, grown_trans (grown_within z hin2) hG⟩) : p := h
theorem zz61 {p : Prop} (h : p := by
 refine sch_one rfl rfl (fun K hK => ?_)
 go_simp
 refine hK _ _ ab ?_
 clear hK K
 try simp only [pu]
 refine sch_nil ?_
 go_wp2
 go_roundw
 case rel => exact DigRel.drew (HST.out _ (by first | go_num | rfl))
 case measure => first | (simp [intOf]; done) | (simp [intOf]; omega)) : p := h
theorem Por (z x y a b N : Nat) (hN : N = max (dg a).length (dg b).length) (ha : (dg a).length ≤ 400000) (hb : (dg b).length ≤ 400000) (w : World) (hz : IntTy w z) (hx : IntB w x (a : Int)) (hy : IntB w y (b : Int)) : Calls Tryz.prog 265 #[.pointer (some ⟨z, 0, none⟩), .pointer (some ⟨x, 0, none⟩), .pointer (some ⟨y, 0, none⟩)] w (PutI w z ((a ||| b : Nat) : Int)) := by
 obtain ⟨A, ca, x0, x1, hra⟩ := hx.rd
 obtain ⟨Bv, cb, y0, y1, hrb⟩ := hy.rd
 rw [Int.natAbs_natCast] at x1 hra y1 hrb
 have lx := hx.lt; have ly := hy.lt
 have hvl : a ||| b < 18446744073709551616 ^ N := by rw [pow64]; exact Nat.or_lt_two_pow (by rw [← pow64]; exact Nat.lt_of_lt_of_le (lt_of_dg a) (Nat.pow_le_pow_right dc om)) (by rw [← pow64]; exact Nat.lt_of_lt_of_le (lt_of_dg b) (Nat.pow_le_pow_right dc om))
 have hmk := run_make_row' (P := Tryz.prog) 227 25 (.int .u64 0) 8 kr infoU64 rfl .i64 .i64 N om om
 have hmx : max ((dg a).length : Int) ((dg b).length : Int) = (N : Int) := by omega
 have HN := Hh hN
 have DA := Hh (fun (k : Nat) (d : Nat) w hd hk h => Pdigit (dg a) A ca k d hd om hk w h)
 have DB := Hh (fun (k : Nat) (d : Nat) w hd hk h => Pdigit (dg b) Bv cb k d hd om hk w h)
 have WA := Hh (words_dg a); have WB := Hh (words_dg b)
 have HVL := Hh hvl; have HRA := Hh hra; have HRB := Hh hrb; have HZ := Hh hz; have HLA := Hh (And.intro ha hb)
 have DG := Hh (fun k => or_digit a b k)
 clear hx hy hra hrb hz hvl x0 y0 hN ha hb
 generalize hV : a ||| b = v at *
 clear hV
 go_enter Tryz.func265, Tryz.ntmps265
 go_wp2
 refine wp_region_schG (fun W => W.cell? ⟨x, 1, none⟩ = some (.slice A (dg a).length ca) ∧ W.cell? ⟨y, 1, none⟩ = some (.slice Bv (dg b).length cb) ∧ x < W.heap.size ∧ y < W.heap.size ∧ Within w W) 12 (.firm 0 (.firm 1 (.firm 2 (.firm 3 (.firm 4 (.firm 5 (.firm 6 (.firm 7 (.firm 8 (.firm 9 (.one 10 (.one 11 (.one 12 .nil))))))))))))) kr kr ⟨x1, y1, lx, ly, Within.refl _⟩ ?_
 rintro w0 ⟨p1, q1, px, py, hw0⟩
 try simp only [pu]
 iterate 10
  apply sch_firm rfl rfl wi
  ·intro wq hq
   have hcq := hq.cells
   clear hq
   go_simp
   rfl
  try simp only [pu]
 refine sch_one rfl rfl (fun K hK => ?_)
 go_simp
 refine hK _ _ (fun _ => wi) ?_
 clear hK K
 try simp only [pu]
 refine sch_one rfl rfl (fun K hK => ?_)
 go_simp
 refine hK _ _ (fun _ => wi) ?_
 clear hK K
 try simp only [pu]
 refine sch_one rfl rfl (fun K hK => ?_)
 go_simp
 refine hK _ _ ab ?_
 clear hK K
 try simp only [pu]
 refine sch_nil ?_
 have hw1 : Within w (w0.drew.alloc (.cells (madeCells #[.int .u64 0] N) 25)) := hw0.drew.alloc _
 have HM := OwnW.made w0.drew N
 have hs0 := hw0.size
 go_wp2
 go_loopw [23] (fun iv wr => DigRel w0.drew w0.heap.size N v iv wr) (fun iv _ => N - (intOf iv).toNat)
 case atStart => exact ⟨0, _, Nat.zero_le _, rfl, by simp, Words.zeros _, HM, by rw [lo_zero]; simp [Nat.mod_one], (Within.refl _).alloc _⟩
 case round =>
  obtain ⟨k, o, hk, rfl, ho, hwo, hown, hval, hin⟩ := hrel
  have HV := Hh hval; have HO := Hh ho; have HWO := Hh hwo; clear hval ho hwo
  have hin2 := hw0.drew.trans hin
  rcases Nat.lt_or_ge k N with hlt | hlt
  ·obtain ⟨xa, hxa⟩ : ∃ x, x = (dg a).getD k 0 := ⟨_, rfl⟩
   obtain ⟨yb, hyb⟩ : ∃ y, y = (dg b).getD k 0 := ⟨_, rfl⟩
   have hxl : xa < 18446744073709551616 := by rw [hxa]; exact WA.out.getD k
   have hyl : yb < 18446744073709551616 := by rw [hyb]; exact WB.out.getD k
   have hdg := DG.out k
   rw [← hxa, ← hyb] at hdg
   have gor := u64_or_nat xa yb hxl hyl
   have hk4 : k ≤ 400000 := by have := HLA.out; have := HN.out; omega
   have HST := Hh (fun (q : Int) => DigRel.step (d := xa ||| yb) q hlt HO.out HWO.out hown HV.out hin (Nat.le_refl _) hdg.symm)
   have DX := Hh (fun w' h => DA.out k xa w' hxa (by have := HLA.out; have := HN.out; omega) h)
   have DY := Hh (fun w' h => DB.out k yb w' hyb (by have := HLA.out; have := HN.out; omega) h)
   clear hxa hyb hxl hyl hdg
   have hco := hown.cell (i := k) (by rw [HO.out]; omega)
   have hfo := hown.frozen k
   have hgl := hown.lt
   have p1' := (hin2.cells _ _ lx).trans x1; have q1' := (hin2.cells _ _ ly).trans y1; have px' : x < wr.heap.size := Nat.lt_of_lt_of_le lx hin2.size; have py' : y < wr.heap.size := Nat.lt_of_lt_of_le ly hin2.size
   have RAr := Hh (HRA.out.of hin2); have RBr := Hh (HRB.out.of hin2)
   obtain ⟨gg, hgg⟩ : ∃ gg, gg = w0.heap.size := ⟨_, rfl⟩
   rw [← hgg] at HST hco hfo hgl hown ⊢
   clear hgg
   go_wp2
   refine wp_region_schG (fun W => W.cell? ⟨x, 1, none⟩ = some (.slice A (dg a).length ca) ∧ W.cell? ⟨y, 1, none⟩ = some (.slice Bv (dg b).length cb) ∧ RowAt W A (dg a) ∧ RowAt W Bv (dg b) ∧ x < W.heap.size ∧ y < W.heap.size ∧ gg < W.heap.size ∧ W = wr) 16 (.firm 0 (.firm 1 (.firm 2 (.firm 3 (.firm 4 (.firm 5 (.firm 6 (.firm 8 (.firm 9 (.firm 10 (.firm 11 (.firm 12 (.one 7 (.one 13 (.firm 14 (.firm 15 (.one 16 .nil))))))))))))))))) kr kr ⟨p1', q1', RAr.out, RBr.out, px', py', hgl, rfl⟩ ?_
   rintro w0 ⟨s1, t1, sr, tr, sx, sy, sg, hwr⟩
   subst hwr
   try simp only [pu]
   iterate 12
    apply sch_firm rfl rfl wi
    ·intro wq hq
     have hcq := hq.cells
     clear hq
     go_simp
     rfl
    try simp only [pu]
   refine sch_one rfl rfl (fun K hK => ?_)
   go_simp
   refine (DX.out _ (RowAt.drew sr)).mono ?_; rintro f1 u1 ⟨rfl, rfl⟩
   refine hK _ _ (fun _ => wi) ?_
   clear hK K
   try simp only [pu]
   refine sch_one rfl rfl (fun K hK => ?_)
   go_simp
   refine (DY.out _ (RowAt.drew tr)).mono ?_; rintro f2 u2 ⟨rfl, rfl⟩
   refine hK _ _ (fun _ => wi) ?_
   clear hK K
   try simp only [pu]
   iterate 2
    apply sch_firm rfl rfl wi
    ·intro wq hq
     have hcq := hq.cells
     clear hq
     go_simp
     rfl
    try simp only [pu]
   exact zz61
  ·exact zz30
theorem Pand (z x y a b N : Nat) (hN : N = min (dg a).length (dg b).length) (ha : (dg a).length ≤ 400000) (hb : (dg b).length ≤ 400000) (w : World) (hz : IntTy w z) (hx : IntB w x (a : Int)) (hy : IntB w y (b : Int)) : Calls Tryz.prog 261 #[.pointer (some ⟨z, 0, none⟩), .pointer (some ⟨x, 0, none⟩), .pointer (some ⟨y, 0, none⟩)] w (PutI w z ((a &&& b : Nat) : Int)) := by
 obtain ⟨A, ca, x0, x1, hra⟩ := hx.rd
 obtain ⟨Bv, cb, y0, y1, hrb⟩ := hy.rd
 rw [Int.natAbs_natCast] at x1 hra y1 hrb
 have lx := hx.lt; have ly := hy.lt
 have hvl : a &&& b < 18446744073709551616 ^ N := by
  rcases Nat.le_total (dg a).length (dg b).length with h | h
  ·exact Nat.lt_of_le_of_lt Nat.and_le_left (Nat.lt_of_lt_of_le (lt_of_dg a) (Nat.pow_le_pow_right dc om))
  ·exact Nat.lt_of_le_of_lt Nat.and_le_right (Nat.lt_of_lt_of_le (lt_of_dg b) (Nat.pow_le_pow_right dc om))
 have hmk := run_make_row' (P := Tryz.prog) 227 25 (.int .u64 0) 8 kr infoU64 rfl .i64 .i64 N om om
 have hmx : min ((dg a).length : Int) ((dg b).length : Int) = (N : Int) := by omega
 have HN := Hh hN
 have DA := Hh (fun (k : Nat) (d : Nat) w hd hk h => Pdigit (dg a) A ca k d hd om hk w h)
 have DB := Hh (fun (k : Nat) (d : Nat) w hd hk h => Pdigit (dg b) Bv cb k d hd om hk w h)
 have WA := Hh (words_dg a); have WB := Hh (words_dg b)
 have HVL := Hh hvl; have HRA := Hh hra; have HRB := Hh hrb; have HZ := Hh hz; have HLA := Hh (And.intro ha hb)
 have DG := Hh (fun k => and_digit a b k)
 clear hx hy hra hrb hz hvl x0 y0 hN ha hb
 generalize hV : a &&& b = v at *
 clear hV
 go_enter Tryz.func261, Tryz.ntmps261
 go_wp2
 refine wp_region_schG (fun W => W.cell? ⟨x, 1, none⟩ = some (.slice A (dg a).length ca) ∧ W.cell? ⟨y, 1, none⟩ = some (.slice Bv (dg b).length cb) ∧ x < W.heap.size ∧ y < W.heap.size ∧ Within w W) 12 (.firm 0 (.firm 1 (.firm 2 (.firm 3 (.firm 4 (.firm 5 (.firm 6 (.firm 7 (.firm 8 (.firm 9 (.one 10 (.one 11 (.one 12 .nil))))))))))))) kr kr ⟨x1, y1, lx, ly, Within.refl _⟩ ?_
 rintro w0 ⟨p1, q1, px, py, hw0⟩
 try simp only [pu]
 iterate 10
  apply sch_firm rfl rfl wi
  ·intro wq hq
   have hcq := hq.cells
   clear hq
   go_simp
   rfl
  try simp only [pu]
 refine sch_one rfl rfl (fun K hK => ?_)
 go_simp
 refine hK _ _ (fun _ => wi) ?_
 clear hK K
 try simp only [pu]
 refine sch_one rfl rfl (fun K hK => ?_)
 go_simp
 refine hK _ _ (fun _ => wi) ?_
 clear hK K
 try simp only [pu]
 refine sch_one rfl rfl (fun K hK => ?_)
 go_simp
 refine hK _ _ ab ?_
 clear hK K
 try simp only [pu]
 refine sch_nil ?_
 have hw1 : Within w (w0.drew.alloc (.cells (madeCells #[.int .u64 0] N) 25)) := hw0.drew.alloc _
 have HM := OwnW.made w0.drew N
 have hs0 := hw0.size
 go_wp2
 go_loopw [23] (fun iv wr => DigRel w0.drew w0.heap.size N v iv wr) (fun iv _ => N - (intOf iv).toNat)
 case atStart => exact ⟨0, _, Nat.zero_le _, rfl, by simp, Words.zeros _, HM, by rw [lo_zero]; simp [Nat.mod_one], (Within.refl _).alloc _⟩
 case round =>
  obtain ⟨k, o, hk, rfl, ho, hwo, hown, hval, hin⟩ := hrel
  have HV := Hh hval; have HO := Hh ho; have HWO := Hh hwo; clear hval ho hwo
  have hin2 := hw0.drew.trans hin
  rcases Nat.lt_or_ge k N with hlt | hlt
  ·obtain ⟨xa, hxa⟩ : ∃ x, x = (dg a).getD k 0 := ⟨_, rfl⟩
   obtain ⟨yb, hyb⟩ : ∃ y, y = (dg b).getD k 0 := ⟨_, rfl⟩
   have hxl : xa < 18446744073709551616 := by rw [hxa]; exact WA.out.getD k
   have hyl : yb < 18446744073709551616 := by rw [hyb]; exact WB.out.getD k
   have hdg := DG.out k
   rw [← hxa, ← hyb] at hdg
   have gor := u64_and_nat xa yb hxl hyl
   have hk4 : k ≤ 400000 := by have := HLA.out; have := HN.out; omega
   have HST := Hh (fun (q : Int) => DigRel.step (d := xa &&& yb) q hlt HO.out HWO.out hown HV.out hin (Nat.le_refl _) hdg.symm)
   obtain ⟨ga, rfl, hga, hca⟩ := (HRA.out.of hin2).cell (i := k) (by have := HN.out; omega)
   obtain ⟨gb, rfl, hgb, hcb⟩ := (HRB.out.of hin2).cell (i := k) (by have := HN.out; omega)
   rw [← hxa] at hca
   rw [← hyb] at hcb
   have hka : k < (dg a).length := by have := HN.out; omega
   have hkb : k < (dg b).length := by have := HN.out; omega
   clear hxa hyb hxl hyl hdg
   have hco := hown.cell (i := k) (by rw [HO.out]; omega)
   have hfo := hown.frozen k
   have hgl := hown.lt
   have p1' := (hin2.cells _ _ lx).trans x1; have q1' := (hin2.cells _ _ ly).trans y1; have px' : x < wr.heap.size := Nat.lt_of_lt_of_le lx hin2.size; have py' : y < wr.heap.size := Nat.lt_of_lt_of_le ly hin2.size
   obtain ⟨gg, hgg⟩ : ∃ gg, gg = w0.heap.size := ⟨_, rfl⟩
   rw [← hgg] at HST hco hfo hgl hown ⊢
   clear hgg
   go_wp2
   refine wp_region_schG (fun W => W.cell? ⟨x, 1, none⟩ = some (.slice (some ⟨ga, 0, none⟩) (dg a).length ca) ∧ W.cell? ⟨y, 1, none⟩ = some (.slice (some ⟨gb, 0, none⟩) (dg b).length cb) ∧ W.cell? ⟨ga, k, none⟩ = some (.int .u64 (xa : Int)) ∧ W.cell? ⟨gb, k, none⟩ = some (.int .u64 (yb : Int)) ∧ x < W.heap.size ∧ y < W.heap.size ∧ ga < W.heap.size ∧ gb < W.heap.size ∧ gg < W.heap.size ∧ W = wr) 18 (.firm 0 (.firm 1 (.firm 2 (.firm 3 (.firm 4 (.firm 5 (.firm 6 (.firm 7 (.firm 8 (.firm 9 (.firm 10 (.firm 11 (.firm 12 (.firm 13 (.firm 14 (.firm 15 (.firm 16 (.firm 17 (.one 18 .nil))))))))))))))))))) kr kr ⟨p1', q1', hca, hcb, px', py', hga, hgb, hgl, rfl⟩ ?_
   rintro w0 ⟨s1, t1, sa, tb, sx, sy, sga, sgb, sg, hwr⟩
   subst hwr
   try simp only [pu]
   iterate 18
    apply sch_firm rfl rfl wi
    ·intro wq hq
     have hcq := hq.cells
     clear hq
     go_simp
     rfl
    try simp only [pu]
   exact zz61
  ·exact zz30
end Go.Proofs.YtgkcpnidmfejeaaGreatDoor.P64
end
section
namespace Go.Proofs.YtgkcpnidmfejeaaGreatDoor
def wval : List Nat → Nat
 | [] => 0
 | x :: l => x + 4294967296 * wval l
def Words (l : List Nat) : Prop := ∀ x ∈ l, x < 4294967296
def lo (l : List Nat) (k : Nat) : Nat := wval (l.take k)
theorem wval_append (a b : List Nat) : wval (a ++ b) = wval a + 4294967296 ^ a.length * wval b := by
 induction a with
 | nil => simp [wval]
 | cons x a ih => simp only [List.cons_append, wval, ih, List.length_cons, Nat.pow_succ]; rw [Nat.mul_add, ← Nat.mul_assoc, Nat.mul_comm 4294967296 (4294967296 ^ a.length), Nat.add_assoc]
theorem wval_zeros (n : Nat) : wval (List.replicate n 0) = 0 := by
 induction n with
 | zero => rfl
 | succ n ih => simp [List.replicate_succ, wval, ih]
theorem wval_lt (l : List Nat) (h : Words l) : wval l < 4294967296 ^ l.length := by
 induction l with
 | nil => simp [wval]
 | cons x l ih =>
  have h1 := ih (fun y hy => h y (List.mem_cons_of_mem _ hy))
  have h2 := h x List.mem_cons_self
  simp only [wval, List.length_cons, Nat.pow_succ]
  omega
theorem lo_zero (l : List Nat) : lo l 0 = 0 := by simp [lo, wval]
theorem lo_all (l : List Nat) {k : Nat} (h : l.length ≤ k) : lo l k = wval l := by unfold lo; rw [List.take_of_length_le h]
theorem lo_succ (l : List Nat) (k : Nat) : lo l (k + 1) = lo l k + 4294967296 ^ k * l.getD k 0 := by
 unfold lo
 by_cases h : k < l.length
 ·rw [List.take_succ_eq_append_getElem h, wval_append, List.length_take, Nat.min_eq_left om, List.getD_eq_getElem?_getD, List.getElem?_eq_getElem h]
  simp [wval]
 ·rw [List.take_of_length_le om, List.take_of_length_le om, List.getD_eq_getElem?_getD, List.getElem?_eq_none om]
  simp
theorem lo_set_same (l : List Nat) (k x : Nat) : lo (l.set k x) k = lo l k := by
 unfold lo; rw [List.take_set_of_le (Nat.le_refl _)]
theorem lo_set_ge (l : List Nat) (k j x : Nat) (h : k ≤ j) : lo (l.set j x) k = lo l k := by
 unfold lo; rw [List.take_set_of_le h]
theorem getD_set_eq (l : List Nat) (k x : Nat) (h : k < l.length) : (l.set k x).getD k 0 = x := by
 simp [List.getD_eq_getElem?_getD, h]
theorem lset_ne (l : List Nat) (k j x : Nat) (h : k ≠ j) : (l.set k x).getD j 0 = l.getD j 0 := by
 simp [List.getD_eq_getElem?_getD, h]
theorem lo_set_succ (l : List Nat) (k x : Nat) (h : k < l.length) : lo (l.set k x) (k + 1) = lo l k + 4294967296 ^ k * x := by
 rw [lo_succ, lo_set_same, getD_set_eq l k x h]
theorem Words.set {l : List Nat} (h : Words l) (k x : Nat) (hx : x < 4294967296) : Words (l.set k x) := by
 intro y hy
 rcases List.mem_or_eq_of_mem_set hy with h1 | h1
 ·exact h y h1
 ·omega
theorem Words.getD {l : List Nat} (h : Words l) (k : Nat) : l.getD k 0 < 4294967296 := by
 by_cases hk : k < l.length
 ·rw [List.getD_eq_getElem?_getD, List.getElem?_eq_getElem hk]; exact h _ (List.getElem_mem hk)
 ·rw [List.getD_eq_getElem?_getD, List.getElem?_eq_none om]; decide
theorem Words.take {l : List Nat} (h : Words l) (k : Nat) : Words (l.take k) := fun y hy => h y (List.mem_of_mem_take hy)
theorem Words.drop {l : List Nat} (h : Words l) (k : Nat) : Words (l.drop k) := fun y hy => h y (List.mem_of_mem_drop hy)
theorem Words.zeros (n : Nat) : Words (List.replicate n 0) := fun y hy => by rw [(List.mem_replicate.1 hy).2]; decide
theorem lo_lt (l : List Nat) (h : Words l) (k : Nat) : lo l k < 4294967296 ^ k := by
 have h1 := wval_lt _ (h.take k)
 refine Nat.lt_of_lt_of_le h1 (Nat.pow_le_pow_right dc ?_)
 rw [List.length_take]; exact Nat.min_le_left _ _
theorem wval_split (l : List Nat) (k : Nat) : wval l = lo l k + 4294967296 ^ k * wval (l.drop k) := by
 by_cases h : k ≤ l.length
 ·conv => lhs; rw [← List.take_append_drop k l]
  rw [wval_append, List.length_take, Nat.min_eq_left h]; rfl
 ·rw [lo_all l om, List.drop_eq_nil_of_le om]; simp [wval]
/-! the words of a number -/
def dg (n : Nat) : List Nat := if n = 0 then [] else n % 4294967296 :: dg (n / 4294967296)
termination_by n
decreasing_by omega
theorem dg_zero : dg 0 = [] := by unfold dg; rfl
theorem dg_pos {n : Nat} (h : n ≠ 0) : dg n = n % 4294967296 :: dg (n / 4294967296) := by rw [dg, if_neg h]
theorem wval_dg (n : Nat) : wval (dg n) = n := by
 induction n using Nat.strongRecOn with
 | ind n ih =>
  by_cases h : n = 0
  ·subst h; rw [dg_zero]; rfl
  ·rw [dg_pos h]; simp only [wval]; rw [ih _ om]; omega
theorem words_dg (n : Nat) : Words (dg n) := by
 induction n using Nat.strongRecOn with
 | ind n ih =>
  by_cases h : n = 0
  ·subst h; rw [dg_zero]; intro x hx; simp at hx
  ·rw [dg_pos h]
   intro x hx
   rcases List.mem_cons.1 hx with h1 | h1
   ·omega
   ·exact ih _ om x h1
theorem dg_len_pos {n : Nat} (h : n ≠ 0) : 0 < (dg n).length := by rw [dg_pos h]; simp
theorem dg_of (l : List Nat) (hw : Words l) (hl : 0 < l.length → l.getD (l.length - 1) 0 ≠ 0) : l = dg (wval l) := by
 induction l with
 | nil => rw [show wval [] = 0 from rfl, dg_zero]
 | cons x l ih =>
  have hx := hw x List.mem_cons_self
  have hl' : 0 < l.length → l.getD (l.length - 1) 0 ≠ 0 := by
   intro h
   have := hl (by simp)
   simp only [List.length_cons, Nat.add_sub_cancel] at this
   obtain ⟨k, hk⟩ : ∃ k, l.length = k + 1 := ⟨l.length - 1, by omega⟩
   rw [hk] at this ⊢
   simpa using this
  have ih' := ih (fun y hy => hw y (List.mem_cons_of_mem _ hy)) hl'
  have hne : wval (x :: l) ≠ 0 := by
   simp only [wval]
   intro h0
   have hx0 : x = 0 := by omega
   have hv0 : wval l = 0 := by omega
   rw [hv0, dg_zero] at ih'
   subst ih'
   have := hl (by simp)
   simp at this
   exact this hx0
  rw [dg_pos hne]
  simp only [wval]
  rw [show (x + 4294967296 * wval l) % 4294967296 = x by omega, show (x + 4294967296 * wval l) / 4294967296 = wval l by omega, ← ih']
theorem dg_last {n : Nat} (h : n ≠ 0) : (dg n).getD ((dg n).length - 1) 0 ≠ 0 := by
 induction n using Nat.strongRecOn with
 | ind n ih =>
  rw [dg_pos h]
  by_cases h1 : n / 4294967296 = 0
  ·rw [h1, dg_zero]; simp; omega
  ·have := ih _ om h1
   obtain ⟨k, hk⟩ : ∃ k, (dg (n / 4294967296)).length = k + 1 := ⟨_, (Nat.succ_pred_eq_of_pos (dg_len_pos h1)).symm⟩
   rw [hk] at this
   simp only [List.length_cons, hk, Nat.add_sub_cancel] at this ⊢
   simpa using this
theorem dg_cut (l : List Nat) (hw : Words l) (j : Nat) (hj : j ≤ l.length) (hz : ∀ i, j ≤ i → l.getD i 0 = 0) (hn : 0 < j → l.getD (j - 1) 0 ≠ 0) : l.take j = dg (wval l) := by
 have hd : wval (l.drop j) = 0 := by
  have : ∀ (m : List Nat), (∀ i, m.getD i 0 = 0) → wval m = 0 := by
   intro m
   induction m with
   | nil => intro _; rfl
   | cons x m ih =>
    intro h
    have h0 := h 0
    have h1 := ih (fun i => by have := h (i + 1); simpa using this)
    simp at h0
    simp [wval, h0, h1]
  apply this
  intro i
  have := hz (j + i) om
  simp only [List.getD_eq_getElem?_getD, List.getElem?_drop] at this ⊢
  exact this
 have e : wval l = wval (l.take j) := by rw [wval_split l j, hd]; simp [lo]
 rw [e]
 apply dg_of _ (hw.take j)
 intro h
 rw [List.length_take, Nat.min_eq_left hj] at h ⊢
 have := hn h
 simp only [List.getD_eq_getElem?_getD, List.getElem?_take] at this ⊢
 rw [if_pos om]
 exact this
theorem dg_len_le {n k : Nat} (h : n < 4294967296 ^ k) : (dg n).length ≤ k := by
 induction k generalizing n with
 | zero => have : n = 0 := by simpa using h
           subst this; rw [dg_zero]; exact Nat.le_refl _
 | succ k ih =>
  by_cases h0 : n = 0
  ·subst h0; rw [dg_zero]; exact Nat.zero_le _
  ·rw [dg_pos h0, List.length_cons]
   have : n / 4294967296 < 4294967296 ^ k := by
    rw [Nat.div_lt_iff_lt_mul dc, ← Nat.pow_succ]; exact h
   have := ih this
   omega
theorem lt_of_dg (n : Nat) : n < 4294967296 ^ (dg n).length := by have := wval_lt _ (words_dg n); rwa [wval_dg] at this
theorem le_of_dg {n : Nat} (h : n ≠ 0) : 4294967296 ^ ((dg n).length - 1) ≤ n := by
 rcases Nat.lt_or_ge n (4294967296 ^ ((dg n).length - 1)) with h1 | h1
 ·have := dg_len_le h1; have := dg_len_pos h; omega
 ·exact h1
theorem dg_len_mono {a b : Nat} (h : a ≤ b) : (dg a).length ≤ (dg b).length := dg_len_le (Nat.lt_of_le_of_lt h (lt_of_dg b))
theorem lt_of_len {a b : Nat} (h : (dg a).length < (dg b).length) : a < b := by
 rcases Nat.lt_or_ge a b with h1 | h1
 ·exact h1
 ·have := dg_len_mono h1; omega
theorem lt_of_top {a b i : Nat} (hl : (dg a).length = (dg b).length) (he : ∀ j, i < j → (dg a).getD j 0 = (dg b).getD j 0) (hlt : (dg a).getD i 0 < (dg b).getD i 0) : a < b := by
 have hs : ∀ (x y : List Nat), x.length = y.length → (∀ j, i < j → x.getD j 0 = y.getD j 0) → x.drop (i + 1) = y.drop (i + 1) := by
  intro x y hxy hj
  apply List.ext_getElem?
  intro k
  rw [List.getElem?_drop, List.getElem?_drop]
  have := hj (i + 1 + k) om
  simp only [List.getD_eq_getElem?_getD] at this
  by_cases hk : i + 1 + k < x.length
  ·rw [List.getElem?_eq_getElem hk, List.getElem?_eq_getElem om] at this ⊢
   simpa using this
  ·rw [List.getElem?_eq_none om, List.getElem?_eq_none om]
 have hd := hs _ _ hl he
 have ha := wval_split (dg a) (i + 1)
 have hb := wval_split (dg b) (i + 1)
 rw [wval_dg, lo_succ] at ha hb
 rw [hd] at ha
 have h1 := lo_lt (dg a) (words_dg a) i
 generalize lo (dg a) i = p at *
 generalize lo (dg b) i = q at *
 generalize wval (List.drop (i + 1) (dg b)) = r at *
 generalize (dg a).getD i 0 = x at *
 generalize (dg b).getD i 0 = y at *
 have h2 : 4294967296 ^ i * x + 4294967296 ^ i ≤ 4294967296 ^ i * y := by rw [← Nat.mul_succ]; exact Nat.mul_le_mul_left _ hlt
 generalize 4294967296 ^ i * x = X at *
 generalize 4294967296 ^ i * y = Y at *
 generalize 4294967296 ^ i = Z at *
 generalize 4294967296 ^ (i+1) * r = W at *
 omega
theorem eq_of_all {a b : Nat} (hl : (dg a).length = (dg b).length) (he : ∀ j, (dg a).getD j 0 = (dg b).getD j 0) : a = b := by
 have : dg a = dg b := by
  apply List.ext_getElem hl
  intro i h1 h2
  have := he i
  simpa [List.getD_eq_getElem?_getD, h1, h2] using this
 rw [← wval_dg a, ← wval_dg b, this]
/-! rounds of sums, differences, products, shifts -/
theorem plus_step {P lo0 la lb c a b : Nat} (h : lo0 + P * c = la + lb) : lo0 + P * ((a + c + b) % 4294967296) + P * 4294967296 * ((a + c + b) / 4294967296) = la + P * a + (lb + P * b) := by
 have e : (a + c + b) % 4294967296 + 4294967296 * ((a + c + b) / 4294967296) = a + c + b := Nat.mod_add_div _ _
 have e2 : P * ((a + c + b) % 4294967296) + P * 4294967296 * ((a + c + b) / 4294967296) = P * a + P * c + P * b := by
  rw [Nat.mul_assoc, ← Nat.mul_add, e, Nat.mul_add, Nat.mul_add]
 omega
theorem minus_less {P lo0 la lb br a b : Nat} (h : lo0 + lb = la + P * br) (hb : br + b ≤ 4294967296) : lo0 + P * (a + 4294967296 - (br + b)) + (lb + P * b) = la + P * a + P * 4294967296 * 1 := by
 have e : P * (a + 4294967296 - (br + b)) + (P * br + P * b) = P * a + P * 4294967296 := by
  rw [← Nat.mul_add, ← Nat.mul_add, ← Nat.mul_add]; congr 1; omega
 omega
theorem minus_more {P lo0 la lb br a b : Nat} (h : lo0 + lb = la + P * br) (hge : br + b ≤ a) : lo0 + P * (a - (br + b)) + (lb + P * b) = la + P * a + P * 4294967296 * 0 := by
 have e : P * (a - (br + b)) + (P * br + P * b) = P * a := by
  rw [← Nat.mul_add, ← Nat.mul_add]; congr 1; omega
 omega
theorem minus_end {n o a b br : Nat} (h : o + b = a + 4294967296 ^ n * br) (ho : o < 4294967296 ^ n) (hb : b ≤ a) : br = 0 ∧ o = a - b := by
 generalize 4294967296 ^ n = P at *
 rcases br with _ | br
 ·simp at h; omega
 ·exfalso
  have : P ≤ P * (br + 1) := Nat.le_mul_of_pos_right _ om
  omega
theorem word_mul {a b : Nat} (ha : a < 4294967296) (hb : b < 4294967296) : a * b ≤ 18446744065119617025 := Nat.le_trans (Nat.mul_le_mul (Nat.le_of_lt_succ (n := 4294967295) om) (Nat.le_of_lt_succ (n := 4294967295) om)) dc
theorem times_step {P Q lo1 lo0 c s x y z : Nat} (h : lo1 + P * c = lo0 + s) (t : Nat) (ht : t = x * y + z + c) (hs : Q = P * (x * y)) : lo1 + P * (t % 4294967296) + P * 4294967296 * (t / 4294967296) = lo0 + P * z + (s + Q) := by
 have e : t % 4294967296 + 4294967296 * (t / 4294967296) = t := Nat.mod_add_div _ _
 have e2 : P * (t % 4294967296) + P * 4294967296 * (t / 4294967296) = P * t := by
  rw [Nat.mul_assoc, ← Nat.mul_add, e]
 have e3 : P * t = P * (x * y) + P * z + P * c := by rw [ht, Nat.mul_add, Nat.mul_add]
 omega
theorem left_low {m s : Nat} (hs : s < 32) : (m * 2 ^ s) % 4294967296 = (m % 2 ^ (32 - s)) * 2 ^ s := by
 rw [show (4294967296 : Nat) = 2 ^ (32 - s) * 2 ^ s by rw [← Nat.pow_add, show 32 - s + s = 32 by omega], Nat.mul_mod_mul_right]
theorem left_high {m s : Nat} (hm : m < 4294967296) : (m * 2 ^ s) / 4294967296 < 2 ^ s := by
 rw [Nat.div_lt_iff_lt_mul dc, Nat.mul_comm (2 ^ s)]; exact Nat.mul_lt_mul_of_pos_right hm (Nat.two_pow_pos s)
theorem left_step {P lo0 x t A : Nat} (h : lo0 + P * x = A) : lo0 + P * (x + t % 4294967296) + P * 4294967296 * (t / 4294967296) = A + P * t := by
 have e : t % 4294967296 + 4294967296 * (t / 4294967296) = t := Nat.mod_add_div _ _
 have e2 : P * (t % 4294967296) + P * 4294967296 * (t / 4294967296) = P * t := by
  rw [Nat.mul_assoc, ← Nat.mul_add, e]
 rw [Nat.mul_add]; omega
theorem right_digit (D s i : Nat) (l : List Nat) (hl : D = wval l) (hw : Words l) (hs : s < 32) : (D / 2 ^ s) / 4294967296 ^ i % 4294967296 = (l.getD i 0 + 4294967296 * l.getD (i + 1) 0) / 2 ^ s % 4294967296 := by
 have e : D / 4294967296 ^ i = l.getD i 0 + 4294967296 * (l.getD (i + 1) 0 + 4294967296 * wval (l.drop (i + 2))) := by
  have hd : wval (l.drop i) = l.getD i 0 + 4294967296 * wval (l.drop (i + 1)) := by
   by_cases h : i < l.length
   ·rw [List.drop_eq_getElem_cons h]; simp [wval, List.getD_eq_getElem?_getD, h]
   ·rw [List.drop_eq_nil_of_le om, List.drop_eq_nil_of_le om]; simp [wval, List.getD_eq_getElem?_getD, h]
  have hd2 : wval (l.drop (i + 1)) = l.getD (i + 1) 0 + 4294967296 * wval (l.drop (i + 2)) := by
   by_cases h : i + 1 < l.length
   ·rw [List.drop_eq_getElem_cons h]; simp [wval, List.getD_eq_getElem?_getD, h]
   ·rw [List.drop_eq_nil_of_le om, List.drop_eq_nil_of_le om]; simp [wval, List.getD_eq_getElem?_getD, h]
  rw [hl, wval_split l i, Nat.add_mul_div_left _ _ (Nat.pow_pos dc), Nat.div_eq_of_lt (lo_lt l hw i), hd, hd2]; omega
 rw [Nat.div_div_eq_div_mul, Nat.mul_comm (2 ^ s), ← Nat.div_div_eq_div_mul, e]
 generalize wval (l.drop (i + 2)) = r
 generalize l.getD i 0 = x
 generalize l.getD (i + 1) 0 = y
 have h2 : (4294967296 : Nat) = 2 ^ s * 2 ^ (32 - s) := by rw [← Nat.pow_add, show s + (32 - s) = 32 by omega]
 rw [show x + 4294967296 * (y + 4294967296 * r) = (x + 4294967296 * y) + 2 ^ s * (4294967296 * (2 ^ (32 - s) * r)) by
  rw [Nat.mul_add 4294967296 y, ← Nat.add_assoc]
  congr 1
  rw [Nat.mul_left_comm (2 ^ s), ← Nat.mul_assoc (2 ^ s), ← h2], Nat.add_mul_div_left _ _ (Nat.two_pow_pos s), Nat.add_mul_mod_self_left]
theorem mod_succ (X i : Nat) : X % 4294967296 ^ (i + 1) = X % 4294967296 ^ i + 4294967296 ^ i * (X / 4294967296 ^ i % 4294967296) := by
 rw [Nat.pow_succ, Nat.mod_mul]
/-! how two stand -/
def cmpN (a b : Nat) : Int := if a < b then -1 else if b < a then 1 else 0
theorem cmpN_lt {a b : Nat} (h : a < b) : cmpN a b = -1 := if_pos h
theorem cmpN_gt {a b : Nat} (h : b < a) : cmpN a b = 1 := by unfold cmpN; rw [if_neg om, if_pos h]
theorem cmpN_eq (a : Nat) : cmpN a a = 0 := by unfold cmpN; rw [if_neg om, if_neg om]
end Go.Proofs.YtgkcpnidmfejeaaGreatDoor
end
section
namespace Go.Proofs.YtgkcpnidmfejeaaGreatDoor
/-! the guess of a digit: T stands for three words ahead, V for the divisor's two, both over P -/
theorem kn_le {P V T D S q : Nat} (hD : V * P ≤ D) (hS : S < (T + 1) * P) (hq : q * D ≤ S) : q * V ≤ T := by
 have h1 : q * V * P ≤ q * D := by rw [Nat.mul_assoc]; exact Nat.mul_le_mul_left _ hD
 have h2 : q * V * P < (T + 1) * P := Nat.lt_of_le_of_lt (Nat.le_trans h1 hq) hS
 have := Nat.lt_of_mul_lt_mul_right h2
 omega
theorem kn_first {top d2 t u2 q : Nat} (ht : 0 < top) (hu : u2 < 4294967296) (h : q * (top * 4294967296 + d2) ≤ t * 4294967296 + u2) : q ≤ t / top := by
 rw [Nat.le_div_iff_mul_le ht]
 have h1 : q * top * 4294967296 ≤ q * (top * 4294967296 + d2) := by rw [Nat.mul_assoc]; exact Nat.mul_le_mul_left _ (Nat.le_add_right _ _)
 have h2 : q * top * 4294967296 < (t + 1) * 4294967296 := by omega
 have := Nat.lt_of_mul_lt_mul_right h2
 omega
theorem kn_end {P V T D S g : Nat} (hD : D ≤ (V + 1) * P) (hS : T * P ≤ S) (hg : g ≤ V + 1) (h : g * V ≤ T) : (g - 1) * D ≤ S := by
 rcases g with _ | g
 ·simp
 ·have h1 : g * (V + 1) ≤ T := by
   rw [Nat.mul_succ]; rw [Nat.add_mul] at h; omega
  have a1 : g * D ≤ g * ((V + 1) * P) := Nat.mul_le_mul_left _ hD
  have a2 : g * ((V + 1) * P) ≤ T * P := by rw [← Nat.mul_assoc]; exact Nat.mul_le_mul_right _ h1
  exact Nat.le_trans a1 (Nat.le_trans a2 hS)
def KnG (top t Q : Nat) (g r : Nat) : Prop := g * top + r = t ∧ Q ≤ g ∧ g ≤ 4294967297
def KnE (top d2 t u2 Q : Nat) (g : Nat) : Prop := Q ≤ g ∧ g < 4294967296 ∧ g * (top * 4294967296 + d2) ≤ t * 4294967296 + u2
theorem kn_start {top t u2 d2 Q : Nat} (ht : 2147483648 ≤ top) (hu : u2 < 4294967296) (hQ : Q * (top * 4294967296 + d2) ≤ t * 4294967296 + u2) (hT : t < top * 4294967296 + 4294967296) : KnG top t Q (t / top) (t % top) := by
 refine ⟨by rw [Nat.mul_comm]; exact Nat.div_add_mod t top, kn_first om hu hQ, ?_⟩
 have : t < 4294967298 * top := by omega
 have := (Nat.div_lt_iff_lt_mul (show 0 < top by omega)).2 this
 omega
theorem kn_test {top d2 t u2 g r : Nat} (h : g * top + r = t) : (r * 4294967296 + u2 < g * d2 ↔ t * 4294967296 + u2 < g * (top * 4294967296 + d2)) := by
 subst h
 rw [Nat.mul_add, Nat.add_mul, ← Nat.mul_assoc]
 omega
theorem kn_down {top t Q g r : Nat} (h : KnG top t Q g r) (hQ : Q < g) : KnG top t Q (g - 1) (r + top) := by
 obtain ⟨h1, h2, h3⟩ := h
 obtain ⟨k, rfl⟩ : ∃ k, g = k + 1 := ⟨g - 1, by omega⟩
 refine ⟨?_, by omega, by omega⟩
 rw [Nat.add_mul, Nat.one_mul] at h1
 rw [Nat.add_sub_cancel]; omega
theorem kn_true {top d2 t u2 Q g r : Nat} (h : KnG top t Q g r) (hQ : Q * (top * 4294967296 + d2) ≤ t * 4294967296 + u2) (hQ2 : Q < 4294967296) (ht : 4294967296 ≤ g ∨ r * 4294967296 + u2 < g * d2) : Q < g := by
 rcases ht with ht | ht
 ·omega
 ·exact Nat.lt_of_mul_lt_mul_right (Nat.lt_of_le_of_lt hQ ((kn_test h.1).1 ht))
theorem kn_false {top d2 t u2 Q g r : Nat} (h : KnG top t Q g r) (h1 : g < 4294967296) (h2 : g * d2 ≤ r * 4294967296 + u2) : KnE top d2 t u2 Q g := by
 refine ⟨h.2.1, h1, ?_⟩
 have := (kn_test (d2 := d2) (u2 := u2) h.1)
 rcases Nat.lt_or_ge (t * 4294967296 + u2) (g * (top * 4294967296 + d2)) with h3 | h3
 ·have := this.2 h3; omega
 ·exact h3
theorem kn_break {top d2 t u2 Q g r : Nat} (h : KnG top t Q g r) (hd : d2 < 4294967296) (hr : 4294967296 ≤ r) (hT : t < top * 4294967296 + 4294967296) (ht : 0 < top) : KnE top d2 t u2 Q g := by
 have h1 := h.1
 have hg : g < 4294967296 := by
  have : g * top < 4294967296 * top := by rw [Nat.mul_comm 4294967296]; omega
  exact Nat.lt_of_mul_lt_mul_right this
 refine kn_false h hg ?_
 have : g * d2 ≤ 4294967296 * 4294967296 := Nat.mul_le_mul om om
 omega
theorem kn_digit {P top d2 t u2 D S g : Nat} (hP : 0 < P) (h1 : (top * 4294967296 + d2) * P ≤ D) (h2 : D ≤ (top * 4294967296 + d2 + 1) * P) (h3 : (t * 4294967296 + u2) * P ≤ S) (hE : KnE top d2 t u2 (S / D) g) (ht : 2147483648 ≤ top) : S / D ≤ g ∧ g ≤ S / D + 1 := by
 obtain ⟨e1, e2, e3⟩ := hE
 refine ⟨e1, ?_⟩
 have h4 := kn_end h2 h3 (g := g) om e3
 have hD : 0 < D := Nat.lt_of_lt_of_le (Nat.mul_pos om hP) h1
 have := (Nat.le_div_iff_mul_le hD).2 h4
 omega
theorem kn_right {S D g L M : Nat} (hS : S < M) (h1 : S / D ≤ g) (h2 : g ≤ S / D + 1) (hD : 0 < D) (hL : L < M) (he : L + g * D = S) : g = S / D ∧ L = S % D := by
 have hm := Nat.mod_lt S hD
 have hd := Nat.div_add_mod S D
 rw [Nat.mul_comm] at hd
 have : g = S / D := by
  rcases Nat.lt_or_ge (S / D) g with h | h
  ·exfalso
   have e : g = S / D + 1 := by omega
   rw [e, Nat.add_mul, Nat.one_mul] at he
   omega
  ·omega
 refine ⟨this, ?_⟩
 rw [this] at he
 omega
theorem kn_wrong {S D g L M : Nat} (hS : S < M) (h1 : S / D ≤ g) (h2 : g ≤ S / D + 1) (hD : 0 < D) (hL : L < M) (he : L + g * D = S + M) {L2 c : Nat} (hL2 : L2 < M) (hc : c ≤ 1) (h3 : L2 + M * c = L + D) : g - 1 = S / D ∧ L2 = S % D := by
 have hm := Nat.mod_lt S hD
 have hd := Nat.div_add_mod S D
 rw [Nat.mul_comm] at hd
 have e : g = S / D + 1 := by
  rcases Nat.lt_or_ge (S / D) g with h | h
  ·omega
  ·exfalso
   have e : g = S / D := by omega
   rw [e] at he
   omega
 rw [e, Nat.add_mul, Nat.one_mul] at he
 refine ⟨by rw [e]; exact Nat.add_sub_cancel _ _, ?_⟩
 clear e h1 h2
 generalize S / D * D = X at *
 generalize S % D = Y at *
 obtain rfl | rfl : c = 0 ∨ c = 1 := by omega
 ·omega
 ·omega
/-! rounds of the multiplied difference and of the sum -/
theorem less_step {Q l l0 m x y g c br z b : Nat} (h : l + m = l0 + Q * (c + br)) (hz : z + ((g * y + c) % 4294967296 + br) = x + 4294967296 * b) : (l + Q * z) + (m + Q * (g * y)) = (l0 + Q * x) + Q * 4294967296 * ((g * y + c) / 4294967296 + b) := by
 have e1 := Nat.mod_add_div (g * y + c) 4294967296
 have e2 : Q * ((g * y + c) % 4294967296) + Q * (4294967296 * ((g * y + c) / 4294967296)) = Q * (g * y) + Q * c := by rw [← Nat.mul_add, e1, Nat.mul_add]
 have e3 : Q * z + (Q * ((g * y + c) % 4294967296) + Q * br) = Q * x + Q * (4294967296 * b) := by rw [← Nat.mul_add, ← Nat.mul_add, hz, Nat.mul_add]
 rw [Nat.mul_add] at h
 rw [Nat.mul_assoc Q, Nat.mul_add 4294967296, Nat.mul_add Q]
 omega
theorem less_end {Q l l0 m x y z b : Nat} (h : l + m = l0 + Q * y) (hz : z + y = x + 4294967296 * b) : (l + Q * z) + m = (l0 + Q * x) + Q * 4294967296 * b := by
 have e3 : Q * z + Q * y = Q * x + Q * (4294967296 * b) := by rw [← Nat.mul_add, hz, Nat.mul_add]
 rw [Nat.mul_assoc Q]
 omega
theorem wval_set (l : List Nat) (k x : Nat) (h : k < l.length) : wval (l.set k x) + 4294967296 ^ k * l.getD k 0 = wval l + 4294967296 ^ k * x := by
 have e : (l.set k x).length = l.length := List.length_set
 have hd : (l.set k x).drop (k + 1) = l.drop (k + 1) := by rw [List.drop_set_of_lt om]
 rw [wval_split (l.set k x) (k + 1), wval_split l (k + 1), hd, lo_set_succ _ _ _ h, lo_succ]
 omega
/-! a magnitude over one word -/
theorem short_step {d q v P r t : Nat} (h : v = q * d + r * (P * 4294967296)) (x : Nat) (ht : t = r * 4294967296 + x) : v + P * x = (q + P * (t / d)) * d + (t % d) * P := by
 have e := Nat.div_add_mod t d
 have e1 : P * (t / d) * d + t % d * P = P * t := by
  rw [Nat.mul_assoc, Nat.mul_comm (t / d), Nat.mul_comm (t % d), ← Nat.mul_add, e]
 have e2 : P * t = r * (P * 4294967296) + P * x := by
  rw [ht, Nat.mul_add, Nat.mul_left_comm P r]
 rw [Nat.add_mul, h]
 omega
/-! square roots -/
def IsRt (n r : Nat) : Prop := r * r ≤ n ∧ n < (r + 1) * (r + 1)
theorem IsRt.le {n r s : Nat} (h : IsRt n r) (hs : s * s ≤ n) : s ≤ r := by
 rcases Nat.lt_or_ge r s with h1 | h1
 ·have := Nat.mul_le_mul h1 h1
  have := h.2
  simp only [Nat.succ_eq_add_one] at *
  omega
 ·exact h1
theorem IsRt.uniq {n r s : Nat} (h : IsRt n r) (g : IsRt n s) : r = s := Nat.le_antisymm (g.le h.1) (h.le g.1)
end Go.Proofs.YtgkcpnidmfejeaaGreatDoor
end
section
namespace Go.Proofs.YtgkcpnidmfejeaaGreatDoor
def LehS (a b c d : Int) : Prop := (0 ≤ a ∧ b ≤ 0 ∧ c ≤ 0 ∧ 0 ≤ d) ∨ (a ≤ 0 ∧ 0 ≤ b ∧ 0 ≤ c ∧ d ≤ 0)
def LehI (x y a b c d p q : Int) : Prop := p = a * x + b * y ∧ q = c * x + d * y ∧ (a * d - b * c = 1 ∨ a * d - b * c = -1) ∧ LehS a b c d ∧ 0 ≤ p + a ∧ 0 ≤ p + b ∧ 0 ≤ q + c ∧ 0 ≤ q + d
theorem leh_start {x y : Int} (hx : 0 ≤ x) (hy : 0 ≤ y) : LehI x y 1 0 0 1 x y := by
 refine ⟨by omega, by omega, .inl dc, .inl ⟨by decide, by decide, by decide, by decide⟩, by omega, by omega, by omega, by omega⟩
theorem mul_lo {n u v : Int} (hn : 0 ≤ n) (h : u ≤ v) : n * u ≤ n * v := Int.mul_le_mul_of_nonneg_left h hn
theorem leh_step {x y a b c d p q n : Int} (h : LehI x y a b c d p q) (hc : 0 < q + c) (hd : 0 < q + d) (h1 : n = (p + a) / (q + c)) (h2 : n = (p + b) / (q + d)) :
 LehI x y c d (a - n * c) (b - n * d) q (p - n * q) ∧ 0 ≤ n := by
 obtain ⟨e1, e2, e3, e4, g1, g2, g3, g4⟩ := h
 have hn : 0 ≤ n := by rw [h1]; exact Int.ediv_nonneg g1 om
 have k1 : n * (q + c) ≤ p + a := by rw [h1]; exact Int.ediv_mul_le _ om
 have k2 : n * (q + d) ≤ p + b := by rw [h2]; exact Int.ediv_mul_le _ om
 rw [Int.mul_add] at k1 k2
 refine ⟨⟨e2, ?_, ?_, ?_, g3, g4, by omega, by omega⟩, hn⟩
 ·rw [e1, e2, Int.sub_mul, Int.sub_mul, Int.mul_add, Int.mul_assoc, Int.mul_assoc]; omega
 ·have e : c * (b - n * d) - d * (a - n * c) = -(a * d - b * c) := by
   rw [Int.mul_sub, Int.mul_sub, Int.mul_left_comm c n d, Int.mul_left_comm d n c, Int.mul_comm d c, Int.mul_comm d a, Int.mul_comm c b]; omega
  rw [e]
  rcases e3 with e3 | e3 <;> rw [e3] <;> decide
 ·rcases e4 with ⟨s1, s2, s3, s4⟩ | ⟨s1, s2, s3, s4⟩
  ·have m1 := mul_lo hn s3
   have m2 := mul_lo hn s4
   rw [Int.mul_zero] at m1 m2
   exact .inr ⟨s3, s4, by omega, by omega⟩
  ·have m1 := mul_lo hn s3
   have m2 := mul_lo hn s4
   rw [Int.mul_zero] at m1 m2
   exact .inl ⟨s3, s4, by omega, by omega⟩
theorem leh_small {x y a b c d p q n K : Int} (h : LehI x y a b c d p q) (hc : 0 < q + c) (hd : 0 < q + d) (h1 : n = (p + a) / (q + c)) (h2 : n = (p + b) / (q + d)) (ha : p + a ≤ K) (hb : p + b ≤ K) :
 -K ≤ n * c ∧ n * c ≤ K ∧ -K ≤ n * d ∧ n * d ≤ K ∧ -K ≤ n * q ∧ n * q ≤ K ∧ n ≤ K := by
 obtain ⟨_, hn⟩ := leh_step h hc hd h1 h2
 obtain ⟨e1, e2, e3, e4, g1, g2, g3, g4⟩ := h
 have k1 : n * (q + c) ≤ p + a := by rw [h1]; exact Int.ediv_mul_le _ om
 have k2 : n * (q + d) ≤ p + b := by rw [h2]; exact Int.ediv_mul_le _ om
 have l1 : n * 1 ≤ n * (q + c) := mul_lo hn om
 have l2 : n * 1 ≤ n * (q + d) := mul_lo hn om
 have z1 : n * 0 ≤ n * (q + c) := mul_lo hn om
 have z2 : n * 0 ≤ n * (q + d) := mul_lo hn om
 rw [Int.mul_zero] at z1 z2
 rw [Int.mul_one] at l1 l2
 rw [Int.mul_add] at k1 k2 l1 l2 z1 z2
 rcases e4 with ⟨s1, s2, s3, s4⟩ | ⟨s1, s2, s3, s4⟩
 ·have m1 := mul_lo hn s3
  have m2 := mul_lo hn s4
  rw [Int.mul_zero] at m1 m2
  omega
 ·have m1 := mul_lo hn s3
  have m2 := mul_lo hn s4
  rw [Int.mul_zero] at m1 m2
  omega
theorem leh_between {x y a b p M A0 B0 : Int} (hp : p = a * x + b * y) (hA : 0 ≤ A0) (hA2 : A0 ≤ M) (hB : 0 ≤ B0) (hB2 : B0 ≤ M) (hs : 0 ≤ a ∧ b ≤ 0) :
 (p + b) * M ≤ a * (x * M + A0) + b * (y * M + B0) ∧ a * (x * M + A0) + b * (y * M + B0) ≤ (p + a) * M := by
 have e : a * (x * M + A0) + b * (y * M + B0) = p * M + a * A0 + b * B0 := by
  rw [hp, Int.mul_add, Int.mul_add, Int.add_mul, ← Int.mul_assoc, ← Int.mul_assoc]; omega
 have a1 : a * 0 ≤ a * A0 := mul_lo hs.1 hA
 have a2 : a * A0 ≤ a * M := mul_lo hs.1 hA2
 have b1 : (-b) * 0 ≤ (-b) * B0 := mul_lo om hB
 have b2 : (-b) * B0 ≤ (-b) * M := mul_lo om hB2
 rw [Int.mul_zero] at a1 b1
 rw [Int.neg_mul] at b1 b2
 rw [Int.neg_mul] at b2
 rw [e, Int.add_mul, Int.add_mul]
 omega
theorem leh_true {x y a b c d p q n M A0 B0 : Int} (h : LehI x y a b c d p q) (hc : 0 < q + c) (hd : 0 < q + d) (h1 : n = (p + a) / (q + c)) (h2 : n = (p + b) / (q + d)) (hM : 0 < M) (hA : 0 ≤ A0) (hA2 : A0 ≤ M) (hB : 0 ≤ B0) (hB2 : B0 ≤ M) :
 0 ≤ (a - n * c) * (x * M + A0) + (b - n * d) * (y * M + B0) ∧ (a - n * c) * (x * M + A0) + (b - n * d) * (y * M + B0) < c * (x * M + A0) + d * (y * M + B0) := by
 obtain ⟨_, hn⟩ := leh_step h hc hd h1 h2
 obtain ⟨e1, e2, e3, e4, g1, g2, g3, g4⟩ := h
 have k1 : n * (q + c) ≤ p + a := by rw [h1]; exact Int.ediv_mul_le _ om
 have k2 : n * (q + d) ≤ p + b := by rw [h2]; exact Int.ediv_mul_le _ om
 have k3 : p + a < (n + 1) * (q + c) := by rw [h1]; exact Int.lt_ediv_add_one_mul_self _ hc
 have k4 : p + b < (n + 1) * (q + d) := by rw [h2]; exact Int.lt_ediv_add_one_mul_self _ hd
 rw [Int.add_mul, Int.one_mul] at k3 k4
 have eu : (a - n * c) * (x * M + A0) + (b - n * d) * (y * M + B0) = (a * (x * M + A0) + b * (y * M + B0)) - n * (c * (x * M + A0) + d * (y * M + B0)) := by
  rw [Int.sub_mul, Int.sub_mul, Int.mul_add n, Int.mul_assoc, Int.mul_assoc]; omega
 rw [eu]
 have mm : ∀ {s t : Int}, s ≤ t → s * M ≤ t * M := fun h => Int.mul_le_mul_of_nonneg_right h om
 have key : ∀ {u v lo hi vl vh : Int}, lo * M ≤ u → u ≤ hi * M → vl * M ≤ v → v ≤ vh * M → n * vh ≤ lo → hi + 1 ≤ n * vl + vl → 0 ≤ u - n * v ∧ u - n * v < v := by
  intro u v lo hi vl vh q1 q2 q3 q4 q5 q6
  have t1 : n * v ≤ n * (vh * M) := mul_lo hn q4
  have t2 : n * (vl * M) ≤ n * v := mul_lo hn q3
  have t3 := mm q5
  have t4 := mm q6
  rw [Int.add_mul, Int.add_mul, Int.one_mul] at t4
  rw [← Int.mul_assoc] at t1 t2
  omega
 rcases e4 with ⟨s1, s2, s3, s4⟩ | ⟨s1, s2, s3, s4⟩
 ·obtain ⟨u1, u2⟩ := leh_between e1 hA hA2 hB hB2 ⟨s1, s2⟩
  have ev : c * (x * M + A0) + d * (y * M + B0) = d * (y * M + B0) + c * (x * M + A0) := Int.add_comm _ _
  obtain ⟨v1, v2⟩ := leh_between (x := y) (y := x) (a := d) (b := c) (p := q) (by rw [e2, Int.add_comm]) hB hB2 hA hA2 ⟨s4, s3⟩
  rw [ev]
  exact key u1 u2 v1 v2 k2 om
 ·obtain ⟨v1, v2⟩ := leh_between e2 hA hA2 hB hB2 ⟨s3, s4⟩
  have eu2 : a * (x * M + A0) + b * (y * M + B0) = b * (y * M + B0) + a * (x * M + A0) := Int.add_comm _ _
  obtain ⟨u1, u2⟩ := leh_between (x := y) (y := x) (a := b) (b := a) (p := p) (by rw [e1, Int.add_comm]) hB hB2 hA hA2 ⟨s2, s1⟩
  rw [eu2]
  exact key u1 u2 v1 v2 k1 om
theorem uni_dvd {a b c d A B g : Int} (h : a * d - b * c = 1 ∨ a * d - b * c = -1) (h1 : g ∣ a * A + b * B) (h2 : g ∣ c * A + d * B) : g ∣ A ∧ g ∣ B := by
 have eA : d * (a * A + b * B) - b * (c * A + d * B) = (a * d - b * c) * A := by
  rw [Int.mul_add, Int.mul_add, Int.sub_mul, ← Int.mul_assoc, ← Int.mul_assoc, ← Int.mul_assoc, ← Int.mul_assoc, Int.mul_comm d a, Int.mul_comm d b]; omega
 have eB : a * (c * A + d * B) - c * (a * A + b * B) = (a * d - b * c) * B := by
  rw [Int.mul_add, Int.mul_add, Int.sub_mul, ← Int.mul_assoc, ← Int.mul_assoc, ← Int.mul_assoc, ← Int.mul_assoc, Int.mul_comm c a, Int.mul_comm c b]; omega
 have dA : g ∣ (a * d - b * c) * A := by rw [← eA]; exact Int.dvd_sub (Int.dvd_mul_of_dvd_right h1) (Int.dvd_mul_of_dvd_right h2)
 have dB : g ∣ (a * d - b * c) * B := by rw [← eB]; exact Int.dvd_sub (Int.dvd_mul_of_dvd_right h2) (Int.dvd_mul_of_dvd_right h1)
 rcases h with h | h
 ·rw [h, Int.one_mul] at dA dB; exact ⟨dA, dB⟩
 ·rw [h, Int.neg_mul, Int.one_mul] at dA dB; exact ⟨Int.dvd_neg.1 dA, Int.dvd_neg.1 dB⟩
end Go.Proofs.YtgkcpnidmfejeaaGreatDoor
end
section
namespace Go.Proofs.YtgkcpnidmfejeaaGreatDoor
def LehT (x y a b c d : Int) : Prop := ∀ M A0 B0 : Int, 0 < M → 0 ≤ A0 → A0 ≤ M → 0 ≤ B0 → B0 ≤ M →
 0 ≤ c * (x * M + A0) + d * (y * M + B0) ∧ c * (x * M + A0) + d * (y * M + B0) < a * (x * M + A0) + b * (y * M + B0) ∧ c * (x * M + A0) + d * (y * M + B0) < y * M + B0 ∧ a * (x * M + A0) + b * (y * M + B0) ≤ y * M + B0
def LehJ (x y a b c d p q : Int) : Prop := LehI x y a b c d p q ∧ ((a = 1 ∧ b = 0 ∧ c = 0 ∧ d = 1) ∨ LehT x y a b c d)
theorem lehJ_start {x y : Int} (hx : 0 ≤ x) (hy : 0 ≤ y) : LehJ x y 1 0 0 1 x y := ⟨leh_start hx hy, .inl ⟨rfl, rfl, rfl, rfl⟩⟩
theorem lehJ_step {x y a b c d p q n : Int} (h : LehJ x y a b c d p q) (hc : 0 < q + c) (hd : 0 < q + d) (h1 : n = (p + a) / (q + c)) (h2 : n = (p + b) / (q + d)) :
 LehJ x y c d (a - n * c) (b - n * d) q (p - n * q) := by
 obtain ⟨hI, hs⟩ := h
 refine ⟨(leh_step hI hc hd h1 h2).1, .inr fun M A0 B0 hM hA hA2 hB hB2 => ?_⟩
 have k := leh_true hI hc hd h1 h2 hM hA hA2 hB hB2
 have k3 : c * (x * M + A0) + d * (y * M + B0) ≤ y * M + B0 := by
  rcases hs with ⟨rfl, rfl, rfl, rfl⟩ | hs
  ·rw [Int.zero_mul, Int.zero_add, Int.one_mul]
   exact Int.le_refl _
  ·exact Int.le_of_lt (hs M A0 B0 hM hA hA2 hB hB2).2.2.1
 exact ⟨k.1, k.2, Int.lt_of_lt_of_le k.2 k3, k3⟩
theorem lehJ_range {x y a b c d p q : Int} (h : LehJ x y a b c d p q) : 0 ≤ p + a ∧ 0 ≤ p + b ∧ 0 ≤ q + c ∧ 0 ≤ q + d := h.1.2.2.2.2
def LehO (x y a b c d : Int) : Prop := (a * d - b * c = 1 ∨ a * d - b * c = -1) ∧ LehS a b c d ∧ (b ≠ 0 → LehT x y a b c d)
theorem lehJ_out {x y a b c d p q : Int} (h : LehJ x y a b c d p q) : LehO x y a b c d := by
 refine ⟨h.1.2.2.1, h.1.2.2.2.1, fun hb => ?_⟩
 rcases h.2 with ⟨_, hb0, _, _⟩ | k
 ·exact absurd hb0 hb
 ·exact k
theorem leh_mix1 {a b c d : Int} (h : LehS a b c d) (hb : b ≠ 0) : (b ≤ 0 → 0 ≤ a) ∧ (0 < b → a ≤ 0) := by
 unfold LehS at h
 omega
theorem leh_mix2 {a b c d A B : Int} (h : LehS a b c d) (hA : 0 < A) (h0 : 0 ≤ c * A + d * B) : (d ≤ 0 → 0 ≤ c) ∧ (0 < d → c ≤ 0) := by
 unfold LehS at h
 refine ⟨fun g => ?_, fun g => by omega⟩
 rcases h with ⟨_, _, h3, h4⟩ | ⟨_, _, h3, _⟩
 ·obtain rfl : d = 0 := by omega
  rw [Int.zero_mul, Int.add_zero] at h0
  rcases Int.lt_or_le c 0 with k | k
  ·have := Int.mul_neg_of_neg_of_pos k hA; omega
  ·exact k
 ·exact h3
theorem leh_fits {x y a b c d p q n : Int} (h : LehJ x y a b c d p q) (hc : 0 < q + c) (hd : 0 < q + d) (h1 : n = (p + a) / (q + c)) (h2 : n = (p + b) / (q + d)) (ha : p + a ≤ 4611686019501129728) (hb : p + b ≤ 4611686019501129728) :
 -4611686019501129728 ≤ n * c ∧ n * c ≤ 4611686019501129728 ∧ -4611686019501129728 ≤ n * d ∧ n * d ≤ 4611686019501129728 ∧ -4611686019501129728 ≤ n * q ∧ n * q ≤ 4611686019501129728 ∧ n ≤ 4611686019501129728 ∧ 0 ≤ n := by
 have k := leh_small h.1 hc hd h1 h2 ha hb
 have k2 := (leh_step h.1 hc hd h1 h2).2
 exact ⟨k.1, k.2.1, k.2.2.1, k.2.2.2.1, k.2.2.2.2.1, k.2.2.2.2.2.1, k.2.2.2.2.2.2, k2⟩
end Go.Proofs.YtgkcpnidmfejeaaGreatDoor
end
namespace Go.Proofs.YtgkcpnidmfejeaaGreatDoor
open Go.RowKit
def StRel (x y : Int) (W : World) (av bv cv dv pv qv : Value) (wr : World) : Prop :=
 ∃ a b c d p q : Int, av = .int .i64 a ∧ bv = .int .i64 b ∧ cv = .int .i64 c ∧ dv = .int .i64 d ∧ pv = .int .i64 p ∧ qv = .int .i64 q ∧ LehJ x y a b c d p q ∧
  (-1073741824 ≤ a ∧ a ≤ 1073741824 ∧ -1073741824 ≤ b ∧ b ≤ 1073741824 ∧ -1073741824 ≤ c ∧ c ≤ 1073741824 ∧ -1073741824 ≤ d ∧ d ≤ 1073741824) ∧ (0 ≤ p ∧ p ≤ 4611686018427387904 ∧ 0 ≤ q ∧ q ≤ 4611686018427387904) ∧ W = wr
theorem lehJ_next {x y a b c d p q n : Int} (h : LehJ x y a b c d p q) (hc : 0 < q + c) (hd : 0 < q + d) (h1 : n = (p + a) / (q + c)) (h2 : n = (p + b) / (q + d)) :
 LehJ x y c d (a - n * c) (b - n * d) q (p - n * q) ∧ 0 ≤ p - n * q ∧ p - n * q < q := by
 have k := lehJ_step h hc hd h1 h2
 refine ⟨k, ?_⟩
 rcases k.2 with g | g
 ·have e1 := k.1.1
  have e2 := k.1.2.1
  obtain ⟨rfl, rfl, g3, g4⟩ := g
  have t := leh_true h.1 hc hd h1 h2 (M := 1) (A0 := 0) (B0 := 0) dc dc dc dc dc
  simp only [Int.mul_one, Int.add_zero, Int.zero_mul, Int.zero_add, Int.one_mul, Int.sub_zero, Int.mul_zero] at t e1 e2 ⊢
  omega
 ·have t := g 1 0 0 dc dc dc dc dc
  simp only [Int.mul_one, Int.add_zero] at t
  have e1 := k.1.1
  have e2 := k.1.2.1
  omega
theorem results_tmp4 {fn : Func} {t u x y : Tmp} (h : fn.results = #[.tmp t, .tmp u, .tmp x, .tmp y]) (tmps : Array Value) (P : Program) (w : World) :
 (results fn tmps).run P w = .ok (.tuple #[tmps.getD t undef, tmps.getD u undef, tmps.getD x undef, tmps.getD y undef]) w := by
 simp [results, h]
theorem div_small {u v n : Int} (hv : 0 < v) (hu : 0 ≤ u) (h : u / v = n) : 0 ≤ n ∧ n ≤ u := by
 have := Int.ediv_nonneg hu (Int.le_of_lt hv)
 have := Int.ediv_le_self v hu
 omega
theorem i64_is {z : Int} (h1 : -9223372036854775808 ≤ z) (h2 : z ≤ 9223372036854775807) : IntKind.i64.wrap z = z := IntWalk.i64_in _ ⟨h1, h2⟩
theorem zz33 {p : Prop} (h : p := by
 go_wp2
 (try simp only [Exit.inBlock, Exit.then]); refine bodyPost_ret (results_tmp4 rfl _ _ _) rfl ⟨a, b, c, d, rfl, lehJ_out HJ.out, HB.out, rfl⟩) : p := h
theorem Bsteps (x y : Nat) (hx : x < 4611686018427387904) (hy : y < 4611686018427387904) (w : World) : Calls Tryz.prog 288 #[.int .u64 (x : Int), .int .u64 (y : Int)] w
 (fun e w' => ∃ a b c d : Int, e = .returned (.tuple #[.int .i64 a, .int .i64 b, .int .i64 c, .int .i64 d]) ∧ LehO x y a b c d ∧ (-1073741824 ≤ a ∧ a ≤ 1073741824 ∧ -1073741824 ≤ b ∧ b ≤ 1073741824 ∧ -1073741824 ≤ c ∧ c ≤ 1073741824 ∧ -1073741824 ≤ d ∧ d ≤ 1073741824) ∧ w = w') := by
 have wx : IntKind.i64.wrap (x : Int) = (x : Int) := i64_is om om
 have wy : IntKind.i64.wrap (y : Int) = (y : Int) := i64_is om om
 go_enter Tryz.func288, Tryz.ntmps288
 go_wp2
 go_loopw [8, 9, 10, 11, 12, 13] (fun av bv cv dv pv qv wr => StRel x y w av bv cv dv pv qv wr) (fun _ _ _ _ _ qv _ => (intOf qv).toNat)
 case atStart => exact ⟨1, 0, 0, 1, x, y, rfl, rfl, rfl, rfl, rfl, rfl, lehJ_start om om, by omega, by omega, rfl⟩
 case round =>
  obtain ⟨a, b, c, d, p, q, rfl, rfl, rfl, rfl, rfl, rfl, hJ, hb, hp, rfl⟩ := hrel
  have hr := lehJ_range hJ
  have HJ := Hh hJ; clear hJ
  have w1 : IntKind.i64.wrap (q + c) = q + c := i64_is om om
  have w2 : IntKind.i64.wrap (q + d) = q + d := i64_is om om
  have w3 : IntKind.i64.wrap (p + a) = p + a := i64_is om om
  have w4 : IntKind.i64.wrap (p + b) = p + b := i64_is om om
  have HB := Hh hb
  by_cases z1 : q + c = 0
  ·have g1 : (q + c != 0) = false := by rw [z1]; rfl
   clear hb hp hr z1
   exact zz33
  ·have g1 : (q + c != 0) = true := bne_iff_ne.2 z1
   by_cases z2 : q + d = 0
   ·have g2 : (q + d != 0) = false := by rw [z2]; rfl
    clear hb hp hr z1 z2
    exact zz33
   ·have g2 : (q + d != 0) = true := bne_iff_ne.2 z2
    have p1 : 0 < q + c := by omega
    have p2 : 0 < q + d := by omega
    obtain ⟨n, hn⟩ : ∃ n, (p + a) / (q + c) = n := ⟨_, rfl⟩
    obtain ⟨m, hm⟩ : ∃ m, (p + b) / (q + d) = m := ⟨_, rfl⟩
    have gz1 : (q + c == 0) = false := beq_eq_false_iff_ne.2 z1
    have gz2 : (q + d == 0) = false := beq_eq_false_iff_ne.2 z2
    have nr := div_small p1 (show 0 ≤ p + a by omega) hn
    have mr := div_small p2 (show 0 ≤ p + b by omega) hm
    have tn : wrap64 ((p + a).tdiv (q + c)) = n := by rw [Int.tdiv_eq_ediv_of_nonneg om, hn]; exact IntWalk.wrap64_in n ⟨by omega, by omega⟩
    have tm : wrap64 ((p + b).tdiv (q + d)) = m := by rw [Int.tdiv_eq_ediv_of_nonneg om, hm]; exact IntWalk.wrap64_in m ⟨by omega, by omega⟩
    clear nr mr
    by_cases hnm : n = m
    ·subst hnm
     have hf := leh_fits HJ.out p1 p2 hn.symm hm.symm om om
     obtain ⟨hJ2, hq0, hq1⟩ := lehJ_next HJ.out p1 p2 hn.symm hm.symm
     have HJ2 := Hh hJ2; clear hJ2
     have g3 : (n != n) = false := by simp
     have w5 : IntKind.i64.wrap (n * c) = n * c := i64_is om om
     have w6 : IntKind.i64.wrap (n * d) = n * d := i64_is om om
     have w7 : IntKind.i64.wrap (n * q) = n * q := i64_is om om
     have w8 : IntKind.i64.wrap (a - n * c) = a - n * c := i64_is om om
     have w9 : IntKind.i64.wrap (b - n * d) = b - n * d := i64_is om om
     have w10 : IntKind.i64.wrap (p - n * q) = p - n * q := i64_is om om
     obtain ⟨e, he⟩ : ∃ e, a - n * c = e := ⟨_, rfl⟩
     obtain ⟨f, hf2⟩ : ∃ f, b - n * d = f := ⟨_, rfl⟩
     rw [he] at w8 HJ2
     rw [hf2] at w9 HJ2
     by_cases b1 : e > 1073741824
     ·have g4 : decide (e > 1073741824) = true := decide_eq_true b1
      clear hb hp hr p1 p2 hf hq0 hq1 b1
      exact zz33
     ·have g4 : decide (e > 1073741824) = false := decide_eq_false b1
      by_cases b2 : e < -1073741824
      ·have g5 : decide (e < -1073741824) = true := decide_eq_true b2
       clear hb hp hr p1 p2 hf hq0 hq1 b1 b2
       exact zz33
      ·have g5 : decide (e < -1073741824) = false := decide_eq_false b2
       by_cases b3 : f > 1073741824
       ·have g6 : decide (f > 1073741824) = true := decide_eq_true b3
        clear hb hp hr p1 p2 hf hq0 hq1 b1 b2 b3
        exact zz33
       ·have g6 : decide (f > 1073741824) = false := decide_eq_false b3
        by_cases b4 : f < -1073741824
        ·have g7 : decide (f < -1073741824) = true := decide_eq_true b4
         clear hb hp hr p1 p2 hf hq0 hq1 b1 b2 b3 b4
         exact zz33
        ·have g7 : decide (f < -1073741824) = false := decide_eq_false b4
         have BD := Hh (show (-1073741824 ≤ c ∧ c ≤ 1073741824 ∧ -1073741824 ≤ d ∧ d ≤ 1073741824 ∧ -1073741824 ≤ e ∧ e ≤ 1073741824 ∧ -1073741824 ≤ f ∧ f ≤ 1073741824) by omega)
         have BQ := Hh (show (0 ≤ q ∧ q ≤ 4611686018427387904 ∧ 0 ≤ p - n * q ∧ p - n * q ≤ 4611686018427387904) by omega)
         have MS := Hh (show (p - n * q).toNat < q.toNat by omega)
         clear hb hp hr p1 p2 hf hq0 hq1 b1 b2 b3 b4
         go_wp2
         go_roundw
         case rel => exact ⟨c, d, e, f, q, p - n * q, rfl, rfl, rfl, rfl, rfl, rfl, HJ2.out, BD.out, BQ.out, rfl⟩
         case measure => exact MS.out
    ·have g3 : (n != m) = true := bne_iff_ne.2 hnm
     clear hb hp hr p1 p2 hnm
     exact zz33
def RowAt (w : World) (A : Option Addr) (l : List Nat) : Prop :=
 0 < l.length → ∃ g m f, A = some ⟨g, 0, none⟩ ∧ l.length ≤ m ∧ w.rowIs g 153 m f ∧ ∀ i, i < l.length → f i = .int .u32 ((l.getD i 0 : Nat) : Int)
def OwnW (w : World) (g : Nat) (l : List Nat) : Prop := w.rowIs g 153 l.length (fun i => .int .u32 ((l.getD i 0 : Nat) : Int))
def IntTy (w : World) (g : Nat) : Prop := ∃ b s, w.heap[g]? = some (.cells #[.bool b, s] 94 (0, 0))
def IntB (w : World) (g : Nat) (v : Int) : Prop :=
 ∃ A c, w.heap[g]? = some (.cells #[.bool (decide (v < 0)), .slice A (dg v.natAbs).length c] 94 (0, 0)) ∧ (dg v.natAbs).length ≤ c ∧ RowAt w A (dg v.natAbs)
theorem zz94 {p : Prop} (h : p := by
 rw [hb] at hz
 injection hz with hz
 injection hz with _ ht
 exact absurd ht dc) : p := h
theorem rowIs_ne {w : World} {g h : Nat} {m : Nat} {f : Nat → Value} (k : w.rowIs g 153 m f) (hz : IntTy w h) : g ≠ h := by
 rintro rfl
 obtain ⟨c, hb, _⟩ := k
 obtain ⟨b, s, hz⟩ := hz
 exact zz94
theorem RowAt.of_block {w w' : World} {A : Option Addr} {l : List Nat} (h : RowAt w A l) (hk : ∀ g m f, w.rowIs g 153 m f → w'.heap[g]? = w.heap[g]?) : RowAt w' A l := by
 intro hl
 obtain ⟨g, m, f, e, hm, hr, hf⟩ := h hl
 exact ⟨g, m, f, e, hm, hr.of_block (hk _ _ _ hr), hf⟩
theorem RowAt.of {w w' : World} {A : Option Addr} {l : List Nat} (h : RowAt w A l) (k : Within w w') : RowAt w' A l := h.of_block fun _ _ _ hr => k.block _ hr.lt
theorem RowAt.grown {w w' : World} {A : Option Addr} {l : List Nat} {z : Nat} (h : RowAt w A l) (hz : IntTy w z) (k : w.grownBy w' (some z)) : RowAt w' A l :=
 h.of_block fun _ _ _ hr => k.block _ hr.lt (fun e => rowIs_ne hr hz (by injection e))
theorem RowAt.setInt {w : World} {A : Option Addr} {l : List Nat} {z o : Nat} (h : RowAt w A l) (hz : IntTy w z) (u : Value) : RowAt (w.setCell ⟨z, o, none⟩ u) A l :=
 h.of_block fun _ _ _ hr => Below.heap_setCell w _ u _ (rowIs_ne hr hz)
theorem RowAt.take {w : World} {A : Option Addr} {l : List Nat} (h : RowAt w A l) (k : Nat) : RowAt w A (l.take k) := by
 intro hl
 have hl' : 0 < l.length := Nat.lt_of_lt_of_le hl (List.length_take_le' _ _)
 obtain ⟨g, m, f, e, hm, hr, hf⟩ := h hl'
 refine ⟨g, m, f, e, Nat.le_trans (List.length_take_le' _ _) hm, hr, fun i hi => ?_⟩
 have hi' : i < l.length := Nat.lt_of_lt_of_le hi (List.length_take_le' _ _)
 rw [hf i hi']
 have : i < k := Nat.lt_of_lt_of_le hi (List.length_take_le _ _)
 simp [List.getD_eq_getElem?_getD, List.getElem?_take, this]
theorem RowAt.nil {w : World} {A : Option Addr} : RowAt w A [] := fun h => absurd h (by simp)
theorem OwnW.at {w : World} {g : Nat} {l : List Nat} (h : OwnW w g l) : RowAt w (some ⟨g, 0, none⟩) l := fun _ => ⟨g, _, _, rfl, Nat.le_refl _, h, fun _ _ => rfl⟩
theorem OwnW.made (w : World) (n : Nat) : OwnW (w.alloc (.cells (madeCells #[.int .u32 0] n) 153)) w.heap.size (List.replicate n 0) := by
 have h := World.rowIs_made w (.int .u32 0) n 153
 unfold OwnW
 rw [List.length_replicate]
 refine h.congr fun i hi => ?_
 simp [List.getD_eq_getElem?_getD, hi]
theorem OwnW.set {w : World} {g : Nat} {l : List Nat} (h : OwnW w g l) (i x : Nat) (hi : i < l.length) : OwnW (w.setCell ⟨g, i, none⟩ (.int .u32 (x : Int))) g (l.set i x) := by
 have k := World.rowIs.set h i (.int .u32 (x : Int))
 unfold OwnW
 rw [List.length_set]
 refine k.congr fun j hj => ?_
 show (if j = i then _ else _) = _
 by_cases e : j = i
 ·subst e; rw [if_pos rfl, getD_set_eq _ _ _ hi]
 ·rw [if_neg e, lset_ne _ _ _ _ (fun h => e h.symm)]
theorem OwnW.cell {w : World} {g : Nat} {l : List Nat} (h : OwnW w g l) {i : Nat} (hi : i < l.length) : w.cell? ⟨g, i, none⟩ = some (.int .u32 ((l.getD i 0 : Nat) : Int)) := World.rowIs.cell h hi
theorem OwnW.frozen {w : World} {g : Nat} {l : List Nat} (h : OwnW w g l) (i : Nat) : w.frozen? ⟨g, i, none⟩ = false := World.rowIs.frozen h i
theorem OwnW.of_block {w w' : World} {g : Nat} {l : List Nat} (h : OwnW w g l) (e : w'.heap[g]? = w.heap[g]?) : OwnW w' g l := World.rowIs.of_block h e
theorem OwnW.alloc {w : World} {g : Nat} {l : List Nat} (h : OwnW w g l) (o : Obj) : OwnW (w.alloc o) g l := World.rowIs.alloc h o
theorem OwnW.drew {w : World} {g : Nat} {l : List Nat} (h : OwnW w g l) : OwnW w.drew g l := h
theorem OwnW.lt {w : World} {g : Nat} {l : List Nat} (h : OwnW w g l) : g < w.heap.size := World.rowIs.lt h
theorem RowAt.cell {w : World} {A : Option Addr} {l : List Nat} (h : RowAt w A l) {i : Nat} (hi : i < l.length) : ∃ g, A = some ⟨g, 0, none⟩ ∧ g < w.heap.size ∧ w.cell? ⟨g, i, none⟩ = some (.int .u32 ((l.getD i 0 : Nat) : Int)) := by
 obtain ⟨g, m, f, e, hm, hr, hf⟩ := h om
 exact ⟨g, e, hr.lt, by rw [hr.cell om, hf i hi]⟩
theorem IntB.ty {w : World} {g : Nat} {v : Int} (h : IntB w g v) : IntTy w g := by
 obtain ⟨A, c, hb, _⟩ := h
 exact ⟨_, _, hb⟩
theorem IntB.lt {w : World} {g : Nat} {v : Int} (h : IntB w g v) : g < w.heap.size := by
 obtain ⟨A, c, hb, _⟩ := h
 obtain ⟨hlt, _⟩ := Array.getElem?_eq_some_iff.1 hb
 exact hlt
theorem IntTy.lt {w : World} {g : Nat} (h : IntTy w g) : g < w.heap.size := by
 obtain ⟨A, c, hb⟩ := h
 obtain ⟨hlt, _⟩ := Array.getElem?_eq_some_iff.1 hb
 exact hlt
theorem IntTy.of {w w' : World} {g : Nat} (h : IntTy w g) (k : Within w w') : IntTy w' g := by
 have := h.lt
 obtain ⟨b, s, hb⟩ := h
 exact ⟨b, s, (k.block _ this).trans hb⟩
theorem IntB.of {w w' : World} {g : Nat} {v : Int} (h : IntB w g v) (k : Within w w') : IntB w' g v := by
 have hl := h.lt
 obtain ⟨A, c, hb, hc, hr⟩ := h
 exact ⟨A, c, (k.block _ hl).trans hb, hc, hr.of k⟩
theorem IntB.grown {w w' : World} {g z : Nat} {v : Int} (h : IntB w g v) (hz : IntTy w z) (hne : g ≠ z) (k : w.grownBy w' (some z)) : IntB w' g v := by
 have hl := h.lt
 obtain ⟨A, c, hb, hc, hr⟩ := h
 exact ⟨A, c, (k.block _ hl (fun e => hne (by injection e))).trans hb, hc, hr.grown hz k⟩
theorem IntB.cells {w : World} {g : Nat} {v : Int} (h : IntB w g v) : ∃ A c, w.cell? ⟨g, 0, none⟩ = some (.bool (decide (v < 0))) ∧ w.cell? ⟨g, 1, none⟩ = some (.slice A (dg v.natAbs).length c) ∧ (dg v.natAbs).length ≤ c ∧ RowAt w A (dg v.natAbs) := by
 obtain ⟨A, c, hb, hc, hr⟩ := h
 exact ⟨A, c, by simp [World.cell?, hb], by simp [World.cell?, hb], hc, hr⟩
theorem IntTy.frozen {w : World} {g : Nat} (h : IntTy w g) (i : Nat) : w.frozen? ⟨g, i, none⟩ = false := by
 obtain ⟨b, s, hb⟩ := h
 simp [World.frozen?, hb]
theorem IntTy.cells {w : World} {g : Nat} (h : IntTy w g) : ∃ b s, w.cell? ⟨g, 0, none⟩ = some (.bool b) ∧ w.cell? ⟨g, 1, none⟩ = some s := by
 obtain ⟨b, s, hb⟩ := h
 exact ⟨b, s, by simp [World.cell?, hb], by simp [World.cell?, hb]⟩
theorem IntB.made (w : World) : IntB (w.alloc (.cells #[.bool false, .slice none 0 0] 94)) w.heap.size 0 :=
 ⟨none, 0, by rw [show (dg (0 : Int).natAbs) = [] from dg_zero]; exact heap_alloc_new w _, by rw [show (dg (0 : Int).natAbs) = [] from dg_zero]; exact Nat.le_refl _, by rw [show (dg (0 : Int).natAbs) = [] from dg_zero]; exact RowAt.nil⟩
theorem Within.grown {W w w' : World} {z : Nat} (h : Within W w) (k : w.grownBy w' (some z)) (hz : W.heap.size ≤ z) : Within W w' :=
 Below.grown h k h.size (fun _ e => by injection e with e; omega)
theorem grown_trans {a b c : World} {z : Nat} (h : a.grownBy b (some z)) (k : b.grownBy c (some z)) : a.grownBy c (some z) :=
 ⟨k.os.trans h.os, k.tape.trans h.tape, k.output.trans h.output, Nat.le_trans h.size k.size, fun i hi hne => (k.block i (Nat.lt_of_lt_of_le hi h.size) hne).trans (h.block i hi hne)⟩
theorem grown_within {a b : World} (z : Nat) (h : Within a b) : a.grownBy b (some z) := ⟨h.os, h.tape, h.output, h.size, fun i hi _ => h.block i hi⟩
theorem grown_set {a w : World} {z o : Nat} (h : a.grownBy w (some z)) (u : Value) : a.grownBy (w.setCell ⟨z, o, none⟩ u) (some z) :=
 ⟨h.os, h.tape, h.output, by simpa [World.setCell] using h.size, fun i hi hne => (Below.heap_setCell w _ u i (fun e => hne (by subst e; rfl))).trans (h.block i hi hne)⟩
def RetW (W : World) (n : Nat) (e : Ending) (w' : World) : Prop := ∃ A c, e = .returned (.slice A (dg n).length c) ∧ (dg n).length ≤ c ∧ RowAt w' A (dg n) ∧ Within W w'
def PutI (W : World) (z : Nat) (v : Int) (e : Ending) (w' : World) : Prop := e = .returned (.pointer (some ⟨z, 0, none⟩)) ∧ IntB w' z v ∧ W.grownBy w' (some z)
def Small (n : Nat) : Prop := (dg n).length ≤ 1000000
theorem Small.le {a b : Nat} (h : Small b) (k : a ≤ b) : Small a := Nat.le_trans (dg_len_mono k) h
theorem lastWord (l : List Nat) : ∃ j, j ≤ l.length ∧ (∀ i, j ≤ i → l.getD i 0 = 0) ∧ (0 < j → l.getD (j - 1) 0 ≠ 0) := by
 have : ∀ n, n ≤ l.length → (∀ i, n ≤ i → l.getD i 0 = 0) → ∃ j, j ≤ l.length ∧ (∀ i, j ≤ i → l.getD i 0 = 0) ∧ (0 < j → l.getD (j - 1) 0 ≠ 0) := by
  intro n
  induction n with
  | zero => intro h1 h2; exact ⟨0, h1, h2, fun h => absurd h om⟩
  | succ n ih =>
   intro h1 h2
   by_cases h : l.getD n 0 = 0
   ·exact ih om (fun i hi => by
     rcases Nat.eq_or_lt_of_le hi with e | e
     ·subst e; exact h
     ·exact h2 i e)
   ·exact ⟨n + 1, h1, h2, fun _ => by rw [Nat.add_sub_cancel]; exact h⟩
 exact this l.length (Nat.le_refl _) (fun i hi => by simp [List.getD_eq_getElem?_getD, hi])
def slen : Value → Nat | .slice _ n _ => n | _ => 0
def CutRel (l : List Nat) (A : Option Addr) (c : Nat) (m : Value) : Prop := ∃ j : Nat, j ≤ l.length ∧ m = .slice A j c ∧ ∀ i, j ≤ i → l.getD i 0 = 0
theorem Bcut (l : List Nat) (A : Option Addr) (c : Nat) (hw : Words l) (hc : l.length ≤ c) (hl : l.length ≤ 2000000) (w : World) (hr : RowAt w A l) :
 Calls Tryz.prog 211 #[.slice A l.length c] w fun e w' => e = .returned (.slice A (dg (wval l)).length c) ∧ w = w' := by
 have HW := Hh hw; have HR := Hh hr; clear hw hr
 go_enter Tryz.func211, Tryz.ntmps211
 go_wp2
 go_loop [0] (fun m => CutRel l A c m) (fun m => slen m)
 case atStart => exact ⟨l.length, Nat.le_refl _, rfl, fun i hi => by simp [List.getD_eq_getElem?_getD, hi]⟩
 case round =>
  obtain ⟨j, hj, rfl, hz⟩ := hrel
  have HZ := Hh hz; clear hz
  rcases Nat.eq_zero_or_pos j with h0 | h0
  ·subst h0
   go_wp2
   go_ret
   refine ⟨?_, rfl⟩
   have := dg_cut l HW.out 0 (Nat.zero_le _) HZ.out (fun h => absurd h om)
   rw [← this]; simp
  ·obtain ⟨g, rfl, _, hcell⟩ := (HR.out.cell (i := j - 1) om)
   obtain ⟨i, rfl⟩ : ∃ i, j = i + 1 := ⟨j - 1, by omega⟩
   rw [Nat.add_sub_cancel] at hcell
   have g1 : IntKind.i64.wrap ((↑(i + 1) : Int) - 1) = (i : Int) := by rw [IntWalk.i64_in _ om]; omega
   obtain ⟨x, hxe⟩ : ∃ x, x = l.getD i 0 := ⟨_, rfl⟩
   rw [← hxe] at hcell
   have HXE := Hh hxe; clear hxe
   rcases x with _ | x
   ·go_wp2
    go_round
    case rel => exact ⟨i, by omega, rfl, fun k hk => by
     rcases Nat.eq_or_lt_of_le hk with h | h
     ·subst h; exact HXE.out.symm
     ·exact HZ.out k h⟩
    case measure => simp [slen]
   ·have hx' : (((x + 1 : Nat) : Int) == 0) = false := beq_eq_false_iff_ne.2 om
    have hx2 : ((x : Int) + 1 == 0) = false := beq_eq_false_iff_ne.2 om
    go_wp2
    go_ret
    refine ⟨?_, rfl⟩
    have := dg_cut l HW.out (i + 1) hj HZ.out (fun _ => by rw [Nat.add_sub_cancel, ← HXE.out]; omega)
    rw [← this]; simp; omega
theorem put_heap {w : World} {z : Nat} (h : IntTy w z) (b : Bool) (s : Value) : ((w.setCell ⟨z, 1, none⟩ s).setCell ⟨z, 0, none⟩ (.bool b)).heap[z]? = some (.cells #[.bool b, s] 94 (0, 0)) := by
 obtain ⟨b', s', hb⟩ := h
 simp [World.setCell, Array.getElem?_modify, hb]
theorem put_is {w : World} {z : Nat} (h : IntTy w z) (A : Option Addr) (c : Nat) (v : Int) (hc : (dg v.natAbs).length ≤ c) (hr : RowAt w A (dg v.natAbs)) :
 PutI w z v (.returned (.pointer (some ⟨z, 0, none⟩))) ((w.setCell ⟨z, 1, none⟩ (.slice A (dg v.natAbs).length c)).setCell ⟨z, 0, none⟩ (.bool (decide (v < 0)))) := by
 have g1 : w.grownBy (w.setCell ⟨z, 1, none⟩ (.slice A (dg v.natAbs).length c)) (some z) := grown_set (World.grownBy.refl _ _) _
 refine ⟨rfl, ⟨A, c, put_heap h _ _, hc, ?_⟩, grown_set g1 _⟩
 have := hr.grown h g1
 refine RowAt.setInt this ?_ _
 obtain ⟨b', s', hb⟩ := h
 exact ⟨b', (.slice A (dg v.natAbs).length c), by simp [World.setCell, Array.getElem?_modify, hb]⟩
def sgv (neg : Bool) (n : Nat) : Int := if neg then -(n : Int) else n
theorem sgv_abs (neg : Bool) (n : Nat) : (sgv neg n).natAbs = n := by unfold sgv; split <;> omega
theorem sgv_neg (neg : Bool) (n : Nat) : decide (sgv neg n < 0) = (neg && decide (0 < n)) := by
 unfold sgv; cases neg
 ·simp
 ·simp
theorem zz129 {p : Prop} (h : p := by
 subst hB
 go_enter Tryz.func114, Tryz.ntmps114
 go_wp2_with fail
 refine (CT.out _ rfl).mono ?_; rintro e1 w1 ⟨rfl, rfl⟩
 go_wp2
 go_ret
 exact ⟨rfl, rfl⟩) : p := h
theorem zz32 {p : Prop} (h : p := by
 have hn : neg = true → ∀ k : Nat, (decide ((k : Int) > 0)) = decide (0 < k) := fun _ k => by simp
 cases neg
 ·simp only [Bool.false_and] at hB
  exact zz129
 ·simp only [Bool.true_and] at hB
  exact zz129) : p := h
theorem Bput0 (z : Nat) (neg : Bool) (l : List Nat) (A : Option Addr) (c : Nat) (b0 : Bool) (s0 : Value) (n : Nat) (B : Bool) (w : World)
 (c0 : w.cell? ⟨z, 0, none⟩ = some (.bool b0)) (c1 : w.cell? ⟨z, 1, none⟩ = some s0) (f0 : w.frozen? ⟨z, 0, none⟩ = false) (f1 : w.frozen? ⟨z, 1, none⟩ = false)
 (hB : (neg && decide (0 < n)) = B)
 (CT : Hid (∀ w', w = w' → Calls Tryz.prog 211 #[.slice A l.length c] w' fun e w'' => e = .returned (.slice A n c) ∧ w' = w'')) :
 Calls Tryz.prog 114 #[.pointer (some ⟨z, 0, none⟩), .bool neg, .slice A l.length c] w fun e w' => e = .returned (.pointer (some ⟨z, 0, none⟩)) ∧ (w.setCell ⟨z, 1, none⟩ (.slice A n c)).setCell ⟨z, 0, none⟩ (.bool B) = w' := by
 exact zz32
theorem Bput (z : Nat) (neg : Bool) (l : List Nat) (A : Option Addr) (c : Nat) (hw : Words l) (hc : l.length ≤ c) (hl : l.length ≤ 2000000) (w : World) (hr : RowAt w A l) (hz : IntTy w z) :
 Calls Tryz.prog 114 #[.pointer (some ⟨z, 0, none⟩), .bool neg, .slice A l.length c] w (PutI w z (sgv neg (wval l))) := by
 obtain ⟨b0, s0, c0, c1⟩ := hz.cells
 have hle : (dg (wval l)).length ≤ l.length := dg_len_le (wval_lt l hw)
 refine (Bput0 z neg l A c b0 s0 (dg (wval l)).length (decide (sgv neg (wval l) < 0)) w c0 c1 (hz.frozen 0) (hz.frozen 1) ?_ (Hh fun w' e => e ▸ Bcut l A c hw hc hl w hr)).mono ?_
 ·rw [sgv_neg]
  congr 1
  rw [decide_eq_decide]
  constructor
  ·intro h
   rcases Nat.eq_zero_or_pos (wval l) with h0 | h0
   ·rw [h0, dg_zero] at h; simp at h
   ·exact h0
  ·intro h; exact dg_len_pos om
 ·rintro e w' ⟨rfl, rfl⟩
  have := put_is hz A c (sgv neg (wval l)) (by rw [sgv_abs]; omega) (by
   rw [sgv_abs]
   intro hpos
   have hne : wval l ≠ 0 := fun h => by rw [h, dg_zero] at hpos; simp at hpos
   obtain ⟨j, hj, hjj⟩ : ∃ j, j ≤ l.length ∧ l.take j = dg (wval l) := by
    obtain ⟨j, hj, h1, h2⟩ : ∃ j, j ≤ l.length ∧ (∀ i, j ≤ i → l.getD i 0 = 0) ∧ (0 < j → l.getD (j - 1) 0 ≠ 0) := lastWord l
    exact ⟨j, hj, dg_cut l hw j hj h1 h2⟩
   rw [← hjj] at hpos ⊢
   exact hr.take j hpos)
  rw [sgv_abs] at this
  exact this
theorem Tryz.infoU32 : (Tryz.prog.info? 153).map (fun i => (i.zero, i.size, i.bytes)) = some (some (.int .u32 0), 1, 4) := by kernel_rfl
theorem RowAt.cut {w : World} {A : Option Addr} {l : List Nat} (hr : RowAt w A l) (hw : Words l) : RowAt w A (dg (wval l)) := by
 intro hpos
 obtain ⟨j, hj, h1, h2⟩ := lastWord l
 have hjj := dg_cut l hw j hj h1 h2
 rw [← hjj] at hpos ⊢
 exact hr.take j hpos
theorem retW_cut {W w : World} {A : Option Addr} {l : List Nat} {c n : Nat} (hr : RowAt w A l) (hw : Words l) (hc : l.length ≤ c) (hW : Within W w) (hn : wval l = n) : RetW W n (.returned (.slice A (dg (wval l)).length c)) w := by
 subst hn
 exact ⟨A, c, rfl, Nat.le_trans (dg_len_le (wval_lt l hw)) hc, hr.cut hw, hW⟩
def PlusRel (W : World) (g : Nat) (la lb : List Nat) (cv iv : Value) (wr : World) : Prop :=
 ∃ (k c : Nat) (o : List Nat), k ≤ la.length ∧ c ≤ 1 ∧ cv = .int .u64 (c : Int) ∧ iv = .int .i64 (k : Int) ∧ o.length = la.length + 1 ∧ Words o ∧ OwnW wr g o ∧ lo o k + 4294967296 ^ k * c = lo la k + lo lb k ∧ Within W wr
theorem PlusRel.step {W wr : World} {g : Nat} {la lb o : List Nat} {k c x y : Nat} (u v q : Int) (hk : k < la.length) (hc : c ≤ 1) (ho : o.length = la.length + 1) (hwo : Words o) (hown : OwnW wr g o) (hval : lo o k + 4294967296 ^ k * c = lo la k + lo lb k) (hin : Within W wr)
 (hx : x = la.getD k 0) (hy : y = lb.getD k 0) (hx2 : x < 4294967296) (hy2 : y < 4294967296) (hg : W.heap.size ≤ g) (hu : u = (((x + c + y) / 4294967296 : Nat) : Int)) (hv : v = (((x + c + y) % 4294967296 : Nat) : Int)) (hq : q = ((k + 1 : Nat) : Int)) :
 PlusRel W g la lb (.int .u64 u) (.int .i64 q) (wr.setCell ⟨g, k, none⟩ (.int .u32 v)) := by
 subst hu hv hq
 refine ⟨k + 1, (x + c + y) / 4294967296, o.set k ((x + c + y) % 4294967296), by omega, by omega, rfl, rfl, by rw [List.length_set]; exact ho, hwo.set _ _ om, hown.set _ _ om, ?_, hin.setCell hg _⟩
 rw [lo_set_succ _ _ _ om, lo_succ la, lo_succ lb, ← hx, ← hy, Nat.pow_succ]
 have := plus_step (P := 4294967296 ^ k) (a := x) (b := y) hval
 omega
theorem zz56 {p : Prop} (h : p := by
 have hy : y < 4294967296 := by rw [hye]; exact HWB.out.getD k
 rw [← hye] at hcb
 have HYE := Hh hye; clear hye
 go_wp2
 go_roundw
 case rel => exact PlusRel.step (x := x) (y := y) _ _ _ hlt hc HO.out HWO.out hown HV.out hin HXE.out HYE.out hx hy (Nat.le_refl _) om om om
 case measure => simp [intOf]; omega) : p := h
theorem zz65 {p : Prop} (h : p := by
 have HY0 := Hh hy0; clear hy0
 go_wp2
 go_roundw
 case rel => exact PlusRel.step (x := x) (y := 0) _ _ _ hlt hc HO.out HWO.out hown HV.out hin HXE.out HY0.out hx dc (Nat.le_refl _) om om om
 case measure => simp [intOf]; omega) : p := h
theorem Bplus_ge (la lb : List Nat) (A Bv : Option Addr) (ca cb : Nat) (hwa : Words la) (hwb : Words lb) (hla : la.length ≤ 1500000) (hge : lb.length ≤ la.length) (w : World) (hra : RowAt w A la) (hrb : RowAt w Bv lb) :
 Calls Tryz.prog 285 #[.slice A la.length ca, .slice Bv lb.length cb] w (RetW w (wval la + wval lb)) := by
 have hmk := run_make_row' (P := Tryz.prog) 92 153 (.int .u32 0) 4 kr Tryz.infoU32 rfl .i64 .i64 (la.length + 1) om om
 rw [show ((la.length + 1 : Nat) : Int) = (la.length : Int) + 1 by omega] at hmk
 have d1 : decide (la.length < lb.length) = false := decide_eq_false om
 have HWA := Hh hwa; have HWB := Hh hwb; have HRA := Hh hra; have HRB := Hh hrb; clear hwa hwb hra hrb
 have HGE := Hh hge; clear hge
 have HM := OwnW.made w (la.length + 1)
 go_enter Tryz.func285, Tryz.ntmps285
 go_wp2
 go_loopw [7, 8] (fun cv iv wr => PlusRel w w.heap.size la lb cv iv wr) (fun _ iv _ => la.length - (intOf iv).toNat)
 case atStart => exact ⟨0, 0, _, Nat.zero_le _, Nat.zero_le _, rfl, rfl, by simp, Words.zeros _, HM, by simp [lo_zero], (Within.refl w).alloc _⟩
 case round =>
  obtain ⟨k, c, o, hk, hc, rfl, rfl, ho, hwo, hown, hval, hin⟩ := hrel
  have HV := Hh hval; have HO := Hh ho; have HWO := Hh hwo; clear hval ho hwo
  rcases Nat.lt_or_ge k la.length with hlt | hlt
  ·obtain ⟨ga, rfl, hga, hca⟩ := (HRA.out.of hin).cell hlt
   obtain ⟨x, hxe⟩ : ∃ x, x = la.getD k 0 := ⟨_, rfl⟩
   have hx : x < 4294967296 := by rw [hxe]; exact HWA.out.getD k
   rw [← hxe] at hca
   have HXE := Hh hxe; clear hxe
   have hco := hown.cell (i := k) (by rw [HO.out]; omega)
   have hfo := hown.frozen k
   rcases Nat.lt_or_ge k lb.length with hlb | hlb
   ·obtain ⟨gb, rfl, hgb, hcb⟩ := (HRB.out.of hin).cell hlb
    obtain ⟨y, hye⟩ : ∃ y, y = lb.getD k 0 := ⟨_, rfl⟩
    exact zz56
   ·have hy0 : 0 = lb.getD k 0 := by simp [List.getD_eq_getElem?_getD, hlb]
    exact zz65
  ·obtain rfl : k = la.length := by omega
   have hco := hown.cell (i := la.length) (by rw [HO.out]; omega)
   have hfo := hown.frozen la.length
   have hsz := HO.out
   have hown2 := hown.set la.length c om
   have HL : Hid ((o.set la.length c).length = la.length + 1) := by rw [List.length_set]; exact hsz
   have CT := Hh (Bcut (o.set la.length c) (some ⟨w.heap.size, 0, none⟩) (la.length + 1) (HWO.out.set _ _ om) (by rw [HL.out]; exact Nat.le_refl _) (by rw [HL.out]; omega) _ hown2.at)
   rw [HL.out] at CT
   clear hsz hown2
   go_wp2_with fail
   refine (CT.out).mono ?_; rintro e1 w1 ⟨rfl, rfl⟩
   go_wp2
   go_ret
   refine retW_cut (hown.set la.length c (by rw [HO.out]; omega)).at (HWO.out.set _ _ om) (by rw [HL.out]; exact Nat.le_refl _) (hin.setCell (Nat.le_refl _) _) ?_
   rw [← lo_all (o.set la.length c) (Nat.le_of_eq HL.out), lo_set_succ _ _ _ (by rw [HO.out]; omega), HV.out, lo_all _ (Nat.le_refl _), lo_all _ HGE.out]
theorem Bplus_lt (lb la : List Nat) (Bv A : Option Addr) (cb ca : Nat) (hwa : Words lb) (hwb : Words la) (hla : lb.length ≤ 1500000) (hgt : la.length < lb.length) (w : World) (hra : RowAt w Bv lb) (hrb : RowAt w A la) :
 Calls Tryz.prog 285 #[.slice A la.length ca, .slice Bv lb.length cb] w (RetW w (wval lb + wval la)) := by
 have hmk := run_make_row' (P := Tryz.prog) 92 153 (.int .u32 0) 4 kr Tryz.infoU32 rfl .i64 .i64 (lb.length + 1) om om
 rw [show ((lb.length + 1 : Nat) : Int) = (lb.length : Int) + 1 by omega] at hmk
 have d1 : decide (la.length < lb.length) = true := decide_eq_true om
 have HWA := Hh hwa; have HWB := Hh hwb; have HRA := Hh hra; have HRB := Hh hrb; clear hwa hwb hra hrb
 have HGE := Hh (Nat.le_of_lt hgt); clear hgt
 have HM := OwnW.made w (lb.length + 1)
 go_enter Tryz.func285, Tryz.ntmps285
 go_wp2
 go_loopw [7, 8] (fun cv iv wr => PlusRel w w.heap.size lb la cv iv wr) (fun _ iv _ => lb.length - (intOf iv).toNat)
 case atStart => exact ⟨0, 0, _, Nat.zero_le _, Nat.zero_le _, rfl, rfl, by simp, Words.zeros _, HM, by simp [lo_zero], (Within.refl w).alloc _⟩
 case round =>
  obtain ⟨k, c, o, hk, hc, rfl, rfl, ho, hwo, hown, hval, hin⟩ := hrel
  have HV := Hh hval; have HO := Hh ho; have HWO := Hh hwo; clear hval ho hwo
  rcases Nat.lt_or_ge k lb.length with hlt | hlt
  ·obtain ⟨ga, rfl, hga, hca⟩ := (HRA.out.of hin).cell hlt
   obtain ⟨x, hxe⟩ : ∃ x, x = lb.getD k 0 := ⟨_, rfl⟩
   have hx : x < 4294967296 := by rw [hxe]; exact HWA.out.getD k
   rw [← hxe] at hca
   have HXE := Hh hxe; clear hxe
   have hco := hown.cell (i := k) (by rw [HO.out]; omega)
   have hfo := hown.frozen k
   rcases Nat.lt_or_ge k la.length with hlb | hlb
   ·obtain ⟨gb, rfl, hgb, hcb⟩ := (HRB.out.of hin).cell hlb
    obtain ⟨y, hye⟩ : ∃ y, y = la.getD k 0 := ⟨_, rfl⟩
    exact zz56
   ·have hy0 : 0 = la.getD k 0 := by simp [List.getD_eq_getElem?_getD, hlb]
    exact zz65
  ·obtain rfl : k = lb.length := by omega
   have hco := hown.cell (i := lb.length) (by rw [HO.out]; omega)
   have hfo := hown.frozen lb.length
   have hsz := HO.out
   have hown2 := hown.set lb.length c om
   have HL : Hid ((o.set lb.length c).length = lb.length + 1) := by rw [List.length_set]; exact hsz
   have CT := Hh (Bcut (o.set lb.length c) (some ⟨w.heap.size, 0, none⟩) (lb.length + 1) (HWO.out.set _ _ om) (by rw [HL.out]; exact Nat.le_refl _) (by rw [HL.out]; omega) _ hown2.at)
   rw [HL.out] at CT
   clear hsz hown2
   go_wp2_with fail
   refine (CT.out).mono ?_; rintro e1 w1 ⟨rfl, rfl⟩
   go_wp2
   go_ret
   refine retW_cut (hown.set lb.length c (by rw [HO.out]; omega)).at (HWO.out.set _ _ om) (by rw [HL.out]; exact Nat.le_refl _) (hin.setCell (Nat.le_refl _) _) ?_
   rw [← lo_all (o.set lb.length c) (Nat.le_of_eq HL.out), lo_set_succ _ _ _ (by rw [HO.out]; omega), HV.out, lo_all _ (Nat.le_refl _), lo_all _ HGE.out]
theorem Bplus (a b : Nat) (A Bv : Option Addr) (ca cb : Nat) (ha : (dg a).length ≤ 1500000) (hb : (dg b).length ≤ 1500000) (w : World) (hra : RowAt w A (dg a)) (hrb : RowAt w Bv (dg b)) :
 Calls Tryz.prog 285 #[.slice A (dg a).length ca, .slice Bv (dg b).length cb] w (RetW w (a + b)) := by
 rcases Nat.lt_or_ge (dg a).length (dg b).length with h | h
 ·have := Bplus_lt (dg b) (dg a) Bv A cb ca (words_dg b) (words_dg a) hb h w hrb hra
  rw [wval_dg, wval_dg, Nat.add_comm] at this
  exact this
 ·have := Bplus_ge (dg a) (dg b) A Bv ca cb (words_dg a) (words_dg b) ha h w hra hrb
  rw [wval_dg, wval_dg] at this
  exact this
def ShortRel (W : World) (g : Nat) (lm : List Nat) (d : Nat) (rv iv : Value) (wr : World) : Prop :=
 ∃ (k r : Nat) (o : List Nat), k ≤ lm.length ∧ r < d ∧ rv = .int .u64 (r : Int) ∧ iv = .int .i64 ((k : Int) - 1) ∧ o.length = lm.length ∧ Words o ∧ OwnW wr g o ∧ wval lm = wval o * d + r * 4294967296 ^ k + lo lm k ∧ (∀ j, j < k → o.getD j 0 = 0) ∧ Within W wr
theorem ShortRel.step {W wr : World} {g : Nat} {lm o : List Nat} {d k r x t : Nat} (u v q : Int) (hk : k < lm.length) (hr : r < d) (hd : d < 4294967296) (ho : o.length = lm.length) (hwo : Words o) (hown : OwnW wr g o)
 (hval : wval lm = wval o * d + r * 4294967296 ^ (k + 1) + lo lm (k + 1)) (hzero : ∀ j, j < k + 1 → o.getD j 0 = 0) (hin : Within W wr) (hx : x = lm.getD k 0) (hx2 : x < 4294967296) (ht : t = r * 4294967296 + x) (hg : W.heap.size ≤ g)
 (hu : u = ((t / d : Nat) : Int)) (hv : v = ((t % d : Nat) : Int)) (hq : q = (k : Int) - 1) :
 ShortRel W g lm d (.int .u64 v) (.int .i64 q) (wr.setCell ⟨g, k, none⟩ (.int .u32 u)) := by
 subst hu hv hq
 have hd0 : 0 < d := by omega
 have hq1 : t / d < 4294967296 := by
  rw [Nat.div_lt_iff_lt_mul hd0, ht]
  have : (r + 1) * 4294967296 ≤ d * 4294967296 := Nat.mul_le_mul_right _ hr
  rw [Nat.add_mul, Nat.mul_comm d] at this
  omega
 refine ⟨k, t % d, o.set k (t / d), by omega, Nat.mod_lt _ hd0, rfl, rfl, by rw [List.length_set]; exact ho, hwo.set _ _ hq1, hown.set _ _ om, ?_, ?_, hin.setCell hg _⟩
 ·have hs := wval_set o k (t / d) om
  rw [hzero k om, Nat.mul_zero, Nat.add_zero] at hs
  rw [lo_succ, ← hx, Nat.pow_succ] at hval
  have e := short_step (d := d) (q := wval o) (v := wval o * d + r * (4294967296 ^ k * 4294967296)) (P := 4294967296 ^ k) (r := r) rfl x ht
  rw [hs, ← e]
  omega
 ·intro j hj
  rw [lset_ne _ _ _ _ om]
  exact hzero j om
def RetS (W : World) (n r : Nat) (e : Ending) (w' : World) : Prop := ∃ A c, e = .returned (.tuple #[.slice A (dg n).length c, .int .u32 (r : Int)]) ∧ (dg n).length ≤ c ∧ RowAt w' A (dg n) ∧ Within W w'
theorem shl_or {r x t : Nat} (hr : r < 4294967296) (hx : x < 4294967296) (ht : t = r * 4294967296 + x) : bits .or .u64 ((r : Int) * 4294967296) (x : Int) = (t : Int) := by
 rw [show ((r : Int) * 4294967296) = ((r * 4294967296 : Nat) : Int) by omega, u64_or_nat _ _ om om, nat_join 32 _ _ (by rw [show (2 : Nat) ^ 32 = 4294967296 from rfl]; omega) hx, ht]
theorem Bshort0 (lm : List Nat) (A : Option Addr) (ca d : Nat) (hwm : Words lm) (hlm : lm.length ≤ 1500000) (hd0 : 0 < d) (hd : d < 4294967296) (w : World) (hra : RowAt w A lm) :
 Calls Tryz.prog 291 #[.slice A lm.length ca, .int .u32 (d : Int)] w (RetS w (wval lm / d) (wval lm % d)) := by
 have hmk := run_make_row' (P := Tryz.prog) 92 153 (.int .u32 0) 4 kr Tryz.infoU32 rfl .i64 .i64 lm.length om om
 have HWM := Hh hwm; have HRA := Hh hra; clear hwm hra
 have HM := OwnW.made w lm.length
 go_enter Tryz.func291, Tryz.ntmps291
 go_wp2
 go_loopw [7, 8] (fun rv iv wr => ShortRel w w.heap.size lm d rv iv wr) (fun _ iv _ => (intOf iv + 1).toNat)
 case atStart => exact ⟨lm.length, 0, _, Nat.le_refl _, hd0, rfl, by go_num, by simp, Words.zeros _, HM, by rw [wval_zeros, lo_all _ (Nat.le_refl _)]; simp, fun j _ => by rw [List.getD_eq_getElem?_getD, List.getElem?_replicate]; split <;> rfl, (Within.refl w).alloc _⟩
 case round =>
  obtain ⟨k, r, o, hk, hr, rfl, rfl, ho, hwo, hown, hval, hzero, hin⟩ := hrel
  have HV := Hh hval; have HO := Hh ho; have HWO := Hh hwo; have HZ := Hh hzero; clear hval ho hwo hzero
  rcases k with _ | k
  ·rw [show ((0 : Nat) : Int) - 1 = -1 from rfl]
   have CT := Hh (Bcut o (some ⟨w.heap.size, 0, none⟩) lm.length HWO.out (by rw [HO.out]; exact Nat.le_refl _) (by rw [HO.out]; omega) _ hown.at)
   rw [HO.out] at CT
   have wr32 : IntKind.u32.wrap (r : Int) = (r : Int) := IntWalk.u32_in _ ⟨by omega, by omega⟩
   go_wp2_with fail
   refine (CT.out).mono ?_; rintro e1 w1 ⟨rfl, rfl⟩
   go_wp2
   go_ret2
   have hvv := HV.out
   rw [Nat.pow_zero, Nat.mul_one, lo_zero, Nat.add_zero, Nat.mul_comm (wval o)] at hvv
   have e1 : wval lm / d = wval o := by rw [hvv, Nat.mul_add_div hd0, Nat.div_eq_of_lt hr, Nat.add_zero]
   have e2 : wval lm % d = r := by rw [hvv, Nat.mul_add_mod, Nat.mod_eq_of_lt hr]
   rw [e1, e2]
   exact ⟨_, _, rfl, Nat.le_trans (dg_len_le (wval_lt o HWO.out)) (by rw [HO.out]; exact Nat.le_refl _), hown.at.cut HWO.out, hin⟩
  ·obtain ⟨ga, rfl, hga, hca⟩ := (HRA.out.of hin).cell (i := k) om
   obtain ⟨x, hxe⟩ : ∃ x, x = lm.getD k 0 := ⟨_, rfl⟩
   have hx : x < 4294967296 := by rw [hxe]; exact HWM.out.getD k
   rw [← hxe] at hca
   have HXE := Hh hxe; clear hxe
   have hco := hown.cell (i := k) (by rw [HO.out]; omega)
   have hfo := hown.frozen k
   obtain ⟨t, ht⟩ : ∃ t, t = r * 4294967296 + x := ⟨_, rfl⟩
   have hr32 : r < 4294967296 := by omega
   have gsh : IntKind.u64.wrap ((r : Int) * 4294967296) = (r : Int) * 4294967296 := by rw [IntKind.wrap_u64]; omega
   have gor := shl_or hr32 hx ht
   have ht2 : t < d * 4294967296 := by
    have : (r + 1) * 4294967296 ≤ d * 4294967296 := Nat.mul_le_mul_right _ hr
    rw [Nat.add_mul] at this
    omega
   have q1 : t / d < 4294967296 := by rw [Nat.div_lt_iff_lt_mul hd0, Nat.mul_comm]; exact ht2
   have r1 := Nat.mod_lt t hd0
   have HST := Hh (fun (u v q : Int) => ShortRel.step (d := d) (x := x) (t := t) u v q om hr hd HO.out HWO.out hown HV.out HZ.out hin HXE.out hx ht (Nat.le_refl _))
   clear ht
   have ed : (t : Int) / (d : Int) = ((t / d : Nat) : Int) := by simp
   have em : (t : Int) % (d : Int) = ((t % d : Nat) : Int) := by simp
   obtain ⟨tq, htq⟩ : ∃ q, q = t / d := ⟨_, rfl⟩
   obtain ⟨tr, htr⟩ : ∃ q, q = t % d := ⟨_, rfl⟩
   rw [← htq] at ed q1 HST; rw [← htr] at em r1 HST
   have HQR := Hh (And.intro htq htr); clear htq htr
   have dz : ((d : Int) == 0) = false := beq_eq_false_iff_ne.2 om
   have e1 : ((k + 1 : Nat) : Int) - 1 = (k : Int) := by omega
   rw [e1]
   go_wp2
   go_roundw
   case rel => exact HST.out _ _ _ om om om
   case measure => simp [intOf]
theorem Bshort (n d : Nat) (A : Option Addr) (ca : Nat) (hn : (dg n).length ≤ 1500000) (hd0 : 0 < d) (hd : d < 4294967296) (w : World) (hra : RowAt w A (dg n)) :
 Calls Tryz.prog 291 #[.slice A (dg n).length ca, .int .u32 (d : Int)] w (RetS w (n / d) (n % d)) := by
 have := Bshort0 (dg n) A ca d (words_dg n) hn hd0 hd w hra
 rw [wval_dg] at this
 exact this
def LessRel (W : World) (g : Nat) (o0 ld : List Nat) (j q : Nat) (cv bv iv : Value) (wr : World) : Prop :=
 ∃ (k c br : Nat) (o : List Nat), k ≤ ld.length ∧ c < 4294967296 ∧ br ≤ 1 ∧ cv = .int .u64 (c : Int) ∧ bv = .int .u64 (br : Int) ∧ iv = .int .i64 (k : Int) ∧ o.length = o0.length ∧ Words o ∧ OwnW wr g o ∧
  lo o (j + k) + 4294967296 ^ j * (q * lo ld k) = lo o0 (j + k) + 4294967296 ^ (j + k) * (c + br) ∧ lo o j = lo o0 j ∧ (∀ i, j + k ≤ i → o.getD i 0 = o0.getD i 0) ∧ W.grownBy wr (some g)
theorem LessRel.step {W wr : World} {g : Nat} {o0 ld o : List Nat} {j q k c br x y z b : Nat} (u v p qq : Int) (hn : j + k < o.length) (hk : k < ld.length) (hc : c < 4294967296) (hq : q < 4294967296) (ho : o.length = o0.length) (hwo : Words o) (hown : OwnW wr g o)
 (hval : lo o (j + k) + 4294967296 ^ j * (q * lo ld k) = lo o0 (j + k) + 4294967296 ^ (j + k) * (c + br)) (hlow : lo o j = lo o0 j) (hrest : ∀ i, j + k ≤ i → o.getD i 0 = o0.getD i 0) (hin : W.grownBy wr (some g))
 (hx : x = o.getD (j + k) 0) (hy : y = ld.getD k 0) (hy2 : y < 4294967296) (hz : z + ((q * y + c) % 4294967296 + br) = x + 4294967296 * b) (hz2 : z < 4294967296) (hb : b ≤ 1)
 (hu : u = ((z : Nat) : Int)) (hv : v = (((q * y + c) / 4294967296 : Nat) : Int)) (hp : p = (b : Int)) (hqq : qq = ((k + 1 : Nat) : Int)) :
 LessRel W g o0 ld j q (.int .u64 v) (.int .u64 p) (.int .i64 qq) (wr.setCell ⟨g, j + k, none⟩ (.int .u32 u)) := by
 subst hu hv hp hqq
 have hm := word_mul hq hy2
 refine ⟨k + 1, (q * y + c) / 4294967296, b, o.set (j + k) z, by omega, by omega, hb, rfl, rfl, rfl, by rw [List.length_set]; exact ho, hwo.set _ _ hz2, hown.set _ _ hn, ?_, ?_, ?_, grown_set hin _⟩
 ·rw [show j + (k + 1) = j + k + 1 by omega, lo_set_succ _ _ _ hn, lo_succ o0, lo_succ ld, ← hy, ← hrest (j + k) (Nat.le_refl _), ← hx, Nat.pow_succ]
  have := less_step (Q := 4294967296 ^ (j + k)) (x := x) (y := y) (g := q) (c := c) (br := br) (z := z) (b := b) hval hz
  rw [Nat.mul_add q, Nat.mul_add (4294967296 ^ j)]
  rw [show 4294967296 ^ j * (q * (4294967296 ^ k * y)) = 4294967296 ^ (j + k) * (q * y) by rw [Nat.pow_add, Nat.mul_assoc, Nat.mul_left_comm q]]
  exact this
 ·rw [lo_set_ge _ _ _ _ om]; exact hlow
 ·intro i hi
  rw [lset_ne _ _ _ _ om]
  exact hrest i om
def LessOut (W : World) (g : Nat) (o0 : List Nat) (D n j q : Nat) (e : Ending) (w' : World) : Prop :=
 ∃ (b : Nat) (o : List Nat), b ≤ 1 ∧ e = .returned (.bool (decide (b = 1))) ∧ o.length = o0.length ∧ Words o ∧ OwnW w' g o ∧ lo o (j + n + 1) + 4294967296 ^ j * (q * D) = lo o0 (j + n + 1) + 4294967296 ^ (j + n + 1) * b ∧ lo o j = lo o0 j ∧ (∀ i, j + n < i → o.getD i 0 = o0.getD i 0) ∧ W.grownBy w' (some g)
theorem LessOut.mk' {W wr : World} {g : Nat} {o0 ld o : List Nat} {j q c br x y z b : Nat} {u : Int} (hn : j + ld.length < o.length) (ho : o.length = o0.length) (hwo : Words o) (hown : OwnW wr g o)
 (hval : lo o (j + ld.length) + 4294967296 ^ j * (q * lo ld ld.length) = lo o0 (j + ld.length) + 4294967296 ^ (j + ld.length) * (c + br)) (hlow : lo o j = lo o0 j) (hrest : ∀ i, j + ld.length ≤ i → o.getD i 0 = o0.getD i 0) (hin : W.grownBy wr (some g))
 (hx : x = o.getD (j + ld.length) 0) (hy : y = c + br) (hz : z + y = x + 4294967296 * b) (hz2 : z < 4294967296) (hb : b ≤ 1) (hu : u = (z : Int)) :
 LessOut W g o0 (wval ld) ld.length j q (.returned (.bool (decide (b = 1)))) (wr.setCell ⟨g, j + ld.length, none⟩ (.int .u32 u)) := by
 subst hu hy
 refine ⟨b, o.set (j + ld.length) z, hb, rfl, by rw [List.length_set]; exact ho, hwo.set _ _ hz2, hown.set _ _ hn, ?_, ?_, ?_, grown_set hin _⟩
 ·rw [lo_set_succ _ _ _ hn, lo_succ o0, ← hrest _ (Nat.le_refl _), ← hx, Nat.pow_succ]
  rw [lo_all ld (Nat.le_refl _)] at hval
  exact less_end hval hz
 ·rw [lo_set_ge _ _ _ _ om]; exact hlow
 ·intro i hi
  rw [lset_ne _ _ _ _ om]
  exact hrest i om
theorem Bless (o0 ld : List Nat) (g cu cd j q : Nat) (Dv : Option Addr) (hwo0 : Words o0) (hwd : Words ld) (hlo : o0.length ≤ 1500000) (hj : j + ld.length < o0.length) (hcu : o0.length ≤ cu) (hq : q < 4294967296) (W w : World) (hW : Within W w) (hg : W.heap.size ≤ g) (hown0 : OwnW w g o0) (hrd : RowAt W Dv ld) :
 Calls Tryz.prog 294 #[.slice (some ⟨g, 0, none⟩) o0.length cu, .slice Dv ld.length cd, .int .i64 (j : Int), .int .u64 (q : Int)] w (LessOut w g o0 (wval ld) ld.length j q) := by
 have HWO0 := Hh hwo0; have HWD := Hh hwd; have HRD := Hh hrd; have HW := Hh hW; have HOW := Hh hown0; have HCU := Hh hcu; clear hwo0 hwd hrd hW hown0 hcu
 have HG := Hh hg; clear hg
 obtain ⟨n, hn⟩ : ∃ n, n = o0.length := ⟨_, rfl⟩
 have HN := Hh hn
 rw [← hn] at hj hlo ⊢
 clear hn
 go_enter Tryz.func294, Tryz.ntmps294
 go_wp2
 go_loopw [9, 10, 11] (fun cv bv iv wr => LessRel w g o0 ld j q cv bv iv wr) (fun _ _ iv _ => ld.length - (intOf iv).toNat)
 case atStart => exact ⟨0, 0, 0, o0, Nat.zero_le _, by decide, by decide, rfl, rfl, rfl, rfl, HWO0.out, HOW.out, by simp [lo_zero], rfl, fun _ _ => rfl, grown_within g (Within.refl _)⟩
 case round =>
  obtain ⟨k, c, br, o, hk, hc, hbr, rfl, rfl, rfl, ho, hwo, hown, hval, hlow, hrest, hin⟩ := hrel
  have HV := Hh hval; have HO := Hh (ho.trans HN.out.symm); have HO2 := Hh ho; have HWO := Hh hwo; have HLO := Hh hlow; have HR := Hh hrest; clear hval ho hwo hlow hrest
  rcases Nat.lt_or_ge k ld.length with hlt | hlt
  ·obtain ⟨gd, rfl, hgd, hcd⟩ := (HRD.out.of (Within.grown HW.out hin HG.out)).cell hlt
   obtain ⟨y, hye⟩ : ∃ y, y = ld.getD k 0 := ⟨_, rfl⟩
   have hy : y < 4294967296 := by rw [hye]; exact HWD.out.getD k
   rw [← hye] at hcd
   have HYE := Hh hye; clear hye
   have hco := hown.cell (i := j + k) (by rw [HO.out]; omega)
   have hfo := hown.frozen (j + k)
   obtain ⟨x, hxe⟩ : ∃ x, x = o.getD (j + k) 0 := ⟨_, rfl⟩
   have hx : x < 4294967296 := by rw [hxe]; exact HWO.out.getD _
   rw [← hxe] at hco
   have HXE := Hh hxe; clear hxe
   have hm := word_mul hq hy
   have HST := Hh (fun (z b : Nat) (u v p qq : Int) => LessRel.step (x := x) (y := y) (z := z) (b := b) u v p qq (by rw [HO.out]; omega) hlt hc hq HO2.out HWO.out hown HV.out HLO.out HR.out hin HXE.out HYE.out hy)
   obtain ⟨p, hp⟩ : ∃ p, p = q * y := ⟨_, rfl⟩
   have e0 : (q : Int) * y = (p : Int) := by rw [hp]; simp
   rw [← hp] at hm HST
   clear hp
   have e1 : IntKind.u64.wrap (p : Int) = p := by rw [IntKind.wrap_u64]; omega
   have e2 : IntKind.u64.wrap ((p : Int) + c) = (p : Int) + c := by rw [IntKind.wrap_u64]; omega
   have e4 : IntKind.i64.wrap ((j : Int) + k) = (j : Int) + k := IntWalk.i64_in _ om
   have e5 : ((j : Int) + k).toNat = j + k := by omega
   have ea : bits .and .u64 ((p : Int) + c) 4294967295 = ((p + c) % 4294967296 : Nat) := by
    rw [show (p : Int) + c = ((p + c : Nat) : Int) by omega]
    have := u64_mask 32 dc (p + c) om
    simpa using this
   obtain ⟨pl, hpl⟩ : ∃ pl, pl = (p + c) % 4294967296 := ⟨_, rfl⟩
   have hpl2 : pl < 4294967296 := by omega
   rw [← hpl] at ea HST
   obtain ⟨ph, hph⟩ : ∃ ph, ph = (p + c) / 4294967296 := ⟨_, rfl⟩
   have ed : ((p : Int) + c) / 4294967296 = (ph : Int) := by rw [hph]; omega
   rw [← hph] at HST
   have HPP := Hh (And.intro hpl hph); clear hpl hph
   have e6 : IntKind.u64.wrap ((pl : Int) + br) = (pl : Int) + br := by rw [IntKind.wrap_u64]; omega
   rcases Nat.lt_or_ge x (pl + br) with hxy | hxy
   ·have dx : decide ((x : Int) < (pl : Int) + br) = true := decide_eq_true om
    have HB := Hh (And.intro hm hc); clear hm
    go_wp2
    go_roundw
    case rel => exact HST.out (x + 4294967296 - (pl + br)) 1 _ _ _ _ om om dc om om om om
    case measure => simp [intOf]; omega
   ·have dx : decide ((x : Int) < (pl : Int) + br) = false := decide_eq_false om
    have HB := Hh (And.intro hm hc); clear hm
    go_wp2
    go_roundw
    case rel => exact HST.out (x - (pl + br)) 0 _ _ _ _ om om dc om om om om
    case measure => simp [intOf]; omega
  ·obtain rfl : k = ld.length := by omega
   have hco := hown.cell (i := j + ld.length) (by rw [HO.out]; omega)
   have hfo := hown.frozen (j + ld.length)
   obtain ⟨x, hxe⟩ : ∃ x, x = o.getD (j + ld.length) 0 := ⟨_, rfl⟩
   have hx : x < 4294967296 := by rw [hxe]; exact HWO.out.getD _
   rw [← hxe] at hco
   have HXE := Hh hxe; clear hxe
   have HEND := Hh (fun (z b : Nat) (u : Int) => LessOut.mk' (x := x) (y := c + br) (z := z) (b := b) (u := u) (by rw [HO.out]; omega) HO2.out HWO.out hown HV.out HLO.out HR.out hin HXE.out rfl)
   have e4 : IntKind.i64.wrap ((j : Int) + ld.length) = (j : Int) + ld.length := IntWalk.i64_in _ om
   have e5 : ((j : Int) + ld.length).toNat = j + ld.length := by omega
   have e6 : IntKind.u64.wrap ((c : Int) + br) = (c : Int) + br := by rw [IntKind.wrap_u64]; omega
   rcases Nat.lt_or_ge x (c + br) with hxy | hxy
   ·have dx : decide ((x : Int) < (c : Int) + br) = true := decide_eq_true om
    go_wp2
    go_ret
    exact HEND.out (x + 4294967296 - (c + br)) 1 _ om om dc (by rw [IntKind.wrap_u64]; omega)
   ·have dx : decide ((x : Int) < (c : Int) + br) = false := decide_eq_false om
    go_wp2
    go_ret
    exact HEND.out (x - (c + br)) 0 _ om om dc om
def MoreRel (W : World) (g : Nat) (o0 ld : List Nat) (j : Nat) (cv iv : Value) (wr : World) : Prop :=
 ∃ (k c : Nat) (o : List Nat), k ≤ ld.length ∧ c ≤ 1 ∧ cv = .int .u64 (c : Int) ∧ iv = .int .i64 (k : Int) ∧ o.length = o0.length ∧ Words o ∧ OwnW wr g o ∧
  lo o (j + k) + 4294967296 ^ (j + k) * c = lo o0 (j + k) + 4294967296 ^ j * lo ld k ∧ lo o j = lo o0 j ∧ (∀ i, j + k ≤ i → o.getD i 0 = o0.getD i 0) ∧ W.grownBy wr (some g)
theorem MoreRel.step {W wr : World} {g : Nat} {o0 ld o : List Nat} {j k c x y n : Nat} (u v qq : Int) (hn : j + k < o.length) (hk : k < ld.length) (hc : c ≤ 1) (ho : o.length = o0.length) (hwo : Words o) (hown : OwnW wr g o)
 (hval : lo o (j + k) + 4294967296 ^ (j + k) * c = lo o0 (j + k) + 4294967296 ^ j * lo ld k) (hlow : lo o j = lo o0 j) (hrest : ∀ i, j + k ≤ i → o.getD i 0 = o0.getD i 0) (hin : W.grownBy wr (some g))
 (hx : x = o.getD (j + k) 0) (hx2 : x < 4294967296) (hy : y = ld.getD k 0) (hy2 : y < 4294967296)
 (hu : u = (((x + c + y) % 4294967296 : Nat) : Int)) (hv : v = (((x + c + y) / 4294967296 : Nat) : Int)) (hqq : qq = ((k + 1 : Nat) : Int)) :
 MoreRel W g o0 ld j (.int .u64 v) (.int .i64 qq) ((wr.drewN n).setCell ⟨g, j + k, none⟩ (.int .u32 u)) := by
 subst hu hv hqq
 refine ⟨k + 1, (x + c + y) / 4294967296, o.set (j + k) ((x + c + y) % 4294967296), by omega, by omega, rfl, rfl, by rw [List.length_set]; exact ho, hwo.set _ _ om, OwnW.set (w := wr.drewN n) hown _ _ hn, ?_, ?_, ?_, grown_set (grown_trans hin (grown_within g ((Within.refl _).drewN n))) _⟩
 ·rw [show j + (k + 1) = j + k + 1 by omega, lo_set_succ _ _ _ hn, lo_succ o0, lo_succ ld, ← hy, ← hrest (j + k) (Nat.le_refl _), ← hx, Nat.pow_succ]
  have := plus_step (P := 4294967296 ^ (j + k)) (a := x) (b := y) (c := c) hval
  rw [Nat.mul_add (4294967296 ^ j), ← Nat.mul_assoc (4294967296 ^ j), ← Nat.pow_add]
  omega
 ·rw [lo_set_ge _ _ _ _ om]; exact hlow
 ·intro i hi
  rw [lset_ne _ _ _ _ om]
  exact hrest i om
def MoreOut (W : World) (g : Nat) (o0 : List Nat) (D n j : Nat) (e : Ending) (w' : World) : Prop :=
 ∃ (b : Nat) (o : List Nat), b ≤ 1 ∧ e = .returned (.tuple #[]) ∧ o.length = o0.length ∧ Words o ∧ OwnW w' g o ∧ lo o (j + n + 1) + 4294967296 ^ (j + n + 1) * b = lo o0 (j + n + 1) + 4294967296 ^ j * D ∧ lo o j = lo o0 j ∧ (∀ i, j + n < i → o.getD i 0 = o0.getD i 0) ∧ W.grownBy w' (some g)
theorem MoreOut.mk' {W wr : World} {g : Nat} {o0 ld o : List Nat} {j c x : Nat} {u : Int} (hn : j + ld.length < o.length) (ho : o.length = o0.length) (hwo : Words o) (hown : OwnW wr g o) (hc : c ≤ 1)
 (hval : lo o (j + ld.length) + 4294967296 ^ (j + ld.length) * c = lo o0 (j + ld.length) + 4294967296 ^ j * lo ld ld.length) (hlow : lo o j = lo o0 j) (hrest : ∀ i, j + ld.length ≤ i → o.getD i 0 = o0.getD i 0) (hin : W.grownBy wr (some g))
 (hx : x = o.getD (j + ld.length) 0) (hx2 : x < 4294967296) (hu : u = (((x + c) % 4294967296 : Nat) : Int)) :
 MoreOut W g o0 (wval ld) ld.length j (.returned (.tuple #[])) (wr.setCell ⟨g, j + ld.length, none⟩ (.int .u32 u)) := by
 subst hu
 refine ⟨(x + c) / 4294967296, o.set (j + ld.length) ((x + c) % 4294967296), by omega, rfl, by rw [List.length_set]; exact ho, hwo.set _ _ om, hown.set _ _ hn, ?_, ?_, ?_, grown_set hin _⟩
 ·rw [lo_set_succ _ _ _ hn, lo_succ o0, ← hrest _ (Nat.le_refl _), ← hx, Nat.pow_succ]
  rw [lo_all ld (Nat.le_refl _)] at hval
  have := plus_step (P := 4294967296 ^ (j + ld.length)) (a := x) (b := 0) (c := c) hval
  rw [Nat.add_zero, Nat.mul_zero] at this
  omega
 ·rw [lo_set_ge _ _ _ _ om]; exact hlow
 ·intro i hi
  rw [lset_ne _ _ _ _ om]
  exact hrest i om
theorem Bmore (o0 ld : List Nat) (g cu cd j : Nat) (Dv : Option Addr) (hwo0 : Words o0) (hwd : Words ld) (hlo : o0.length ≤ 1500000) (hj : j + ld.length < o0.length) (W w : World) (hW : Within W w) (hg : W.heap.size ≤ g) (hown0 : OwnW w g o0) (hrd : RowAt W Dv ld) :
 Calls Tryz.prog 295 #[.slice (some ⟨g, 0, none⟩) o0.length cu, .slice Dv ld.length cd, .int .i64 (j : Int)] w (MoreOut w g o0 (wval ld) ld.length j) := by
 have HWO0 := Hh hwo0; have HWD := Hh hwd; have HRD := Hh hrd; have HW := Hh hW; have HOW := Hh hown0; clear hwo0 hwd hrd hW hown0
 have HG := Hh hg; clear hg
 obtain ⟨n, hn⟩ : ∃ n, n = o0.length := ⟨_, rfl⟩
 have HN := Hh hn
 rw [← hn] at hj hlo ⊢
 clear hn
 go_enter Tryz.func295, Tryz.ntmps295
 go_wp2
 go_loopw [6, 7] (fun cv iv wr => MoreRel w g o0 ld j cv iv wr) (fun _ iv _ => ld.length - (intOf iv).toNat)
 case atStart => exact ⟨0, 0, o0, Nat.zero_le _, by decide, rfl, rfl, rfl, HWO0.out, HOW.out, by simp [lo_zero], rfl, fun _ _ => rfl, grown_within g (Within.refl _)⟩
 case round =>
  obtain ⟨k, c, o, hk, hc, rfl, rfl, ho, hwo, hown, hval, hlow, hrest, hin⟩ := hrel
  have HV := Hh hval; have HO := Hh (ho.trans HN.out.symm); have HO2 := Hh ho; have HWO := Hh hwo; have HLO := Hh hlow; have HR := Hh hrest; clear hval ho hwo hlow hrest
  rcases Nat.lt_or_ge k ld.length with hlt | hlt
  ·obtain ⟨gd, rfl, hgd, hcd⟩ := (HRD.out.of (Within.grown HW.out hin HG.out)).cell hlt
   obtain ⟨y, hye⟩ : ∃ y, y = ld.getD k 0 := ⟨_, rfl⟩
   have hy : y < 4294967296 := by rw [hye]; exact HWD.out.getD k
   rw [← hye] at hcd
   have HYE := Hh hye; clear hye
   have hco := hown.cell (i := j + k) (by rw [HO.out]; omega)
   have hfo := hown.frozen (j + k)
   obtain ⟨x, hxe⟩ : ∃ x, x = o.getD (j + k) 0 := ⟨_, rfl⟩
   have hx : x < 4294967296 := by rw [hxe]; exact HWO.out.getD _
   rw [← hxe] at hco
   have HXE := Hh hxe; clear hxe
   have HST := Hh (fun (n : Nat) (u v qq : Int) => MoreRel.step (x := x) (y := y) (n := n) u v qq (by rw [HO.out]; omega) hlt hc HO2.out HWO.out hown HV.out HLO.out HR.out hin HXE.out hx HYE.out hy)
   have e1 : IntKind.u64.wrap ((x : Int) + y) = (x : Int) + y := by rw [IntKind.wrap_u64]; omega
   have e2 : IntKind.u64.wrap ((x : Int) + y + c) = (x : Int) + y + c := by rw [IntKind.wrap_u64]; omega
   have e4 : IntKind.i64.wrap ((j : Int) + k) = (j : Int) + k := IntWalk.i64_in _ om
   have e5 : ((j : Int) + k).toNat = j + k := by omega
   go_wp2
   go_quiet (fail)
   go_wp2
   go_roundw
   case rel => exact HST.out _ _ _ _ om om om
   case measure => simp [intOf]; omega
  ·obtain rfl : k = ld.length := by omega
   have hco := hown.cell (i := j + ld.length) (by rw [HO.out]; omega)
   have hfo := hown.frozen (j + ld.length)
   obtain ⟨x, hxe⟩ : ∃ x, x = o.getD (j + ld.length) 0 := ⟨_, rfl⟩
   have hx : x < 4294967296 := by rw [hxe]; exact HWO.out.getD _
   rw [← hxe] at hco
   have HXE := Hh hxe; clear hxe
   have HEND := Hh (fun (u : Int) => MoreOut.mk' (x := x) (u := u) (by rw [HO.out]; omega) HO2.out HWO.out hown hc HV.out HLO.out HR.out hin HXE.out hx)
   have e4 : IntKind.i64.wrap ((j : Int) + ld.length) = (j : Int) + ld.length := IntWalk.i64_in _ om
   have e5 : ((j : Int) + ld.length).toNat = j + ld.length := by omega
   have e6 : IntKind.u32.wrap (c : Int) = (c : Int) := IntWalk.u32_in _ ⟨by omega, by omega⟩
   go_wp2
   go_end0
   exact HEND.out _ om
theorem repl_getD (n j : Nat) : (List.replicate n 0).getD j 0 = 0 := by
 rw [List.getD_eq_getElem?_getD, List.getElem?_replicate]
 by_cases h : j < n
 ·rw [if_pos h]; rfl
 ·rw [if_neg h]; rfl
def LeftRel (W : World) (g : Nat) (la : List Nat) (W0 S0 : Nat) (iv : Value) (wr : World) : Prop :=
 ∃ (k : Nat) (o : List Nat), k ≤ la.length ∧ iv = .int .i64 (k : Int) ∧ o.length = W0 + la.length + 1 ∧ Words o ∧ OwnW wr g o ∧ lo o (W0 + k + 1) = lo la k * 2 ^ S0 * 4294967296 ^ W0 ∧ o.getD (W0 + k) 0 < 2 ^ S0 ∧ (∀ j, W0 + k < j → o.getD j 0 = 0) ∧ Within W wr
theorem low_lt {x S0 z : Nat} (hS : S0 < 32) (hz : z < 2 ^ S0) : z + x * 2 ^ S0 % 4294967296 < 4294967296 := by
 rw [left_low hS]
 have h1 : x % 2 ^ (32 - S0) < 2 ^ (32 - S0) := Nat.mod_lt _ (Nat.two_pow_pos _)
 have h2 : (x % 2 ^ (32 - S0) + 1) * 2 ^ S0 ≤ 2 ^ (32 - S0) * 2 ^ S0 := Nat.mul_le_mul_right _ h1
 rw [← Nat.pow_add, show 32 - S0 + S0 = 32 by omega, Nat.add_mul] at h2
 omega
theorem low_or {x S0 z : Nat} (hS : S0 < 32) (hz : z < 2 ^ S0) : bits .or .u32 (z : Int) ((x * 2 ^ S0 % 4294967296 : Nat) : Int) = ((z + x * 2 ^ S0 % 4294967296 : Nat) : Int) := by
 have h1 := low_lt (x := x) hS hz
 rw [u32_or_nat _ _ om om, Nat.or_comm, nat_join S0 _ _ (by rw [left_low hS, Nat.mul_mod_left]) hz, Nat.add_comm]
theorem LeftRel.step {W wr : World} {g : Nat} {la o : List Nat} {W0 S0 k x z : Nat} (u v q : Int) (hk : k < la.length) (hS : S0 < 32) (ho : o.length = W0 + la.length + 1) (hwo : Words o) (hown : OwnW wr g o)
 (hval : lo o (W0 + k + 1) = lo la k * 2 ^ S0 * 4294967296 ^ W0) (hlow : z < 2 ^ S0) (hzero : ∀ j, W0 + k < j → o.getD j 0 = 0) (hin : Within W wr)
 (hx : x = la.getD k 0) (hz : z = o.getD (W0 + k) 0) (hx2 : x < 4294967296) (hg : W.heap.size ≤ g) (hu : u = ((z + x * 2 ^ S0 % 4294967296 : Nat) : Int)) (hv : v = ((x * 2 ^ S0 / 4294967296 : Nat) : Int)) (hq : q = ((k + 1 : Nat) : Int)) :
 LeftRel W g la W0 S0 (.int .i64 q) ((wr.setCell ⟨g, W0 + k, none⟩ (.int .u32 u)).setCell ⟨g, W0 + k + 1, none⟩ (.int .u32 v)) := by
 subst hu hv hq
 have hh := left_high (m := x) (s := S0) hx2
 have h32 : 2 ^ S0 ≤ 4294967296 := by rw [show (4294967296 : Nat) = 2 ^ 32 from rfl]; exact Nat.pow_le_pow_right dc om
 have hl := low_lt (x := x) hS hlow
 generalize hL : x * 2 ^ S0 % 4294967296 = L at *
 generalize hH : x * 2 ^ S0 / 4294967296 = H at *
 have ho1 : (o.set (W0 + k) (z + L)).length = W0 + la.length + 1 := by rw [List.length_set]; exact ho
 refine ⟨k + 1, (o.set (W0 + k) (z + L)).set (W0 + k + 1) H, by omega, rfl, by rw [List.length_set]; exact ho1, (hwo.set _ _ hl).set _ _ om, (hown.set _ _ om).set _ _ om, ?_, ?_, ?_, (hin.setCell hg _).setCell hg _⟩
 ·rw [show W0 + (k + 1) + 1 = W0 + k + 1 + 1 by omega, lo_set_succ _ _ _ om, lo_set_succ _ _ _ om, lo_succ la, ← hx]
  rw [lo_succ, ← hz] at hval
  have := left_step (P := 4294967296 ^ (W0 + k)) (t := x * 2 ^ S0) hval
  rw [hL, hH] at this
  rw [Nat.pow_succ, this, Nat.add_mul, Nat.add_mul, Nat.pow_add]
  congr 1
  rw [Nat.mul_comm (4294967296 ^ W0), Nat.mul_assoc, Nat.mul_assoc, Nat.mul_assoc, Nat.mul_comm (4294967296 ^ W0), Nat.mul_assoc]
 ·rw [show W0 + (k + 1) = W0 + k + 1 by omega, getD_set_eq _ _ _ om]; exact hh
 ·intro j hj
  rw [lset_ne _ _ _ _ om, lset_ne _ _ _ _ om]
  exact hzero j om
theorem zz20 {p : Prop} (h : p := by
 obtain ⟨ga, rfl, hga, hca⟩ := (HRA.out.of hin).cell hlt
 obtain ⟨x, hxe⟩ : ∃ x, x = la.getD k 0 := ⟨_, rfl⟩
 have hx : x < 4294967296 := by rw [hxe]; exact HWA.out.getD k
 rw [← hxe] at hca
 have HXE := Hh hxe; clear hxe
 obtain ⟨z, hze⟩ : ∃ z, z = o.getD (W0 + k) 0 := ⟨_, rfl⟩
 have hco := hown.cell (i := W0 + k) (by rw [HO.out]; omega)
 have hfo := hown.frozen (W0 + k)
 have hco1 := hown.cell (i := W0 + k + 1) (by rw [HO.out]; omega)
 have hfo1 := hown.frozen (W0 + k + 1)
 rw [← hze] at hco hlow
 have HZE := Hh hze; clear hze
 have gsh : IntKind.u64.wrap ((x : Int) * 2 ^ S0) = ((x * 2 ^ S0 : Nat) : Int) := by
  have e : (x : Int) * 2 ^ S0 = ((x * 2 ^ S0 : Nat) : Int) := by simp
  have := left_high (m := x) (s := S0) hx
  have h32 : 2 ^ S0 ≤ 4294967296 := by rw [show (4294967296 : Nat) = 2 ^ 32 from rfl]; exact Nat.pow_le_pow_right dc om
  rw [e, IntKind.wrap_u64]; omega
 have gor := low_or (x := x) hS hlow
 have hH : x * 2 ^ S0 / 4294967296 < 4294967296 := by
  have := left_high (m := x) (s := S0) hx
  have h32 : 2 ^ S0 ≤ 4294967296 := by rw [show (4294967296 : Nat) = 2 ^ 32 from rfl]; exact Nat.pow_le_pow_right dc om
  omega
 have hstep := fun (u v q : Int) => LeftRel.step (S0 := S0) (x := x) (z := z) u v q hlt hS HO.out HWO.out hown HV.out hlow HZ.out hin HXE.out HZE.out hx (Nat.le_refl _)
 have HST := Hh hstep; clear hstep
 obtain ⟨t, ht⟩ : ∃ t, t = x * 2 ^ S0 := ⟨_, rfl⟩
 rw [← ht] at gsh gor hH
 rw [Int.natCast_emod] at gor
 have HT := Hh ht; clear ht
 have g3 : (t : Int) / 4294967296 % 4294967296 = ((t / 4294967296 : Nat) : Int) := by omega
 go_wp2
 go_roundw
 case rel => exact HST.out _ _ _ (by rw [← HT.out]; first | rfl | exact gor) (by rw [← HT.out]; first | rfl | exact g3) om
 case measure => simp [intOf]; omega) : p := h
theorem zz81 {p : Prop} (h : p := by
 rw [← lo_all o (Nat.le_of_eq HO.out), HV.out, lo_all _ (Nat.le_refl _), HN.out, Nat.mul_assoc, show (4294967296 : Nat) = 2 ^ 32 from rfl, ← Nat.pow_mul, ← Nat.pow_add, Nat.add_comm S0]) : p := h
theorem Bleft_pos (la : List Nat) (A : Option Addr) (ca n W0 S0 : Nat) (hwa : Words la) (hla : la.length ≤ 500000) (h0 : 0 < la.length) (hn : n = 32 * W0 + S0) (hS : S0 < 32) (hW : W0 ≤ 500000) (w : World) (hra : RowAt w A la) :
 Calls Tryz.prog 293 #[.slice A la.length ca, .int .u64 (n : Int)] w (RetW w (wval la * 2 ^ n)) := by
 have hmk := run_make_row' (P := Tryz.prog) 92 153 (.int .u32 0) 4 kr Tryz.infoU32 rfl .i64 .i64 (W0 + la.length + 1) om om
 rw [show ((W0 + la.length + 1 : Nat) : Int) = (W0 : Int) + (la.length : Int) + 1 by omega] at hmk
 have HWA := Hh hwa; have HRA := Hh hra; clear hwa hra
 have hq : (n : Int) / 32 = (W0 : Int) := by omega
 have hr : (n : Int) % 32 = (S0 : Int) := by omega
 have d0 : ((la.length : Int) == 0) = false := beq_eq_false_iff_ne.2 om
 have HN := Hh hn; clear hn
 have HM := OwnW.made w (W0 + la.length + 1)
 go_enter Tryz.func293, Tryz.ntmps293
 go_wp2
 go_loopw [8] (fun iv wr => LeftRel w w.heap.size la W0 S0 iv wr) (fun iv _ => la.length - (intOf iv).toNat)
 case atStart => exact ⟨0, _, Nat.zero_le _, rfl, by simp, Words.zeros _, HM, by
  rw [lo_zero, lo]
  rw [show (List.replicate (W0 + la.length + 1) 0).take (W0 + 0 + 1) = List.replicate (W0 + 0 + 1) 0 by rw [List.take_replicate]; congr 1; omega, wval_zeros]; simp, by
  rw [repl_getD]; exact Nat.two_pow_pos _, fun j _ => repl_getD _ _, (Within.refl w).alloc _⟩
 case round =>
  obtain ⟨k, o, hk, rfl, ho, hwo, hown, hval, hlow, hzero, hin⟩ := hrel
  have HV := Hh hval; have HO := Hh ho; have HWO := Hh hwo; have HZ := Hh hzero; clear hval ho hwo hzero
  rcases Nat.lt_or_ge k la.length with hlt | hlt
  ·exact zz20
  ·obtain rfl : k = la.length := by omega
   have CT := Hh (Bcut o (some ⟨w.heap.size, 0, none⟩) (W0 + la.length + 1) HWO.out (by rw [HO.out]; exact Nat.le_refl _) (by rw [HO.out]; omega) _ hown.at)
   rw [HO.out] at CT
   go_wp2_with fail
   refine (CT.out).mono ?_; rintro e1 w1 ⟨rfl, rfl⟩
   go_wp2
   go_ret
   refine retW_cut hown.at HWO.out (by rw [HO.out]; exact Nat.le_refl _) hin ?_
   exact zz81
theorem zz98 {p : Prop} (h : p := by
 go_wp2
 go_ret
 exact ⟨none, 0, by rw [dg_zero]; rfl, by rw [dg_zero]; exact Nat.le_refl _, by rw [dg_zero]; exact RowAt.nil, Within.refl _⟩) : p := h
theorem Bleft_nil (A : Option Addr) (ca n : Nat) (w : World) : Calls Tryz.prog 293 #[.slice A 0 ca, .int .u64 (n : Int)] w (RetW w 0) := by
 go_enter Tryz.func293, Tryz.ntmps293
 exact zz98
theorem Bleft (a : Nat) (A : Option Addr) (ca n : Nat) (ha : (dg a).length ≤ 500000) (hn : n ≤ 16000000) (w : World) (hra : RowAt w A (dg a)) :
 Calls Tryz.prog 293 #[.slice A (dg a).length ca, .int .u64 (n : Int)] w (RetW w (a * 2 ^ n)) := by
 by_cases h : a = 0
 ·subst h
  rw [dg_zero, Nat.zero_mul]
  exact Bleft_nil A ca n w
 ·have := Bleft_pos (dg a) A ca n (n / 32) (n % 32) (words_dg a) ha (dg_len_pos h) om om om w hra
  rw [wval_dg] at this
  exact this
def RetO (W : World) (n L : Nat) (e : Ending) (w' : World) : Prop := ∃ g o, e = .returned (.slice (some ⟨g, 0, none⟩) (dg n).length L) ∧ OwnW w' g o ∧ o.length = L ∧ Words o ∧ wval o = n ∧ W.heap.size ≤ g ∧ Within W w'
theorem Bleft_own (la : List Nat) (A : Option Addr) (ca n W0 S0 : Nat) (hwa : Words la) (hla : la.length ≤ 500000) (h0 : 0 < la.length) (hn : n = 32 * W0 + S0) (hS : S0 < 32) (hW : W0 ≤ 500000) (w : World) (hra : RowAt w A la) :
 Calls Tryz.prog 293 #[.slice A la.length ca, .int .u64 (n : Int)] w (RetO w (wval la * 2 ^ n) (W0 + la.length + 1)) := by
 have hmk := run_make_row' (P := Tryz.prog) 92 153 (.int .u32 0) 4 kr Tryz.infoU32 rfl .i64 .i64 (W0 + la.length + 1) om om
 rw [show ((W0 + la.length + 1 : Nat) : Int) = (W0 : Int) + (la.length : Int) + 1 by omega] at hmk
 have HWA := Hh hwa; have HRA := Hh hra; clear hwa hra
 have hq : (n : Int) / 32 = (W0 : Int) := by omega
 have hr : (n : Int) % 32 = (S0 : Int) := by omega
 have d0 : ((la.length : Int) == 0) = false := beq_eq_false_iff_ne.2 om
 have HN := Hh hn; clear hn
 have HM := OwnW.made w (W0 + la.length + 1)
 go_enter Tryz.func293, Tryz.ntmps293
 go_wp2
 go_loopw [8] (fun iv wr => LeftRel w w.heap.size la W0 S0 iv wr) (fun iv _ => la.length - (intOf iv).toNat)
 case atStart => exact ⟨0, _, Nat.zero_le _, rfl, by simp, Words.zeros _, HM, by
  rw [lo_zero, lo]
  rw [show (List.replicate (W0 + la.length + 1) 0).take (W0 + 0 + 1) = List.replicate (W0 + 0 + 1) 0 by rw [List.take_replicate]; congr 1; omega, wval_zeros]; simp, by
  rw [repl_getD]; exact Nat.two_pow_pos _, fun j _ => repl_getD _ _, (Within.refl w).alloc _⟩
 case round =>
  obtain ⟨k, o, hk, rfl, ho, hwo, hown, hval, hlow, hzero, hin⟩ := hrel
  have HV := Hh hval; have HO := Hh ho; have HWO := Hh hwo; have HZ := Hh hzero; clear hval ho hwo hzero
  rcases Nat.lt_or_ge k la.length with hlt | hlt
  ·exact zz20
  ·obtain rfl : k = la.length := by omega
   have CT := Hh (Bcut o (some ⟨w.heap.size, 0, none⟩) (W0 + la.length + 1) HWO.out (by rw [HO.out]; exact Nat.le_refl _) (by rw [HO.out]; omega) _ hown.at)
   rw [HO.out] at CT
   go_wp2_with fail
   refine (CT.out).mono ?_; rintro e1 w1 ⟨rfl, rfl⟩
   go_wp2
   go_ret
   have hvv : wval o = wval la * 2 ^ n := by
    exact zz81
   rw [← hvv]
   exact ⟨_, o, rfl, hown, HO.out, HWO.out, rfl, Nat.le_refl _, hin⟩
end Go.Proofs.YtgkcpnidmfejeaaGreatDoor
section
namespace Go.Proofs.YtgkcpnidmfejeaaGreatDoor
open Go.RowKit
attribute [go_sem] firmAt firmUpon
theorem Tryz.infoW : (Tryz.prog.info? 153).map (fun i => (i.zero, i.size, i.bytes)) = some (some (.int .u32 0), 1, 4) := by kernel_rfl
def uv (l : List Nat) : List Value := l.map fun (x : Nat) => .int .u32 (x : Int)
theorem add_zero_off (g j : Nat) : (⟨g, 0, none⟩ : Addr).add j = ⟨g, j, none⟩ := by
 unfold Addr.add; split
 ·rename_i h; subst h; rfl
 ·simp
theorem uv_at (l : List Nat) {j : Nat} {u : Value} (h : (uv l)[j]? = some u) : j < l.length ∧ u = .int .u32 ((l.getD j 0 : Nat) : Int) := by
 unfold uv at h
 rw [List.getElem?_map] at h
 by_cases hj : j < l.length
 ·rw [List.getElem?_eq_getElem hj] at h
  refine ⟨hj, ?_⟩
  simp at h
  rw [← h]; simp [List.getD_eq_getElem?_getD, hj]
 ·rw [List.getElem?_eq_none om] at h; simp at h
theorem rowAt_of_owns {w : World} {base n : Nat} {v : Value} {l : List Nat} (h : w.ownsRow base 153 1 v n (uv l)) : ∃ A c, v = .slice A l.length c ∧ l.length ≤ c ∧ RowAt w A l := by
 have hlen : l.length = n := by have := h.1; simpa [uv] using this
 subst hlen
 rcases h.2 with ⟨rfl, h0⟩ | ⟨g, cap, cur, rfl, _, hb, hc, _, hsz, htk⟩
 ·refine ⟨none, 0, by rw [h0], by omega, ?_⟩
  intro hp; omega
 ·refine ⟨_, _, rfl, hc, fun _ => ⟨g, cur.size, fun i => (cur[i]?).getD undef, rfl, by omega, ⟨cur, hb, rfl, fun i hi => by simp [hi]⟩, fun i hi => ?_⟩⟩
  have : (cur.toList.take (l.length * 1))[i]? = (uv l)[i]? := by rw [htk]
  rw [List.getElem?_take, if_pos om, Array.getElem?_toList] at this
  show (cur[i]?).getD undef = _
  rw [this]
  unfold uv
  simp [List.getD_eq_getElem?_getD, hi]
theorem run_append_nil_nil {P : Program} (w : World) (t ty e : TypeId) (i : TypeInfo) (ht : P.underlying t = some (.slice e)) (hi : P.info? e = some i) (c : Nat) : (Builtin.append_ #[t, t] ty #[.slice none 0 0, .slice none 0 c]).run P w = .ok (.slice none 0 0) w := by
 simp [Builtin.append_, run_underlying ht, sizeOf, typeInfo, hi, Builtin.lenOf, Builtin.firstCells]
theorem run_copy {w : World} (A : Option Addr) (l : List Nat) (c : Nat) (hr : RowAt w A l) (hl : l.length ≤ 3000000) :
 ∃ A' c' w', (Builtin.append_ #[92, 92] 92 #[.slice none 0 0, .slice A l.length c]).run Tryz.prog w = .ok (.slice A' l.length c') w' ∧ l.length ≤ c' ∧ RowAt w' A' l ∧ Within w w' := by
 obtain ⟨i0, hi0, hz0, hz1, hz2⟩ := info_parts Tryz.infoW
 have hU : Tryz.prog.underlying 92 = some (.slice 153) := by kernel_rfl
 rcases A with _ | ad
 ·have h0 : l = [] := by
   rcases Nat.eq_zero_or_pos l.length with h | h
   ·exact List.eq_nil_of_length_eq_zero h
   ·obtain ⟨g, _, _, e, _⟩ := hr h; cases e
  subst h0
  exact ⟨none, 0, w, run_append_nil_nil w _ _ _ i0 hU hi0 c, by simp, RowAt.nil, Within.refl _⟩
 ·have hcells : ∀ j u, (uv l)[j]? = some u → w.cell? (ad.add j) = some u := by
   intro j u hu
   obtain ⟨hj, rfl⟩ := uv_at l hu
   obtain ⟨g, e, _, hc⟩ := hr.cell hj
   have e' := Option.some.inj e
   rw [e', add_zero_off]; exact hc
  obtain ⟨v', w', hrun, h2, h3, _, _⟩ := run_append_own_at (P := Tryz.prog) w w.heap.size 92 92 153 i0 (.int .u32 0) 1 4 hU hi0 hz0 hz1 hz2 rfl dc (.slice none 0 0) 0 [] (World.ownsRow_nil _ _ _ _) ad l.length c (uv l)
   (by simp [uv]) hcells (by intro u hu; obtain ⟨x, _, rfl⟩ := List.mem_map.1 hu; rfl) (by unfold maxLen; omega) om (Nat.le_refl _)
  rw [List.nil_append] at h2
  obtain ⟨A', c', rfl, hc, hr'⟩ := rowAt_of_owns h2
  refine ⟨A', c', w', hrun, hc, hr', ⟨h3.os, h3.tape, h3.output, h3.size, fun k hk => h3.block k hk (by intro e; cases e)⟩⟩
theorem RowAt.drew {w : World} {A : Option Addr} {l : List Nat} (h : RowAt w A l) : RowAt w.drew A l := h
theorem wp_copy {w : World} {o : Oper} {a : Act} {K : Act → World → Prop} {Q : Exit → Act → World → Prop} (s x : Operand) (A : Option Addr) (l : List Nat) (c : Nat)
 (ho : o.op = .call { callee := .builtin .append, args := #[s, x], argTypes := #[92, 92] }) (ht : o.type = 92) (hs : a.eval s = .slice none 0 0) (hx : a.eval x = .slice A l.length c) (hr : RowAt w A l) (hl : l.length ≤ 3000000)
 (h : ∀ A' c' w', l.length ≤ c' → RowAt w' A' l → Within w w' → K (a.put o.dst (.slice A' l.length c')) w') : o.wp Tryz.prog a w K Q := by
 obtain ⟨A', c', w', hrun, h1, h2, h3⟩ := run_copy A l c hr hl
 rw [← ht] at hrun
 unfold Oper.wp execOp
 simp only [ho, resolve, invoke, builtin, Sem.run_bind, Sem.run_pure, Result.andThen_ok, List.map_toArray, List.map_cons, List.map_nil, hs, hx, ht] at hrun ⊢
 rw [hrun]
 exact h A' c' w' h1 h2 h3
end Go.Proofs.YtgkcpnidmfejeaaGreatDoor
end
namespace Go.Proofs.YtgkcpnidmfejeaaGreatDoor
open Go.RowKit
theorem IntB.rd {w : World} {g : Nat} {v : Int} (h : IntB w g v) : ∃ A c, w.cell? ⟨g, 0, none⟩ = some (.bool (decide (v < 0))) ∧ w.cell? ⟨g, 1, none⟩ = some (.slice A (dg v.natAbs).length c) ∧ RowAt w A (dg v.natAbs) := by
 obtain ⟨A, c, h0, h1, _, hr⟩ := h.cells
 exact ⟨A, c, h0, h1, hr⟩
theorem sgv_self (v : Int) : sgv (decide (v < 0)) v.natAbs = v := by
 unfold sgv; by_cases h : v < 0
 ·rw [if_pos (decide_eq_true h)]; omega
 ·rw [decide_eq_false h, if_neg Bool.false_ne_true]; omega
theorem sgv_not (v : Int) : sgv (!decide (v < 0)) v.natAbs = -v := by
 unfold sgv; by_cases h : v < 0
 ·rw [decide_eq_true h, if_neg dc]; omega
 ·rw [decide_eq_false h, if_pos dc]; omega
theorem sgv_no (n : Nat) : sgv false n = n := rfl
theorem PutI.trans {W w : World} {z : Nat} {v : Int} {e : Ending} {w' : World} (h : Within W w) (k : PutI w z v e w') : PutI W z v e w' := ⟨k.1, k.2.1, grown_trans (grown_within z h) k.2.2⟩
theorem wval_two (n : Nat) : wval [n % 4294967296, n / 4294967296] = n := by
 simp only [wval]; omega
theorem two_at (w : World) (x y : Nat) (C : Array Value) (hC : C = #[.int .u32 (x : Int), .int .u32 (y : Int)]) : RowAt (w.alloc (.cells C 153)) (some ⟨w.heap.size, 0, none⟩) [x, y] := by
 subst hC
 intro _
 have h := World.rowIs_alloc w #[.int .u32 (x : Int), .int .u32 (y : Int)] 153 (fun i => .int .u32 (([x, y].getD i 0 : Nat) : Int)) (by
  intro i hi
  have : i = 0 ∨ i = 1 := by simp at hi; omega
  rcases this with rfl | rfl <;> rfl)
 exact ⟨_, _, _, rfl, Nat.le_refl _, h, fun i _ => rfl⟩
theorem Bwords (n : Nat) (hn : n < 18446744073709551616) (w : World) : Calls Tryz.prog 302 #[.int .u64 (n : Int)] w (RetW w n) := by
 have hh : (n : Int) / 4294967296 % 4294967296 = (n : Int) / 4294967296 := by omega
 have HN := Hh hn; clear hn
 have CT := Hh (fun (w' : World) (hr : RowAt w' (some ⟨w.heap.size, 0, none⟩) [n % 4294967296, n / 4294967296]) => Bcut [n % 4294967296, n / 4294967296] (some ⟨w.heap.size, 0, none⟩) 2 (by intro x hx; have := HN.out; simp at hx; omega) (by simp) (by simp) w' hr)
 go_enter Tryz.func302, Tryz.ntmps302
 go_wp2_with fail
 refine (CT.out _ (two_at w _ _ _ (by simp))).mono ?_; rintro e1 w1 ⟨rfl, rfl⟩
 go_wp2
 go_ret
 exact retW_cut (two_at w _ _ _ (by simp)) (by intro x hx; have := HN.out; simp at hx; omega) (by simp) ((Within.refl w).alloc _) (wval_two n)
theorem BsetUint64 (z n : Nat) (hn : n < 18446744073709551616) (w : World) (hz : IntTy w z) : Calls Tryz.prog 230 #[.pointer (some ⟨z, 0, none⟩), .int .u64 (n : Int)] w (PutI w z n) := by
 have HZ := Hh hz; clear hz
 have HN := Hh hn; clear hn
 go_enter Tryz.func230, Tryz.ntmps230
 go_wp2_with fail
 refine (Bwords n HN.out w).mono ?_; rintro e1 w1 ⟨A1, c1, rfl, hc1, hr1, hb1⟩
 go_wp2_with fail
 refine (Bput z false (dg n) A1 c1 (words_dg n) hc1 (Nat.le_trans (dg_len_le (k := 2) HN.out) dc) w1 hr1 (HZ.out.of hb1)).mono ?_; rintro e2 w2 ⟨rfl, hI, hG⟩
 go_wp2
 go_ret
 rw [wval_dg, sgv_no] at hI
 exact ⟨rfl, hI, grown_trans (grown_within z hb1) hG⟩
theorem BsetInt64_neg (z : Nat) (n : Int) (m : Nat) (b : Bool) (hn : n < 0) (hb : b = true) (hm : n = -(m : Int)) (hl : m ≤ 9223372036854775808) (w : World) (hz : IntTy w z) : Calls Tryz.prog 254 #[.pointer (some ⟨z, 0, none⟩), .int .i64 n] w (PutI w z (sgv b m)) := by
 have HZ := Hh hz; clear hz
 have HL := Hh (show m < 18446744073709551616 by omega)
 have d : decide (n < 0) = true := decide_eq_true hn
 have HB := Hh hb; clear hb
 have g : IntKind.u64.wrap (-IntKind.u64.wrap n) = (m : Int) := by rw [IntKind.wrap_u64, IntKind.wrap_u64]; omega
 clear hn hm hl
 go_enter Tryz.func254, Tryz.ntmps254
 go_wp2_with fail
 refine (Bwords m HL.out w).mono ?_; rintro e1 w1 ⟨A1, c1, rfl, hc1, hr1, hb1⟩
 go_wp2_with fail
 refine (Bput z true (dg m) A1 c1 (words_dg m) hc1 (Nat.le_trans (dg_len_le (k := 2) HL.out) dc) w1 hr1 (HZ.out.of hb1)).mono ?_; rintro e2 w2 ⟨rfl, hI, hG⟩
 go_wp2
 go_ret
 rw [wval_dg] at hI
 rw [HB.out]
 exact ⟨rfl, hI, grown_trans (grown_within z hb1) hG⟩
theorem BsetInt64_pos (z : Nat) (n : Int) (m : Nat) (b : Bool) (hn : ¬ n < 0) (hb : b = false) (hm : n = (m : Int)) (hl : m ≤ 9223372036854775807) (w : World) (hz : IntTy w z) : Calls Tryz.prog 254 #[.pointer (some ⟨z, 0, none⟩), .int .i64 n] w (PutI w z (sgv b m)) := by
 have HZ := Hh hz; clear hz
 have HL := Hh (show m < 18446744073709551616 by omega)
 have d : decide (n < 0) = false := decide_eq_false hn
 have HB := Hh hb; clear hb
 have g : IntKind.u64.wrap n = (m : Int) := by rw [IntKind.wrap_u64]; omega
 clear hn hm hl
 go_enter Tryz.func254, Tryz.ntmps254
 go_wp2_with fail
 refine (Bwords m HL.out w).mono ?_; rintro e1 w1 ⟨A1, c1, rfl, hc1, hr1, hb1⟩
 go_wp2_with fail
 refine (Bput z false (dg m) A1 c1 (words_dg m) hc1 (Nat.le_trans (dg_len_le (k := 2) HL.out) dc) w1 hr1 (HZ.out.of hb1)).mono ?_; rintro e2 w2 ⟨rfl, hI, hG⟩
 go_wp2
 go_ret
 rw [wval_dg] at hI
 rw [HB.out]
 exact ⟨rfl, hI, grown_trans (grown_within z hb1) hG⟩
theorem BsetInt64 (z : Nat) (n : Int) (h1 : -9223372036854775808 ≤ n) (h2 : n ≤ 9223372036854775807) (w : World) (hz : IntTy w z) : Calls Tryz.prog 254 #[.pointer (some ⟨z, 0, none⟩), .int .i64 n] w (PutI w z n) := by
 by_cases h : n < 0
 ·have := BsetInt64_neg z n n.natAbs true h rfl om om w hz
  rwa [show sgv true n.natAbs = n by unfold sgv; rw [if_pos rfl]; omega] at this
 ·have := BsetInt64_pos z n n.natAbs false h rfl om om w hz
  rwa [show sgv false n.natAbs = n by unfold sgv; rw [if_neg dc]; omega] at this
def NewI (W : World) (v : Int) (e : Ending) (w' : World) : Prop := ∃ g, e = .returned (.pointer (some ⟨g, 0, none⟩)) ∧ IntB w' g v ∧ W.heap.size ≤ g ∧ Within W w'
theorem BnewInt (n : Int) (h1 : -9223372036854775808 ≤ n) (h2 : n ≤ 9223372036854775807) (w : World) : Calls Tryz.prog 168 #[.int .i64 n] w (NewI w n) := by
 have SI := Hh (fun (w' : World) (hz : IntTy w' w.heap.size) => BsetInt64 w.heap.size n h1 h2 w' hz)
 have HT := Hh (IntB.made w).ty
 clear h1 h2
 go_enter Tryz.func168, Tryz.ntmps168
 go_wp2_with fail
 refine (SI.out _ HT.out).mono ?_; rintro e1 w1 ⟨rfl, hI, hG⟩
 go_wp2
 go_ret
 exact ⟨_, rfl, hI, Nat.le_refl _, Within.grown ((Within.refl w).alloc _) hG (Nat.le_refl _)⟩
theorem zz22 {p : Prop} (h : p := by
 intro wq hq
 have hq0 := hq.1; have hq1 := hq.2
 clear hq
 go_simp
 rfl) : p := h
theorem Bneg0 (z x : Nat) (b : Bool) (A : Option Addr) (l : List Nat) (c : Nat) (hw : Words l) (hl : l.length ≤ 2000000) (w : World) (hz : IntTy w z) (c0 : w.cell? ⟨x, 0, none⟩ = some (.bool b)) (c1 : w.cell? ⟨x, 1, none⟩ = some (.slice A l.length c)) (hr : RowAt w A l) : Calls Tryz.prog 231 #[.pointer (some ⟨z, 0, none⟩), .pointer (some ⟨x, 0, none⟩)] w (PutI w z (sgv (!b) (wval l))) := by
 have HZ := Hh hz; have HW := Hh hw; have HR := Hh hr; clear hz hw hr
 have hlt := World.block_lt_of_cell? w _ c0
 go_enter Tryz.func231, Tryz.ntmps231
 go_wp2
 refine wp_region_sched (fun W => W.cell? ⟨x, 0, none⟩ = some (.bool b) ∧ W.cell? ⟨x, 1, none⟩ = some (.slice A l.length c)) 11 [(0, true), (1, true), (2, true), (3, true), (4, true), (5, true), (6, true), (7, true), (8, true), (9, true), (10, false), (11, false), (12, false)] kr kr ⟨c0, c1⟩ ?_
 intro hS
 repeat
  apply sched_firm rfl rfl hS
  ·exact zz22
  try simp only [pu]
 refine sched_one rfl rfl (fun K hK => ?_)
 refine wp_copy (.const (.slice none 0 0)) (.tmp 14) A l c rfl rfl rfl rfl (RowAt.drew HR.out) (Nat.le_trans hl dc) ?_
 intro A' c' w2 hc' hr' hb'
 have hb2 : Within w w2 := (Within.refl w).drew.trans hb'
 refine hK _ _ (fun h => ⟨(hb2.cells _ _ hlt).trans c0, (hb2.cells _ _ hlt).trans c1⟩) ?_
 clear hK K
 try simp only [pu]
 refine sched_one rfl rfl (fun K hK => ?_)
 go_simp
 refine (Bput z (!b) l A' c' HW.out hc' hl w2 hr' (HZ.out.of hb2)).mono ?_
 rintro e3 w3 ⟨rfl, hI, hG⟩
 refine hK _ _ ab ?_
 clear hK K
 try simp only [pu]
 refine sched_one rfl rfl (fun K hK => ?_)
 go_simp
 refine hK _ _ ab ?_
 clear hK K
 try simp only [pu]
 refine sched_nil ?_
 go_wp2
 go_ret
 exact ⟨rfl, hI, grown_trans (grown_within z hb2) hG⟩
theorem Bneg (z x : Nat) (v : Int) (hl : (dg v.natAbs).length ≤ 2000000) (w : World) (hz : IntTy w z) (hx : IntB w x v) : Calls Tryz.prog 231 #[.pointer (some ⟨z, 0, none⟩), .pointer (some ⟨x, 0, none⟩)] w (PutI w z (-v)) := by
 obtain ⟨A, c, c0, c1, hr⟩ := hx.rd
 have := Bneg0 z x _ A (dg v.natAbs) c (words_dg _) hl w hz c0 c1 hr
 rw [wval_dg, sgv_not] at this
 exact this
def CmpRel (W : World) (la lb : List Nat) (iv : Value) (wr : World) : Prop :=
 ∃ k : Nat, k ≤ la.length ∧ iv = .int .i64 ((k : Int) - 1) ∧ (∀ j, k ≤ j → la.getD j 0 = lb.getD j 0) ∧ Within W wr
theorem Bcompare_ne (n m : Nat) (A Bv : Option Addr) (ca cb : Nat) (h : n ≠ m) (hn : n ≤ 1500000) (hm : m ≤ 1500000) (w : World) :
 Calls Tryz.prog 217 #[.slice A n ca, .slice Bv m cb] w fun e w' => e = .returned (.int .i64 (if n < m then -1 else 1)) ∧ Within w w' := by
 have d0 : ((n : Int) != m) = true := bne_iff_ne.2 om
 rcases Nat.lt_or_ge n m with hlt | hlt
 ·rw [if_pos hlt]
  clear h
  go_enter Tryz.func217, Tryz.ntmps217
  go_wp2
  go_ret
  exact ⟨rfl, Within.refl _⟩
 ·rw [if_neg om]
  clear h
  go_enter Tryz.func217, Tryz.ntmps217
  go_wp2
  go_ret
  exact ⟨rfl, Within.refl _⟩
theorem Bcompare_eq (a b : Nat) (A Bv : Option Addr) (ca cb : Nat) (h : (dg b).length = (dg a).length) (ha : (dg a).length ≤ 1500000) (w : World) (hra : RowAt w A (dg a)) (hrb : RowAt w Bv (dg b)) :
 Calls Tryz.prog 217 #[.slice A (dg a).length ca, .slice Bv (dg a).length cb] w fun e w' => e = .returned (.int .i64 (cmpN a b)) ∧ Within w w' := by
 have d0 : (((dg a).length : Int) != (dg a).length) = false := bne_self_eq_false _
 have HRA := Hh hra; have HRB := Hh hrb; clear hra hrb
 have HL := Hh h; clear h
 go_enter Tryz.func217, Tryz.ntmps217
 go_wp2
 go_loopw [5] (fun iv wr => CmpRel w (dg a) (dg b) iv wr) (fun iv _ => (intOf iv + 1).toNat)
 case atStart => exact ⟨(dg a).length, Nat.le_refl _, by simp, fun j hj => by simp [List.getD_eq_getElem?_getD, hj, HL.out], Within.refl _⟩
 case round =>
  obtain ⟨k, hk, rfl, he, hin⟩ := hrel
  have HE := Hh he; clear he
  rcases k with _ | k
  ·rw [show ((0 : Nat) : Int) - 1 = -1 from rfl]
   go_wp2
   go_ret
   refine ⟨ret_int ?_, hin⟩
   rw [eq_of_all (a := a) (b := b) HL.out.symm (fun j => HE.out j (Nat.zero_le _)), cmpN_eq]
  ·obtain ⟨ga, rfl, hga, hca⟩ := (HRA.out.of hin).cell (i := k) om
   obtain ⟨gb, rfl, hgb, hcb⟩ := (HRB.out.of hin).cell (i := k) (by rw [HL.out]; omega)
   obtain ⟨x, hxe⟩ : ∃ x, x = (dg a).getD k 0 := ⟨_, rfl⟩
   obtain ⟨y, hye⟩ : ∃ y, y = (dg b).getD k 0 := ⟨_, rfl⟩
   rw [← hxe] at hca; rw [← hye] at hcb
   have HXE := Hh hxe; have HYE := Hh hye; clear hxe hye
   have e1 : ((k + 1 : Nat) : Int) - 1 = (k : Int) := by omega
   rw [e1]
   rcases Nat.lt_trichotomy x y with hxy | hxy | hxy
   ·have hxx : decide ((x : Int) < y) = true := decide_eq_true om
    go_wp2
    go_quiet (fail)
    go_wp2
    go_ret
    refine ⟨ret_int ?_, hin.drewN _⟩
    rw [cmpN_lt (lt_of_top (i := k) HL.out.symm (fun j hj => HE.out j hj) (by rw [← HXE.out, ← HYE.out]; exact hxy))]
   ·subst hxy
    have hxx : decide ((x : Int) < x) = false := decide_eq_false om
    have hxx2 : decide ((x : Int) > x) = false := decide_eq_false om
    go_wp2
    go_quiet (fail)
    go_wp2
    go_quiet (fail)
    go_wp2
    go_roundw
    case rel => exact ⟨k, by omega, rfl, fun j hj => by
     rcases Nat.eq_or_lt_of_le hj with h | h
     ·subst h; rw [← HXE.out, ← HYE.out]
     ·exact HE.out j h, hin.drewN _⟩
    case measure => simp [intOf]
   ·have hxx : decide ((x : Int) < y) = false := decide_eq_false om
    have hxx2 : decide ((x : Int) > y) = true := decide_eq_true om
    go_wp2
    go_quiet (fail)
    go_wp2
    go_quiet (fail)
    go_wp2
    go_ret
    refine ⟨ret_int ?_, (hin.drewN _).drewN _⟩
    rw [cmpN_gt (lt_of_top (i := k) HL.out (fun j hj => (HE.out j hj).symm) (by rw [← HXE.out, ← HYE.out]; exact hxy))]
theorem Bcompare (a b : Nat) (A Bv : Option Addr) (ca cb : Nat) (ha : (dg a).length ≤ 1500000) (hb : (dg b).length ≤ 1500000) (w : World) (hra : RowAt w A (dg a)) (hrb : RowAt w Bv (dg b)) :
 Calls Tryz.prog 217 #[.slice A (dg a).length ca, .slice Bv (dg b).length cb] w fun e w' => e = .returned (.int .i64 (cmpN a b)) ∧ Within w w' := by
 by_cases h : (dg b).length = (dg a).length
 ·rw [h]; exact Bcompare_eq a b A Bv ca cb h ha w hra hrb
 ·refine (Bcompare_ne _ _ A Bv ca cb (fun e => h e.symm) ha hb w).mono ?_
  rintro e w' ⟨rfl, hb'⟩
  refine ⟨?_, hb'⟩
  rcases Nat.lt_or_ge (dg a).length (dg b).length with hlt | hlt
  ·rw [if_pos hlt, cmpN_lt (lt_of_len hlt)]
  ·rw [if_neg om, cmpN_gt (lt_of_len om)]
end Go.Proofs.YtgkcpnidmfejeaaGreatDoor
