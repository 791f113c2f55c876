/- WHAT anatomy's INNER FUNCTIONS COME TO, further: parts. -/
import Derived.Test.YthjaponkbodooaaDoorAna2
import Derived.Deep.RegionHeld3
namespace Go.Proofs.YthjaponkbodooaaDoor
open Go.RowKit
theorem parts_eq {n : Bool} {a b c d z : Int} (h1 : a = b) (h2 : c = d) : Ending.returned (.tuple #[.agg #[.bool n, .int .u64 a, .int .i64 c], .int .i64 z]) = .returned (.tuple #[.agg #[.bool n, .int .u64 b, .int .i64 d], .int .i64 z]) := by rw [h1, h2]


/-- the parts of a finite number, before it is made odd -/
def mantD (b : Nat) : Nat := if expD b = 0 then fracD b else fracD b + 4503599627370496
def lowD (b : Nat) : Int := ((if expD b = 0 then 1 else expD b : Nat) : Int) - 1075
theorem expD_lt (b : Nat) : expD b < 2048 := by unfold expD; omega
theorem fracD_lt (b : Nat) : fracD b < 4503599627370496 := by unfold fracD; omega
theorem mantD_lt (b : Nat) : mantD b < 2 * 4503599627370496 := by have := fracD_lt b; unfold mantD; split <;> omega
/-- its parts: mantissa, exponent, error -/
def pMantD (b : Nat) : Nat := if expD b = 2047 then 0 else mantD b / 2 ^ Lib.ctz 64 (mantD b)
def pExpD (b : Nat) : Int := if expD b = 2047 ∨ mantD b = 0 then 0 else lowD b + Lib.ctz 64 (mantD b)
def pNegD (b : Nat) : Bool := if expD b = 2047 then false else negD b
def pErrD (b : Nat) : Int := if expD b = 2047 then 4 else 0
theorem classD_nan {b : Nat} (h : expD b = 2047) : classD b = 1 ∨ classD b = 2 := by
  unfold classD classOf; by_cases h2 : fracD b = 0
  · right; rw [if_neg (by omega), if_pos h]
  · left; rw [if_pos ⟨h, h2⟩]
theorem classD_zero {b : Nat} (h : expD b = 0) (h2 : fracD b = 0) : classD b = 3 := by
  unfold classD classOf; rw [if_neg (by omega), if_neg (by omega), if_pos ⟨h, h2⟩]
theorem classD_sub {b : Nat} (h : expD b = 0) (h2 : fracD b ≠ 0) : classD b = 4 := by
  unfold classD classOf; rw [if_neg (by omega), if_neg (by omega), if_neg (by omega), if_pos h]
theorem classD_normal {b : Nat} (h : expD b ≠ 0) (h2 : expD b ≠ 2047) : classD b = 5 := by
  unfold classD classOf; rw [if_neg (by omega), if_neg (by omega), if_neg (by omega), if_neg (by omega)]

set_option maxRecDepth 100000 in
set_option maxHeartbeats 600000 in
theorem partsNan_D (b : Nat) (hb : b < 18446744073709551616) (cl : classD b = 1 ∨ classD b = 2) (w : World) (_ : Tab w) : Calls Tryd.prog 70 #[.int .u64 b, dbl] w fun e w' => e = .returned (.tuple #[.agg #[.bool (false), .int .u64 (0), .int .i64 (0)], .int .i64 (4)]) ∧ Within w w' := by
  have H0 := Lib.hid hb
  have HE := expD_lt b
  have HF := Lib.hid (fracD_lt b)
  have he : (expD b : Int) < 2048 := by omega
  have ewf : IntKind.u64.wrap (fracD b : Int) = fracD b := by have := HF.out; rw [IntKind.wrap_u64]; omega
  rcases cl with hcl | hcl
  all_goals
    have CL := Lib.hid (class_D b H0.out)
    rw [hcl] at CL; clear hcl hb HE
    go_enter Tryd.func70, Tryd.ntmps70
    go_wp2_with fail
    refine (split_D b H0.out _).mono ?_; rintro e1 w1 ⟨rfl, hb1⟩
    have hc1 := hb1.cells; have hf1 := hb1.frozens; have hz1 : w.heap.size + 1 < w1.heap.size := (by have := hb1.sizes; simp at this; omega); have hy1 : w.heap.size < w1.heap.size := by omega
    have s0 : w1.cell? ⟨w.heap.size + 1, 0, none⟩ = some (.bool false) := by have := hc1 (w.heap.size + 1) 0 (by simp); simpa using this
    have s1 : w1.cell? ⟨w.heap.size + 1, 1, none⟩ = some (.int .u64 0) := by have := hc1 (w.heap.size + 1) 1 (by simp); simpa using this
    have s2 : w1.cell? ⟨w.heap.size + 1, 2, none⟩ = some (.int .i64 0) := by have := hc1 (w.heap.size + 1) 2 (by simp); simpa using this
    go_wp2_with fail
    refine (CL.out _).mono ?_; rintro e2 w2 ⟨rfl, hb2⟩
    have hc2 := hb2.cells; have hf2 := hb2.frozens; have hz2 : w1.heap.size < w2.heap.size := (by have := hb2.sizes; simp at this; omega); have hy2 : w.heap.size < w2.heap.size := (by omega); have hx2 : w.heap.size + 1 < w2.heap.size := by omega
    have k0 : w2.cell? ⟨w1.heap.size, 0, none⟩ = some (.bool (negD b)) := by have := hc2 w1.heap.size 0 (by simp); simpa using this
    have k1 : w2.cell? ⟨w1.heap.size, 1, none⟩ = some (.int .u64 (fracD b)) := by have := hc2 w1.heap.size 1 (by simp); simpa using this
    have k2 : w2.cell? ⟨w1.heap.size, 2, none⟩ = some (.int .i64 ((expD b : Int) - 1075)) := by have := hc2 w1.heap.size 2 (by simp); simpa using this
    have r0 : w2.cell? ⟨w.heap.size + 1, 0, none⟩ = some (.bool false) := by rw [hc2 _ _ (by simp; omega), World.cell?_alloc_lt _ _ _ (by simpa using hz1)]; exact s0
    have r1 : w2.cell? ⟨w.heap.size + 1, 1, none⟩ = some (.int .u64 0) := by rw [hc2 _ _ (by simp; omega), World.cell?_alloc_lt _ _ _ (by simpa using hz1)]; exact s1
    have r2 : w2.cell? ⟨w.heap.size + 1, 2, none⟩ = some (.int .i64 0) := by rw [hc2 _ _ (by simp; omega), World.cell?_alloc_lt _ _ _ (by simpa using hz1)]; exact s2
    go_wp2
    refine bodyPost_ret (v := .tuple #[.agg #[.bool (false), .int .u64 (0), .int .i64 (0)], .int .i64 (4)]) (by simp [results, Tryd.results70, go_sem, r0, r1, r2]) rfl ⟨rfl, ?_⟩
    exact (by repeat (first | with_reducible exact Within.refl _ | with_reducible assumption | with_reducible refine Within.alloc ?_ _ | with_reducible refine Within.drew ?_ | with_reducible refine Within.setCell ?_ (by first | (simp; done) | (simp; omega)) _ | with_reducible refine Within.trans ?_ (by assumption)))


set_option maxRecDepth 100000 in
set_option maxHeartbeats 600000 in
theorem partsZero_D (b : Nat) (hb : b < 18446744073709551616) (cl : classD b = 3) (w : World) (_ : Tab w) : Calls Tryd.prog 70 #[.int .u64 b, dbl] w fun e w' => e = .returned (.tuple #[.agg #[.bool (negD b), .int .u64 (0), .int .i64 (0)], .int .i64 (0)]) ∧ Within w w' := by
  have H0 := Lib.hid hb
  have HE := expD_lt b
  have HF := Lib.hid (fracD_lt b)
  have he : (expD b : Int) < 2048 := by omega
  have ewf : IntKind.u64.wrap (fracD b : Int) = fracD b := by have := HF.out; rw [IntKind.wrap_u64]; omega
  have CL := Lib.hid (class_D b H0.out)
  rw [cl] at CL
  clear cl hb HE
  go_enter Tryd.func70, Tryd.ntmps70
  go_wp2_with fail
  refine (split_D b H0.out _).mono ?_; rintro e1 w1 ⟨rfl, hb1⟩
  have hc1 := hb1.cells; have hf1 := hb1.frozens; have hz1 : w.heap.size + 1 < w1.heap.size := (by have := hb1.sizes; simp at this; omega); have hy1 : w.heap.size < w1.heap.size := by omega
  have s0 : w1.cell? ⟨w.heap.size + 1, 0, none⟩ = some (.bool false) := by have := hc1 (w.heap.size + 1) 0 (by simp); simpa using this
  have s1 : w1.cell? ⟨w.heap.size + 1, 1, none⟩ = some (.int .u64 0) := by have := hc1 (w.heap.size + 1) 1 (by simp); simpa using this
  have s2 : w1.cell? ⟨w.heap.size + 1, 2, none⟩ = some (.int .i64 0) := by have := hc1 (w.heap.size + 1) 2 (by simp); simpa using this
  go_wp2_with fail
  refine (CL.out _).mono ?_; rintro e2 w2 ⟨rfl, hb2⟩
  have hc2 := hb2.cells; have hf2 := hb2.frozens; have hz2 : w1.heap.size < w2.heap.size := (by have := hb2.sizes; simp at this; omega); have hy2 : w.heap.size < w2.heap.size := (by omega); have hx2 : w.heap.size + 1 < w2.heap.size := by omega
  have k0 : w2.cell? ⟨w1.heap.size, 0, none⟩ = some (.bool (negD b)) := by have := hc2 w1.heap.size 0 (by simp); simpa using this
  have k1 : w2.cell? ⟨w1.heap.size, 1, none⟩ = some (.int .u64 (fracD b)) := by have := hc2 w1.heap.size 1 (by simp); simpa using this
  have k2 : w2.cell? ⟨w1.heap.size, 2, none⟩ = some (.int .i64 ((expD b : Int) - 1075)) := by have := hc2 w1.heap.size 2 (by simp); simpa using this
  have r0 : w2.cell? ⟨w.heap.size + 1, 0, none⟩ = some (.bool false) := by rw [hc2 _ _ (by simp; omega), World.cell?_alloc_lt _ _ _ (by simpa using hz1)]; exact s0
  have r1 : w2.cell? ⟨w.heap.size + 1, 1, none⟩ = some (.int .u64 0) := by rw [hc2 _ _ (by simp; omega), World.cell?_alloc_lt _ _ _ (by simpa using hz1)]; exact s1
  have r2 : w2.cell? ⟨w.heap.size + 1, 2, none⟩ = some (.int .i64 0) := by rw [hc2 _ _ (by simp; omega), World.cell?_alloc_lt _ _ _ (by simpa using hz1)]; exact s2
  go_wp2
  refine bodyPost_ret (v := .tuple #[.agg #[.bool (negD b), .int .u64 (0), .int .i64 (0)], .int .i64 (0)]) (by simp [results, Tryd.results70, go_sem, r0, r1, r2]) rfl ⟨rfl, ?_⟩
  exact (by repeat (first | with_reducible exact Within.refl _ | with_reducible assumption | with_reducible refine Within.alloc ?_ _ | with_reducible refine Within.drew ?_ | with_reducible refine Within.setCell ?_ (by first | (simp; done) | (simp; omega)) _ | with_reducible refine Within.trans ?_ (by assumption)))


set_option maxRecDepth 100000 in
set_option maxHeartbeats 600000 in
theorem partsSub_D (b : Nat) (hb : b < 18446744073709551616) (c2 : mantD b ≠ 0) (cl : classD b = 4) (em : mantD b = fracD b) (el : lowD b = expD b - 1075 + 1) (w : World) (hT : Tab w) : Calls Tryd.prog 70 #[.int .u64 b, dbl] w fun e w' => e = .returned (.tuple #[.agg #[.bool (negD b), .int .u64 ((mantD b / 2 ^ Lib.ctz 64 (mantD b) : Nat)), .int .i64 (lowD b + Lib.ctz 64 (mantD b))], .int .i64 (0)]) ∧ Within w w' := by
  have H0 := Lib.hid hb
  have HE := expD_lt b
  have HF := Lib.hid (fracD_lt b)
  have he : (expD b : Int) < 2048 := by omega
  have ewf : IntKind.u64.wrap (fracD b : Int) = fracD b := by have := HF.out; rw [IntKind.wrap_u64]; omega
  have HM := Lib.hid (mantD_lt b)
  obtain ⟨_, hz, hk⟩ := ctz_split (mantD b) c2 (by have := HM.out; omega); clear hz
  have HK := Lib.hid hk
  have hk : (Lib.ctz 64 (mantD b) : Int) < 64 := by omega
  have TZ := Lib.hid (fun w => bits_tz64 (mantD b) (by have := HM.out; omega) w)
  generalize Lib.ctz 64 (mantD b) = k at *
  have CL := Lib.hid (class_D b H0.out)
  rw [cl] at CL
  have EM := Lib.hid em
  have EL := Lib.hid el
  clear cl hb HE c2 em el
  go_enter Tryd.func70, Tryd.ntmps70
  go_wp2_with fail
  refine (split_D b H0.out _).mono ?_; rintro e1 w1 ⟨rfl, hb1⟩
  have hc1 := hb1.cells; have hf1 := hb1.frozens; have hz1 : w.heap.size + 1 < w1.heap.size := (by have := hb1.sizes; simp at this; omega); have hy1 : w.heap.size < w1.heap.size := by omega
  have s0 : w1.cell? ⟨w.heap.size + 1, 0, none⟩ = some (.bool false) := by have := hc1 (w.heap.size + 1) 0 (by simp); simpa using this
  have s1 : w1.cell? ⟨w.heap.size + 1, 1, none⟩ = some (.int .u64 0) := by have := hc1 (w.heap.size + 1) 1 (by simp); simpa using this
  have s2 : w1.cell? ⟨w.heap.size + 1, 2, none⟩ = some (.int .i64 0) := by have := hc1 (w.heap.size + 1) 2 (by simp); simpa using this
  go_wp2_with fail
  refine (CL.out _).mono ?_; rintro e2 w2 ⟨rfl, hb2⟩
  have hc2 := hb2.cells; have hf2 := hb2.frozens; have hz2 : w1.heap.size < w2.heap.size := (by have := hb2.sizes; simp at this; omega); have hy2 : w.heap.size < w2.heap.size := (by omega); have hx2 : w.heap.size + 1 < w2.heap.size := by omega
  have k0 : w2.cell? ⟨w1.heap.size, 0, none⟩ = some (.bool (negD b)) := by have := hc2 w1.heap.size 0 (by simp); simpa using this
  have k1 : w2.cell? ⟨w1.heap.size, 1, none⟩ = some (.int .u64 (fracD b)) := by have := hc2 w1.heap.size 1 (by simp); simpa using this
  have k2 : w2.cell? ⟨w1.heap.size, 2, none⟩ = some (.int .i64 ((expD b : Int) - 1075)) := by have := hc2 w1.heap.size 2 (by simp); simpa using this
  have r0 : w2.cell? ⟨w.heap.size + 1, 0, none⟩ = some (.bool false) := by rw [hc2 _ _ (by simp; omega), World.cell?_alloc_lt _ _ _ (by simpa using hz1)]; exact s0
  have r1 : w2.cell? ⟨w.heap.size + 1, 1, none⟩ = some (.int .u64 0) := by rw [hc2 _ _ (by simp; omega), World.cell?_alloc_lt _ _ _ (by simpa using hz1)]; exact s1
  have r2 : w2.cell? ⟨w.heap.size + 1, 2, none⟩ = some (.int .i64 0) := by rw [hc2 _ _ (by simp; omega), World.cell?_alloc_lt _ _ _ (by simpa using hz1)]; exact s2
  go_wp2_with fail
  rw [← EM.out]
  refine (TZ.out _ (hT.of (by repeat (first | with_reducible exact Within.refl _ | with_reducible assumption | with_reducible refine Within.alloc ?_ _ | with_reducible refine Within.drew ?_ | with_reducible refine Within.setCell ?_ (by first | (simp; done) | (simp; omega)) _ | with_reducible refine Within.trans ?_ (by assumption))))).mono ?_; rintro e3 w3 ⟨rfl, rfl⟩
  go_wp2
  obtain ⟨m, hm⟩ : ∃ m : Int, m = (fracD b : Int) / 2 ^ k := ⟨_, rfl⟩
  rw [← hm]
  have HM2 := Lib.hid hm; clear hm
  refine bodyPost_ret (v := .tuple #[.agg #[.bool (negD b), .int .u64 m, .int .i64 ((expD b : Int) - 1075 + 1 + k)], .int .i64 0]) ?_ ?_ ?_
  · simp [results, Tryd.results70, go_sem, r0, r1, r2]
  · rfl
  refine ⟨parts_eq ?_ ?_, ?_⟩
  · rw [HM2.out, EM.out]; simp
  · rw [EL.out]
  · exact (by repeat (first | with_reducible exact Within.refl _ | with_reducible assumption | with_reducible refine Within.alloc ?_ _ | with_reducible refine Within.drew ?_ | with_reducible refine Within.setCell ?_ (by first | (simp; done) | (simp; omega)) _ | with_reducible refine Within.trans ?_ (by assumption)))


set_option maxRecDepth 100000 in
set_option maxHeartbeats 600000 in
theorem partsNorm_D (b : Nat) (hb : b < 18446744073709551616) (c2 : mantD b ≠ 0) (cl : classD b = 5) (em : mantD b = fracD b + 4503599627370496) (el : lowD b = expD b - 1075) (w : World) (hT : Tab w) : Calls Tryd.prog 70 #[.int .u64 b, dbl] w fun e w' => e = .returned (.tuple #[.agg #[.bool (negD b), .int .u64 ((mantD b / 2 ^ Lib.ctz 64 (mantD b) : Nat)), .int .i64 (lowD b + Lib.ctz 64 (mantD b))], .int .i64 (0)]) ∧ Within w w' := by
  have H0 := Lib.hid hb
  have HE := expD_lt b
  have HF := Lib.hid (fracD_lt b)
  have he : (expD b : Int) < 2048 := by omega
  have ewf : IntKind.u64.wrap (fracD b : Int) = fracD b := by have := HF.out; rw [IntKind.wrap_u64]; omega
  have HM := Lib.hid (mantD_lt b)
  obtain ⟨_, hz, hk⟩ := ctz_split (mantD b) c2 (by have := HM.out; omega); clear hz
  have HK := Lib.hid hk
  have hk : (Lib.ctz 64 (mantD b) : Int) < 64 := by omega
  have TZ := Lib.hid (fun w => bits_tz64 (mantD b) (by have := HM.out; omega) w)
  generalize Lib.ctz 64 (mantD b) = k at *
  have CL := Lib.hid (class_D b H0.out)
  rw [cl] at CL
  have EM := Lib.hid em
  have EL := Lib.hid el
  have j1 := u64_join 52 4503599627370496 (fracD b) (by decide) (by have := HF.out; omega) (by decide) (by rw [show (2 : Nat) ^ 52 = 4503599627370496 from rfl]; exact HF.out)
  have e1 : bits .or .u64 (fracD b : Int) 4503599627370496 = (mantD b : Int) := by
    rw [show (4503599627370496 : Int) = ((4503599627370496 : Nat) : Int) from rfl, u64_or_nat _ _ (by have := HF.out; omega) (by decide), Nat.or_comm, ← u64_or_nat _ _ (by decide) (by have := HF.out; omega), j1, EM.out]; omega
  clear cl hb HE c2 em el j1
  go_enter Tryd.func70, Tryd.ntmps70
  go_wp2_with fail
  refine (split_D b H0.out _).mono ?_; rintro e1 w1 ⟨rfl, hb1⟩
  have hc1 := hb1.cells; have hf1 := hb1.frozens; have hz1 : w.heap.size + 1 < w1.heap.size := (by have := hb1.sizes; simp at this; omega); have hy1 : w.heap.size < w1.heap.size := by omega
  have s0 : w1.cell? ⟨w.heap.size + 1, 0, none⟩ = some (.bool false) := by have := hc1 (w.heap.size + 1) 0 (by simp); simpa using this
  have s1 : w1.cell? ⟨w.heap.size + 1, 1, none⟩ = some (.int .u64 0) := by have := hc1 (w.heap.size + 1) 1 (by simp); simpa using this
  have s2 : w1.cell? ⟨w.heap.size + 1, 2, none⟩ = some (.int .i64 0) := by have := hc1 (w.heap.size + 1) 2 (by simp); simpa using this
  go_wp2_with fail
  refine (CL.out _).mono ?_; rintro e2 w2 ⟨rfl, hb2⟩
  have hc2 := hb2.cells; have hf2 := hb2.frozens; have hz2 : w1.heap.size < w2.heap.size := (by have := hb2.sizes; simp at this; omega); have hy2 : w.heap.size < w2.heap.size := (by omega); have hx2 : w.heap.size + 1 < w2.heap.size := by omega
  have k0 : w2.cell? ⟨w1.heap.size, 0, none⟩ = some (.bool (negD b)) := by have := hc2 w1.heap.size 0 (by simp); simpa using this
  have k1 : w2.cell? ⟨w1.heap.size, 1, none⟩ = some (.int .u64 (fracD b)) := by have := hc2 w1.heap.size 1 (by simp); simpa using this
  have k2 : w2.cell? ⟨w1.heap.size, 2, none⟩ = some (.int .i64 ((expD b : Int) - 1075)) := by have := hc2 w1.heap.size 2 (by simp); simpa using this
  have r0 : w2.cell? ⟨w.heap.size + 1, 0, none⟩ = some (.bool false) := by rw [hc2 _ _ (by simp; omega), World.cell?_alloc_lt _ _ _ (by simpa using hz1)]; exact s0
  have r1 : w2.cell? ⟨w.heap.size + 1, 1, none⟩ = some (.int .u64 0) := by rw [hc2 _ _ (by simp; omega), World.cell?_alloc_lt _ _ _ (by simpa using hz1)]; exact s1
  have r2 : w2.cell? ⟨w.heap.size + 1, 2, none⟩ = some (.int .i64 0) := by rw [hc2 _ _ (by simp; omega), World.cell?_alloc_lt _ _ _ (by simpa using hz1)]; exact s2
  go_wp2_with fail
  have g0 : w1.cell? ⟨w.heap.size, 0, none⟩ = some (.int .u64 52) := by have := hc1 w.heap.size 0 (by simp; omega); simpa using this
  have f0 : w2.cell? ⟨w.heap.size, 0, none⟩ = some (.int .u64 52) := by rw [hc2 _ _ (by simp; omega), World.cell?_alloc_lt _ _ _ (by simpa using hy1)]; exact g0
  have g1 : w1.cell? ⟨w.heap.size, 1, none⟩ = some (.int .i64 2047) := by have := hc1 w.heap.size 1 (by simp; omega); simpa using this
  have f1 : w2.cell? ⟨w.heap.size, 1, none⟩ = some (.int .i64 2047) := by rw [hc2 _ _ (by simp; omega), World.cell?_alloc_lt _ _ _ (by simpa using hy1)]; exact g1
  have g2 : w1.cell? ⟨w.heap.size, 2, none⟩ = some (.int .i64 1075) := by have := hc1 w.heap.size 2 (by simp; omega); simpa using this
  have f2 : w2.cell? ⟨w.heap.size, 2, none⟩ = some (.int .i64 1075) := by rw [hc2 _ _ (by simp; omega), World.cell?_alloc_lt _ _ _ (by simpa using hy1)]; exact g2
  have z1 : ∀ o, w2.frozen? ⟨w1.heap.size, o, none⟩ = false := fun o => by have := hf2 w1.heap.size o (by simp); simpa using this
  have y0 : ∀ o, w1.frozen? ⟨w.heap.size + 1, o, none⟩ = false := fun o => by have := hf1 (w.heap.size + 1) o (by simp); simpa using this
  have y1 : ∀ o, w2.frozen? ⟨w.heap.size + 1, o, none⟩ = false := fun o => by have := hf2 (w.heap.size + 1) o (by simp; omega); rw [World.frozen?_alloc_old _ _ _ (by simp; omega)] at this; rw [this]; exact y0 o
  go_region_with (first | (go_at_call 111; refine (hidden_D _).mono ?_; rintro e3 w3 ⟨rfl, hb3⟩; have hq3 := (Within.refl w2).drew.trans hb3; have hc3 := hq3.cells; have kk0 := (hc3 _ _ hz2).trans k0; have kk1 := (hc3 _ _ hz2).trans k1; have kk2 := (hc3 _ _ hz2).trans k2; have hz3 := Nat.lt_of_lt_of_le hz2 hq3.sizes; have hy3 := Nat.lt_of_lt_of_le hy2 hq3.sizes; have z3 := fun o => (hq3.frozens _ o hz2).trans (z1 o); have y3 := fun o => (hq3.frozens _ o hx2).trans (y1 o); have rr0 := (hc3 _ _ hx2).trans r0; have rr1 := (hc3 _ _ hx2).trans r1; have rr2 := (hc3 _ _ hx2).trans r2))
  all_goals
    go_wp2_with fail
    refine (TZ.out _ (hT.of (by repeat (first | with_reducible exact Within.refl _ | with_reducible assumption | with_reducible refine Within.alloc ?_ _ | with_reducible refine Within.drew ?_ | with_reducible refine Within.setCell ?_ (by first | (simp; done) | (simp; omega)) _ | with_reducible refine Within.trans ?_ (by assumption))))).mono ?_; rintro e4 w4 ⟨rfl, rfl⟩
    go_wp2
    obtain ⟨m, hm⟩ : ∃ m : Int, m = (mantD b : Int) / 2 ^ k := ⟨_, rfl⟩
    rw [← hm]
    have HM2 := Lib.hid hm; clear hm
    refine bodyPost_ret (v := .tuple #[.agg #[.bool (negD b), .int .u64 m, .int .i64 ((expD b : Int) - 1075 + k)], .int .i64 0]) ?_ ?_ ?_
    · simp [results, Tryd.results70, go_sem, rr0, rr1, rr2]
    · rfl
    refine ⟨parts_eq ?_ ?_, ?_⟩
    · rw [HM2.out]; simp
    · rw [EL.out]
    · exact (by repeat (first | with_reducible exact Within.refl _ | with_reducible assumption | with_reducible refine Within.alloc ?_ _ | with_reducible refine Within.drew ?_ | with_reducible refine Within.setCell ?_ (by first | (simp; done) | (simp; omega)) _ | with_reducible refine Within.trans ?_ (by assumption)))


set_option maxRecDepth 100000 in
set_option maxHeartbeats 600000 in
theorem parts_D (b : Nat) (hb : b < 18446744073709551616)  (w : World) (hT : Tab w) : Calls Tryd.prog 70 #[.int .u64 b, dbl] w fun e w' => e = .returned (.tuple #[.agg #[.bool (pNegD b), .int .u64 (pMantD b), .int .i64 (pExpD b)], .int .i64 (pErrD b)]) ∧ Within w w' := by
  by_cases c1 : expD b = 2047
  · have hv : pNegD b = false ∧ (pMantD b : Int) = 0 ∧ pExpD b = 0 ∧ pErrD b = 4 := by
      unfold pNegD pMantD pExpD pErrD; rw [if_pos c1, if_pos c1, if_pos (.inl c1), if_pos c1]; exact ⟨rfl, rfl, rfl, rfl⟩
    rw [hv.1, hv.2.1, hv.2.2.1, hv.2.2.2]
    exact partsNan_D b hb (classD_nan c1) w hT
  by_cases c2 : mantD b = 0
  · have c3 : expD b = 0 := by unfold mantD at c2; split at c2 <;> omega
    have c4 : fracD b = 0 := by unfold mantD at c2; rw [if_pos c3] at c2; exact c2
    have hv : pNegD b = negD b ∧ (pMantD b : Int) = 0 ∧ pExpD b = 0 ∧ pErrD b = 0 := by
      unfold pNegD pMantD pExpD pErrD; rw [if_neg c1, if_neg c1, if_pos (.inr c2), if_neg c1, c2]; simp
    rw [hv.1, hv.2.1, hv.2.2.1, hv.2.2.2]
    exact partsZero_D b hb (classD_zero c3 c4) w hT
  have hv : pNegD b = negD b ∧ (pMantD b : Int) = (mantD b / 2 ^ Lib.ctz 64 (mantD b) : Nat) ∧ pExpD b = lowD b + Lib.ctz 64 (mantD b) ∧ pErrD b = 0 := by
    unfold pNegD pMantD pExpD pErrD; rw [if_neg c1, if_neg c1, if_neg (by omega), if_neg c1]; exact ⟨rfl, rfl, rfl, rfl⟩
  rw [hv.1, hv.2.1, hv.2.2.1, hv.2.2.2]
  by_cases c3 : expD b = 0
  · have em : mantD b = fracD b := by unfold mantD; rw [if_pos c3]
    have el : lowD b = expD b - 1075 + 1 := by unfold lowD; rw [if_pos c3, c3]; rfl
    exact partsSub_D b hb c2 (classD_sub c3 (by omega)) em el w hT
  · have em : mantD b = fracD b + 4503599627370496 := by unfold mantD; rw [if_neg c3]
    have el : lowD b = expD b - 1075 := by unfold lowD; rw [if_neg c3]
    exact partsNorm_D b hb c2 (classD_normal c3 c1) em el w hT



/-- the parts of a finite number, before it is made odd -/
def mantS (b : Nat) : Nat := if expS b = 0 then fracS b else fracS b + 8388608
def lowS (b : Nat) : Int := ((if expS b = 0 then 1 else expS b : Nat) : Int) - 150
theorem expS_lt (b : Nat) : expS b < 256 := by unfold expS; omega
theorem fracS_lt (b : Nat) : fracS b < 8388608 := by unfold fracS; omega
theorem mantS_lt (b : Nat) : mantS b < 2 * 8388608 := by have := fracS_lt b; unfold mantS; split <;> omega
/-- its parts: mantissa, exponent, error -/
def pMantS (b : Nat) : Nat := if expS b = 255 then 0 else mantS b / 2 ^ Lib.ctz 64 (mantS b)
def pExpS (b : Nat) : Int := if expS b = 255 ∨ mantS b = 0 then 0 else lowS b + Lib.ctz 64 (mantS b)
def pNegS (b : Nat) : Bool := if expS b = 255 then false else negS b
def pErrS (b : Nat) : Int := if expS b = 255 then 4 else 0
theorem classS_nan {b : Nat} (h : expS b = 255) : classS b = 1 ∨ classS b = 2 := by
  unfold classS classOf; by_cases h2 : fracS b = 0
  · right; rw [if_neg (by omega), if_pos h]
  · left; rw [if_pos ⟨h, h2⟩]
theorem classS_zero {b : Nat} (h : expS b = 0) (h2 : fracS b = 0) : classS b = 3 := by
  unfold classS classOf; rw [if_neg (by omega), if_neg (by omega), if_pos ⟨h, h2⟩]
theorem classS_sub {b : Nat} (h : expS b = 0) (h2 : fracS b ≠ 0) : classS b = 4 := by
  unfold classS classOf; rw [if_neg (by omega), if_neg (by omega), if_neg (by omega), if_pos h]
theorem classS_normal {b : Nat} (h : expS b ≠ 0) (h2 : expS b ≠ 255) : classS b = 5 := by
  unfold classS classOf; rw [if_neg (by omega), if_neg (by omega), if_neg (by omega), if_neg (by omega)]

set_option maxRecDepth 100000 in
set_option maxHeartbeats 600000 in
theorem partsNan_S (b : Nat) (hb : b < 4294967296) (cl : classS b = 1 ∨ classS b = 2) (w : World) (_ : Tab w) : Calls Tryd.prog 75 #[.int .u32 b, sgl] w fun e w' => e = .returned (.tuple #[.agg #[.bool (false), .int .u64 (0), .int .i64 (0)], .int .i64 (4)]) ∧ Within w w' := by
  have H0 := Lib.hid hb
  have HE := expS_lt b
  have HF := Lib.hid (fracS_lt b)
  have he : (expS b : Int) < 256 := by omega
  have ewf : IntKind.u64.wrap (fracS b : Int) = fracS b := by have := HF.out; rw [IntKind.wrap_u64]; omega
  rcases cl with hcl | hcl
  all_goals
    have CL := Lib.hid (class_S b H0.out)
    rw [hcl] at CL; clear hcl hb HE
    go_enter Tryd.func75, Tryd.ntmps75
    go_wp2_with fail
    refine (split_S b H0.out _).mono ?_; rintro e1 w1 ⟨rfl, hb1⟩
    have hc1 := hb1.cells; have hf1 := hb1.frozens; have hz1 : w.heap.size + 1 < w1.heap.size := (by have := hb1.sizes; simp at this; omega); have hy1 : w.heap.size < w1.heap.size := by omega
    have s0 : w1.cell? ⟨w.heap.size + 1, 0, none⟩ = some (.bool false) := by have := hc1 (w.heap.size + 1) 0 (by simp); simpa using this
    have s1 : w1.cell? ⟨w.heap.size + 1, 1, none⟩ = some (.int .u64 0) := by have := hc1 (w.heap.size + 1) 1 (by simp); simpa using this
    have s2 : w1.cell? ⟨w.heap.size + 1, 2, none⟩ = some (.int .i64 0) := by have := hc1 (w.heap.size + 1) 2 (by simp); simpa using this
    go_wp2_with fail
    refine (CL.out _).mono ?_; rintro e2 w2 ⟨rfl, hb2⟩
    have hc2 := hb2.cells; have hf2 := hb2.frozens; have hz2 : w1.heap.size < w2.heap.size := (by have := hb2.sizes; simp at this; omega); have hy2 : w.heap.size < w2.heap.size := (by omega); have hx2 : w.heap.size + 1 < w2.heap.size := by omega
    have k0 : w2.cell? ⟨w1.heap.size, 0, none⟩ = some (.bool (negS b)) := by have := hc2 w1.heap.size 0 (by simp); simpa using this
    have k1 : w2.cell? ⟨w1.heap.size, 1, none⟩ = some (.int .u64 (fracS b)) := by have := hc2 w1.heap.size 1 (by simp); simpa using this
    have k2 : w2.cell? ⟨w1.heap.size, 2, none⟩ = some (.int .i64 ((expS b : Int) - 150)) := by have := hc2 w1.heap.size 2 (by simp); simpa using this
    have r0 : w2.cell? ⟨w.heap.size + 1, 0, none⟩ = some (.bool false) := by rw [hc2 _ _ (by simp; omega), World.cell?_alloc_lt _ _ _ (by simpa using hz1)]; exact s0
    have r1 : w2.cell? ⟨w.heap.size + 1, 1, none⟩ = some (.int .u64 0) := by rw [hc2 _ _ (by simp; omega), World.cell?_alloc_lt _ _ _ (by simpa using hz1)]; exact s1
    have r2 : w2.cell? ⟨w.heap.size + 1, 2, none⟩ = some (.int .i64 0) := by rw [hc2 _ _ (by simp; omega), World.cell?_alloc_lt _ _ _ (by simpa using hz1)]; exact s2
    go_wp2
    refine bodyPost_ret (v := .tuple #[.agg #[.bool (false), .int .u64 (0), .int .i64 (0)], .int .i64 (4)]) (by simp [results, Tryd.results75, go_sem, r0, r1, r2]) rfl ⟨rfl, ?_⟩
    exact (by repeat (first | with_reducible exact Within.refl _ | with_reducible assumption | with_reducible refine Within.alloc ?_ _ | with_reducible refine Within.drew ?_ | with_reducible refine Within.setCell ?_ (by first | (simp; done) | (simp; omega)) _ | with_reducible refine Within.trans ?_ (by assumption)))


set_option maxRecDepth 100000 in
set_option maxHeartbeats 600000 in
theorem partsZero_S (b : Nat) (hb : b < 4294967296) (cl : classS b = 3) (w : World) (_ : Tab w) : Calls Tryd.prog 75 #[.int .u32 b, sgl] w fun e w' => e = .returned (.tuple #[.agg #[.bool (negS b), .int .u64 (0), .int .i64 (0)], .int .i64 (0)]) ∧ Within w w' := by
  have H0 := Lib.hid hb
  have HE := expS_lt b
  have HF := Lib.hid (fracS_lt b)
  have he : (expS b : Int) < 256 := by omega
  have ewf : IntKind.u64.wrap (fracS b : Int) = fracS b := by have := HF.out; rw [IntKind.wrap_u64]; omega
  have CL := Lib.hid (class_S b H0.out)
  rw [cl] at CL
  clear cl hb HE
  go_enter Tryd.func75, Tryd.ntmps75
  go_wp2_with fail
  refine (split_S b H0.out _).mono ?_; rintro e1 w1 ⟨rfl, hb1⟩
  have hc1 := hb1.cells; have hf1 := hb1.frozens; have hz1 : w.heap.size + 1 < w1.heap.size := (by have := hb1.sizes; simp at this; omega); have hy1 : w.heap.size < w1.heap.size := by omega
  have s0 : w1.cell? ⟨w.heap.size + 1, 0, none⟩ = some (.bool false) := by have := hc1 (w.heap.size + 1) 0 (by simp); simpa using this
  have s1 : w1.cell? ⟨w.heap.size + 1, 1, none⟩ = some (.int .u64 0) := by have := hc1 (w.heap.size + 1) 1 (by simp); simpa using this
  have s2 : w1.cell? ⟨w.heap.size + 1, 2, none⟩ = some (.int .i64 0) := by have := hc1 (w.heap.size + 1) 2 (by simp); simpa using this
  go_wp2_with fail
  refine (CL.out _).mono ?_; rintro e2 w2 ⟨rfl, hb2⟩
  have hc2 := hb2.cells; have hf2 := hb2.frozens; have hz2 : w1.heap.size < w2.heap.size := (by have := hb2.sizes; simp at this; omega); have hy2 : w.heap.size < w2.heap.size := (by omega); have hx2 : w.heap.size + 1 < w2.heap.size := by omega
  have k0 : w2.cell? ⟨w1.heap.size, 0, none⟩ = some (.bool (negS b)) := by have := hc2 w1.heap.size 0 (by simp); simpa using this
  have k1 : w2.cell? ⟨w1.heap.size, 1, none⟩ = some (.int .u64 (fracS b)) := by have := hc2 w1.heap.size 1 (by simp); simpa using this
  have k2 : w2.cell? ⟨w1.heap.size, 2, none⟩ = some (.int .i64 ((expS b : Int) - 150)) := by have := hc2 w1.heap.size 2 (by simp); simpa using this
  have r0 : w2.cell? ⟨w.heap.size + 1, 0, none⟩ = some (.bool false) := by rw [hc2 _ _ (by simp; omega), World.cell?_alloc_lt _ _ _ (by simpa using hz1)]; exact s0
  have r1 : w2.cell? ⟨w.heap.size + 1, 1, none⟩ = some (.int .u64 0) := by rw [hc2 _ _ (by simp; omega), World.cell?_alloc_lt _ _ _ (by simpa using hz1)]; exact s1
  have r2 : w2.cell? ⟨w.heap.size + 1, 2, none⟩ = some (.int .i64 0) := by rw [hc2 _ _ (by simp; omega), World.cell?_alloc_lt _ _ _ (by simpa using hz1)]; exact s2
  go_wp2
  refine bodyPost_ret (v := .tuple #[.agg #[.bool (negS b), .int .u64 (0), .int .i64 (0)], .int .i64 (0)]) (by simp [results, Tryd.results75, go_sem, r0, r1, r2]) rfl ⟨rfl, ?_⟩
  exact (by repeat (first | with_reducible exact Within.refl _ | with_reducible assumption | with_reducible refine Within.alloc ?_ _ | with_reducible refine Within.drew ?_ | with_reducible refine Within.setCell ?_ (by first | (simp; done) | (simp; omega)) _ | with_reducible refine Within.trans ?_ (by assumption)))


set_option maxRecDepth 100000 in
set_option maxHeartbeats 600000 in
theorem partsSub_S (b : Nat) (hb : b < 4294967296) (c2 : mantS b ≠ 0) (cl : classS b = 4) (em : mantS b = fracS b) (el : lowS b = expS b - 150 + 1) (w : World) (hT : Tab w) : Calls Tryd.prog 75 #[.int .u32 b, sgl] w fun e w' => e = .returned (.tuple #[.agg #[.bool (negS b), .int .u64 ((mantS b / 2 ^ Lib.ctz 64 (mantS b) : Nat)), .int .i64 (lowS b + Lib.ctz 64 (mantS b))], .int .i64 (0)]) ∧ Within w w' := by
  have H0 := Lib.hid hb
  have HE := expS_lt b
  have HF := Lib.hid (fracS_lt b)
  have he : (expS b : Int) < 256 := by omega
  have ewf : IntKind.u64.wrap (fracS b : Int) = fracS b := by have := HF.out; rw [IntKind.wrap_u64]; omega
  have HM := Lib.hid (mantS_lt b)
  obtain ⟨_, hz, hk⟩ := ctz_split (mantS b) c2 (by have := HM.out; omega); clear hz
  have HK := Lib.hid hk
  have hk : (Lib.ctz 64 (mantS b) : Int) < 64 := by omega
  have TZ := Lib.hid (fun w => bits_tz64 (mantS b) (by have := HM.out; omega) w)
  generalize Lib.ctz 64 (mantS b) = k at *
  have CL := Lib.hid (class_S b H0.out)
  rw [cl] at CL
  have EM := Lib.hid em
  have EL := Lib.hid el
  clear cl hb HE c2 em el
  go_enter Tryd.func75, Tryd.ntmps75
  go_wp2_with fail
  refine (split_S b H0.out _).mono ?_; rintro e1 w1 ⟨rfl, hb1⟩
  have hc1 := hb1.cells; have hf1 := hb1.frozens; have hz1 : w.heap.size + 1 < w1.heap.size := (by have := hb1.sizes; simp at this; omega); have hy1 : w.heap.size < w1.heap.size := by omega
  have s0 : w1.cell? ⟨w.heap.size + 1, 0, none⟩ = some (.bool false) := by have := hc1 (w.heap.size + 1) 0 (by simp); simpa using this
  have s1 : w1.cell? ⟨w.heap.size + 1, 1, none⟩ = some (.int .u64 0) := by have := hc1 (w.heap.size + 1) 1 (by simp); simpa using this
  have s2 : w1.cell? ⟨w.heap.size + 1, 2, none⟩ = some (.int .i64 0) := by have := hc1 (w.heap.size + 1) 2 (by simp); simpa using this
  go_wp2_with fail
  refine (CL.out _).mono ?_; rintro e2 w2 ⟨rfl, hb2⟩
  have hc2 := hb2.cells; have hf2 := hb2.frozens; have hz2 : w1.heap.size < w2.heap.size := (by have := hb2.sizes; simp at this; omega); have hy2 : w.heap.size < w2.heap.size := (by omega); have hx2 : w.heap.size + 1 < w2.heap.size := by omega
  have k0 : w2.cell? ⟨w1.heap.size, 0, none⟩ = some (.bool (negS b)) := by have := hc2 w1.heap.size 0 (by simp); simpa using this
  have k1 : w2.cell? ⟨w1.heap.size, 1, none⟩ = some (.int .u64 (fracS b)) := by have := hc2 w1.heap.size 1 (by simp); simpa using this
  have k2 : w2.cell? ⟨w1.heap.size, 2, none⟩ = some (.int .i64 ((expS b : Int) - 150)) := by have := hc2 w1.heap.size 2 (by simp); simpa using this
  have r0 : w2.cell? ⟨w.heap.size + 1, 0, none⟩ = some (.bool false) := by rw [hc2 _ _ (by simp; omega), World.cell?_alloc_lt _ _ _ (by simpa using hz1)]; exact s0
  have r1 : w2.cell? ⟨w.heap.size + 1, 1, none⟩ = some (.int .u64 0) := by rw [hc2 _ _ (by simp; omega), World.cell?_alloc_lt _ _ _ (by simpa using hz1)]; exact s1
  have r2 : w2.cell? ⟨w.heap.size + 1, 2, none⟩ = some (.int .i64 0) := by rw [hc2 _ _ (by simp; omega), World.cell?_alloc_lt _ _ _ (by simpa using hz1)]; exact s2
  go_wp2_with fail
  rw [← EM.out]
  refine (TZ.out _ (hT.of (by repeat (first | with_reducible exact Within.refl _ | with_reducible assumption | with_reducible refine Within.alloc ?_ _ | with_reducible refine Within.drew ?_ | with_reducible refine Within.setCell ?_ (by first | (simp; done) | (simp; omega)) _ | with_reducible refine Within.trans ?_ (by assumption))))).mono ?_; rintro e3 w3 ⟨rfl, rfl⟩
  go_wp2
  obtain ⟨m, hm⟩ : ∃ m : Int, m = (fracS b : Int) / 2 ^ k := ⟨_, rfl⟩
  rw [← hm]
  have HM2 := Lib.hid hm; clear hm
  refine bodyPost_ret (v := .tuple #[.agg #[.bool (negS b), .int .u64 m, .int .i64 ((expS b : Int) - 150 + 1 + k)], .int .i64 0]) ?_ ?_ ?_
  · simp [results, Tryd.results75, go_sem, r0, r1, r2]
  · rfl
  refine ⟨parts_eq ?_ ?_, ?_⟩
  · rw [HM2.out, EM.out]; simp
  · rw [EL.out]
  · exact (by repeat (first | with_reducible exact Within.refl _ | with_reducible assumption | with_reducible refine Within.alloc ?_ _ | with_reducible refine Within.drew ?_ | with_reducible refine Within.setCell ?_ (by first | (simp; done) | (simp; omega)) _ | with_reducible refine Within.trans ?_ (by assumption)))


set_option maxRecDepth 100000 in
set_option maxHeartbeats 600000 in
theorem partsNorm_S (b : Nat) (hb : b < 4294967296) (c2 : mantS b ≠ 0) (cl : classS b = 5) (em : mantS b = fracS b + 8388608) (el : lowS b = expS b - 150) (w : World) (hT : Tab w) : Calls Tryd.prog 75 #[.int .u32 b, sgl] w fun e w' => e = .returned (.tuple #[.agg #[.bool (negS b), .int .u64 ((mantS b / 2 ^ Lib.ctz 64 (mantS b) : Nat)), .int .i64 (lowS b + Lib.ctz 64 (mantS b))], .int .i64 (0)]) ∧ Within w w' := by
  have H0 := Lib.hid hb
  have HE := expS_lt b
  have HF := Lib.hid (fracS_lt b)
  have he : (expS b : Int) < 256 := by omega
  have ewf : IntKind.u64.wrap (fracS b : Int) = fracS b := by have := HF.out; rw [IntKind.wrap_u64]; omega
  have HM := Lib.hid (mantS_lt b)
  obtain ⟨_, hz, hk⟩ := ctz_split (mantS b) c2 (by have := HM.out; omega); clear hz
  have HK := Lib.hid hk
  have hk : (Lib.ctz 64 (mantS b) : Int) < 64 := by omega
  have TZ := Lib.hid (fun w => bits_tz64 (mantS b) (by have := HM.out; omega) w)
  generalize Lib.ctz 64 (mantS b) = k at *
  have CL := Lib.hid (class_S b H0.out)
  rw [cl] at CL
  have EM := Lib.hid em
  have EL := Lib.hid el
  have j1 := u64_join 23 8388608 (fracS b) (by decide) (by have := HF.out; omega) (by decide) (by rw [show (2 : Nat) ^ 23 = 8388608 from rfl]; exact HF.out)
  have e1 : bits .or .u64 (fracS b : Int) 8388608 = (mantS b : Int) := by
    rw [show (8388608 : Int) = ((8388608 : Nat) : Int) from rfl, u64_or_nat _ _ (by have := HF.out; omega) (by decide), Nat.or_comm, ← u64_or_nat _ _ (by decide) (by have := HF.out; omega), j1, EM.out]; omega
  clear cl hb HE c2 em el j1
  go_enter Tryd.func75, Tryd.ntmps75
  go_wp2_with fail
  refine (split_S b H0.out _).mono ?_; rintro e1 w1 ⟨rfl, hb1⟩
  have hc1 := hb1.cells; have hf1 := hb1.frozens; have hz1 : w.heap.size + 1 < w1.heap.size := (by have := hb1.sizes; simp at this; omega); have hy1 : w.heap.size < w1.heap.size := by omega
  have s0 : w1.cell? ⟨w.heap.size + 1, 0, none⟩ = some (.bool false) := by have := hc1 (w.heap.size + 1) 0 (by simp); simpa using this
  have s1 : w1.cell? ⟨w.heap.size + 1, 1, none⟩ = some (.int .u64 0) := by have := hc1 (w.heap.size + 1) 1 (by simp); simpa using this
  have s2 : w1.cell? ⟨w.heap.size + 1, 2, none⟩ = some (.int .i64 0) := by have := hc1 (w.heap.size + 1) 2 (by simp); simpa using this
  go_wp2_with fail
  refine (CL.out _).mono ?_; rintro e2 w2 ⟨rfl, hb2⟩
  have hc2 := hb2.cells; have hf2 := hb2.frozens; have hz2 : w1.heap.size < w2.heap.size := (by have := hb2.sizes; simp at this; omega); have hy2 : w.heap.size < w2.heap.size := (by omega); have hx2 : w.heap.size + 1 < w2.heap.size := by omega
  have k0 : w2.cell? ⟨w1.heap.size, 0, none⟩ = some (.bool (negS b)) := by have := hc2 w1.heap.size 0 (by simp); simpa using this
  have k1 : w2.cell? ⟨w1.heap.size, 1, none⟩ = some (.int .u64 (fracS b)) := by have := hc2 w1.heap.size 1 (by simp); simpa using this
  have k2 : w2.cell? ⟨w1.heap.size, 2, none⟩ = some (.int .i64 ((expS b : Int) - 150)) := by have := hc2 w1.heap.size 2 (by simp); simpa using this
  have r0 : w2.cell? ⟨w.heap.size + 1, 0, none⟩ = some (.bool false) := by rw [hc2 _ _ (by simp; omega), World.cell?_alloc_lt _ _ _ (by simpa using hz1)]; exact s0
  have r1 : w2.cell? ⟨w.heap.size + 1, 1, none⟩ = some (.int .u64 0) := by rw [hc2 _ _ (by simp; omega), World.cell?_alloc_lt _ _ _ (by simpa using hz1)]; exact s1
  have r2 : w2.cell? ⟨w.heap.size + 1, 2, none⟩ = some (.int .i64 0) := by rw [hc2 _ _ (by simp; omega), World.cell?_alloc_lt _ _ _ (by simpa using hz1)]; exact s2
  go_wp2_with fail
  have g0 : w1.cell? ⟨w.heap.size, 0, none⟩ = some (.int .u64 23) := by have := hc1 w.heap.size 0 (by simp; omega); simpa using this
  have f0 : w2.cell? ⟨w.heap.size, 0, none⟩ = some (.int .u64 23) := by rw [hc2 _ _ (by simp; omega), World.cell?_alloc_lt _ _ _ (by simpa using hy1)]; exact g0
  have g1 : w1.cell? ⟨w.heap.size, 1, none⟩ = some (.int .i64 255) := by have := hc1 w.heap.size 1 (by simp; omega); simpa using this
  have f1 : w2.cell? ⟨w.heap.size, 1, none⟩ = some (.int .i64 255) := by rw [hc2 _ _ (by simp; omega), World.cell?_alloc_lt _ _ _ (by simpa using hy1)]; exact g1
  have g2 : w1.cell? ⟨w.heap.size, 2, none⟩ = some (.int .i64 150) := by have := hc1 w.heap.size 2 (by simp; omega); simpa using this
  have f2 : w2.cell? ⟨w.heap.size, 2, none⟩ = some (.int .i64 150) := by rw [hc2 _ _ (by simp; omega), World.cell?_alloc_lt _ _ _ (by simpa using hy1)]; exact g2
  have z1 : ∀ o, w2.frozen? ⟨w1.heap.size, o, none⟩ = false := fun o => by have := hf2 w1.heap.size o (by simp); simpa using this
  have y0 : ∀ o, w1.frozen? ⟨w.heap.size + 1, o, none⟩ = false := fun o => by have := hf1 (w.heap.size + 1) o (by simp); simpa using this
  have y1 : ∀ o, w2.frozen? ⟨w.heap.size + 1, o, none⟩ = false := fun o => by have := hf2 (w.heap.size + 1) o (by simp; omega); rw [World.frozen?_alloc_old _ _ _ (by simp; omega)] at this; rw [this]; exact y0 o
  go_region_with (first | (go_at_call 111; refine (hidden_S _).mono ?_; rintro e3 w3 ⟨rfl, hb3⟩; have hq3 := (Within.refl w2).drew.trans hb3; have hc3 := hq3.cells; have kk0 := (hc3 _ _ hz2).trans k0; have kk1 := (hc3 _ _ hz2).trans k1; have kk2 := (hc3 _ _ hz2).trans k2; have hz3 := Nat.lt_of_lt_of_le hz2 hq3.sizes; have hy3 := Nat.lt_of_lt_of_le hy2 hq3.sizes; have z3 := fun o => (hq3.frozens _ o hz2).trans (z1 o); have y3 := fun o => (hq3.frozens _ o hx2).trans (y1 o); have rr0 := (hc3 _ _ hx2).trans r0; have rr1 := (hc3 _ _ hx2).trans r1; have rr2 := (hc3 _ _ hx2).trans r2))
  all_goals
    go_wp2_with fail
    refine (TZ.out _ (hT.of (by repeat (first | with_reducible exact Within.refl _ | with_reducible assumption | with_reducible refine Within.alloc ?_ _ | with_reducible refine Within.drew ?_ | with_reducible refine Within.setCell ?_ (by first | (simp; done) | (simp; omega)) _ | with_reducible refine Within.trans ?_ (by assumption))))).mono ?_; rintro e4 w4 ⟨rfl, rfl⟩
    go_wp2
    obtain ⟨m, hm⟩ : ∃ m : Int, m = (mantS b : Int) / 2 ^ k := ⟨_, rfl⟩
    rw [← hm]
    have HM2 := Lib.hid hm; clear hm
    refine bodyPost_ret (v := .tuple #[.agg #[.bool (negS b), .int .u64 m, .int .i64 ((expS b : Int) - 150 + k)], .int .i64 0]) ?_ ?_ ?_
    · simp [results, Tryd.results75, go_sem, rr0, rr1, rr2]
    · rfl
    refine ⟨parts_eq ?_ ?_, ?_⟩
    · rw [HM2.out]; simp
    · rw [EL.out]
    · exact (by repeat (first | with_reducible exact Within.refl _ | with_reducible assumption | with_reducible refine Within.alloc ?_ _ | with_reducible refine Within.drew ?_ | with_reducible refine Within.setCell ?_ (by first | (simp; done) | (simp; omega)) _ | with_reducible refine Within.trans ?_ (by assumption)))


set_option maxRecDepth 100000 in
set_option maxHeartbeats 600000 in
theorem parts_S (b : Nat) (hb : b < 4294967296)  (w : World) (hT : Tab w) : Calls Tryd.prog 75 #[.int .u32 b, sgl] w fun e w' => e = .returned (.tuple #[.agg #[.bool (pNegS b), .int .u64 (pMantS b), .int .i64 (pExpS b)], .int .i64 (pErrS b)]) ∧ Within w w' := by
  by_cases c1 : expS b = 255
  · have hv : pNegS b = false ∧ (pMantS b : Int) = 0 ∧ pExpS b = 0 ∧ pErrS b = 4 := by
      unfold pNegS pMantS pExpS pErrS; rw [if_pos c1, if_pos c1, if_pos (.inl c1), if_pos c1]; exact ⟨rfl, rfl, rfl, rfl⟩
    rw [hv.1, hv.2.1, hv.2.2.1, hv.2.2.2]
    exact partsNan_S b hb (classS_nan c1) w hT
  by_cases c2 : mantS b = 0
  · have c3 : expS b = 0 := by unfold mantS at c2; split at c2 <;> omega
    have c4 : fracS b = 0 := by unfold mantS at c2; rw [if_pos c3] at c2; exact c2
    have hv : pNegS b = negS b ∧ (pMantS b : Int) = 0 ∧ pExpS b = 0 ∧ pErrS b = 0 := by
      unfold pNegS pMantS pExpS pErrS; rw [if_neg c1, if_neg c1, if_pos (.inr c2), if_neg c1, c2]; simp
    rw [hv.1, hv.2.1, hv.2.2.1, hv.2.2.2]
    exact partsZero_S b hb (classS_zero c3 c4) w hT
  have hv : pNegS b = negS b ∧ (pMantS b : Int) = (mantS b / 2 ^ Lib.ctz 64 (mantS b) : Nat) ∧ pExpS b = lowS b + Lib.ctz 64 (mantS b) ∧ pErrS b = 0 := by
    unfold pNegS pMantS pExpS pErrS; rw [if_neg c1, if_neg c1, if_neg (by omega), if_neg c1]; exact ⟨rfl, rfl, rfl, rfl⟩
  rw [hv.1, hv.2.1, hv.2.2.1, hv.2.2.2]
  by_cases c3 : expS b = 0
  · have em : mantS b = fracS b := by unfold mantS; rw [if_pos c3]
    have el : lowS b = expS b - 150 + 1 := by unfold lowS; rw [if_pos c3, c3]; rfl
    exact partsSub_S b hb c2 (classS_sub c3 (by omega)) em el w hT
  · have em : mantS b = fracS b + 8388608 := by unfold mantS; rw [if_neg c3]
    have el : lowS b = expS b - 150 := by unfold lowS; rw [if_neg c3]
    exact partsNorm_S b hb c2 (classS_normal c3 c1) em el w hT


end Go.Proofs.YthjaponkbodooaaDoor
