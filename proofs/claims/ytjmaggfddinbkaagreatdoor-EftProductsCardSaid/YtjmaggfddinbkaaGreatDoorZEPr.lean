/- The card of EftProducts: whatever the input, the call returns true and the input reads as it did; the de Bruijn table holds what the program's text lays. -/
import Derived.Test.YtjmaggfddinbkaaGreatDoorRows
import Derived.WalkKit
import Derived.WalkSpells
import Derived.WalkLawsBesides
import Derived.BigQuiet
import Derived.Lib.Hide
import Derived.Deep.OwnRows
import Derived.OwnWalk
import Derived.LoopTactic
import Derived.Outline
import Derived.IntWalk
import Derived.OrdersHeld
import Derived.StillTail
import Derived.Deep.RegionHeld3
import Derived.Maps.AppendAt
import Derived.Deep.QuietTactic
import Derived.Deep.DeepCutAuto
import Derived.Shelf.Bits.Mul64
import Derived.Laws.Externs
import Derived.Deep.RegionWith
import Ieee.Arith
import Derived.Lib.TrailingZeros
import Derived.Lib.BitFns
import Derived.Lib.Strings
import Derived.Lib.Slices
import Derived.Lib.Small
import Derived.Lib.Walk
import Derived.Deep.AppendLies
import Derived.Deep.Draws
import Derived.Laws.OwnMore
import Derived.Test.YtjmaggfddinbkaaGreatDoorCards
import Derived.Test.YtjmaggfddinbkaaGreatDoorTie
import Derived.ProofKit
import Derived.OpenShut
import Derived.ShutString
import Derived.ChangeOld
import Derived.Below
import Derived.Deep.DeepHandedRow
import Derived.Lib.LaidTab
import Derived.Test.YtjmaggfddinbkaaGreatDoorZEPr3
set_option linter.unusedVariables false
set_option linter.unusedSimpArgs false
section
namespace Go.Proofs.YtjmaggfddinbkaaGreatDoor
open Go.RowKit
theorem odd_part {n : Int} {t m : Nat} (h : n.natAbs = 2 ^ t * (2 * m + 1)) : ∃ r : Int, n = r * 2 ^ t ∧ r.natAbs = 2 * m + 1 := by
  rcases Int.natAbs_eq n with e | e
  · refine ⟨((2 * m + 1 : Nat) : Int), ?_, Int.natAbs_natCast _⟩
    rw [e, h, Int.natCast_mul, cast_pow, Int.mul_comm]
  · refine ⟨-((2 * m + 1 : Nat) : Int), ?_, by rw [Int.natAbs_neg, Int.natAbs_natCast]⟩
    rw [e, h, Int.natCast_mul, cast_pow, Int.neg_mul, Int.mul_comm]
def OddR (W : World) (n E : Int) (e : Ending) (w' : World) : Prop := ∃ (t m : Nat) (r : Int), n = r * 2 ^ t ∧ r.natAbs = 2 * m + 1 ∧ ExR W r (E + t) e w'
theorem pow_lim {t n K : Nat} (h : 2 ^ t ≤ n) (hl : (dg n).length ≤ K) : t ≤ 32 * K := by
  have h1 := Nat.lt_of_lt_of_le (lt_of_dg n) (Nat.pow_le_pow_right (by decide) hl)
  have h3 : (2 : Nat) ^ t < 2 ^ (32 * K) := by rw [Nat.pow_mul]; exact Nat.lt_of_le_of_lt h h1
  exact Nat.le_of_lt ((Nat.pow_lt_pow_iff_right (by decide)).1 h3)
set_option maxRecDepth 100000 in
set_option maxHeartbeats 600000 in
theorem Xodd (n E : Int) (g : Nat) (h0 : n ≠ 0) (hl : (dg n.natAbs).length ≤ 1000) (hE : -100000 ≤ E ∧ E ≤ 100000) (w : World) (hT : Tab32 w) (hI : IntB w g n) : Calls Tryz.prog 45 #[.agg #[.pointer (some ⟨g, 0, none⟩), .int .i64 E]] w (OddR w n E) := by
  have S1 := Lib.hid (fun w h => Bsign g n w h)
  have TB := Lib.hid (fun w hT h => Btzb g n h0 (Nat.le_trans hl (by decide)) w hT h)
  have J := Lib.hid (hI.of (((Within.refl w).alloc (.cells #[.pointer (some ⟨g, 0, none⟩), .int .i64 E] 53)).alloc (.cells #[.pointer none, .int .i64 0] 53)))
  have HT := Lib.hid (hT.of (((Within.refl w).alloc (.cells #[.pointer (some ⟨g, 0, none⟩), .int .i64 E] 53)).alloc (.cells #[.pointer none, .int .i64 0] 53)))
  have d1 : (n.sign == 0) = false := by rw [beq_eq_false_iff_ne]; intro h; exact h0 (Int.sign_eq_zero_iff_zero.1 h)
  have H0 := Lib.hid h0; have HL := Lib.hid hl; clear hI hT h0 hl
  go_enter Tryz.func45, Tryz.ntmps45
  go_wp2_with fail
  refine (S1.out _ J.out).mono ?_; rintro e1 w1 ⟨rfl, rfl⟩
  go_wp2_with fail
  refine (TB.out _ HT.out J.out).mono ?_; rintro e2 w2 ⟨t, m, rfl, hm, ht, rfl⟩
  obtain ⟨r, hr1, hr2⟩ := odd_part hm
  have HR := Lib.hid (And.intro hr1 hr2)
  have htl : t ≤ 32000 := pow_lim (K := 1000) (by rw [hm]; exact Nat.le_mul_of_pos_right _ (by omega)) HL.out
  have RS := Lib.hid (fun z w hz hx => BrshD z g t n r H0.out hr1 (Nat.le_trans HL.out (by decide)) (by omega) w hz hx)
  have ec : IntKind.i64.wrap (t : Int) = (t : Int) := IntWalk.i64_in _ ⟨by omega, by omega⟩
  have ea : IntKind.i64.wrap (E + (t : Int)) = E + (t : Int) := IntWalk.i64_in _ ⟨by omega, by omega⟩
  clear hr1 hr2 hm ht hE htl
  go_wp2
  refine wp_region_schG (fun W => W.cell? ⟨w.heap.size, 0, none⟩ = some (.pointer (some ⟨g, 0, none⟩)) ∧ W.cell? ⟨w.heap.size, 1, none⟩ = some (.int .i64 E) ∧ W.heap[w.heap.size + 1]? = some (.cells #[.pointer none, .int .i64 0] 53 (0, 0)) ∧ IntB W g n ∧ w.heap.size < W.heap.size ∧ w.heap.size + 1 < W.heap.size ∧ Within w W) 11 (.firm 1 (.firm 2 (.firm 3 (.firm 5 (.firm 6 (.firm 7 (.firm 8 (.firm 9 (.one 0 (.one 4 (.firm 10 (.one 11 .nil)))))))))))) (by kernel_rfl) (by kernel_rfl) ⟨by go_simp, by go_simp, (by have := heap_alloc_new (w.alloc (.cells #[.pointer (some ⟨g, 0, none⟩), .int .i64 E] 53)) (.cells #[.pointer none, .int .i64 0] 53); simpa using this), J.out, by first | (simp; done) | (simp; omega), by first | (simp; done) | (simp; omega), (by repeat (first | with_reducible exact Within.refl _ | with_reducible assumption | with_reducible refine Within.alloc ?_ _ | with_reducible refine Within.drew ?_ | with_reducible refine Within.drewN ?_ _ | with_reducible refine Within.setCell ?_ (by first | (simp; done) | (simp; omega)) _ | with_reducible refine Within.trans ?_ (by assumption)))⟩ ?_
  rintro w0 ⟨c0, c1, hz, hI, l0, l1, hw0⟩
  try simp only [Act.put, List.setIfInBounds_toArray, List.set_cons_zero, List.set_cons_succ]
  apply sch_firm rfl rfl (by repeat (first | with_reducible exact Within.refl _ | with_reducible assumption | with_reducible refine Within.alloc ?_ _ | with_reducible refine Within.drew ?_ | with_reducible refine Within.drewN ?_ _ | with_reducible refine Within.setCell ?_ (by first | (simp; done) | (simp; omega)) _ | with_reducible refine Within.trans ?_ (by assumption)))
  · intro wq hq
    have hcq := hq.cells
    clear hq
    go_simp
    first | rfl | (trace_state; fail)
  try simp only [Act.put, List.setIfInBounds_toArray, List.set_cons_zero, List.set_cons_succ]
  apply sch_firm rfl rfl (by repeat (first | with_reducible exact Within.refl _ | with_reducible assumption | with_reducible refine Within.alloc ?_ _ | with_reducible refine Within.drew ?_ | with_reducible refine Within.drewN ?_ _ | with_reducible refine Within.setCell ?_ (by first | (simp; done) | (simp; omega)) _ | with_reducible refine Within.trans ?_ (by assumption)))
  · intro wq hq
    have hcq := hq.cells
    clear hq
    go_simp
    first | rfl | (trace_state; fail)
  try simp only [Act.put, List.setIfInBounds_toArray, List.set_cons_zero, List.set_cons_succ]
  apply sch_firm rfl rfl (by repeat (first | with_reducible exact Within.refl _ | with_reducible assumption | with_reducible refine Within.alloc ?_ _ | with_reducible refine Within.drew ?_ | with_reducible refine Within.drewN ?_ _ | with_reducible refine Within.setCell ?_ (by first | (simp; done) | (simp; omega)) _ | with_reducible refine Within.trans ?_ (by assumption)))
  · intro wq hq
    have hcq := hq.cells
    clear hq
    go_simp
    first | rfl | (trace_state; fail)
  try simp only [Act.put, List.setIfInBounds_toArray, List.set_cons_zero, List.set_cons_succ]
  apply sch_firm rfl rfl (by repeat (first | with_reducible exact Within.refl _ | with_reducible assumption | with_reducible refine Within.alloc ?_ _ | with_reducible refine Within.drew ?_ | with_reducible refine Within.drewN ?_ _ | with_reducible refine Within.setCell ?_ (by first | (simp; done) | (simp; omega)) _ | with_reducible refine Within.trans ?_ (by assumption)))
  · intro wq hq
    have hcq := hq.cells
    clear hq
    go_simp
    first | rfl | (trace_state; fail)
  try simp only [Act.put, List.setIfInBounds_toArray, List.set_cons_zero, List.set_cons_succ]
  apply sch_firm rfl rfl (by repeat (first | with_reducible exact Within.refl _ | with_reducible assumption | with_reducible refine Within.alloc ?_ _ | with_reducible refine Within.drew ?_ | with_reducible refine Within.drewN ?_ _ | with_reducible refine Within.setCell ?_ (by first | (simp; done) | (simp; omega)) _ | with_reducible refine Within.trans ?_ (by assumption)))
  · intro wq hq
    have hcq := hq.cells
    clear hq
    go_simp
    first | rfl | (trace_state; fail)
  try simp only [Act.put, List.setIfInBounds_toArray, List.set_cons_zero, List.set_cons_succ]
  apply sch_firm rfl rfl (by repeat (first | with_reducible exact Within.refl _ | with_reducible assumption | with_reducible refine Within.alloc ?_ _ | with_reducible refine Within.drew ?_ | with_reducible refine Within.drewN ?_ _ | with_reducible refine Within.setCell ?_ (by first | (simp; done) | (simp; omega)) _ | with_reducible refine Within.trans ?_ (by assumption)))
  · intro wq hq
    have hcq := hq.cells
    clear hq
    go_simp
    first | rfl | (trace_state; fail)
  try simp only [Act.put, List.setIfInBounds_toArray, List.set_cons_zero, List.set_cons_succ]
  apply sch_firm rfl rfl (by repeat (first | with_reducible exact Within.refl _ | with_reducible assumption | with_reducible refine Within.alloc ?_ _ | with_reducible refine Within.drew ?_ | with_reducible refine Within.drewN ?_ _ | with_reducible refine Within.setCell ?_ (by first | (simp; done) | (simp; omega)) _ | with_reducible refine Within.trans ?_ (by assumption)))
  · intro wq hq
    have hcq := hq.cells
    clear hq
    go_simp
    first | rfl | (trace_state; fail)
  try simp only [Act.put, List.setIfInBounds_toArray, List.set_cons_zero, List.set_cons_succ]
  apply sch_firm rfl rfl (by repeat (first | with_reducible exact Within.refl _ | with_reducible assumption | with_reducible refine Within.alloc ?_ _ | with_reducible refine Within.drew ?_ | with_reducible refine Within.drewN ?_ _ | with_reducible refine Within.setCell ?_ (by first | (simp; done) | (simp; omega)) _ | with_reducible refine Within.trans ?_ (by assumption)))
  · intro wq hq
    have hcq := hq.cells
    clear hq
    go_simp
    first | rfl | (trace_state; fail)
  try simp only [Act.put, List.setIfInBounds_toArray, List.set_cons_zero, List.set_cons_succ]
  refine sch_one rfl rfl (fun K hK => ?_)
  go_simp
  refine hK _ _ (fun _ => (by repeat (first | with_reducible exact Within.refl _ | with_reducible assumption | with_reducible refine Within.alloc ?_ _ | with_reducible refine Within.drew ?_ | with_reducible refine Within.drewN ?_ _ | with_reducible refine Within.setCell ?_ (by first | (simp; done) | (simp; omega)) _ | with_reducible refine Within.trans ?_ (by assumption)))) ?_
  clear hK K
  try simp only [Act.put, List.setIfInBounds_toArray, List.set_cons_zero, List.set_cons_succ]
  refine sch_one rfl rfl (fun K hK => ?_)
  go_simp
  refine (RS.out _ _ (by exact (IntB.made w0).ty) (IntB.of hI (by repeat (first | with_reducible exact Within.refl _ | with_reducible assumption | with_reducible refine Within.alloc ?_ _ | with_reducible refine Within.drew ?_ | with_reducible refine Within.drewN ?_ _ | with_reducible refine Within.setCell ?_ (by first | (simp; done) | (simp; omega)) _ | with_reducible refine Within.trans ?_ (by assumption))))).mono ?_; rintro e5 w5 ⟨rfl, hJ, hG⟩
  have hv5 : Within w0 w5 := Within.grown (by repeat (first | with_reducible exact Within.refl _ | with_reducible assumption | with_reducible refine Within.alloc ?_ _ | with_reducible refine Within.drew ?_ | with_reducible refine Within.drewN ?_ _ | with_reducible refine Within.setCell ?_ (by first | (simp; done) | (simp; omega)) _ | with_reducible refine Within.trans ?_ (by assumption))) hG (by simp)
  have hz5 := (hv5.block _ l1).trans hz
  obtain ⟨y0, y1, yf⟩ := ex_cells hz5
  have yl := Nat.lt_of_lt_of_le l1 hv5.sizes
  refine hK _ _ (fun _ => (by repeat (first | with_reducible exact Within.refl _ | with_reducible assumption | with_reducible refine Within.alloc ?_ _ | with_reducible refine Within.drew ?_ | with_reducible refine Within.drewN ?_ _ | with_reducible refine Within.setCell ?_ (by first | (simp; done) | (simp; omega)) _ | with_reducible refine Within.trans ?_ (by assumption)))) ?_
  clear hK K
  try simp only [Act.put, List.setIfInBounds_toArray, List.set_cons_zero, List.set_cons_succ]
  apply sch_firm rfl rfl (by repeat (first | with_reducible exact Within.refl _ | with_reducible assumption | with_reducible refine Within.alloc ?_ _ | with_reducible refine Within.drew ?_ | with_reducible refine Within.drewN ?_ _ | with_reducible refine Within.setCell ?_ (by first | (simp; done) | (simp; omega)) _ | with_reducible refine Within.trans ?_ (by assumption)))
  · intro wq hq
    have hcq := hq.cells
    clear hq
    go_simp
    first | rfl | (trace_state; fail)
  try simp only [Act.put, List.setIfInBounds_toArray, List.set_cons_zero, List.set_cons_succ]
  refine sch_one rfl rfl (fun K hK => ?_)
  go_simp
  refine hK _ _ (fun h => absurd h (by decide)) ?_
  clear hK K
  try simp only [Act.put, List.setIfInBounds_toArray, List.set_cons_zero, List.set_cons_succ]
  refine sch_nil ?_
  obtain ⟨r0, r1, rI⟩ := ex_set (E := E + t) hz5 hJ (show w0.heap.size ≠ w.heap.size + 1 by omega)
  have rl : w.heap.size + 1 < w5.heap.size := yl
  have RO := Lib.hid rI; clear rI
  go_wp2
  refine bodyPost_ret (v := .agg #[.pointer (some ⟨w0.heap.size, 0, none⟩), .int .i64 (E + t)]) (by simp [results, Tryz.results45, go_sem, r0, r1, rl]) rfl ⟨t, m, r, HR.out.1, HR.out.2, w0.heap.size, rfl, RO.out, hw0.sizes, ?_⟩
  exact (((hw0.trans hv5).setCell (by show _ ≤ w.heap.size + 1; omega) _).setCell (by show _ ≤ w.heap.size + 1; omega) _)
end Go.Proofs.YtjmaggfddinbkaaGreatDoor
end

section
namespace Go.Proofs.YtjmaggfddinbkaaGreatDoor
open Go.RowKit
set_option maxRecDepth 100000 in
set_option maxHeartbeats 600000 in
theorem Xsum (a b : Nat) (ha : a < 18446744073709551616) (hb : b < 18446744073709551616) (w : World) : Calls Tryz.prog 29 #[.float .f64 a, .float .f64 b] w (ExW 1074 1100 (P64.wholeI a + P64.wholeI b) w) := by
  have CA := Lib.hid (fun w => XofW a ha w)
  have CB := Lib.hid (fun w => XofW b hb w)
  clear ha hb
  go_enter Tryz.func29, Tryz.ntmps29
  go_wp2_with fail
  refine (CA.out _).mono ?_; rintro e1 w1 ⟨g1, n1, E1, rfl, hI1, a1, a2, hv1, hb1⟩
  go_wp2_with fail
  refine (CB.out _).mono ?_; rintro e2 w2 ⟨g2, n2, E2, rfl, hI2, b1, b2, hv2, hb2⟩
  have l1 : (dg n1.natAbs).length ≤ 900 := Nat.le_trans (val_len n1 E1 1074) (by rw [hv1]; exact Nat.le_trans (whole_len a) (by decide))
  have l2 : (dg n2.natAbs).length ≤ 900 := Nat.le_trans (val_len n2 E2 1074) (by rw [hv2]; exact Nat.le_trans (whole_len b) (by decide))
  have CC := Lib.hid (Xadd n1 n2 E1 E2 g1 g2 1074 1100 (by decide) (by decide) a1 a2 b1 b2 l1 l2 w2 (hI1.of hb2) hI2)
  rw [hv1, hv2] at CC
  go_wp2_with fail
  refine CC.out.mono ?_; rintro e4 w4 ⟨g4, n4, E4, rfl, hI4, c1, c2, hv4, hb4⟩
  have hx : Within (w.alloc (.cells #[.pointer none, .int .i64 0] 53)) w4 := (hb1.trans hb2).trans hb4
  have hz5 : w4.heap[w.heap.size]? = some (.cells #[.pointer none, .int .i64 0] 53 (0, 0)) := (hx.block _ (by simp)).trans (heap_alloc_new w _)
  have hg4 := ne_ex hI4 hz5
  obtain ⟨y0, y1, yf⟩ := ex_cells hz5
  have yl : w.heap.size < w4.heap.size := World.block_lt_of_cell? _ _ y0
  obtain ⟨r0, r1, rI⟩ := ex_set (E := E4) hz5 hI4 hg4
  go_wp2
  refine bodyPost_ret (v := .agg #[.pointer (some ⟨g4, 0, none⟩), .int .i64 E4]) (by simp [results, Tryz.results29, go_sem, r0, r1, yl]) rfl ⟨g4, n4, E4, rfl, rI, c1, c2, hv4, ?_⟩
  exact ((((Within.refl w).alloc _).trans hx).setCell (by show _ ≤ w.heap.size; omega) _).setCell (by show _ ≤ w.heap.size; omega) _
end Go.Proofs.YtjmaggfddinbkaaGreatDoor
end

section
namespace Go.Proofs.YtjmaggfddinbkaaGreatDoor
open Go.RowKit
@[go_sem] theorem mx_bits64 (a : Nat) (w : World) : (callFunc 63 #[.float .f64 a]).run Tryz.prog w = .ok (.value (.int .u64 a)) w := by kernel_rfl
@[go_sem] theorem mx_from64 (a : Int) (w : World) : (callFunc 68 #[.int .u64 a]).run Tryz.prog w = .ok (.value (.float .f64 a.toNat)) w := by kernel_rfl
theorem key_pos {r : Nat} (h : r < 9223372036854775808) : Fp.key64 r = r := by unfold Fp.key64; rw [if_neg (by omega), Nat.mod_eq_of_lt h]
theorem notnan {r : Nat} (h : r % 9223372036854775808 ≤ 9218868437227405312) : Fp.isNaN64 r = false := decide_eq_false (by omega)
theorem lt_small {r : Nat} (h : r < 9218868437227405312) : (FloatKind.f64.format.order r 4503599627370496 == some .lt) = decide (r < 4503599627370496) := by
  show (Ieee.double.order r 4503599627370496 == some .lt) = _
  rw [Fp.lt64 _ _ (notnan (by omega)) (notnan (by decide)), key_pos (by omega), key_pos (by decide)]
  exact decide_eq_decide.2 (by omega)
theorem eq_zero {r : Nat} (h : r % 9223372036854775808 ≤ 9218868437227405312) : (FloatKind.f64.format.order r 0 == some .eq) = decide (r % 9223372036854775808 = 0) := by
  show (Ieee.double.order r 0 == some .eq) = _
  rw [Fp.eq64 _ _ (notnan h) (notnan (by decide))]
  unfold Fp.key64
  refine decide_eq_decide.2 ?_
  split <;> omega
theorem gt_max {r : Nat} (h : r < 9223372036854775808) : (FloatKind.f64.format.order r 9218868437227405311 == some .gt) = decide (r = 9218868437227405312) := by
  show (Ieee.double.order r 9218868437227405311 == some .gt) = _
  by_cases hn : r ≤ 9218868437227405312
  · rw [Fp.gt64 _ _ (notnan (by omega)) (notnan (by decide)), key_pos h, key_pos (by decide)]
    exact decide_eq_decide.2 (by omega)
  · rw [Fp.order64_nan _ _ (.inl (decide_eq_true (by omega))), decide_eq_false (by omega)]; rfl
theorem ne_self {a : Nat} : (FloatKind.f64.format.order a a != some .eq) = decide (9218868437227405312 < a % 9223372036854775808) := by
  show (!(Ieee.double.order a a == some .eq)) = _
  rw [Fp.order64_self]; unfold Fp.isNaN64; simp
set_option maxRecDepth 100000 in
set_option maxHeartbeats 600000 in
theorem m_abs (a : Nat) (ha : a < 18446744073709551616) (w : World) : Calls Tryz.prog 31 #[.float .f64 a] w fun e w' => e = .returned (.float .f64 (a % 9223372036854775808)) ∧ w = w' := by
  have h := u64_unsign a ha
  generalize a % 9223372036854775808 = m at *
  clear ha
  go_enter Tryz.func31, Tryz.ntmps31
  go_wp2
  go_ret
  exact ⟨rfl, rfl⟩
set_option maxRecDepth 100000 in
set_option maxHeartbeats 600000 in
theorem m_isinf (a : Nat) (ha : a < 18446744073709551616) (w : World) : Calls Tryz.prog 86 #[.float .f64 a, .int .i64 0] w fun e w' => e = .returned (.bool (decide (a % 9223372036854775808 = 9218868437227405312))) ∧ w = w' := by
  have HA := Lib.hid (fun w => m_abs a ha w)
  have h := gt_max (r := a % 9223372036854775808) (by omega)
  rw [← h]
  generalize a % 9223372036854775808 = m at *
  clear ha h
  go_enter Tryz.func86, Tryz.ntmps86
  go_wp2_with fail
  refine (HA.out _).mono ?_; rintro e1 w1 ⟨rfl, rfl⟩
  go_wp2
  go_ret
  exact ⟨rfl, rfl⟩
set_option maxRecDepth 100000 in
set_option maxHeartbeats 600000 in
theorem m_isnan (a : Nat) (w : World) : Calls Tryz.prog 139 #[.float .f64 a] w fun e w' => e = .returned (.bool (decide (9218868437227405312 < a % 9223372036854775808))) ∧ w = w' := by
  have h := ne_self (a := a)
  rw [← h]
  clear h
  go_enter Tryz.func139, Tryz.ntmps139
  go_wp2
  go_ret
  exact ⟨rfl, rfl⟩
set_option maxRecDepth 100000 in
set_option maxHeartbeats 600000 in
theorem m_norm_high (r : Nat) (h : 4503599627370496 ≤ r) (h2 : r < 9218868437227405312) (w : World) : Calls Tryz.prog 158 #[.float .f64 r] w fun e w' => e = .returned (.tuple #[.float .f64 r, .int .i64 0]) ∧ w = w' := by
  have HA := Lib.hid (fun w => m_abs r (by omega) w)
  rw [Nat.mod_eq_of_lt (show r < 9223372036854775808 by omega)] at HA
  have hl := lt_small h2
  rw [decide_eq_false (by omega)] at hl
  clear h h2
  go_enter Tryz.func158, Tryz.ntmps158
  go_wp2_with fail
  refine (HA.out _).mono ?_; rintro e1 w1 ⟨rfl, rfl⟩
  go_wp2
  go_ret2
  exact ⟨rfl, rfl⟩
theorem field_of_i (z : Nat) (h : z < 9218868437227405312) : bits .and .i64 ((z / 4503599627370496 : Nat) : Int) 2047 = ((z / 4503599627370496 : Nat) : Int) := by
  obtain ⟨q, hq⟩ : ∃ q, z / 4503599627370496 = q := ⟨_, rfl⟩
  have hl : q < 2048 := by omega
  rw [hq]
  have : ∀ n : Fin 2048, bits .and .i64 ((n.val : Nat) : Int) 2047 = ((n.val : Nat) : Int) := by decide +kernel
  exact this ⟨q, hl⟩
theorem frac_of (z : Nat) (h : z < 9218868437227405312) : bits .andNot .u64 (z : Int) 9218868437227405312 = ((z % 4503599627370496 : Nat) : Int) := by
  rw [show (9218868437227405312 : Int) = ((9218868437227405312 : Nat) : Int) from rfl, u64_andNot_nat z 9218868437227405312 (by omega) (by decide)]
  congr 1
  apply Nat.eq_of_testBit_eq
  intro i
  rw [show 18446744073709551615 - 9218868437227405312 = 2 ^ 63 + (2 ^ 52 - 1) by decide, show (4503599627370496 : Nat) = 2 ^ 52 by decide, Nat.testBit_and, Nat.testBit_mod_two_pow]
  by_cases h1 : i < 63
  · have k : ∀ j, j < 63 → Nat.testBit (2 ^ 63 + (2 ^ 52 - 1)) j = decide (j < 52) := by decide +kernel
    rw [k i h1, Bool.and_comm]
  · have : z.testBit i = false := Nat.testBit_lt_two_pow (Nat.lt_of_lt_of_le h (Nat.le_trans (show 9218868437227405312 ≤ 2 ^ 63 by decide) (Nat.pow_le_pow_right (by decide) (by omega))))
    rw [this]; simp
theorem join_of (q x : Nat) (hq : q < 2048) (hx : x < 4503599627370496) : bits .or .u64 (x : Int) ((q * 4503599627370496 : Nat) : Int) = ((q * 4503599627370496 + x : Nat) : Int) := by
  rw [u64_or_nat x (q * 4503599627370496) (by omega) (by omega), Nat.or_comm, nat_join 52 (q * 4503599627370496) x (by omega) hx]
end Go.Proofs.YtjmaggfddinbkaaGreatDoor
end

section
namespace Go.Proofs.YtjmaggfddinbkaaGreatDoor
open Go.RowKit
set_option maxRecDepth 100000 in
set_option maxHeartbeats 600000 in
theorem m_ldexp_norm (z n : Nat) (k : Int) (h : 4503599627370496 ≤ z) (hz : z < 9218868437227405312) (hn : (n : Int) = k + (z / 4503599627370496 : Nat)) (h1 : 1 ≤ n) (h2 : n ≤ 2046) (hm : Ieee.double.mul 4607182418800017408 (n * 4503599627370496 + z % 4503599627370496) = some (n * 4503599627370496 + z % 4503599627370496)) (w : World) : Calls Tryz.prog 126 #[.float .f64 z, .int .i64 k] w fun e w' => e = .returned (.float .f64 (n * 4503599627370496 + z % 4503599627370496)) ∧ w = w' := by
  have HI := Lib.hid (fun w => m_isinf z (by omega) w)
  have HN := Lib.hid (fun w => m_isnan z w)
  rw [decide_eq_false (by omega)] at HI HN
  have hz0 := eq_zero (r := z) (by omega)
  rw [decide_eq_false (by omega)] at hz0
  have NO := Lib.hid (fun w => m_norm_high z h hz w)
  have f1 := field_of_i z hz
  have f2 := frac_of z hz
  have f3 := join_of n (z % 4503599627370496) (by omega) (Nat.mod_lt _ (by decide))
  have s1 : ((z : Int) / 4503599627370496) = ((z / 4503599627370496 : Nat) : Int) := by omega
  have tq : z / 4503599627370496 < 2047 := by omega
  have lq : 0 < z / 4503599627370496 := by omega
  generalize z / 4503599627370496 = q at *
  have kl : -3000 ≤ k := by omega
  have ku : k ≤ 3000 := by omega
  obtain ⟨y, hy⟩ : ∃ y, n * 4503599627370496 + z % 4503599627370496 = y := ⟨_, rfl⟩
  have hnl : n < 2047 := by omega
  have gs : IntKind.u64.wrap ((n : Int) * 4503599627370496) = ((n * 4503599627370496 : Nat) : Int) := by rw [IntKind.wrap_u64]; omega
  have gn : IntKind.u64.wrap (n : Int) = (n : Int) := by rw [IntKind.wrap_u64]; omega
  have d1 : decide (k + ((q : Int) - 1023) < -1075) = false := decide_eq_false (by omega)
  have d2 : decide (k + ((q : Int) - 1023) > 1023) = false := decide_eq_false (by omega)
  have d3 : decide (k + ((q : Int) - 1023) < -1022) = false := decide_eq_false (by omega)
  have g5 : k + ((q : Int) - 1023) + 1023 = (n : Int) := by omega
  rw [hy]
  rw [hy] at f3 hm
  generalize z % 4503599627370496 = x at *
  generalize n * 4503599627370496 = nb at *
  have hf := fun t P w => run_float_arith (P := P) w .mul t .f64 _ _ _ hm
  clear hm hy hn h1 h2 h hz
  go_enter Tryz.func126, Tryz.ntmps126
  go_wp2_with fail
  refine (HI.out _).mono ?_; rintro e1 w1 ⟨rfl, rfl⟩
  go_wp2_with fail
  refine (HN.out _).mono ?_; rintro e2 w2 ⟨rfl, rfl⟩
  go_wp2_with fail
  refine (NO.out _).mono ?_; rintro e3 w3 ⟨rfl, rfl⟩
  go_wp2
  go_ret
  exact ⟨rfl, rfl⟩
theorem m_ldexp {z k : _} {r : Nat} (H : ∀ w, Calls Tryz.prog 126 #[.float .f64 z, .int .i64 k] w fun e w' => e = .returned (.float .f64 r) ∧ w = w') (w : World) : Calls Tryz.prog 83 #[.float .f64 z, .int .i64 k] w fun e w' => e = .returned (.float .f64 r) ∧ w = w' := by
  have HH := Lib.hid H
  clear H
  go_enter Tryz.func83, Tryz.ntmps83
  go_wp2_with fail
  refine (HH.out _).mono ?_; rintro e1 w1 ⟨rfl, rfl⟩
  go_wp2
  go_ret
  exact ⟨rfl, rfl⟩
/-! in amounts -/
theorem is_pos {r n : Nat} (h : r < 9218868437227405312) (hm : Fp.mag Ieee.double r = n) : Fp.Is Ieee.double r false n := by
  have hr : Fp.rg Ieee.double r = r := by rw [Fp.rg64, Nat.mod_eq_of_lt (by omega)]
  refine ⟨Nat.lt_trans h (by decide), by rw [hr, Fp.dI]; exact h, ?_, by rw [hr, hm]⟩
  rw [Fp.sg64, Nat.div_eq_of_lt (by omega)]; rfl
theorem num_pos {n : Nat} : Fp.num Ieee.double false n = Fp.grid Ieee.double n 0 := rfl
theorem pos_rung {r n : Nat} (hm : Fp.mag Ieee.double r = n) : Fp.num Ieee.double false n = r := by
  rw [num_pos, ← hm, Fp.grid_of_mag Ieee.double Fp.dF]
theorem one_is : Fp.mag Ieee.double 4607182418800017408 = 2 ^ Fp.deep Ieee.double := by decide +kernel
theorem mul_pos {a b p r : Nat} (ha : a < 9218868437227405312) (hb : b < 9218868437227405312) (hr : r < 9218868437227405312) (hp : Fp.mag Ieee.double r = p) (h : Fp.mag Ieee.double a * Fp.mag Ieee.double b = p * 2 ^ Fp.deep Ieee.double) : Ieee.double.mul a b = some r := by
  have h1 := Fp.mul_is Ieee.double Fp.dL0 (is_pos ha rfl) (is_pos hb rfl) h (hp ▸ Fp.rep_mag Ieee.double Fp.dF (by rw [Fp.dI]; exact hr))
  rw [h1]
  exact congrArg some (pos_rung hp)
theorem one_mul {r : Nat} (h : r < 9218868437227405312) : Ieee.double.mul 4607182418800017408 r = some r :=
  mul_pos (by decide) h h rfl (by rw [one_is, Nat.mul_comm])
end Go.Proofs.YtjmaggfddinbkaaGreatDoor
end

section
namespace Go.Proofs.YtjmaggfddinbkaaGreatDoor
open Go.RowKit
theorem pow_rung {n : Nat} (h1 : 1 ≤ n) (h2 : n ≤ 2046) : n * 4503599627370496 < 9218868437227405312 ∧ Fp.mag Ieee.double (n * 4503599627370496) = 2 ^ (n + 51) := by
  refine ⟨by omega, ?_⟩
  unfold Fp.mag
  rw [Fp.dB, if_neg (by omega), Nat.mul_mod_left, Nat.add_zero, Nat.mul_div_cancel _ (by decide), ← pow52, ← Nat.pow_add, show 52 + (n - 1) = n + 51 by omega]
theorem ldexp_one (k : Nat) (h : k ≤ 1023) (w : World) : Calls Tryz.prog 83 #[.float .f64 4607182418800017408, .int .i64 (k : Int)] w fun e w' => e = .returned (.float .f64 ((k + 1023) * 4503599627370496)) ∧ w = w' := by
  have h0 := pow_rung (n := k + 1023) (by omega) (by omega)
  have := m_ldexp (fun w => m_ldexp_norm 4607182418800017408 (k + 1023) (k : Int) (by decide) (by decide) (by omega) (by omega) (by omega) (by rw [show 4607182418800017408 % 4503599627370496 = 0 by decide, Nat.add_zero]; exact one_mul h0.1) w) w
  rwa [show 4607182418800017408 % 4503599627370496 = 0 by decide, Nat.add_zero] at this
def belowB (x k : Nat) : Bool := finW x && decide ((Fp.un Ieee.double x).natAbs ≤ 2 ^ (k + 1074))
theorem eq_self_fin {x : Nat} : (FloatKind.f64.format.order x x == some .eq) = decide (x % 9223372036854775808 ≤ 9218868437227405312) := by
  have h := c_self (a := x)
  rw [bne] at h
  cases hb : (FloatKind.f64.format.order x x == some .eq)
  · rw [hb] at h; have := of_decide_eq_true h.symm; rw [decide_eq_false (by omega)]
  · rw [hb] at h; have := of_decide_eq_false h.symm; rw [decide_eq_true (by omega)]
theorem le_pow {x k : Nat} (hk : k ≤ 1023) (h : x % 9223372036854775808 < 9218868437227405312) : (FloatKind.f64.format.order (x % 9223372036854775808) ((k + 1023) * 4503599627370496) == some .lt || FloatKind.f64.format.order (x % 9223372036854775808) ((k + 1023) * 4503599627370496) == some .eq) = decide ((Fp.un Ieee.double x).natAbs ≤ 2 ^ (k + 1074)) := by
  have h0 := pow_rung (n := k + 1023) (by omega) (by omega)
  rw [c_le (by omega) (by omega), un_pos (by omega), un_pos (by omega), h0.2, un_abs, Fp.rg64, show k + 1023 + 51 = k + 1074 by omega]
  generalize 2 ^ (k + 1074) = P
  exact decide_eq_decide.2 (by omega)
set_option maxRecDepth 100000 in
set_option maxHeartbeats 600000 in
theorem rfin4 (x : Nat) (hx : x < 18446744073709551616) (w : World) : Calls Tryz.prog 28 #[.float .f64 x] w fun e w' => e = .returned (.bool (finW x)) ∧ Within w w' := by
  have CI := Lib.hid (fun w => m_isinf x hx w)
  have he := eq_self_fin (x := x)
  unfold finW
  by_cases h1 : x % 9223372036854775808 = 9218868437227405312
  · rw [decide_eq_false (by omega)]
    rw [decide_eq_true h1] at CI
    clear he h1 hx
    go_enter Tryz.func28, Tryz.ntmps28
    go_wp2_with fail
    refine (CI.out _).mono ?_; rintro e1 w1 ⟨rfl, rfl⟩
    go_wp2
    go_ret
    exact ⟨rfl, Within.refl _⟩
  · rw [decide_eq_false h1] at CI
    have hq : decide (x % 9223372036854775808 ≤ 9218868437227405312) = decide (x % 9223372036854775808 < 9218868437227405312) := decide_eq_decide.2 (by omega)
    rw [hq] at he
    obtain ⟨b, hb⟩ : ∃ b, b = decide (x % 9223372036854775808 < 9218868437227405312) := ⟨_, rfl⟩
    rw [← hb] at he ⊢
    clear hb hq h1 hx
    go_enter Tryz.func28, Tryz.ntmps28
    go_wp2_with fail
    refine (CI.out _).mono ?_; rintro e1 w1 ⟨rfl, rfl⟩
    go_wp2
    go_ret
    exact ⟨rfl, Within.refl _⟩
set_option maxRecDepth 100000 in
set_option maxHeartbeats 600000 in
theorem below_any (x k : Nat) (hx : x < 18446744073709551616) (hk : k ≤ 1023) (w : World) : Calls Tryz.prog 26 #[.float .f64 x, .int .i64 (k : Int)] w fun e w' => e = .returned (.bool (belowB x k)) ∧ Within w w' := by
  have CF := Lib.hid (fun w => rfin4 x hx w)
  have CA := Lib.hid (fun w => m_abs x hx w)
  have CL := Lib.hid (fun w => ldexp_one k hk w)
  unfold belowB
  cases hf : finW x
  · rw [Bool.false_and]
    rw [hf] at CF
    clear hf hk hx
    go_enter Tryz.func26, Tryz.ntmps26
    go_wp2_with fail
    refine (CF.out _).mono ?_; rintro e1 w1 ⟨rfl, hb1⟩
    go_wp2
    go_ret
    exact ⟨rfl, hb1⟩
  · rw [Bool.true_and]
    rw [hf] at CF
    have hl := le_pow hk (of_decide_eq_true hf)
    obtain ⟨y, hy⟩ : ∃ y, y = x % 9223372036854775808 := ⟨_, rfl⟩
    obtain ⟨r, hr⟩ : ∃ r, r = (k + 1023) * 4503599627370496 := ⟨_, rfl⟩
    obtain ⟨B, hB⟩ : ∃ B, B = decide ((Fp.un Ieee.double x).natAbs ≤ 2 ^ (k + 1074)) := ⟨_, rfl⟩
    rw [← hy, ← hr, ← hB] at hl
    rw [← hy] at CA
    rw [← hr] at CL
    rw [← hB]
    clear hy hr hB hf hk hx
    go_enter Tryz.func26, Tryz.ntmps26
    go_wp2_with fail
    refine (CF.out _).mono ?_; rintro e1 w1 ⟨rfl, hb1⟩
    go_wp2_with fail
    refine (CA.out _).mono ?_; rintro e2 w2 ⟨rfl, rfl⟩
    go_wp2_with fail
    refine (CL.out _).mono ?_; rintro e3 w3 ⟨rfl, rfl⟩
    go_wp2
    go_ret
    exact ⟨rfl, hb1⟩
set_option maxRecDepth 100000 in
set_option maxHeartbeats 600000 in
theorem alike_any (x y : Nat) (b : Bool) (h : (FloatKind.f64.format.order x y == some .eq) = b) (w : World) : Calls Tryz.prog 33 #[.float .f64 x, .float .f64 y] w fun e w' => e = .returned (.bool b) ∧ w = w' := by
  go_enter Tryz.func33, Tryz.ntmps33
  go_wp2
  go_ret
  exact ⟨rfl, rfl⟩
end Go.Proofs.YtjmaggfddinbkaaGreatDoor
end

section
namespace Go.Proofs.YtjmaggfddinbkaaGreatDoor
theorem pow_rep (n k : Nat) (h : n ≤ 9007199254740992) : RepZ ((n * 2 ^ k : Nat) : Int) := ⟨n, k, by rw [Int.natCast_mul, cast_pow], by rw [Int.natAbs_natCast]; exact h⟩
theorem rn_pow {z : Int} (n k : Nat) (hn : n ≤ 9007199254740992) (h : z.natAbs ≤ n * 2 ^ k) : (rn z).natAbs ≤ n * 2 ^ k := by
  have := rn_amt (pow_rep n k hn) (z := z) (by rw [Int.natAbs_natCast]; exact h)
  rwa [Int.natAbs_natCast] at this
theorem spl_bound {A : Int} (h : RepZ A) : (splL A).natAbs ≤ A.natAbs ∧ (splH A).natAbs ≤ 2 * A.natAbs ∧ splH A + splL A = A := by
  by_cases h0 : A = 0
  · subst h0
    obtain ⟨h1, h2⟩ := spl_zero
    rw [h1, h2]
    exact ⟨by decide, by decide, rfl⟩
  obtain ⟨a, j, u, ha, a1, a2⟩ := norm_of h h0
  obtain ⟨hh, l, e1, e2, e3, _, n1, n2⟩ := spl_norm a1 a2
  obtain ⟨s1, s2⟩ := spl_shift A j
  obtain ⟨t1, t2⟩ := spl_shift a u
  rw [ha, t1, e1] at s1
  rw [ha, t2, e2] at s2
  have hj := Nat.two_pow_pos j
  have hu := Nat.two_pow_pos u
  have c0 : A.natAbs * 2 ^ j = a.natAbs * 2 ^ u := by rw [← natAbs_mul_pow, ha, natAbs_mul_pow]
  have c1 : (splH A).natAbs * 2 ^ j = hh.natAbs * 2 ^ u := by rw [← natAbs_mul_pow, ← s1, natAbs_mul_pow]
  have c2 : (splL A).natAbs * 2 ^ j = l.natAbs * 2 ^ u := by rw [← natAbs_mul_pow, ← s2, natAbs_mul_pow]
  have k1 : (splL A).natAbs * 2 ^ j ≤ A.natAbs * 2 ^ j := by rw [c2, c0]; exact Nat.mul_le_mul_right _ (by omega)
  have k2 : (splH A).natAbs * 2 ^ j ≤ (2 * A.natAbs) * 2 ^ j := by rw [c1, Nat.mul_assoc, c0, ← Nat.mul_assoc]; exact Nat.mul_le_mul_right _ (by omega)
  refine ⟨Nat.le_of_mul_le_mul_right k1 hj, Nat.le_of_mul_le_mul_right k2 hj, eq_of_shift (j := j) ?_⟩
  rw [Int.add_mul, ← s1, ← s2, ← Int.add_mul, e3, ha]
theorem halC_fwd {u : Option Nat} {A : Int} (hu : Fz u A) {k : Nat} (hk : k + 29 ≤ Fp.dtop) (hA : A.natAbs ≤ 2 ^ k) :
    Fz (halC u) (splC A) ∧ (splC A).natAbs ≤ 134217729 * 2 ^ k := by
  have hb : (splC A).natAbs ≤ 134217729 * 2 ^ k := by
    unfold splC
    exact rn_pow 134217729 k (by decide) (by rw [Int.natAbs_mul]; exact Nat.mul_le_mul_left _ hA)
  have hlim : 536870912 * 2 ^ k ≤ 2 ^ Fp.dtop := by
    have := Nat.pow_le_pow_right (n := 2) (by decide) hk
    rw [Nat.pow_add] at this
    have e : (2 : Nat) ^ 29 = 536870912 := by decide
    rw [e] at this
    omega
  have lim : ∀ n : Nat, n < 536870912 * 2 ^ k → n < 2 ^ Fp.dtop := fun n h => Nat.lt_of_lt_of_le h hlim
  clear hlim hk
  have hp := Nat.two_pow_pos k
  refine ⟨mul_fz (P := 134217729 * A) splitter_fz hu (by rw [Int.mul_right_comm]) ?_, hb⟩
  exact lim _ (Nat.lt_of_le_of_lt (show (rn (134217729 * A)).natAbs ≤ 134217729 * 2 ^ k from hb) (by omega))
theorem hal_fwd {u : Option Nat} {A : Int} (hu : Fz u A) {k : Nat} (hk : k + 29 ≤ Fp.dtop) (hA : A.natAbs ≤ 2 ^ k) : Fz (halH u) (splH A) ∧ Fz (halL u) (splL A) := by
  obtain ⟨fC, bC⟩ := halC_fwd hu hk hA
  have hlim : 536870912 * 2 ^ k ≤ 2 ^ Fp.dtop := by
    have := Nat.pow_le_pow_right (n := 2) (by decide) hk
    rw [Nat.pow_add] at this
    have e : (2 : Nat) ^ 29 = 536870912 := by decide
    rw [e] at this
    omega
  have lim : ∀ n : Nat, n < 536870912 * 2 ^ k → n < 2 ^ Fp.dtop := fun n h => Nat.lt_of_lt_of_le h hlim
  clear hlim hk
  have hp := Nat.two_pow_pos k
  obtain ⟨b1, b2, _⟩ := spl_bound hu.rep
  have bD : (rn (splC A - A)).natAbs ≤ 134217730 * 2 ^ k := rn_pow 134217730 k (by decide) (by omega)
  have fD : Fz (fop .sub (halC u) u) (rn (splC A - A)) := sub_iff.2 ⟨_, _, fC, hu, rfl, lim _ (by omega)⟩
  have fH : Fz (halH u) (splH A) := sub_iff.2 ⟨_, _, fC, fD, rfl, lim _ (by omega)⟩
  exact ⟨fH, sub_iff.2 ⟨_, _, hu, fH, rfl, lim _ (by omega)⟩⟩
theorem shift_le {x : Int} {n m : Nat} {k : Nat} (h : x.natAbs * 2 ^ k ≤ n * (m * 2 ^ k)) : x.natAbs ≤ n * m := by
  rw [← Nat.mul_assoc] at h
  exact Nat.le_of_mul_le_mul_right h (Nat.two_pow_pos k)
theorem rn_pow1 {z : Int} {k : Nat} (h : z.natAbs ≤ 2 ^ k) : (rn z).natAbs ≤ 2 ^ k := by
  have := rn_pow (z := z) 1 k (by decide) (by omega)
  omega
theorem lt_8 {x J : Nat} (h : x ≤ J) (hJ : 0 < J) : x < 8 * J := by omega
theorem lt_8c {x c p J : Nat} (hc : c ≤ 4) (h : x ≤ c * p) (hp : p ≤ J) (hJ : 0 < J) : x < 8 * J := by
  have := Nat.mul_le_mul hc hp
  omega
theorem near_0 (P : Int) : (rn P - P).natAbs ≤ P.natAbs := by
  have := rn_nearest (z := P) rn_zero_rep
  omega
theorem expand_4 (a b c d : Int) : (a + b) * (c + d) = b * d + a * c + b * c + a * d := by rw [Int.add_mul, Int.mul_add, Int.mul_add]; omega
theorem pro_bounds {p P N1 N2 N3 N4 : Int} {J : Nat} (hJ : 0 < J) (hP : P.natAbs ≤ J) (bp : p.natAbs ≤ J) (a1 : N1.natAbs ≤ 1 * P.natAbs) (a2 : N2.natAbs ≤ 4 * P.natAbs) (a3 : N3.natAbs ≤ 2 * P.natAbs) (a4 : N4.natAbs ≤ 2 * P.natAbs) (hs : P = N1 + N2 + N3 + N4) (he : (p - P).natAbs ≤ P.natAbs) :
    (p - N2).natAbs < 8 * J ∧ (p - N2 - N3).natAbs < 8 * J ∧ (p - N2 - N3 - N4).natAbs < 8 * J ∧ (P - p).natAbs < 8 * J ∧ N1 - (p - N2 - N3 - N4) = P - p := by
  refine ⟨?_, ?_, ?_, ?_, ?_⟩
  · clear hs he a1 a3 a4; omega
  · clear hs he a1 a4; omega
  · have e : p - N2 - N3 - N4 = (p - P) + N1 := by omega
    rw [e]
    clear hs e a2 a3 a4; omega
  · clear hs a1 a2 a3 a4; omega
  · omega
set_option maxHeartbeats 2000000 in
theorem pro_fwd {u v : Option Nat} {A B P : Int} (hu : Fz u A) (hv : Fz v B) {k j : Nat} (hk : k + 29 ≤ Fp.dtop) (hA : A.natAbs ≤ 2 ^ k) (hB : B.natAbs ≤ 2 ^ k) (hj : j + 3 ≤ Fp.dtop) (hP : A * B = P * 2 ^ upl) (hPj : P.natAbs ≤ 2 ^ j)
    {a b : Nat} (ha : Mu a A) (hb : Mu b B) (hab : upl ≤ a + b) : Fz (proP u v) (rn P) ∧ Fz (proE u v) (P - rn P) := by
  have hlim : 8 * 2 ^ j ≤ 2 ^ Fp.dtop := by
    have := Nat.pow_le_pow_right (n := 2) (by decide) hj
    rw [Nat.pow_add] at this
    omega
  have lim : ∀ n : Nat, n < 8 * 2 ^ j → n < 2 ^ Fp.dtop := fun n h => Nat.lt_of_lt_of_le h hlim
  have hp := Nat.two_pow_pos j
  have RA := hu.rep
  have RB := hv.rep
  have d := dekker RA RB
  obtain ⟨fH, fL⟩ := hal_fwd hu hk hA
  obtain ⟨fI, fK⟩ := hal_fwd hv hk hB
  clear hlim hk hj
  obtain ⟨mH, mL⟩ := spl_mu ha
  obtain ⟨mI, mK⟩ := spl_mu hb
  obtain ⟨lA, hA2, sA⟩ := spl_bound RA
  obtain ⟨lB, hB2, sB⟩ := spl_bound RB
  have bp : (rn P).natAbs ≤ 2 ^ j := rn_pow1 hPj
  have fp : Fz (proP u v) (rn P) := mul_fz hu hv hP (lim _ (lt_8 bp hp))
  have hPa : A.natAbs * B.natAbs = P.natAbs * 2 ^ upl := by rw [← Int.natAbs_mul, hP, natAbs_mul_pow]
  obtain ⟨N1, n1⟩ := mu_prod mL mK hab
  obtain ⟨N2, n2⟩ := mu_prod mH mI hab
  obtain ⟨N3, n3⟩ := mu_prod mL mI hab
  obtain ⟨N4, n4⟩ := mu_prod mH mK hab
  have amt : ∀ {x y N : Int} {c : Nat}, x * y = N * 2 ^ upl → x.natAbs * y.natAbs ≤ c * (A.natAbs * B.natAbs) → N.natAbs ≤ c * P.natAbs := by
    intro x y N c h g
    rw [hPa, ← Int.natAbs_mul, h, natAbs_mul_pow] at g
    exact shift_le g
  have a1 : N1.natAbs ≤ 1 * P.natAbs := amt n1 (by rw [Nat.one_mul]; exact Nat.mul_le_mul lA lB)
  have a2 : N2.natAbs ≤ 4 * P.natAbs := amt n2 (Nat.le_trans (Nat.mul_le_mul hA2 hB2) (by rw [show 2 * A.natAbs * (2 * B.natAbs) = 4 * (A.natAbs * B.natAbs) by rw [Nat.mul_mul_mul_comm]]; exact Nat.le_refl _))
  have a3 : N3.natAbs ≤ 2 * P.natAbs := amt n3 (Nat.le_trans (Nat.mul_le_mul lA hB2) (by rw [Nat.mul_left_comm]; exact Nat.le_refl _))
  have a4 : N4.natAbs ≤ 2 * P.natAbs := amt n4 (Nat.le_trans (Nat.mul_le_mul hA2 lB) (by rw [Nat.mul_assoc]; exact Nat.le_refl _))
  have r1 : RepZ N1 := repz_shift.1 (by rw [← n1]; exact d.lk)
  have r2 : RepZ N2 := repz_shift.1 (by rw [← n2]; exact d.hi)
  have r3 : RepZ N3 := repz_shift.1 (by rw [← n3]; exact d.li)
  have r4 : RepZ N4 := repz_shift.1 (by rw [← n4]; exact d.hk)
  have f1 := mul_fz fL fK n1 (by rw [rn_few r1]; exact lim _ (lt_8c (by decide) a1 hPj hp))
  have f2 := mul_fz fH fI n2 (by rw [rn_few r2]; exact lim _ (lt_8c (by decide) a2 hPj hp))
  have f3 := mul_fz fL fI n3 (by rw [rn_few r3]; exact lim _ (lt_8c (by decide) a3 hPj hp))
  have f4 := mul_fz fH fK n4 (by rw [rn_few r4]; exact lim _ (lt_8c (by decide) a4 hPj hp))
  rw [rn_few r1] at f1
  rw [rn_few r2] at f2
  rw [rn_few r3] at f3
  rw [rn_few r4] at f4
  have d1 : RepZ (rn P - N2) := (repz_shift (j := upl)).1 (by rw [Int.sub_mul, ← rn_shift, ← hP, ← n2]; exact d.d1)
  have d2 : RepZ (rn P - N2 - N3) := (repz_shift (j := upl)).1 (by rw [Int.sub_mul, Int.sub_mul, ← rn_shift, ← hP, ← n2, ← n3]; exact d.d2)
  have d3 : RepZ (rn P - N2 - N3 - N4) := (repz_shift (j := upl)).1 (by rw [Int.sub_mul, Int.sub_mul, Int.sub_mul, ← rn_shift, ← hP, ← n2, ← n3, ← n4]; exact d.d3)
  have de : RepZ (P - rn P) := (repz_shift (j := upl)).1 (by rw [Int.sub_mul, ← rn_shift, ← hP]; exact d.e)
  have hsum : P = N1 + N2 + N3 + N4 := by
    refine eq_of_shift (j := upl) ?_
    rw [Int.add_mul, Int.add_mul, Int.add_mul, ← n1, ← n2, ← n3, ← n4, ← hP]
    calc A * B = (splH A + splL A) * (splH B + splL B) := by rw [sA, sB]
      _ = _ := expand_4 _ _ _ _
  have hpe : (rn P - P).natAbs ≤ P.natAbs := near_0 P
  obtain ⟨c1, c2, c3, c4, c5⟩ := pro_bounds hp hPj bp a1 a2 a3 a4 hsum hpe
  have g1 := sub_iff.2 ⟨_, _, fp, f2, (rn_few d1).symm, lim _ c1⟩
  have g2 := sub_iff.2 ⟨_, _, g1, f3, (rn_few d2).symm, lim _ c2⟩
  have g3 := sub_iff.2 ⟨_, _, g2, f4, (rn_few d3).symm, lim _ c3⟩
  exact ⟨fp, sub_iff.2 ⟨_, _, f1, g3, by rw [c5, rn_few de], lim _ c4⟩⟩
end Go.Proofs.YtjmaggfddinbkaaGreatDoor
end

section
namespace Go.Proofs.YtjmaggfddinbkaaGreatDoor
open Go.RowKit
theorem fz_self {x : Nat} (h : x % 9223372036854775808 < 9218868437227405312) : Fz (fv x) (Fp.un Ieee.double x) := fz_of h
theorem cmp_same' {z1 z2 : Int} (h : z1 = z2) : (z1 - z2).sign = 0 := by rw [h, Int.sub_self]; rfl
theorem below_is {x k : Nat} (h : belowB x k = true) : x % 9223372036854775808 < 9218868437227405312 ∧ (Fp.un Ieee.double x).natAbs ≤ 2 ^ (k + 1074) := by
  unfold belowB at h
  rw [Bool.and_eq_true] at h
  exact ⟨of_decide_eq_true h.1, of_decide_eq_true h.2⟩
theorem whole_add_len (a b : Nat) : (dg (P64.wholeI a + P64.wholeI b).natAbs).length ≤ 81 := by
  refine dg_len_le ?_
  have h1 := Nat.lt_of_lt_of_le (lt_of_dg (P64.wholeI a).natAbs) (Nat.pow_le_pow_right (by decide) (whole_len a))
  have h2 := Nat.lt_of_lt_of_le (lt_of_dg (P64.wholeI b).natAbs) (Nat.pow_le_pow_right (by decide) (whole_len b))
  rw [Nat.pow_succ]
  generalize 4294967296 ^ 80 = X at *
  omega
theorem ofN_abs (b : Nat) : (ofN b).natAbs = pMantD b := by
  unfold ofN
  rw [sgv_abs]
theorem ofN_zero {b : Nat} (fx : b % 9223372036854775808 < 9218868437227405312) : ofN b = 0 ↔ b % 9223372036854775808 = 0 := by
  have h1 := abs_parts fx
  have h2 := ofN_abs b
  constructor
  · intro h
    rw [h] at h2
    rw [← h2] at h1
    refine un_zero.1 ?_
    have : (Fp.un Ieee.double b).natAbs = 0 := by rw [h1]; exact Nat.zero_mul _
    omega
  · intro h
    rw [un_zero.2 h] at h1
    have hp := Nat.two_pow_pos (pExpD b + 1074).toNat
    have : pMantD b = 0 := by
      rcases Nat.eq_zero_or_pos (pMantD b) with g | g
      · exact g
      · have := Nat.mul_pos g hp
        have h3 : (0 : Int).natAbs = 0 := rfl
        omega
    omega
theorem odd_same {n r : Int} {t m : Nat} (h : n = r * 2 ^ t) (hr : r.natAbs = 2 * m + 1) (ho : n.natAbs % 2 = 1) : t = 0 ∧ r = n := by
  rcases Nat.eq_zero_or_pos t with g | g
  · subst g
    refine ⟨rfl, by rw [h]; simp⟩
  · exfalso
    obtain ⟨d, rfl⟩ : ∃ d, t = d + 1 := ⟨t - 1, by omega⟩
    have e : n.natAbs = 2 * (r.natAbs * 2 ^ d) := by rw [h, natAbs_mul_pow, Nat.pow_succ]; ac_rfl
    omega
theorem dg_ofN (b : Nat) : (dg (ofN b).natAbs).length ≤ 2 := by
  rw [ofN_abs]
  exact dg_len_le (Nat.lt_of_lt_of_le (P64.pMantD_lt b) (by decide))
@[go_sem] theorem run_field_ex1 (a b : Value) (w : World) : (Instr.field 53 (.agg #[a, b]) 1).run Tryz.prog w = .ok b w := by
  kernel_rfl
end Go.Proofs.YtjmaggfddinbkaaGreatDoor
end

section
namespace Go.Proofs.YtjmaggfddinbkaaGreatDoor.Fp
open Ieee
open Ieee
variable (f : Format)
theorem signed_prod (s t : Bool) (m n : Nat) : (if (s ^^ t) then -((m * n : Nat) : Int) else ((m * n : Nat) : Int)) = (if s then -(m : Int) else (m : Int)) * (if t then -(n : Int) else (n : Int)) := by
  cases s <;> cases t <;> simp [Int.neg_mul, Int.mul_neg]
theorem fma_fin (hl : f.leastPlace ≤ 0) (x y z : Nat) (hx : rg f x < f.infRung) (hy : rg f y < f.infRung) (hz : rg f z < f.infRung) :
    f.fma x y z = some (f.word (if un f x * un f y + un f z * 2 ^ deep f = 0 then (sg f x ^^ sg f y) && sg f z else decide (un f x * un f y + un f z * 2 ^ deep f < 0)) (min (grid f (un f x * un f y + un f z * 2 ^ deep f).natAbs (deep f)) f.infRung)) := by
  obtain ⟨m, i, r1, l1, u1⟩ := read_fin f x hx
  obtain ⟨n, j, r2, l2, u2⟩ := read_fin f y hy
  obtain ⟨q, k, r3, l3, u3⟩ := read_fin f z hz
  have hd : ((deep f : Nat) : Int) = - f.leastPlace := by unfold deep; omega
  unfold Format.fma
  rw [r1, r2, r3]
  show some (f.nearest _ _ _) = _
  generalize ht : signed (sg f x ^^ sg f y) (m * n) (i + j - min (i + j) k).toNat + signed (sg f z) q (k - min (i + j) k).toNat = t
  have hprod : un f x * un f y = if (sg f x ^^ sg f y) then -((m * n * 2 ^ (i + j - (f.leastPlace - (deep f : Nat))).toNat : Nat) : Int) else ((m * n * 2 ^ (i + j - (f.leastPlace - (deep f : Nat))).toNat : Nat) : Int) := by
    have e : m * n * 2 ^ (i + j - (f.leastPlace - (deep f : Nat))).toNat = m * 2 ^ (i - f.leastPlace).toNat * (n * 2 ^ (j - f.leastPlace).toNat) := by
      rw [show (i + j - (f.leastPlace - (deep f : Nat))).toNat = (i - f.leastPlace).toNat + (j - f.leastPlace).toNat by omega, Nat.pow_add, Nat.mul_mul_mul_comm]
    rw [e, signed_prod, un_of_read f u1, un_of_read f u2]
  have hsum3 : un f z * 2 ^ deep f = if sg f z then -((q * 2 ^ (k - (f.leastPlace - (deep f : Nat))).toNat : Nat) : Int) else ((q * 2 ^ (k - (f.leastPlace - (deep f : Nat))).toNat : Nat) : Int) := by
    rw [un_of_read f u3, show (k - (f.leastPlace - (deep f : Nat))).toNat = (k - f.leastPlace).toNat + deep f by omega, Nat.pow_add, ← Nat.mul_assoc]
    have e2 : ((q * 2 ^ (k - f.leastPlace).toNat * 2 ^ deep f : Nat) : Int) = ((q * 2 ^ (k - f.leastPlace).toNat : Nat) : Int) * 2 ^ deep f := by
      rw [Int.natCast_mul (q * 2 ^ (k - f.leastPlace).toNat), Int.natCast_pow]; rfl
    rw [e2]
    cases sg f z
    · rfl
    · simp only [if_true]; rw [Int.neg_mul]
  have hsum : un f x * un f y + un f z * 2 ^ deep f = t * 2 ^ (min (i + j) k - (f.leastPlace - (deep f : Nat))).toNat := by
    rw [hprod, hsum3, ← signed_units _ _ _ (min (i + j) k) _ (by omega) (by omega), ← signed_units _ _ _ (min (i + j) k) _ (by omega) (by omega), ← Int.add_mul, ht]
  rw [nearest_deep f _ _ _ (deep f) (by omega), hsum]
  have hp : (0 : Int) < 2 ^ (min (i + j) k - (f.leastPlace - (deep f : Nat))).toNat := by exact_mod_cast two_pow_pos _
  have e1 : (t * 2 ^ (min (i + j) k - (f.leastPlace - (deep f : Nat))).toNat = 0) ↔ t = 0 := by
    constructor
    · intro h; rcases Int.mul_eq_zero.1 h with h | h
      · exact h
      · omega
    · intro h; rw [h, Int.zero_mul]
  have e2 : (t * 2 ^ (min (i + j) k - (f.leastPlace - (deep f : Nat))).toNat < 0) ↔ t < 0 := by
    constructor
    · intro h
      by_cases h0 : t < 0
      · exact h0
      · have := Int.mul_nonneg (show 0 ≤ t by omega) (Int.le_of_lt hp); omega
    · intro h; exact Int.mul_neg_of_neg_of_pos h hp
  have e3 : (t * 2 ^ (min (i + j) k - (f.leastPlace - (deep f : Nat))).toNat).natAbs = t.natAbs * 2 ^ (min (i + j) k - (f.leastPlace - (deep f : Nat))).toNat := by
    rw [Int.natAbs_mul, Int.natAbs_pow]; rfl
  simp only [e1, e2, e3]
end Go.Proofs.YtjmaggfddinbkaaGreatDoor.Fp
namespace Go.Proofs.YtjmaggfddinbkaaGreatDoor
theorem neg_un {p : Nat} (hp : p < 18446744073709551616) (fp : p % 9223372036854775808 < 9218868437227405312) :
    Go.Op.negFloat .f64 p < 18446744073709551616 ∧ Go.Op.negFloat .f64 p % 9223372036854775808 < 9218868437227405312 ∧ Fp.un Ieee.double (Go.Op.negFloat .f64 p) = -Fp.un Ieee.double p := by
  by_cases h : 9223372036854775808 ≤ p
  · rw [neg_float h hp]
    refine ⟨by omega, by omega, ?_⟩
    unfold Fp.un
    rw [sg_is (by omega), sg_is hp, decide_eq_false (by omega), decide_eq_true h, Fp.rg64, Fp.rg64, if_neg Bool.false_ne_true, if_pos rfl, show (p - 9223372036854775808) % 9223372036854775808 = p % 9223372036854775808 by omega]
    omega
  · have e : Go.Op.negFloat .f64 p = p + 9223372036854775808 := neg_flip (by omega)
    rw [e]
    refine ⟨by omega, by omega, ?_⟩
    unfold Fp.un
    rw [sg_is (by omega), sg_is hp, decide_eq_true (by omega), decide_eq_false h, Fp.rg64, Fp.rg64, if_neg Bool.false_ne_true, if_pos rfl, show (p + 9223372036854775808) % 9223372036854775808 = p % 9223372036854775808 by omega]
theorem fma_units {a b c : Nat} {R : Int} (fa : a % 9223372036854775808 < 9218868437227405312) (fb : b % 9223372036854775808 < 9218868437227405312) (fc : c % 9223372036854775808 < 9218868437227405312)
    (hR : Fp.un Ieee.double a * Fp.un Ieee.double b + Fp.un Ieee.double c * 2 ^ upl = R * 2 ^ upl) (hl : (rn R).natAbs < 2 ^ Fp.dtop) :
    ∃ r, Ieee.double.fma a b c = some r ∧ r < 18446744073709551616 ∧ r % 9223372036854775808 < 9218868437227405312 ∧ Fp.un Ieee.double r = rn R := by
  have h := Fp.fma_fin Ieee.double Fp.dL0 a b c (by rw [Fp.rg64, Fp.dI]; exact fa) (by rw [Fp.rg64, Fp.dI]; exact fb) (by rw [Fp.rg64, Fp.dI]; exact fc)
  have hd : Fp.deep Ieee.double = 0 + upl := by rw [Fp.dD]; rfl
  have hd2 : Fp.deep Ieee.double = upl := by rw [hd, Nat.zero_add]
  rw [hd2, hR, natAbs_mul_pow] at h
  have hg : Fp.grid Ieee.double (R.natAbs * 2 ^ upl) upl = Fp.grid Ieee.double R.natAbs 0 := by
    have := Fp.grid_shift Ieee.double R.natAbs upl 0
    rwa [Nat.zero_add] at this
  rw [hg] at h
  have hpp : (0 : Int) < 2 ^ upl := Int.pow_pos (by decide)
  have hs : R ≠ 0 → (if R * 2 ^ upl = 0 then (Fp.sg Ieee.double a ^^ Fp.sg Ieee.double b) && Fp.sg Ieee.double c else decide (R * 2 ^ upl < 0)) = decide (R < 0) := by
    intro h0
    rw [if_neg (Int.mul_ne_zero h0 (by omega))]
    refine decide_eq_decide.2 ⟨fun g => ?_, fun g => Int.mul_neg_of_neg_of_pos g hpp⟩
    rcases Int.lt_or_le R 0 with g2 | g2
    · exact g2
    · exact absurd (Int.mul_nonneg g2 (Int.le_of_lt hpp)) (Int.not_le.2 g)
  obtain ⟨w1, w2⟩ := word_is R _ hs
  refine ⟨_, h, ?_, w1.2 hl, w2 hl⟩
  have := Ieee.Format.fma_lt Ieee.double h
  exact this
end Go.Proofs.YtjmaggfddinbkaaGreatDoor
end

section
namespace Go.Proofs.YtjmaggfddinbkaaGreatDoor
open Go.RowKit
theorem fma_ext (x y z r : Nat) (h : FloatKind.f64.format.fma x y z = some r) : Go.Extern.MathFMA.fma #[.float .f64 x, .float .f64 y, .float .f64 z] = pure (.float .f64 r) := by
  conv => lhs; whnf
  rw [h]
theorem fma_run (w : World) (x y z : Nat) : (callFunc 111 #[.float .f64 x, .float .f64 y, .float .f64 z]).run Tryz.prog w = (Go.Extern.MathFMA.fma #[.float .f64 x, .float .f64 y, .float .f64 z] >>= fun v => pure (Next.value v)).run Tryz.prog w := by kernel_rfl
theorem fma_any (x y z r : Nat) (h : Ieee.double.fma x y z = some r) (w : World) : (callFunc 111 #[.float .f64 x, .float .f64 y, .float .f64 z]).run Tryz.prog w = .ok (.value (.float .f64 r)) w := by
  rw [fma_run, fma_ext x y z r h]; rfl
set_option maxRecDepth 100000 in
set_option maxHeartbeats 600000 in
theorem Efused_fin (a b p q r : Nat) (fa : finW a = true) (fb : finW b = true) (fp : finW p = true) (hm : floatBits .mul .f64 a b = some p) (hq : Go.Op.negFloat .f64 p = q) (hf : Ieee.double.fma a b q = some r) (w : World) : Calls Tryz.prog 59 #[.float .f64 a, .float .f64 b] w fun e w' => e = .returned (.tuple #[.float .f64 p, .float .f64 r]) ∧ Within w w' := by
  have hmul := fun (t : TypeId) w => run_float_arith (P := Tryz.prog) w .mul t .f64 a b p hm
  have hfm := fun w => fma_any a b q r hf w
  have FA := Lib.hid (fun w => efinite_any a w)
  have FB := Lib.hid (fun w => efinite_any b w)
  have FP := Lib.hid (fun w => efinite_any p w)
  rw [fa] at FA
  rw [fb] at FB
  rw [fp] at FP
  clear fa fb fp hm hf
  go_enter Tryz.func59, Tryz.ntmps59
  go_wp2_with fail
  refine (FA.out _).mono ?_; rintro e1 w1 ⟨rfl, hb1⟩
  go_wp2_with fail
  refine (FB.out _).mono ?_; rintro e2 w2 ⟨rfl, hb2⟩
  go_wp2_with fail
  refine (FP.out _).mono ?_; rintro e3 w3 ⟨rfl, hb3⟩
  go_wp2
  go_ret2
  exact ⟨rfl, (by repeat (first | with_reducible exact Within.refl _ | with_reducible assumption | with_reducible refine arW_within ?_ _ _ _ | with_reducible refine Within.alloc ?_ _ | with_reducible refine Within.drew ?_ | with_reducible refine Within.trans ?_ (by assumption)))⟩
end Go.Proofs.YtjmaggfddinbkaaGreatDoor
end

section
namespace Go.Proofs.YtjmaggfddinbkaaGreatDoor
open Go.RowKit
theorem XoddN (n E : Int) (g : Nat) (ho : n.natAbs % 2 = 1) (hl : (dg n.natAbs).length ≤ 1000) (hE : -100000 ≤ E ∧ E ≤ 100000) (w : World) (hT : Tab32 w) (hI : IntB w g n) : Calls Tryz.prog 45 #[.agg #[.pointer (some ⟨g, 0, none⟩), .int .i64 E]] w (ExR w n E) := by
  refine (Xodd n E g (fun h => by rw [h] at ho; exact absurd ho (by decide)) hl hE w hT hI).mono fun e w' ⟨t, m, r, h1, h2, h3⟩ => ?_
  obtain ⟨rfl, rfl⟩ := odd_same h1 h2 ho
  simpa using h3
theorem val_more {n E : Int} {L : Nat} (M : Nat) (h : -(L : Int) ≤ E) : valE n E (L + M) = valE n E L * 2 ^ M := by
  unfold valE
  rw [show (E + ((L + M : Nat) : Int)).toNat = (E + L).toNat + M by omega, Int.pow_add, Int.mul_assoc]
theorem fz_lim {v : Option Nat} {z : Int} (h : Fz v z) : z.natAbs < 2 ^ Fp.dtop := by
  obtain ⟨x, _, hx, rfl⟩ := h
  rw [un_abs, ← Fp.mag_infD]
  exact (Fp.mag_lt_iff Ieee.double).2 (by rw [Fp.rg64, Fp.dI]; exact hx)
theorem ofN_odd {x : Nat} (fx : x % 9223372036854775808 < 9218868437227405312) (h0 : x % 9223372036854775808 ≠ 0) : (ofN x).natAbs % 2 = 1 := by
  obtain ⟨m, hm⟩ := pMant_odd fx (fun h => h0 (un_zero.1 h))
  rw [ofN_abs]; omega
theorem prod_odd {x y : Nat} (fx : x % 9223372036854775808 < 9218868437227405312) (fy : y % 9223372036854775808 < 9218868437227405312) (h : ofN x * ofN y ≠ 0) : (ofN x * ofN y).natAbs % 2 = 1 := by
  have h1 := ofN_odd fx (fun g => h (by rw [(ofN_zero fx).2 g, Int.zero_mul]))
  have h2 := ofN_odd fy (fun g => h (by rw [(ofN_zero fy).2 g, Int.mul_zero]))
  rw [Int.natAbs_mul, Nat.mul_mod, h1, h2]
def j95 : Nat := 2095
theorem fin_fv2 {x : Nat} (h : x % 9223372036854775808 < 9218868437227405312) : fv x = some x := if_neg (by omega)
theorem prod_good {x y : Nat} (hx : x < 18446744073709551616) (hy : y < 18446744073709551616) (h1 : belowB x 995 = true) (h2 : belowB y 995 = true)
    (hc : (valE ((ofN x * ofN y).natAbs : Int) (pExpD x + pExpD y) 2148).natAbs ≤ 2 ^ (j95 + upl)) (hlo : ofN x * ofN y = 0 ∨ -1074 ≤ pExpD x + pExpD y) :
    ∃ P : Int, P64.wholeI x * P64.wholeI y = P * 2 ^ 1074 ∧ Fz (proP (fv x) (fv y)) (rn P) ∧ Fz (proE (fv x) (fv y)) (P - rn P) ∧ Fp.un Ieee.double x * Fp.un Ieee.double y = P * 2 ^ upl := by
  obtain ⟨fx, bx⟩ := below_is h1
  obtain ⟨fy, by_⟩ := below_is h2
  have r1 := P64.pExpD_range x; have r2 := P64.pExpD_range y
  have key : ∃ (a b : Nat), Mu a (Fp.un Ieee.double x) ∧ Mu b (Fp.un Ieee.double y) ∧ upl ≤ a + b := by
    rcases hlo with h | h
    · rcases Int.mul_eq_zero.1 h with g | g
      · exact ⟨upl, 0, by rw [un_zero.2 ((ofN_zero fx).1 g)]; exact Mu.zero _, Mu.none _, Nat.le_refl _⟩
      · exact ⟨0, upl, Mu.none _, by rw [un_zero.2 ((ofN_zero fy).1 g)]; exact Mu.zero _, by omega⟩
    · exact ⟨(pExpD x + 1074).toNat, (pExpD y + 1074).toNat, mu_nat (abs_parts fx), mu_nat (abs_parts fy), by rw [upl_is]; omega⟩
  obtain ⟨a, b, ha, hb, hab⟩ := key
  obtain ⟨P, hP⟩ := mu_prod ha hb hab
  have hPa : P.natAbs ≤ 2 ^ j95 := by
    have e : valE ((ofN x * ofN y).natAbs : Int) (pExpD x + pExpD y) 2148 = ((Fp.un Ieee.double x * Fp.un Ieee.double y).natAbs : Int) := by
      have e1 : (valE (ofN x * ofN y) (pExpD x + pExpD y) (1074 + 1074)).natAbs = (Fp.un Ieee.double x * Fp.un Ieee.double y).natAbs := by
        rw [val_mul _ _ _ _ 1074 1074 r1.1 r2.1, of_val, of_val, whole_un hx fx, whole_un hy fy]
      rw [← e1]
      unfold valE
      rw [Int.natAbs_mul (ofN x * ofN y), Int.natAbs_pow, Int.natCast_mul, Int.natCast_pow]
      rfl
    rw [e, Int.natAbs_natCast, hP, natAbs_mul_pow] at hc
    refine Nat.le_of_mul_le_mul_right (c := 2 ^ upl) ?_ (Nat.two_pow_pos _)
    rw [← Nat.pow_add]
    exact hc
  have hk : 995 + 1074 + 29 ≤ Fp.dtop := by unfold Fp.dtop; decide
  have hj : j95 + 3 ≤ Fp.dtop := by unfold Fp.dtop j95; decide
  obtain ⟨g1, g2⟩ := pro_fwd (fz_self fx) (fz_self fy) hk bx by_ hj hP hPa ha hb hab
  exact ⟨P, by rw [whole_un hx fx, whole_un hy fy, hP, upl_is], g1, g2, hP⟩
set_option maxRecDepth 100000 in
set_option maxHeartbeats 600000 in
theorem products_out1 (x y : Nat) (hx : x < 18446744073709551616) (hy : y < 18446744073709551616) (h : belowB x 995 = false) (w : World) (hT : Tab w ∧ Tab32 w) : Calls Tryz.prog 11 #[.int .u64 (x : Int), .int .u64 (y : Int)] w fun e w' => e = .returned (.bool true) ∧ Within w w' := by
  have AW := Lib.hid (awake_true w hT.1)
  have HT := Lib.hid hT
  have BX := Lib.hid (fun w => below_any x 995 hx (by decide) w)
  have BY := Lib.hid (fun w => below_any y 995 hy (by decide) w)
  rw [h] at BX
  clear hx hy h hT
  go_enter Tryz.func11, Tryz.ntmps11
  go_wp2_with fail
  refine AW.out.mono ?_; rintro e1 w1 ⟨rfl, hb1⟩
  go_wp2_with fail
  refine (ef_any x _).mono ?_; rintro e0 w0 ⟨rfl, rfl⟩
  go_wp2_with fail
  refine (ef_any y _).mono ?_; rintro e0 w0 ⟨rfl, rfl⟩
  go_wp2_with fail
  refine (BX.out _).mono ?_; rintro e2 w2 ⟨rfl, hb2⟩
  go_wp2
  go_ret
  exact ⟨rfl, (by repeat (first | with_reducible exact Within.refl _ | with_reducible assumption | with_reducible refine arW_within ?_ _ _ _ | with_reducible refine Within.alloc ?_ _ | with_reducible refine Within.drew ?_ | with_reducible refine Within.trans ?_ (by assumption)))⟩
set_option maxRecDepth 100000 in
set_option maxHeartbeats 600000 in
theorem products_out2 (x y : Nat) (hx : x < 18446744073709551616) (hy : y < 18446744073709551616) (h1 : belowB x 995 = true) (h : belowB y 995 = false) (w : World) (hT : Tab w ∧ Tab32 w) : Calls Tryz.prog 11 #[.int .u64 (x : Int), .int .u64 (y : Int)] w fun e w' => e = .returned (.bool true) ∧ Within w w' := by
  have AW := Lib.hid (awake_true w hT.1)
  have HT := Lib.hid hT
  have BX := Lib.hid (fun w => below_any x 995 hx (by decide) w)
  have BY := Lib.hid (fun w => below_any y 995 hy (by decide) w)
  rw [h1] at BX
  rw [h] at BY
  clear hx hy h h1 hT
  go_enter Tryz.func11, Tryz.ntmps11
  go_wp2_with fail
  refine AW.out.mono ?_; rintro e1 w1 ⟨rfl, hb1⟩
  go_wp2_with fail
  refine (ef_any x _).mono ?_; rintro e0 w0 ⟨rfl, rfl⟩
  go_wp2_with fail
  refine (ef_any y _).mono ?_; rintro e0 w0 ⟨rfl, rfl⟩
  go_wp2_with fail
  refine (BX.out _).mono ?_; rintro e2 w2 ⟨rfl, hb2⟩
  go_wp2_with fail
  refine (BY.out _).mono ?_; rintro e3 w3 ⟨rfl, hb3⟩
  go_wp2
  go_ret
  exact ⟨rfl, (by repeat (first | with_reducible exact Within.refl _ | with_reducible assumption | with_reducible refine arW_within ?_ _ _ _ | with_reducible refine Within.alloc ?_ _ | with_reducible refine Within.drew ?_ | with_reducible refine Within.trans ?_ (by assumption)))⟩
set_option maxRecDepth 100000 in
set_option maxHeartbeats 600000 in
theorem products_out3 (x y : Nat) (hx : x < 18446744073709551616) (hy : y < 18446744073709551616) (h1 : belowB x 995 = true) (h2 : belowB y 995 = true) (hc : decide ((valE ((ofN x * ofN y).natAbs : Int) (pExpD x + pExpD y) 2148 - valE 1 1021 2148).sign > 0) = true) (w : World) (hT : Tab w ∧ Tab32 w) : Calls Tryz.prog 11 #[.int .u64 (x : Int), .int .u64 (y : Int)] w fun e w' => e = .returned (.bool true) ∧ Within w w' := by
  have AW := Lib.hid (awake_true w hT.1)
  have HT := Lib.hid hT
  have BX := Lib.hid (fun w => below_any x 995 hx (by decide) w)
  have BY := Lib.hid (fun w => below_any y 995 hy (by decide) w)
  obtain ⟨fx, _⟩ := below_is h1; obtain ⟨fy, _⟩ := below_is h2
  rw [h1] at BX
  rw [h2] at BY
  have r1 := P64.pExpD_range x; have r2 := P64.pExpD_range y
  have OX := Lib.hid (fun w => Xof x hx w)
  have OY := Lib.hid (fun w => Xof y hy w)
  have ML := Lib.hid (fun g1 g2 w k1 k2 => Xmul (ofN x) (ofN y) (pExpD x) (pExpD y) g1 g2 (Nat.le_trans (dg_ofN x) (by decide)) (Nat.le_trans (dg_ofN y) (by decide)) ⟨by omega, by omega⟩ ⟨by omega, by omega⟩ w k1 k2)
  have ln : (dg (ofN x * ofN y).natAbs).length ≤ 100 := by rw [Int.natAbs_mul]; exact Nat.le_trans (dg_mul_len (dg_ofN x) (dg_ofN y)) (by decide)
  have hE : -2148 ≤ pExpD x + pExpD y ∧ pExpD x + pExpD y ≤ 2200 := ⟨by omega, by omega⟩
  obtain ⟨n, hn⟩ : ∃ n, n = ofN x * ofN y := ⟨_, rfl⟩
  obtain ⟨E, hEE⟩ : ∃ E, E = pExpD x + pExpD y := ⟨_, rfl⟩
  rw [← hn, ← hEE] at ML hc
  rw [← hn] at ln
  rw [← hEE] at hE
  have XA := Lib.hid (fun g w k => Xabs n E g (Nat.le_trans ln (by decide)) w k)
  have CM := Lib.hid (fun g7 g8 w k1 k2 => Xcmp (n.natAbs : Int) 1 E 1021 g7 g8 2148 2200 (by decide) (by decide) hE.1 hE.2 (by decide) (by decide) (Nat.le_trans ln (by decide)) (Nat.le_trans (dg_len_le (k := 1) (by decide)) (by decide)) w k1 k2)
  obtain ⟨sg, hsg⟩ : ∃ sg, sg = (valE (n.natAbs : Int) E 2148 - valE 1 1021 2148).sign := ⟨_, rfl⟩
  rw [← hsg] at CM
  rw [← hsg] at hc
  clear hsg hn hEE r1 r2 fx fy h1 h2 hx hy hT ln hE
  go_enter Tryz.func11, Tryz.ntmps11
  go_wp2_with fail
  refine AW.out.mono ?_; rintro e1 w1 ⟨rfl, hb1⟩
  go_wp2_with fail
  refine (ef_any x _).mono ?_; rintro e0 w0 ⟨rfl, rfl⟩
  go_wp2_with fail
  refine (ef_any y _).mono ?_; rintro e0 w0 ⟨rfl, rfl⟩
  go_wp2_with fail
  refine (BX.out _).mono ?_; rintro e2 w2 ⟨rfl, hb2⟩
  go_wp2_with fail
  refine (BY.out _).mono ?_; rintro e3 w3 ⟨rfl, hb3⟩
  go_wp2_with fail
  refine (OX.out _).mono ?_; rintro e4 w4 ⟨g4, rfl, hI4, _, hb4⟩
  go_wp2_with fail
  refine (OY.out _).mono ?_; rintro e5 w5 ⟨g5, rfl, hI5, _, hb5⟩
  go_wp2_with fail
  refine (ML.out g4 g5 _ (hI4.of hb5) hI5).mono ?_; rintro e6 w6 ⟨gp, rfl, hIp, _, hb6⟩
  have p0 : (w6.alloc (.cells #[.pointer (some ⟨gp, 0, none⟩), .int .i64 E] 53)).cell? ⟨w6.heap.size, 0, none⟩ = some (.pointer (some ⟨gp, 0, none⟩)) := by go_simp
  have p1 : (w6.alloc (.cells #[.pointer (some ⟨gp, 0, none⟩), .int .i64 E] 53)).cell? ⟨w6.heap.size, 1, none⟩ = some (.int .i64 E) := by go_simp
  have hJp := hIp.of ((Within.refl w6).alloc (.cells #[.pointer (some ⟨gp, 0, none⟩), .int .i64 E] 53))
  have hwv : Within w (w6.alloc (.cells #[.pointer (some ⟨gp, 0, none⟩), .int .i64 E] 53)) := Within.alloc (by repeat (first | with_reducible exact Within.refl _ | with_reducible assumption | with_reducible refine arW_within ?_ _ _ _ | with_reducible refine Within.alloc ?_ _ | with_reducible refine Within.drew ?_ | with_reducible refine Within.trans ?_ (by assumption))) _
  obtain ⟨V, hV⟩ : ∃ V, V = w6.alloc (.cells #[.pointer (some ⟨gp, 0, none⟩), .int .i64 E] 53) := ⟨_, rfl⟩
  rw [← hV] at p0 p1 hJp hwv
  have HVV := Lib.hid hV; have HTV := Lib.hid (And.intro (HT.out.1.of hwv) (HT.out.2.of hwv)); have HWV := Lib.hid hwv; clear hb1 hb2 hb3 hb4 hb5 hb6 hI4 hI5 hIp hwv hV
  have HP := Lib.hid (And.intro p0 p1); have HJ := Lib.hid hJp; clear p0 p1 hJp
  go_wp2_with fail
  rw [← HVV.out]
  refine (XA.out gp _ HJ.out).mono ?_; rintro e7 w7 ⟨g7, rfl, hI7, _, hb7⟩
  go_wp2_with fail
  refine (Xpower 1021 _).mono ?_; rintro e8 w8 ⟨g8, rfl, hI8, _, hb8⟩
  go_wp2_with fail
  refine (CM.out g7 g8 _ (hI7.of hb8) hI8).mono ?_; rintro e9 w9 ⟨rfl, hb9⟩
  clear hI7 hI8
  have hV9 : Within V w9 := (hb7.trans hb8).trans hb9
  clear hb7 hb8 hb9
  have p0 := (hV9.cells _ 0 (World.block_lt_of_cell? _ _ HP.out.1)).trans HP.out.1
  have p1 := (hV9.cells _ 1 (World.block_lt_of_cell? _ _ HP.out.1)).trans HP.out.2
  have pl := World.block_lt_of_cell? _ _ p0
  have hJ9 := HJ.out.of hV9
  go_wp2
  go_ret
  exact ⟨rfl, HWV.out.trans hV9⟩
set_option maxRecDepth 100000 in
set_option maxHeartbeats 600000 in
theorem products_out4 (x y : Nat) (hx : x < 18446744073709551616) (hy : y < 18446744073709551616) (h1 : belowB x 995 = true) (h2 : belowB y 995 = true) (hc : decide ((valE ((ofN x * ofN y).natAbs : Int) (pExpD x + pExpD y) 2148 - valE 1 1021 2148).sign > 0) = false) (h0 : ofN x * ofN y ≠ 0) (hlo : pExpD x + pExpD y < -1074) (w : World) (hT : Tab w ∧ Tab32 w) : Calls Tryz.prog 11 #[.int .u64 (x : Int), .int .u64 (y : Int)] w fun e w' => e = .returned (.bool true) ∧ Within w w' := by
  have AW := Lib.hid (awake_true w hT.1)
  have HT := Lib.hid hT
  have BX := Lib.hid (fun w => below_any x 995 hx (by decide) w)
  have BY := Lib.hid (fun w => below_any y 995 hy (by decide) w)
  have hod := prod_odd (below_is h1).1 (below_is h2).1 h0
  obtain ⟨fx, _⟩ := below_is h1; obtain ⟨fy, _⟩ := below_is h2
  rw [h1] at BX
  rw [h2] at BY
  have r1 := P64.pExpD_range x; have r2 := P64.pExpD_range y
  have OX := Lib.hid (fun w => Xof x hx w)
  have OY := Lib.hid (fun w => Xof y hy w)
  have ML := Lib.hid (fun g1 g2 w k1 k2 => Xmul (ofN x) (ofN y) (pExpD x) (pExpD y) g1 g2 (Nat.le_trans (dg_ofN x) (by decide)) (Nat.le_trans (dg_ofN y) (by decide)) ⟨by omega, by omega⟩ ⟨by omega, by omega⟩ w k1 k2)
  have ln : (dg (ofN x * ofN y).natAbs).length ≤ 100 := by rw [Int.natAbs_mul]; exact Nat.le_trans (dg_mul_len (dg_ofN x) (dg_ofN y)) (by decide)
  have hE : -2148 ≤ pExpD x + pExpD y ∧ pExpD x + pExpD y ≤ 2200 := ⟨by omega, by omega⟩
  obtain ⟨n, hn⟩ : ∃ n, n = ofN x * ofN y := ⟨_, rfl⟩
  obtain ⟨E, hEE⟩ : ∃ E, E = pExpD x + pExpD y := ⟨_, rfl⟩
  rw [← hn, ← hEE] at ML hc
  rw [← hn] at ln hod h0
  rw [← hEE] at hE hlo
  have XA := Lib.hid (fun g w k => Xabs n E g (Nat.le_trans ln (by decide)) w k)
  have CM := Lib.hid (fun g7 g8 w k1 k2 => Xcmp (n.natAbs : Int) 1 E 1021 g7 g8 2148 2200 (by decide) (by decide) hE.1 hE.2 (by decide) (by decide) (Nat.le_trans ln (by decide)) (Nat.le_trans (dg_len_le (k := 1) (by decide)) (by decide)) w k1 k2)
  obtain ⟨sg, hsg⟩ : ∃ sg, sg = (valE (n.natAbs : Int) E 2148 - valE 1 1021 2148).sign := ⟨_, rfl⟩
  rw [← hsg] at CM
  rw [← hsg] at hc
  have OD := Lib.hid (fun g w hT k => XoddN n E g hod (Nat.le_trans ln (by decide)) ⟨by omega, by omega⟩ w hT k)
  have d1 : (n.sign != 0) = true := by rw [bne_iff_ne]; intro h; exact h0 (Int.sign_eq_zero_iff_zero.1 h)
  have d2 : decide (E < -1074) = true := decide_eq_true hlo
  clear hsg hn hEE r1 r2 fx fy h1 h2 hx hy hT ln hE hod h0 hlo
  go_enter Tryz.func11, Tryz.ntmps11
  go_wp2_with fail
  refine AW.out.mono ?_; rintro e1 w1 ⟨rfl, hb1⟩
  go_wp2_with fail
  refine (ef_any x _).mono ?_; rintro e0 w0 ⟨rfl, rfl⟩
  go_wp2_with fail
  refine (ef_any y _).mono ?_; rintro e0 w0 ⟨rfl, rfl⟩
  go_wp2_with fail
  refine (BX.out _).mono ?_; rintro e2 w2 ⟨rfl, hb2⟩
  go_wp2_with fail
  refine (BY.out _).mono ?_; rintro e3 w3 ⟨rfl, hb3⟩
  go_wp2_with fail
  refine (OX.out _).mono ?_; rintro e4 w4 ⟨g4, rfl, hI4, _, hb4⟩
  go_wp2_with fail
  refine (OY.out _).mono ?_; rintro e5 w5 ⟨g5, rfl, hI5, _, hb5⟩
  go_wp2_with fail
  refine (ML.out g4 g5 _ (hI4.of hb5) hI5).mono ?_; rintro e6 w6 ⟨gp, rfl, hIp, _, hb6⟩
  have p0 : (w6.alloc (.cells #[.pointer (some ⟨gp, 0, none⟩), .int .i64 E] 53)).cell? ⟨w6.heap.size, 0, none⟩ = some (.pointer (some ⟨gp, 0, none⟩)) := by go_simp
  have p1 : (w6.alloc (.cells #[.pointer (some ⟨gp, 0, none⟩), .int .i64 E] 53)).cell? ⟨w6.heap.size, 1, none⟩ = some (.int .i64 E) := by go_simp
  have hJp := hIp.of ((Within.refl w6).alloc (.cells #[.pointer (some ⟨gp, 0, none⟩), .int .i64 E] 53))
  have hwv : Within w (w6.alloc (.cells #[.pointer (some ⟨gp, 0, none⟩), .int .i64 E] 53)) := Within.alloc (by repeat (first | with_reducible exact Within.refl _ | with_reducible assumption | with_reducible refine arW_within ?_ _ _ _ | with_reducible refine Within.alloc ?_ _ | with_reducible refine Within.drew ?_ | with_reducible refine Within.trans ?_ (by assumption))) _
  obtain ⟨V, hV⟩ : ∃ V, V = w6.alloc (.cells #[.pointer (some ⟨gp, 0, none⟩), .int .i64 E] 53) := ⟨_, rfl⟩
  rw [← hV] at p0 p1 hJp hwv
  have HVV := Lib.hid hV; have HTV := Lib.hid (And.intro (HT.out.1.of hwv) (HT.out.2.of hwv)); have HWV := Lib.hid hwv; clear hb1 hb2 hb3 hb4 hb5 hb6 hI4 hI5 hIp hwv hV
  have HP := Lib.hid (And.intro p0 p1); have HJ := Lib.hid hJp; clear p0 p1 hJp
  go_wp2_with fail
  rw [← HVV.out]
  refine (XA.out gp _ HJ.out).mono ?_; rintro e7 w7 ⟨g7, rfl, hI7, _, hb7⟩
  go_wp2_with fail
  refine (Xpower 1021 _).mono ?_; rintro e8 w8 ⟨g8, rfl, hI8, _, hb8⟩
  go_wp2_with fail
  refine (CM.out g7 g8 _ (hI7.of hb8) hI8).mono ?_; rintro e9 w9 ⟨rfl, hb9⟩
  clear hI7 hI8
  have hV9 : Within V w9 := (hb7.trans hb8).trans hb9
  clear hb7 hb8 hb9
  have p0 := (hV9.cells _ 0 (World.block_lt_of_cell? _ _ HP.out.1)).trans HP.out.1
  have p1 := (hV9.cells _ 1 (World.block_lt_of_cell? _ _ HP.out.1)).trans HP.out.2
  have pl := World.block_lt_of_cell? _ _ p0
  have hJ9 := HJ.out.of hV9
  go_wp2_with fail
  refine (Bsign gp n _ hJ9).mono ?_; rintro e10 w10 ⟨rfl, rfl⟩
  go_wp2_with fail
  refine (OD.out gp _ (HTV.out.2.of hV9) hJ9).mono ?_; rintro e11 w11 ⟨g11, rfl, hI11, _, hb11⟩
  go_wp2
  go_ret
  exact ⟨rfl, (HWV.out.trans hV9).trans hb11⟩
set_option maxRecDepth 100000 in
set_option maxHeartbeats 4000000 in
theorem products_main (x y : Nat) (hx : x < 18446744073709551616) (hy : y < 18446744073709551616) (h1 : belowB x 995 = true) (h2 : belowB y 995 = true) (hc : decide ((valE ((ofN x * ofN y).natAbs : Int) (pExpD x + pExpD y) 2148 - valE 1 1021 2148).sign > 0) = false) (hlo : ofN x * ofN y = 0 ∨ -1074 ≤ pExpD x + pExpD y) (w : World) (hT : Tab w ∧ Tab32 w) : Calls Tryz.prog 11 #[.int .u64 (x : Int), .int .u64 (y : Int)] w fun e w' => e = .returned (.bool true) ∧ Within w w' := by
  have AW := Lib.hid (awake_true w hT.1)
  have HT := Lib.hid hT
  have BX := Lib.hid (fun w => below_any x 995 hx (by decide) w)
  have BY := Lib.hid (fun w => below_any y 995 hy (by decide) w)
  have hP := prod_good hx hy h1 h2 (by
      have e : valE 1 1021 2148 = ((2 ^ (j95 + upl) : Nat) : Int) := by unfold valE; rw [Int.one_mul, cast_pow, show ((1021 : Int) + ((2148 : Nat) : Int)).toNat = j95 + upl from rfl]
      have h := of_decide_eq_false hc
      rw [e] at h
      have h3 : 0 ≤ valE ((ofN x * ofN y).natAbs : Int) (pExpD x + pExpD y) 2148 := by unfold valE; exact Int.mul_nonneg (by omega) (Int.le_of_lt (Int.pow_pos (by decide)))
      generalize (2 ^ (j95 + upl) : Nat) = X at *
      generalize valE ((ofN x * ofN y).natAbs : Int) (pExpD x + pExpD y) 2148 = Y at *
      rcases Int.lt_or_le (X : Int) Y with g | g
      · exact absurd (by rw [Int.sign_eq_one_of_pos (by omega)]; decide) h
      · omega) hlo
  obtain ⟨P, hPe, hF1, hF2, hPu⟩ := hP
  have hod : ofN x * ofN y ≠ 0 → (ofN x * ofN y).natAbs % 2 = 1 := fun h0 => prod_odd (below_is h1).1 (below_is h2).1 h0
  have hvn : valE (ofN x * ofN y) (pExpD x + pExpD y) 2148 = P * 2 ^ 1074 := by rw [← hPe]; exact (val_mul _ _ _ _ 1074 1074 (P64.pExpD_range x).1 (P64.pExpD_range y).1)
  have PW := Lib.hid (fun w => Eprod_any x y hx hy w)
  have u1 := fin_fv2 (below_is h1).1; have u2 := fin_fv2 (below_is h2).1
  have HXY := Lib.hid (And.intro (below_is h1).1 (below_is h2).1)
  obtain ⟨fx, _⟩ := below_is h1; obtain ⟨fy, _⟩ := below_is h2
  rw [h1] at BX
  rw [h2] at BY
  have r1 := P64.pExpD_range x; have r2 := P64.pExpD_range y
  have OX := Lib.hid (fun w => Xof x hx w)
  have OY := Lib.hid (fun w => Xof y hy w)
  have ML := Lib.hid (fun g1 g2 w k1 k2 => Xmul (ofN x) (ofN y) (pExpD x) (pExpD y) g1 g2 (Nat.le_trans (dg_ofN x) (by decide)) (Nat.le_trans (dg_ofN y) (by decide)) ⟨by omega, by omega⟩ ⟨by omega, by omega⟩ w k1 k2)
  have ln : (dg (ofN x * ofN y).natAbs).length ≤ 100 := by rw [Int.natAbs_mul]; exact Nat.le_trans (dg_mul_len (dg_ofN x) (dg_ofN y)) (by decide)
  have hE : -2148 ≤ pExpD x + pExpD y ∧ pExpD x + pExpD y ≤ 2200 := ⟨by omega, by omega⟩
  obtain ⟨n, hn⟩ : ∃ n, n = ofN x * ofN y := ⟨_, rfl⟩
  obtain ⟨E, hEE⟩ : ∃ E, E = pExpD x + pExpD y := ⟨_, rfl⟩
  rw [← hn, ← hEE] at ML hc hvn
  rw [← hn] at ln hod hlo
  rw [← hEE] at hE hlo
  have XA := Lib.hid (fun g w k => Xabs n E g (Nat.le_trans ln (by decide)) w k)
  have CM := Lib.hid (fun g7 g8 w k1 k2 => Xcmp (n.natAbs : Int) 1 E 1021 g7 g8 2148 2200 (by decide) (by decide) hE.1 hE.2 (by decide) (by decide) (Nat.le_trans ln (by decide)) (Nat.le_trans (dg_len_le (k := 1) (by decide)) (by decide)) w k1 k2)
  obtain ⟨sg, hsg⟩ : ∃ sg, sg = (valE (n.natAbs : Int) E 2148 - valE 1 1021 2148).sign := ⟨_, rfl⟩
  rw [← hsg] at CM
  rw [← hsg] at hc
  have OD := Lib.hid (fun (h0 : n ≠ 0) g w hT k => XoddN n E g (hod h0) (Nat.le_trans ln (by decide)) ⟨by omega, by omega⟩ w hT k)
  have HE := Lib.hid hE; have LN := Lib.hid ln; have HVN := Lib.hid hvn; have HLO := Lib.hid hlo; have HF1 := Lib.hid hF1; have HF2 := Lib.hid hF2; have HPU := Lib.hid hPu; have U12 := Lib.hid (And.intro u1 u2)
  clear hsg hn hEE r1 r2 fx fy h1 h2 hx hy hT ln hE hod hlo hvn hPe hF1 hF2 hPu u1 u2
  go_enter Tryz.func11, Tryz.ntmps11
  go_wp2_with fail
  refine AW.out.mono ?_; rintro e1 w1 ⟨rfl, hb1⟩
  go_wp2_with fail
  refine (ef_any x _).mono ?_; rintro e0 w0 ⟨rfl, rfl⟩
  go_wp2_with fail
  refine (ef_any y _).mono ?_; rintro e0 w0 ⟨rfl, rfl⟩
  go_wp2_with fail
  refine (BX.out _).mono ?_; rintro e2 w2 ⟨rfl, hb2⟩
  go_wp2_with fail
  refine (BY.out _).mono ?_; rintro e3 w3 ⟨rfl, hb3⟩
  go_wp2_with fail
  refine (OX.out _).mono ?_; rintro e4 w4 ⟨g4, rfl, hI4, _, hb4⟩
  go_wp2_with fail
  refine (OY.out _).mono ?_; rintro e5 w5 ⟨g5, rfl, hI5, _, hb5⟩
  go_wp2_with fail
  refine (ML.out g4 g5 _ (hI4.of hb5) hI5).mono ?_; rintro e6 w6 ⟨gp, rfl, hIp, _, hb6⟩
  have p0 : (w6.alloc (.cells #[.pointer (some ⟨gp, 0, none⟩), .int .i64 E] 53)).cell? ⟨w6.heap.size, 0, none⟩ = some (.pointer (some ⟨gp, 0, none⟩)) := by go_simp
  have p1 : (w6.alloc (.cells #[.pointer (some ⟨gp, 0, none⟩), .int .i64 E] 53)).cell? ⟨w6.heap.size, 1, none⟩ = some (.int .i64 E) := by go_simp
  have hJp := hIp.of ((Within.refl w6).alloc (.cells #[.pointer (some ⟨gp, 0, none⟩), .int .i64 E] 53))
  have hwv : Within w (w6.alloc (.cells #[.pointer (some ⟨gp, 0, none⟩), .int .i64 E] 53)) := Within.alloc (by repeat (first | with_reducible exact Within.refl _ | with_reducible assumption | with_reducible refine arW_within ?_ _ _ _ | with_reducible refine Within.alloc ?_ _ | with_reducible refine Within.drew ?_ | with_reducible refine Within.trans ?_ (by assumption))) _
  obtain ⟨V, hV⟩ : ∃ V, V = w6.alloc (.cells #[.pointer (some ⟨gp, 0, none⟩), .int .i64 E] 53) := ⟨_, rfl⟩
  rw [← hV] at p0 p1 hJp hwv
  have HVV := Lib.hid hV; have HTV := Lib.hid (And.intro (HT.out.1.of hwv) (HT.out.2.of hwv)); have HWV := Lib.hid hwv; clear hb1 hb2 hb3 hb4 hb5 hb6 hI4 hI5 hIp hwv hV
  have HP := Lib.hid (And.intro p0 p1); have HJ := Lib.hid hJp; clear p0 p1 hJp
  go_wp2_with fail
  rw [← HVV.out]
  refine (XA.out gp _ HJ.out).mono ?_; rintro e7 w7 ⟨g7, rfl, hI7, _, hb7⟩
  go_wp2_with fail
  refine (Xpower 1021 _).mono ?_; rintro e8 w8 ⟨g8, rfl, hI8, _, hb8⟩
  go_wp2_with fail
  refine (CM.out g7 g8 _ (hI7.of hb8) hI8).mono ?_; rintro e9 w9 ⟨rfl, hb9⟩
  clear hI7 hI8
  have hV9 : Within V w9 := (hb7.trans hb8).trans hb9
  clear hb7 hb8 hb9
  have p0 := (hV9.cells _ 0 (World.block_lt_of_cell? _ _ HP.out.1)).trans HP.out.1
  have p1 := (hV9.cells _ 1 (World.block_lt_of_cell? _ _ HP.out.1)).trans HP.out.2
  have pl := World.block_lt_of_cell? _ _ p0
  have hJ9 := HJ.out.of hV9
  by_cases h0 : n = 0
  · have d1 : (n.sign != 0) = false := by rw [h0]; rfl
    go_wp2_with fail
    refine (Bsign gp n _ hJ9).mono ?_; rintro e10 w10 ⟨rfl, rfl⟩
    clear OD
    clear p0 p1 pl hJ9
    have hwk : Within V w9 := hV9
    clear hV9
    go_wp2_with fail
    refine (PW.out _).mono ?_; rintro e12 w12 ⟨s, l, rfl, hs, hl, vs, vl, hb12⟩
    have vs2 := HF1.out; rw [← vs] at vs2; have vl2 := HF2.out; rw [← vl] at vl2
    have lim := fz_lim vl2
    have RL := vl2.rep
    obtain ⟨fs, us⟩ := Fz.fv vs2; obtain ⟨fl, ul⟩ := Fz.fv vl2
    rw [fin_canon fs, fin_canon fl]
    have hm : floatBits .mul .f64 x y = some s := by have h := vs; unfold proP at h; rw [U12.out.1, U12.out.2, fin_fv2 fs] at h; exact h.symm
    obtain ⟨q1, q2, q3⟩ := neg_un hs fs
    obtain ⟨r, hf, hr64, fr, ur⟩ := fma_units (R := P - rn P) HXY.out.1 HXY.out.2 q2 (by rw [q3, us, HPU.out, Int.neg_mul, Int.sub_mul]; omega) (by rw [rn_few RL]; exact lim)
    rw [rn_few RL] at ur
    have FU := Lib.hid (fun w => Efused_fin x y s _ r (decide_eq_true HXY.out.1) (decide_eq_true HXY.out.2) (decide_eq_true fs) hm rfl hf w)
    have hsum : (P64.wholeI s + P64.wholeI l) * 2 ^ 1074 = P * 2 ^ 1074 := by rw [whole_un hs fs, whole_un hl fl, us, ul, show rn P + (P - rn P) = P by omega]
    have HSUM := Lib.hid hsum
    have CS := Lib.hid (fun w => rfin4 s hs w)
    have CL := Lib.hid (fun w => rfin4 l hl w)
    rw [show finW s = true from decide_eq_true fs] at CS
    rw [show finW l = true from decide_eq_true fl] at CL
    have SS := Lib.hid (fun w => Xsum s l hs hl w)
    have AL1 := Lib.hid (fun w => alike_any s s true (by rw [c_eq (Nat.le_of_lt fs) (Nat.le_of_lt fs), decide_eq_true rfl]) w)
    have AL2 := Lib.hid (fun w => alike_any l r true (by rw [c_eq (Nat.le_of_lt fl) (Nat.le_of_lt fr), decide_eq_true (by rw [ul, ur])]) w)
    have ee : ((s : Int) == (s : Int)) = true := beq_self_eq_true _
    clear vs vl vs2 vl2 lim RL fs us fl ul hm q1 q2 q3 hf hr64 fr ur hsum hs hl
    go_wp2_with fail
    refine (FU.out _).mono ?_; rintro e13 w13 ⟨rfl, hb13⟩
    have hv13 : Within V w13 := (hwk.trans hb12).trans hb13
    clear hwk hb12 hb13
    have p0 := (hv13.cells _ 0 (World.block_lt_of_cell? _ _ HP.out.1)).trans HP.out.1
    have p1 := (hv13.cells _ 1 (World.block_lt_of_cell? _ _ HP.out.1)).trans HP.out.2
    have pl := World.block_lt_of_cell? _ _ p0
    have hJ := HJ.out.of hv13
    have hww := HWV.out.trans hv13
    go_upto_region 11 with fail
    refine wp_region_schG (fun W => W.cell? ⟨w6.heap.size, 0, none⟩ = some (.pointer (some ⟨gp, 0, none⟩)) ∧ W.cell? ⟨w6.heap.size, 1, none⟩ = some (.int .i64 E) ∧ w6.heap.size < W.heap.size ∧ IntB W gp n ∧ Within w13 W) 31 (.firm 0 (.one 1 (.firm 2 (.firm 3 (.one 4 (.firm 5 (.firm 6 (.firm 7 (.firm 8 (.firm 10 (.one 9 (.one 11 (.firm 12 (.firm 13 (.firm 14 (.firm 15 (.firm 16 (.one 17 (.firm 18 (.firm 19 (.firm 20 (.firm 21 (.one 22 (.firm 23 (.firm 24 (.firm 25 (.firm 27 (.one 26 (.one 28 (.firm 29 (.firm 30 (.one 31 .nil)))))))))))))))))))))))))))))))) (by kernel_rfl) (by kernel_rfl) ⟨p0, p1, pl, hJ, Within.refl _⟩ ?_
    rintro w0 ⟨c0, c1, lb, hI, hw0⟩
    try simp only [Act.put, List.setIfInBounds_toArray, List.set_cons_zero, List.set_cons_succ]
    apply sch_firm rfl rfl (by repeat (first | with_reducible exact Within.refl _ | with_reducible assumption | with_reducible refine Within.alloc ?_ _ | with_reducible refine Within.drew ?_ | with_reducible refine Within.drewN ?_ _ | with_reducible refine Within.setCell ?_ (by first | (simp; done) | (simp; omega)) _ | with_reducible refine Within.trans ?_ (by assumption)))
    · intro wq hq
      have hcq := hq.cells
      clear hq
      go_simp
      first | rfl | (trace_state; fail)
    try simp only [Act.put, List.setIfInBounds_toArray, List.set_cons_zero, List.set_cons_succ]
    refine sch_one rfl rfl (fun K hK => ?_)
    go_simp
    refine (CS.out _).mono ?_; rintro f1 u1 ⟨rfl, jb1⟩
    refine hK _ _ (fun _ => (by repeat (first | with_reducible exact Within.refl _ | with_reducible assumption | with_reducible refine Within.alloc ?_ _ | with_reducible refine Within.drew ?_ | with_reducible refine Within.drewN ?_ _ | with_reducible refine Within.setCell ?_ (by first | (simp; done) | (simp; omega)) _ | with_reducible refine Within.trans ?_ (by assumption)))) ?_
    clear hK K
    try simp only [Act.put, List.setIfInBounds_toArray, List.set_cons_zero, List.set_cons_succ]
    apply sch_firm rfl rfl (by repeat (first | with_reducible exact Within.refl _ | with_reducible assumption | with_reducible refine Within.alloc ?_ _ | with_reducible refine Within.drew ?_ | with_reducible refine Within.drewN ?_ _ | with_reducible refine Within.setCell ?_ (by first | (simp; done) | (simp; omega)) _ | with_reducible refine Within.trans ?_ (by assumption)))
    · intro wq hq
      have hcq := hq.cells
      clear hq
      go_simp
      first | rfl | (trace_state; fail)
    try simp only [Act.put, List.setIfInBounds_toArray, List.set_cons_zero, List.set_cons_succ]
    apply sch_want rfl (by first | rfl | decide | (simp [Region.wanted, yielded]; done) | (simp [Region.wanted, yielded]; assumption)) (by repeat (first | with_reducible exact Within.refl _ | with_reducible assumption | with_reducible refine Within.alloc ?_ _ | with_reducible refine Within.drew ?_ | with_reducible refine Within.drewN ?_ _ | with_reducible refine Within.setCell ?_ (by first | (simp; done) | (simp; omega)) _ | with_reducible refine Within.trans ?_ (by assumption)))
    · intro wq hq
      have hcq := hq.cells
      clear hq
      go_simp
      first | rfl | (trace_state; fail)
    try simp only [Act.put, List.setIfInBounds_toArray, List.set_cons_zero, List.set_cons_succ]
    refine sch_one_want rfl (by first | rfl | decide | (simp [Region.wanted, yielded]; done) | (simp [Region.wanted, yielded]; assumption)) (fun K hK => ?_)
    go_simp
    refine (CL.out _).mono ?_; rintro f2 u2 ⟨rfl, jb2⟩
    refine hK _ _ (fun _ => (by repeat (first | with_reducible exact Within.refl _ | with_reducible assumption | with_reducible refine Within.alloc ?_ _ | with_reducible refine Within.drew ?_ | with_reducible refine Within.drewN ?_ _ | with_reducible refine Within.setCell ?_ (by first | (simp; done) | (simp; omega)) _ | with_reducible refine Within.trans ?_ (by assumption)))) ?_
    clear hK K
    try simp only [Act.put, List.setIfInBounds_toArray, List.set_cons_zero, List.set_cons_succ]
    apply sch_firm rfl rfl (by repeat (first | with_reducible exact Within.refl _ | with_reducible assumption | with_reducible refine Within.alloc ?_ _ | with_reducible refine Within.drew ?_ | with_reducible refine Within.drewN ?_ _ | with_reducible refine Within.setCell ?_ (by first | (simp; done) | (simp; omega)) _ | with_reducible refine Within.trans ?_ (by assumption)))
    · intro wq hq
      have hcq := hq.cells
      clear hq
      go_simp
      first | rfl | (trace_state; fail)
    try simp only [Act.put, List.setIfInBounds_toArray, List.set_cons_zero, List.set_cons_succ]
    apply sch_firm rfl rfl (by repeat (first | with_reducible exact Within.refl _ | with_reducible assumption | with_reducible refine Within.alloc ?_ _ | with_reducible refine Within.drew ?_ | with_reducible refine Within.drewN ?_ _ | with_reducible refine Within.setCell ?_ (by first | (simp; done) | (simp; omega)) _ | with_reducible refine Within.trans ?_ (by assumption)))
    · intro wq hq
      have hcq := hq.cells
      clear hq
      go_simp
      first | rfl | (trace_state; fail)
    try simp only [Act.put, List.setIfInBounds_toArray, List.set_cons_zero, List.set_cons_succ]
    apply sch_want rfl (by first | rfl | decide | (simp [Region.wanted, yielded]; done) | (simp [Region.wanted, yielded]; assumption)) (by repeat (first | with_reducible exact Within.refl _ | with_reducible assumption | with_reducible refine Within.alloc ?_ _ | with_reducible refine Within.drew ?_ | with_reducible refine Within.drewN ?_ _ | with_reducible refine Within.setCell ?_ (by first | (simp; done) | (simp; omega)) _ | with_reducible refine Within.trans ?_ (by assumption)))
    · intro wq hq
      have hcq := hq.cells
      clear hq
      go_simp
      first | rfl | (trace_state; fail)
    try simp only [Act.put, List.setIfInBounds_toArray, List.set_cons_zero, List.set_cons_succ]
    apply sch_want rfl (by first | rfl | decide | (simp [Region.wanted, yielded]; done) | (simp [Region.wanted, yielded]; assumption)) (by repeat (first | with_reducible exact Within.refl _ | with_reducible assumption | with_reducible refine Within.alloc ?_ _ | with_reducible refine Within.drew ?_ | with_reducible refine Within.drewN ?_ _ | with_reducible refine Within.setCell ?_ (by first | (simp; done) | (simp; omega)) _ | with_reducible refine Within.trans ?_ (by assumption)))
    · intro wq hq
      have hcq := hq.cells
      clear hq
      go_simp
      first | rfl | (trace_state; fail)
    try simp only [Act.put, List.setIfInBounds_toArray, List.set_cons_zero, List.set_cons_succ]
    apply sch_want rfl (by first | rfl | decide | (simp [Region.wanted, yielded]; done) | (simp [Region.wanted, yielded]; assumption)) (by repeat (first | with_reducible exact Within.refl _ | with_reducible assumption | with_reducible refine Within.alloc ?_ _ | with_reducible refine Within.drew ?_ | with_reducible refine Within.drewN ?_ _ | with_reducible refine Within.setCell ?_ (by first | (simp; done) | (simp; omega)) _ | with_reducible refine Within.trans ?_ (by assumption)))
    · intro wq hq
      have hcq := hq.cells
      clear hq
      go_simp
      first | rfl | (trace_state; fail)
    try simp only [Act.put, List.setIfInBounds_toArray, List.set_cons_zero, List.set_cons_succ]
    refine sch_one_want rfl (by first | rfl | decide | (simp [Region.wanted, yielded]; done) | (simp [Region.wanted, yielded]; assumption)) (fun K hK => ?_)
    go_simp
    refine (SS.out _).mono ?_; rintro f3 u3 ⟨g9, n9, E9, rfl, hI9, a9, b9, hv9, jb3⟩
    have l9 : (dg n9.natAbs).length ≤ 90 := Nat.le_trans (val_len n9 E9 1074) (by rw [hv9]; exact Nat.le_trans (whole_add_len _ _) (by decide))
    refine hK _ _ (fun _ => (by repeat (first | with_reducible exact Within.refl _ | with_reducible assumption | with_reducible refine Within.alloc ?_ _ | with_reducible refine Within.drew ?_ | with_reducible refine Within.drewN ?_ _ | with_reducible refine Within.setCell ?_ (by first | (simp; done) | (simp; omega)) _ | with_reducible refine Within.trans ?_ (by assumption)))) ?_
    clear hK K
    try simp only [Act.put, List.setIfInBounds_toArray, List.set_cons_zero, List.set_cons_succ]
    refine sch_one_want rfl (by first | rfl | decide | (simp [Region.wanted, yielded]; done) | (simp [Region.wanted, yielded]; assumption)) (fun K hK => ?_)
    go_simp
    have CQ := Lib.hid (fun w k1 k2 => Xcmp n9 n E9 E g9 gp 2148 2200 (by decide) (by decide) (by omega) (by omega) HE.out.1 HE.out.2 (Nat.le_trans l9 (by decide)) (Nat.le_trans LN.out (by decide)) w k1 k2)
    rw [val_more (n := n9) (E := E9) (L := 1074) 1074 a9, hv9, HSUM.out, HVN.out, cmp_same' rfl] at CQ
    refine (CQ.out _ (IntB.of hI9 (by repeat (first | with_reducible exact Within.refl _ | with_reducible assumption | with_reducible refine Within.alloc ?_ _ | with_reducible refine Within.drew ?_ | with_reducible refine Within.drewN ?_ _ | with_reducible refine Within.setCell ?_ (by first | (simp; done) | (simp; omega)) _ | with_reducible refine Within.trans ?_ (by assumption)))) (IntB.of hI (by repeat (first | with_reducible exact Within.refl _ | with_reducible assumption | with_reducible refine Within.alloc ?_ _ | with_reducible refine Within.drew ?_ | with_reducible refine Within.drewN ?_ _ | with_reducible refine Within.setCell ?_ (by first | (simp; done) | (simp; omega)) _ | with_reducible refine Within.trans ?_ (by assumption))))).mono ?_; rintro f4 u4 ⟨rfl, jb4⟩
    refine hK _ _ (fun _ => (by repeat (first | with_reducible exact Within.refl _ | with_reducible assumption | with_reducible refine Within.alloc ?_ _ | with_reducible refine Within.drew ?_ | with_reducible refine Within.drewN ?_ _ | with_reducible refine Within.setCell ?_ (by first | (simp; done) | (simp; omega)) _ | with_reducible refine Within.trans ?_ (by assumption)))) ?_
    clear hK K
    try simp only [Act.put, List.setIfInBounds_toArray, List.set_cons_zero, List.set_cons_succ]
    apply sch_want rfl (by first | rfl | decide | (simp [Region.wanted, yielded]; done) | (simp [Region.wanted, yielded]; assumption)) (by repeat (first | with_reducible exact Within.refl _ | with_reducible assumption | with_reducible refine Within.alloc ?_ _ | with_reducible refine Within.drew ?_ | with_reducible refine Within.drewN ?_ _ | with_reducible refine Within.setCell ?_ (by first | (simp; done) | (simp; omega)) _ | with_reducible refine Within.trans ?_ (by assumption)))
    · intro wq hq
      have hcq := hq.cells
      clear hq
      go_simp
      first | rfl | (trace_state; fail)
    try simp only [Act.put, List.setIfInBounds_toArray, List.set_cons_zero, List.set_cons_succ]
    apply sch_firm rfl rfl (by repeat (first | with_reducible exact Within.refl _ | with_reducible assumption | with_reducible refine Within.alloc ?_ _ | with_reducible refine Within.drew ?_ | with_reducible refine Within.drewN ?_ _ | with_reducible refine Within.setCell ?_ (by first | (simp; done) | (simp; omega)) _ | with_reducible refine Within.trans ?_ (by assumption)))
    · intro wq hq
      have hcq := hq.cells
      clear hq
      go_simp
      first | rfl | (trace_state; fail)
    try simp only [Act.put, List.setIfInBounds_toArray, List.set_cons_zero, List.set_cons_succ]
    apply sch_firm rfl rfl (by repeat (first | with_reducible exact Within.refl _ | with_reducible assumption | with_reducible refine Within.alloc ?_ _ | with_reducible refine Within.drew ?_ | with_reducible refine Within.drewN ?_ _ | with_reducible refine Within.setCell ?_ (by first | (simp; done) | (simp; omega)) _ | with_reducible refine Within.trans ?_ (by assumption)))
    · intro wq hq
      have hcq := hq.cells
      clear hq
      go_simp
      first | rfl | (trace_state; fail)
    try simp only [Act.put, List.setIfInBounds_toArray, List.set_cons_zero, List.set_cons_succ]
    apply sch_want rfl (by first | rfl | decide | (simp [Region.wanted, yielded]; done) | (simp [Region.wanted, yielded]; assumption)) (by repeat (first | with_reducible exact Within.refl _ | with_reducible assumption | with_reducible refine Within.alloc ?_ _ | with_reducible refine Within.drew ?_ | with_reducible refine Within.drewN ?_ _ | with_reducible refine Within.setCell ?_ (by first | (simp; done) | (simp; omega)) _ | with_reducible refine Within.trans ?_ (by assumption)))
    · intro wq hq
      have hcq := hq.cells
      clear hq
      go_simp
      first | rfl | (trace_state; fail)
    try simp only [Act.put, List.setIfInBounds_toArray, List.set_cons_zero, List.set_cons_succ]
    apply sch_want rfl (by first | rfl | decide | (simp [Region.wanted, yielded]; done) | (simp [Region.wanted, yielded]; assumption)) (by repeat (first | with_reducible exact Within.refl _ | with_reducible assumption | with_reducible refine Within.alloc ?_ _ | with_reducible refine Within.drew ?_ | with_reducible refine Within.drewN ?_ _ | with_reducible refine Within.setCell ?_ (by first | (simp; done) | (simp; omega)) _ | with_reducible refine Within.trans ?_ (by assumption)))
    · intro wq hq
      have hcq := hq.cells
      clear hq
      go_simp
      first | rfl | (trace_state; fail)
    try simp only [Act.put, List.setIfInBounds_toArray, List.set_cons_zero, List.set_cons_succ]
    refine sch_one_want rfl (by first | rfl | decide | (simp [Region.wanted, yielded]; done) | (simp [Region.wanted, yielded]; assumption)) (fun K hK => ?_)
    go_simp
    refine (AL1.out _).mono ?_; rintro f5 u5 ⟨rfl, rfl⟩
    refine hK _ _ (fun _ => (by repeat (first | with_reducible exact Within.refl _ | with_reducible assumption | with_reducible refine Within.alloc ?_ _ | with_reducible refine Within.drew ?_ | with_reducible refine Within.drewN ?_ _ | with_reducible refine Within.setCell ?_ (by first | (simp; done) | (simp; omega)) _ | with_reducible refine Within.trans ?_ (by assumption)))) ?_
    clear hK K
    try simp only [Act.put, List.setIfInBounds_toArray, List.set_cons_zero, List.set_cons_succ]
    apply sch_firm rfl rfl (by repeat (first | with_reducible exact Within.refl _ | with_reducible assumption | with_reducible refine Within.alloc ?_ _ | with_reducible refine Within.drew ?_ | with_reducible refine Within.drewN ?_ _ | with_reducible refine Within.setCell ?_ (by first | (simp; done) | (simp; omega)) _ | with_reducible refine Within.trans ?_ (by assumption)))
    · intro wq hq
      have hcq := hq.cells
      clear hq
      go_simp
      first | rfl | (trace_state; fail)
    try simp only [Act.put, List.setIfInBounds_toArray, List.set_cons_zero, List.set_cons_succ]
    apply sch_firm rfl rfl (by repeat (first | with_reducible exact Within.refl _ | with_reducible assumption | with_reducible refine Within.alloc ?_ _ | with_reducible refine Within.drew ?_ | with_reducible refine Within.drewN ?_ _ | with_reducible refine Within.setCell ?_ (by first | (simp; done) | (simp; omega)) _ | with_reducible refine Within.trans ?_ (by assumption)))
    · intro wq hq
      have hcq := hq.cells
      clear hq
      go_simp
      first | rfl | (trace_state; fail)
    try simp only [Act.put, List.setIfInBounds_toArray, List.set_cons_zero, List.set_cons_succ]
    apply sch_want rfl (by first | rfl | decide | (simp [Region.wanted, yielded]; done) | (simp [Region.wanted, yielded]; assumption)) (by repeat (first | with_reducible exact Within.refl _ | with_reducible assumption | with_reducible refine Within.alloc ?_ _ | with_reducible refine Within.drew ?_ | with_reducible refine Within.drewN ?_ _ | with_reducible refine Within.setCell ?_ (by first | (simp; done) | (simp; omega)) _ | with_reducible refine Within.trans ?_ (by assumption)))
    · intro wq hq
      have hcq := hq.cells
      clear hq
      go_simp
      first | rfl | (trace_state; fail)
    try simp only [Act.put, List.setIfInBounds_toArray, List.set_cons_zero, List.set_cons_succ]
    apply sch_want rfl (by first | rfl | decide | (simp [Region.wanted, yielded]; done) | (simp [Region.wanted, yielded]; assumption)) (by repeat (first | with_reducible exact Within.refl _ | with_reducible assumption | with_reducible refine Within.alloc ?_ _ | with_reducible refine Within.drew ?_ | with_reducible refine Within.drewN ?_ _ | with_reducible refine Within.setCell ?_ (by first | (simp; done) | (simp; omega)) _ | with_reducible refine Within.trans ?_ (by assumption)))
    · intro wq hq
      have hcq := hq.cells
      clear hq
      go_simp
      first | rfl | (trace_state; fail)
    try simp only [Act.put, List.setIfInBounds_toArray, List.set_cons_zero, List.set_cons_succ]
    refine sch_one_want rfl (by first | rfl | decide | (simp [Region.wanted, yielded]; done) | (simp [Region.wanted, yielded]; assumption)) (fun K hK => ?_)
    go_simp
    refine (AL2.out _).mono ?_; rintro f6 u6 ⟨rfl, rfl⟩
    refine hK _ _ (fun _ => (by repeat (first | with_reducible exact Within.refl _ | with_reducible assumption | with_reducible refine Within.alloc ?_ _ | with_reducible refine Within.drew ?_ | with_reducible refine Within.drewN ?_ _ | with_reducible refine Within.setCell ?_ (by first | (simp; done) | (simp; omega)) _ | with_reducible refine Within.trans ?_ (by assumption)))) ?_
    clear hK K
    try simp only [Act.put, List.setIfInBounds_toArray, List.set_cons_zero, List.set_cons_succ]
    apply sch_firm rfl rfl (by repeat (first | with_reducible exact Within.refl _ | with_reducible assumption | with_reducible refine Within.alloc ?_ _ | with_reducible refine Within.drew ?_ | with_reducible refine Within.drewN ?_ _ | with_reducible refine Within.setCell ?_ (by first | (simp; done) | (simp; omega)) _ | with_reducible refine Within.trans ?_ (by assumption)))
    · intro wq hq
      have hcq := hq.cells
      clear hq
      go_simp
      first | rfl | (trace_state; fail)
    try simp only [Act.put, List.setIfInBounds_toArray, List.set_cons_zero, List.set_cons_succ]
    apply sch_firm rfl rfl (by repeat (first | with_reducible exact Within.refl _ | with_reducible assumption | with_reducible refine Within.alloc ?_ _ | with_reducible refine Within.drew ?_ | with_reducible refine Within.drewN ?_ _ | with_reducible refine Within.setCell ?_ (by first | (simp; done) | (simp; omega)) _ | with_reducible refine Within.trans ?_ (by assumption)))
    · intro wq hq
      have hcq := hq.cells
      clear hq
      go_simp
      first | rfl | (trace_state; fail)
    try simp only [Act.put, List.setIfInBounds_toArray, List.set_cons_zero, List.set_cons_succ]
    apply sch_want rfl (by first | rfl | decide | (simp [Region.wanted, yielded]; done) | (simp [Region.wanted, yielded]; assumption)) (by repeat (first | with_reducible exact Within.refl _ | with_reducible assumption | with_reducible refine Within.alloc ?_ _ | with_reducible refine Within.drew ?_ | with_reducible refine Within.drewN ?_ _ | with_reducible refine Within.setCell ?_ (by first | (simp; done) | (simp; omega)) _ | with_reducible refine Within.trans ?_ (by assumption)))
    · intro wq hq
      have hcq := hq.cells
      clear hq
      go_simp
      first | rfl | (trace_state; fail)
    try simp only [Act.put, List.setIfInBounds_toArray, List.set_cons_zero, List.set_cons_succ]
    apply sch_want rfl (by first | rfl | decide | (simp [Region.wanted, yielded]; done) | (simp [Region.wanted, yielded]; assumption)) (by repeat (first | with_reducible exact Within.refl _ | with_reducible assumption | with_reducible refine Within.alloc ?_ _ | with_reducible refine Within.drew ?_ | with_reducible refine Within.drewN ?_ _ | with_reducible refine Within.setCell ?_ (by first | (simp; done) | (simp; omega)) _ | with_reducible refine Within.trans ?_ (by assumption)))
    · intro wq hq
      have hcq := hq.cells
      clear hq
      go_simp
      first | rfl | (trace_state; fail)
    try simp only [Act.put, List.setIfInBounds_toArray, List.set_cons_zero, List.set_cons_succ]
    refine sch_one_want rfl (by first | rfl | decide | (simp [Region.wanted, yielded]; done) | (simp [Region.wanted, yielded]; assumption)) (fun K hK => ?_)
    go_simp
    refine hK _ _ (fun _ => (by repeat (first | with_reducible exact Within.refl _ | with_reducible assumption | with_reducible refine Within.alloc ?_ _ | with_reducible refine Within.drew ?_ | with_reducible refine Within.drewN ?_ _ | with_reducible refine Within.setCell ?_ (by first | (simp; done) | (simp; omega)) _ | with_reducible refine Within.trans ?_ (by assumption)))) ?_
    clear hK K
    try simp only [Act.put, List.setIfInBounds_toArray, List.set_cons_zero, List.set_cons_succ]
    refine sch_one_want rfl (by first | rfl | decide | (simp [Region.wanted, yielded]; done) | (simp [Region.wanted, yielded]; assumption)) (fun K hK => ?_)
    go_simp
    refine hK _ _ (fun _ => (by repeat (first | with_reducible exact Within.refl _ | with_reducible assumption | with_reducible refine Within.alloc ?_ _ | with_reducible refine Within.drew ?_ | with_reducible refine Within.drewN ?_ _ | with_reducible refine Within.setCell ?_ (by first | (simp; done) | (simp; omega)) _ | with_reducible refine Within.trans ?_ (by assumption)))) ?_
    clear hK K
    try simp only [Act.put, List.setIfInBounds_toArray, List.set_cons_zero, List.set_cons_succ]
    apply sch_want rfl (by first | rfl | decide | (simp [Region.wanted, yielded]; done) | (simp [Region.wanted, yielded]; assumption)) (by repeat (first | with_reducible exact Within.refl _ | with_reducible assumption | with_reducible refine Within.alloc ?_ _ | with_reducible refine Within.drew ?_ | with_reducible refine Within.drewN ?_ _ | with_reducible refine Within.setCell ?_ (by first | (simp; done) | (simp; omega)) _ | with_reducible refine Within.trans ?_ (by assumption)))
    · intro wq hq
      have hcq := hq.cells
      clear hq
      go_simp
      first | rfl | (trace_state; fail)
    try simp only [Act.put, List.setIfInBounds_toArray, List.set_cons_zero, List.set_cons_succ]
    apply sch_firm rfl rfl (by repeat (first | with_reducible exact Within.refl _ | with_reducible assumption | with_reducible refine Within.alloc ?_ _ | with_reducible refine Within.drew ?_ | with_reducible refine Within.drewN ?_ _ | with_reducible refine Within.setCell ?_ (by first | (simp; done) | (simp; omega)) _ | with_reducible refine Within.trans ?_ (by assumption)))
    · intro wq hq
      have hcq := hq.cells
      clear hq
      go_simp
      first | rfl | (trace_state; fail)
    try simp only [Act.put, List.setIfInBounds_toArray, List.set_cons_zero, List.set_cons_succ]
    refine sch_one rfl rfl (fun K hK => ?_)
    go_simp
    refine hK _ _ (fun h => absurd h (by decide)) ?_
    clear hK K
    try simp only [Act.put, List.setIfInBounds_toArray, List.set_cons_zero, List.set_cons_succ]
    refine sch_nil ?_
    go_wp2
    go_ret
    exact ⟨rfl, Within.trans hww (Within.trans hw0 (by repeat (first | with_reducible exact Within.refl _ | with_reducible assumption | with_reducible refine Within.alloc ?_ _ | with_reducible refine Within.drew ?_ | with_reducible refine Within.drewN ?_ _ | with_reducible refine Within.setCell ?_ (by first | (simp; done) | (simp; omega)) _ | with_reducible refine Within.trans ?_ (by assumption))))⟩
  · have d1 : (n.sign != 0) = true := by rw [bne_iff_ne]; intro h; exact h0 (Int.sign_eq_zero_iff_zero.1 h)
    have d2 : decide (E < -1074) = false := decide_eq_false (by rcases HLO.out with h | h; exact absurd h h0; omega)
    go_wp2_with fail
    refine (Bsign gp n _ hJ9).mono ?_; rintro e10 w10 ⟨rfl, rfl⟩
    go_wp2_with fail
    refine (OD.out h0 gp _ (HTV.out.2.of hV9) hJ9).mono ?_; rintro e11 w11 ⟨g11, rfl, hI11, _, hb11⟩
    clear p0 p1 pl hJ9
    have hwk : Within V w11 := hV9.trans hb11
    clear hV9
    go_wp2_with fail
    refine (PW.out _).mono ?_; rintro e12 w12 ⟨s, l, rfl, hs, hl, vs, vl, hb12⟩
    have vs2 := HF1.out; rw [← vs] at vs2; have vl2 := HF2.out; rw [← vl] at vl2
    have lim := fz_lim vl2
    have RL := vl2.rep
    obtain ⟨fs, us⟩ := Fz.fv vs2; obtain ⟨fl, ul⟩ := Fz.fv vl2
    rw [fin_canon fs, fin_canon fl]
    have hm : floatBits .mul .f64 x y = some s := by have h := vs; unfold proP at h; rw [U12.out.1, U12.out.2, fin_fv2 fs] at h; exact h.symm
    obtain ⟨q1, q2, q3⟩ := neg_un hs fs
    obtain ⟨r, hf, hr64, fr, ur⟩ := fma_units (R := P - rn P) HXY.out.1 HXY.out.2 q2 (by rw [q3, us, HPU.out, Int.neg_mul, Int.sub_mul]; omega) (by rw [rn_few RL]; exact lim)
    rw [rn_few RL] at ur
    have FU := Lib.hid (fun w => Efused_fin x y s _ r (decide_eq_true HXY.out.1) (decide_eq_true HXY.out.2) (decide_eq_true fs) hm rfl hf w)
    have hsum : (P64.wholeI s + P64.wholeI l) * 2 ^ 1074 = P * 2 ^ 1074 := by rw [whole_un hs fs, whole_un hl fl, us, ul, show rn P + (P - rn P) = P by omega]
    have HSUM := Lib.hid hsum
    have CS := Lib.hid (fun w => rfin4 s hs w)
    have CL := Lib.hid (fun w => rfin4 l hl w)
    rw [show finW s = true from decide_eq_true fs] at CS
    rw [show finW l = true from decide_eq_true fl] at CL
    have SS := Lib.hid (fun w => Xsum s l hs hl w)
    have AL1 := Lib.hid (fun w => alike_any s s true (by rw [c_eq (Nat.le_of_lt fs) (Nat.le_of_lt fs), decide_eq_true rfl]) w)
    have AL2 := Lib.hid (fun w => alike_any l r true (by rw [c_eq (Nat.le_of_lt fl) (Nat.le_of_lt fr), decide_eq_true (by rw [ul, ur])]) w)
    have ee : ((s : Int) == (s : Int)) = true := beq_self_eq_true _
    clear vs vl vs2 vl2 lim RL fs us fl ul hm q1 q2 q3 hf hr64 fr ur hsum hs hl
    go_wp2_with fail
    refine (FU.out _).mono ?_; rintro e13 w13 ⟨rfl, hb13⟩
    have hv13 : Within V w13 := (hwk.trans hb12).trans hb13
    clear hwk hb12 hb13
    have p0 := (hv13.cells _ 0 (World.block_lt_of_cell? _ _ HP.out.1)).trans HP.out.1
    have p1 := (hv13.cells _ 1 (World.block_lt_of_cell? _ _ HP.out.1)).trans HP.out.2
    have pl := World.block_lt_of_cell? _ _ p0
    have hJ := HJ.out.of hv13
    have hww := HWV.out.trans hv13
    go_upto_region 11 with fail
    refine wp_region_schG (fun W => W.cell? ⟨w6.heap.size, 0, none⟩ = some (.pointer (some ⟨gp, 0, none⟩)) ∧ W.cell? ⟨w6.heap.size, 1, none⟩ = some (.int .i64 E) ∧ w6.heap.size < W.heap.size ∧ IntB W gp n ∧ Within w13 W) 31 (.firm 0 (.one 1 (.firm 2 (.firm 3 (.one 4 (.firm 5 (.firm 6 (.firm 7 (.firm 8 (.firm 10 (.one 9 (.one 11 (.firm 12 (.firm 13 (.firm 14 (.firm 15 (.firm 16 (.one 17 (.firm 18 (.firm 19 (.firm 20 (.firm 21 (.one 22 (.firm 23 (.firm 24 (.firm 25 (.firm 27 (.one 26 (.one 28 (.firm 29 (.firm 30 (.one 31 .nil)))))))))))))))))))))))))))))))) (by kernel_rfl) (by kernel_rfl) ⟨p0, p1, pl, hJ, Within.refl _⟩ ?_
    rintro w0 ⟨c0, c1, lb, hI, hw0⟩
    try simp only [Act.put, List.setIfInBounds_toArray, List.set_cons_zero, List.set_cons_succ]
    apply sch_firm rfl rfl (by repeat (first | with_reducible exact Within.refl _ | with_reducible assumption | with_reducible refine Within.alloc ?_ _ | with_reducible refine Within.drew ?_ | with_reducible refine Within.drewN ?_ _ | with_reducible refine Within.setCell ?_ (by first | (simp; done) | (simp; omega)) _ | with_reducible refine Within.trans ?_ (by assumption)))
    · intro wq hq
      have hcq := hq.cells
      clear hq
      go_simp
      first | rfl | (trace_state; fail)
    try simp only [Act.put, List.setIfInBounds_toArray, List.set_cons_zero, List.set_cons_succ]
    refine sch_one rfl rfl (fun K hK => ?_)
    go_simp
    refine (CS.out _).mono ?_; rintro f1 u1 ⟨rfl, jb1⟩
    refine hK _ _ (fun _ => (by repeat (first | with_reducible exact Within.refl _ | with_reducible assumption | with_reducible refine Within.alloc ?_ _ | with_reducible refine Within.drew ?_ | with_reducible refine Within.drewN ?_ _ | with_reducible refine Within.setCell ?_ (by first | (simp; done) | (simp; omega)) _ | with_reducible refine Within.trans ?_ (by assumption)))) ?_
    clear hK K
    try simp only [Act.put, List.setIfInBounds_toArray, List.set_cons_zero, List.set_cons_succ]
    apply sch_firm rfl rfl (by repeat (first | with_reducible exact Within.refl _ | with_reducible assumption | with_reducible refine Within.alloc ?_ _ | with_reducible refine Within.drew ?_ | with_reducible refine Within.drewN ?_ _ | with_reducible refine Within.setCell ?_ (by first | (simp; done) | (simp; omega)) _ | with_reducible refine Within.trans ?_ (by assumption)))
    · intro wq hq
      have hcq := hq.cells
      clear hq
      go_simp
      first | rfl | (trace_state; fail)
    try simp only [Act.put, List.setIfInBounds_toArray, List.set_cons_zero, List.set_cons_succ]
    apply sch_want rfl (by first | rfl | decide | (simp [Region.wanted, yielded]; done) | (simp [Region.wanted, yielded]; assumption)) (by repeat (first | with_reducible exact Within.refl _ | with_reducible assumption | with_reducible refine Within.alloc ?_ _ | with_reducible refine Within.drew ?_ | with_reducible refine Within.drewN ?_ _ | with_reducible refine Within.setCell ?_ (by first | (simp; done) | (simp; omega)) _ | with_reducible refine Within.trans ?_ (by assumption)))
    · intro wq hq
      have hcq := hq.cells
      clear hq
      go_simp
      first | rfl | (trace_state; fail)
    try simp only [Act.put, List.setIfInBounds_toArray, List.set_cons_zero, List.set_cons_succ]
    refine sch_one_want rfl (by first | rfl | decide | (simp [Region.wanted, yielded]; done) | (simp [Region.wanted, yielded]; assumption)) (fun K hK => ?_)
    go_simp
    refine (CL.out _).mono ?_; rintro f2 u2 ⟨rfl, jb2⟩
    refine hK _ _ (fun _ => (by repeat (first | with_reducible exact Within.refl _ | with_reducible assumption | with_reducible refine Within.alloc ?_ _ | with_reducible refine Within.drew ?_ | with_reducible refine Within.drewN ?_ _ | with_reducible refine Within.setCell ?_ (by first | (simp; done) | (simp; omega)) _ | with_reducible refine Within.trans ?_ (by assumption)))) ?_
    clear hK K
    try simp only [Act.put, List.setIfInBounds_toArray, List.set_cons_zero, List.set_cons_succ]
    apply sch_firm rfl rfl (by repeat (first | with_reducible exact Within.refl _ | with_reducible assumption | with_reducible refine Within.alloc ?_ _ | with_reducible refine Within.drew ?_ | with_reducible refine Within.drewN ?_ _ | with_reducible refine Within.setCell ?_ (by first | (simp; done) | (simp; omega)) _ | with_reducible refine Within.trans ?_ (by assumption)))
    · intro wq hq
      have hcq := hq.cells
      clear hq
      go_simp
      first | rfl | (trace_state; fail)
    try simp only [Act.put, List.setIfInBounds_toArray, List.set_cons_zero, List.set_cons_succ]
    apply sch_firm rfl rfl (by repeat (first | with_reducible exact Within.refl _ | with_reducible assumption | with_reducible refine Within.alloc ?_ _ | with_reducible refine Within.drew ?_ | with_reducible refine Within.drewN ?_ _ | with_reducible refine Within.setCell ?_ (by first | (simp; done) | (simp; omega)) _ | with_reducible refine Within.trans ?_ (by assumption)))
    · intro wq hq
      have hcq := hq.cells
      clear hq
      go_simp
      first | rfl | (trace_state; fail)
    try simp only [Act.put, List.setIfInBounds_toArray, List.set_cons_zero, List.set_cons_succ]
    apply sch_want rfl (by first | rfl | decide | (simp [Region.wanted, yielded]; done) | (simp [Region.wanted, yielded]; assumption)) (by repeat (first | with_reducible exact Within.refl _ | with_reducible assumption | with_reducible refine Within.alloc ?_ _ | with_reducible refine Within.drew ?_ | with_reducible refine Within.drewN ?_ _ | with_reducible refine Within.setCell ?_ (by first | (simp; done) | (simp; omega)) _ | with_reducible refine Within.trans ?_ (by assumption)))
    · intro wq hq
      have hcq := hq.cells
      clear hq
      go_simp
      first | rfl | (trace_state; fail)
    try simp only [Act.put, List.setIfInBounds_toArray, List.set_cons_zero, List.set_cons_succ]
    apply sch_want rfl (by first | rfl | decide | (simp [Region.wanted, yielded]; done) | (simp [Region.wanted, yielded]; assumption)) (by repeat (first | with_reducible exact Within.refl _ | with_reducible assumption | with_reducible refine Within.alloc ?_ _ | with_reducible refine Within.drew ?_ | with_reducible refine Within.drewN ?_ _ | with_reducible refine Within.setCell ?_ (by first | (simp; done) | (simp; omega)) _ | with_reducible refine Within.trans ?_ (by assumption)))
    · intro wq hq
      have hcq := hq.cells
      clear hq
      go_simp
      first | rfl | (trace_state; fail)
    try simp only [Act.put, List.setIfInBounds_toArray, List.set_cons_zero, List.set_cons_succ]
    apply sch_want rfl (by first | rfl | decide | (simp [Region.wanted, yielded]; done) | (simp [Region.wanted, yielded]; assumption)) (by repeat (first | with_reducible exact Within.refl _ | with_reducible assumption | with_reducible refine Within.alloc ?_ _ | with_reducible refine Within.drew ?_ | with_reducible refine Within.drewN ?_ _ | with_reducible refine Within.setCell ?_ (by first | (simp; done) | (simp; omega)) _ | with_reducible refine Within.trans ?_ (by assumption)))
    · intro wq hq
      have hcq := hq.cells
      clear hq
      go_simp
      first | rfl | (trace_state; fail)
    try simp only [Act.put, List.setIfInBounds_toArray, List.set_cons_zero, List.set_cons_succ]
    refine sch_one_want rfl (by first | rfl | decide | (simp [Region.wanted, yielded]; done) | (simp [Region.wanted, yielded]; assumption)) (fun K hK => ?_)
    go_simp
    refine (SS.out _).mono ?_; rintro f3 u3 ⟨g9, n9, E9, rfl, hI9, a9, b9, hv9, jb3⟩
    have l9 : (dg n9.natAbs).length ≤ 90 := Nat.le_trans (val_len n9 E9 1074) (by rw [hv9]; exact Nat.le_trans (whole_add_len _ _) (by decide))
    refine hK _ _ (fun _ => (by repeat (first | with_reducible exact Within.refl _ | with_reducible assumption | with_reducible refine Within.alloc ?_ _ | with_reducible refine Within.drew ?_ | with_reducible refine Within.drewN ?_ _ | with_reducible refine Within.setCell ?_ (by first | (simp; done) | (simp; omega)) _ | with_reducible refine Within.trans ?_ (by assumption)))) ?_
    clear hK K
    try simp only [Act.put, List.setIfInBounds_toArray, List.set_cons_zero, List.set_cons_succ]
    refine sch_one_want rfl (by first | rfl | decide | (simp [Region.wanted, yielded]; done) | (simp [Region.wanted, yielded]; assumption)) (fun K hK => ?_)
    go_simp
    have CQ := Lib.hid (fun w k1 k2 => Xcmp n9 n E9 E g9 gp 2148 2200 (by decide) (by decide) (by omega) (by omega) HE.out.1 HE.out.2 (Nat.le_trans l9 (by decide)) (Nat.le_trans LN.out (by decide)) w k1 k2)
    rw [val_more (n := n9) (E := E9) (L := 1074) 1074 a9, hv9, HSUM.out, HVN.out, cmp_same' rfl] at CQ
    refine (CQ.out _ (IntB.of hI9 (by repeat (first | with_reducible exact Within.refl _ | with_reducible assumption | with_reducible refine Within.alloc ?_ _ | with_reducible refine Within.drew ?_ | with_reducible refine Within.drewN ?_ _ | with_reducible refine Within.setCell ?_ (by first | (simp; done) | (simp; omega)) _ | with_reducible refine Within.trans ?_ (by assumption)))) (IntB.of hI (by repeat (first | with_reducible exact Within.refl _ | with_reducible assumption | with_reducible refine Within.alloc ?_ _ | with_reducible refine Within.drew ?_ | with_reducible refine Within.drewN ?_ _ | with_reducible refine Within.setCell ?_ (by first | (simp; done) | (simp; omega)) _ | with_reducible refine Within.trans ?_ (by assumption))))).mono ?_; rintro f4 u4 ⟨rfl, jb4⟩
    refine hK _ _ (fun _ => (by repeat (first | with_reducible exact Within.refl _ | with_reducible assumption | with_reducible refine Within.alloc ?_ _ | with_reducible refine Within.drew ?_ | with_reducible refine Within.drewN ?_ _ | with_reducible refine Within.setCell ?_ (by first | (simp; done) | (simp; omega)) _ | with_reducible refine Within.trans ?_ (by assumption)))) ?_
    clear hK K
    try simp only [Act.put, List.setIfInBounds_toArray, List.set_cons_zero, List.set_cons_succ]
    apply sch_want rfl (by first | rfl | decide | (simp [Region.wanted, yielded]; done) | (simp [Region.wanted, yielded]; assumption)) (by repeat (first | with_reducible exact Within.refl _ | with_reducible assumption | with_reducible refine Within.alloc ?_ _ | with_reducible refine Within.drew ?_ | with_reducible refine Within.drewN ?_ _ | with_reducible refine Within.setCell ?_ (by first | (simp; done) | (simp; omega)) _ | with_reducible refine Within.trans ?_ (by assumption)))
    · intro wq hq
      have hcq := hq.cells
      clear hq
      go_simp
      first | rfl | (trace_state; fail)
    try simp only [Act.put, List.setIfInBounds_toArray, List.set_cons_zero, List.set_cons_succ]
    apply sch_firm rfl rfl (by repeat (first | with_reducible exact Within.refl _ | with_reducible assumption | with_reducible refine Within.alloc ?_ _ | with_reducible refine Within.drew ?_ | with_reducible refine Within.drewN ?_ _ | with_reducible refine Within.setCell ?_ (by first | (simp; done) | (simp; omega)) _ | with_reducible refine Within.trans ?_ (by assumption)))
    · intro wq hq
      have hcq := hq.cells
      clear hq
      go_simp
      first | rfl | (trace_state; fail)
    try simp only [Act.put, List.setIfInBounds_toArray, List.set_cons_zero, List.set_cons_succ]
    apply sch_firm rfl rfl (by repeat (first | with_reducible exact Within.refl _ | with_reducible assumption | with_reducible refine Within.alloc ?_ _ | with_reducible refine Within.drew ?_ | with_reducible refine Within.drewN ?_ _ | with_reducible refine Within.setCell ?_ (by first | (simp; done) | (simp; omega)) _ | with_reducible refine Within.trans ?_ (by assumption)))
    · intro wq hq
      have hcq := hq.cells
      clear hq
      go_simp
      first | rfl | (trace_state; fail)
    try simp only [Act.put, List.setIfInBounds_toArray, List.set_cons_zero, List.set_cons_succ]
    apply sch_want rfl (by first | rfl | decide | (simp [Region.wanted, yielded]; done) | (simp [Region.wanted, yielded]; assumption)) (by repeat (first | with_reducible exact Within.refl _ | with_reducible assumption | with_reducible refine Within.alloc ?_ _ | with_reducible refine Within.drew ?_ | with_reducible refine Within.drewN ?_ _ | with_reducible refine Within.setCell ?_ (by first | (simp; done) | (simp; omega)) _ | with_reducible refine Within.trans ?_ (by assumption)))
    · intro wq hq
      have hcq := hq.cells
      clear hq
      go_simp
      first | rfl | (trace_state; fail)
    try simp only [Act.put, List.setIfInBounds_toArray, List.set_cons_zero, List.set_cons_succ]
    apply sch_want rfl (by first | rfl | decide | (simp [Region.wanted, yielded]; done) | (simp [Region.wanted, yielded]; assumption)) (by repeat (first | with_reducible exact Within.refl _ | with_reducible assumption | with_reducible refine Within.alloc ?_ _ | with_reducible refine Within.drew ?_ | with_reducible refine Within.drewN ?_ _ | with_reducible refine Within.setCell ?_ (by first | (simp; done) | (simp; omega)) _ | with_reducible refine Within.trans ?_ (by assumption)))
    · intro wq hq
      have hcq := hq.cells
      clear hq
      go_simp
      first | rfl | (trace_state; fail)
    try simp only [Act.put, List.setIfInBounds_toArray, List.set_cons_zero, List.set_cons_succ]
    refine sch_one_want rfl (by first | rfl | decide | (simp [Region.wanted, yielded]; done) | (simp [Region.wanted, yielded]; assumption)) (fun K hK => ?_)
    go_simp
    refine (AL1.out _).mono ?_; rintro f5 u5 ⟨rfl, rfl⟩
    refine hK _ _ (fun _ => (by repeat (first | with_reducible exact Within.refl _ | with_reducible assumption | with_reducible refine Within.alloc ?_ _ | with_reducible refine Within.drew ?_ | with_reducible refine Within.drewN ?_ _ | with_reducible refine Within.setCell ?_ (by first | (simp; done) | (simp; omega)) _ | with_reducible refine Within.trans ?_ (by assumption)))) ?_
    clear hK K
    try simp only [Act.put, List.setIfInBounds_toArray, List.set_cons_zero, List.set_cons_succ]
    apply sch_firm rfl rfl (by repeat (first | with_reducible exact Within.refl _ | with_reducible assumption | with_reducible refine Within.alloc ?_ _ | with_reducible refine Within.drew ?_ | with_reducible refine Within.drewN ?_ _ | with_reducible refine Within.setCell ?_ (by first | (simp; done) | (simp; omega)) _ | with_reducible refine Within.trans ?_ (by assumption)))
    · intro wq hq
      have hcq := hq.cells
      clear hq
      go_simp
      first | rfl | (trace_state; fail)
    try simp only [Act.put, List.setIfInBounds_toArray, List.set_cons_zero, List.set_cons_succ]
    apply sch_firm rfl rfl (by repeat (first | with_reducible exact Within.refl _ | with_reducible assumption | with_reducible refine Within.alloc ?_ _ | with_reducible refine Within.drew ?_ | with_reducible refine Within.drewN ?_ _ | with_reducible refine Within.setCell ?_ (by first | (simp; done) | (simp; omega)) _ | with_reducible refine Within.trans ?_ (by assumption)))
    · intro wq hq
      have hcq := hq.cells
      clear hq
      go_simp
      first | rfl | (trace_state; fail)
    try simp only [Act.put, List.setIfInBounds_toArray, List.set_cons_zero, List.set_cons_succ]
    apply sch_want rfl (by first | rfl | decide | (simp [Region.wanted, yielded]; done) | (simp [Region.wanted, yielded]; assumption)) (by repeat (first | with_reducible exact Within.refl _ | with_reducible assumption | with_reducible refine Within.alloc ?_ _ | with_reducible refine Within.drew ?_ | with_reducible refine Within.drewN ?_ _ | with_reducible refine Within.setCell ?_ (by first | (simp; done) | (simp; omega)) _ | with_reducible refine Within.trans ?_ (by assumption)))
    · intro wq hq
      have hcq := hq.cells
      clear hq
      go_simp
      first | rfl | (trace_state; fail)
    try simp only [Act.put, List.setIfInBounds_toArray, List.set_cons_zero, List.set_cons_succ]
    apply sch_want rfl (by first | rfl | decide | (simp [Region.wanted, yielded]; done) | (simp [Region.wanted, yielded]; assumption)) (by repeat (first | with_reducible exact Within.refl _ | with_reducible assumption | with_reducible refine Within.alloc ?_ _ | with_reducible refine Within.drew ?_ | with_reducible refine Within.drewN ?_ _ | with_reducible refine Within.setCell ?_ (by first | (simp; done) | (simp; omega)) _ | with_reducible refine Within.trans ?_ (by assumption)))
    · intro wq hq
      have hcq := hq.cells
      clear hq
      go_simp
      first | rfl | (trace_state; fail)
    try simp only [Act.put, List.setIfInBounds_toArray, List.set_cons_zero, List.set_cons_succ]
    refine sch_one_want rfl (by first | rfl | decide | (simp [Region.wanted, yielded]; done) | (simp [Region.wanted, yielded]; assumption)) (fun K hK => ?_)
    go_simp
    refine (AL2.out _).mono ?_; rintro f6 u6 ⟨rfl, rfl⟩
    refine hK _ _ (fun _ => (by repeat (first | with_reducible exact Within.refl _ | with_reducible assumption | with_reducible refine Within.alloc ?_ _ | with_reducible refine Within.drew ?_ | with_reducible refine Within.drewN ?_ _ | with_reducible refine Within.setCell ?_ (by first | (simp; done) | (simp; omega)) _ | with_reducible refine Within.trans ?_ (by assumption)))) ?_
    clear hK K
    try simp only [Act.put, List.setIfInBounds_toArray, List.set_cons_zero, List.set_cons_succ]
    apply sch_firm rfl rfl (by repeat (first | with_reducible exact Within.refl _ | with_reducible assumption | with_reducible refine Within.alloc ?_ _ | with_reducible refine Within.drew ?_ | with_reducible refine Within.drewN ?_ _ | with_reducible refine Within.setCell ?_ (by first | (simp; done) | (simp; omega)) _ | with_reducible refine Within.trans ?_ (by assumption)))
    · intro wq hq
      have hcq := hq.cells
      clear hq
      go_simp
      first | rfl | (trace_state; fail)
    try simp only [Act.put, List.setIfInBounds_toArray, List.set_cons_zero, List.set_cons_succ]
    apply sch_firm rfl rfl (by repeat (first | with_reducible exact Within.refl _ | with_reducible assumption | with_reducible refine Within.alloc ?_ _ | with_reducible refine Within.drew ?_ | with_reducible refine Within.drewN ?_ _ | with_reducible refine Within.setCell ?_ (by first | (simp; done) | (simp; omega)) _ | with_reducible refine Within.trans ?_ (by assumption)))
    · intro wq hq
      have hcq := hq.cells
      clear hq
      go_simp
      first | rfl | (trace_state; fail)
    try simp only [Act.put, List.setIfInBounds_toArray, List.set_cons_zero, List.set_cons_succ]
    apply sch_want rfl (by first | rfl | decide | (simp [Region.wanted, yielded]; done) | (simp [Region.wanted, yielded]; assumption)) (by repeat (first | with_reducible exact Within.refl _ | with_reducible assumption | with_reducible refine Within.alloc ?_ _ | with_reducible refine Within.drew ?_ | with_reducible refine Within.drewN ?_ _ | with_reducible refine Within.setCell ?_ (by first | (simp; done) | (simp; omega)) _ | with_reducible refine Within.trans ?_ (by assumption)))
    · intro wq hq
      have hcq := hq.cells
      clear hq
      go_simp
      first | rfl | (trace_state; fail)
    try simp only [Act.put, List.setIfInBounds_toArray, List.set_cons_zero, List.set_cons_succ]
    apply sch_want rfl (by first | rfl | decide | (simp [Region.wanted, yielded]; done) | (simp [Region.wanted, yielded]; assumption)) (by repeat (first | with_reducible exact Within.refl _ | with_reducible assumption | with_reducible refine Within.alloc ?_ _ | with_reducible refine Within.drew ?_ | with_reducible refine Within.drewN ?_ _ | with_reducible refine Within.setCell ?_ (by first | (simp; done) | (simp; omega)) _ | with_reducible refine Within.trans ?_ (by assumption)))
    · intro wq hq
      have hcq := hq.cells
      clear hq
      go_simp
      first | rfl | (trace_state; fail)
    try simp only [Act.put, List.setIfInBounds_toArray, List.set_cons_zero, List.set_cons_succ]
    refine sch_one_want rfl (by first | rfl | decide | (simp [Region.wanted, yielded]; done) | (simp [Region.wanted, yielded]; assumption)) (fun K hK => ?_)
    go_simp
    refine hK _ _ (fun _ => (by repeat (first | with_reducible exact Within.refl _ | with_reducible assumption | with_reducible refine Within.alloc ?_ _ | with_reducible refine Within.drew ?_ | with_reducible refine Within.drewN ?_ _ | with_reducible refine Within.setCell ?_ (by first | (simp; done) | (simp; omega)) _ | with_reducible refine Within.trans ?_ (by assumption)))) ?_
    clear hK K
    try simp only [Act.put, List.setIfInBounds_toArray, List.set_cons_zero, List.set_cons_succ]
    refine sch_one_want rfl (by first | rfl | decide | (simp [Region.wanted, yielded]; done) | (simp [Region.wanted, yielded]; assumption)) (fun K hK => ?_)
    go_simp
    refine hK _ _ (fun _ => (by repeat (first | with_reducible exact Within.refl _ | with_reducible assumption | with_reducible refine Within.alloc ?_ _ | with_reducible refine Within.drew ?_ | with_reducible refine Within.drewN ?_ _ | with_reducible refine Within.setCell ?_ (by first | (simp; done) | (simp; omega)) _ | with_reducible refine Within.trans ?_ (by assumption)))) ?_
    clear hK K
    try simp only [Act.put, List.setIfInBounds_toArray, List.set_cons_zero, List.set_cons_succ]
    apply sch_want rfl (by first | rfl | decide | (simp [Region.wanted, yielded]; done) | (simp [Region.wanted, yielded]; assumption)) (by repeat (first | with_reducible exact Within.refl _ | with_reducible assumption | with_reducible refine Within.alloc ?_ _ | with_reducible refine Within.drew ?_ | with_reducible refine Within.drewN ?_ _ | with_reducible refine Within.setCell ?_ (by first | (simp; done) | (simp; omega)) _ | with_reducible refine Within.trans ?_ (by assumption)))
    · intro wq hq
      have hcq := hq.cells
      clear hq
      go_simp
      first | rfl | (trace_state; fail)
    try simp only [Act.put, List.setIfInBounds_toArray, List.set_cons_zero, List.set_cons_succ]
    apply sch_firm rfl rfl (by repeat (first | with_reducible exact Within.refl _ | with_reducible assumption | with_reducible refine Within.alloc ?_ _ | with_reducible refine Within.drew ?_ | with_reducible refine Within.drewN ?_ _ | with_reducible refine Within.setCell ?_ (by first | (simp; done) | (simp; omega)) _ | with_reducible refine Within.trans ?_ (by assumption)))
    · intro wq hq
      have hcq := hq.cells
      clear hq
      go_simp
      first | rfl | (trace_state; fail)
    try simp only [Act.put, List.setIfInBounds_toArray, List.set_cons_zero, List.set_cons_succ]
    refine sch_one rfl rfl (fun K hK => ?_)
    go_simp
    refine hK _ _ (fun h => absurd h (by decide)) ?_
    clear hK K
    try simp only [Act.put, List.setIfInBounds_toArray, List.set_cons_zero, List.set_cons_succ]
    refine sch_nil ?_
    go_wp2
    go_ret
    exact ⟨rfl, Within.trans hww (Within.trans hw0 (by repeat (first | with_reducible exact Within.refl _ | with_reducible assumption | with_reducible refine Within.alloc ?_ _ | with_reducible refine Within.drew ?_ | with_reducible refine Within.drewN ?_ _ | with_reducible refine Within.setCell ?_ (by first | (simp; done) | (simp; omega)) _ | with_reducible refine Within.trans ?_ (by assumption))))⟩
theorem products_law (x y : Nat) (hx : x < 18446744073709551616) (hy : y < 18446744073709551616) (w : World) (hT : Tab w ∧ Tab32 w) : Calls Tryz.prog 11 #[.int .u64 (x : Int), .int .u64 (y : Int)] w fun e w' => e = .returned (.bool true) ∧ Within w w' := by
  cases h1 : belowB x 995
  · exact products_out1 x y hx hy h1 w hT
  · cases h2 : belowB y 995
    · exact products_out2 x y hx hy h1 h2 w hT
    · cases hc : decide ((valE ((ofN x * ofN y).natAbs : Int) (pExpD x + pExpD y) 2148 - valE 1 1021 2148).sign > 0)
      · by_cases hlo : ofN x * ofN y = 0 ∨ -1074 ≤ pExpD x + pExpD y
        · exact products_main x y hx hy h1 h2 hc hlo w hT
        · rw [not_or] at hlo; exact products_out4 x y hx hy h1 h2 hc hlo.1 (by omega) w hT
      · exact products_out3 x y hx hy h1 h2 hc w hT
end Go.Proofs.YtjmaggfddinbkaaGreatDoor
end

section
namespace Go.Proofs.YtjmaggfddinbkaaGreatDoor.Base
open Go.ChangeShapes Go.WideShapes Go.ChangeAt Go.RowKit
theorem own : ownKnob Tryz.prog.godebug = none := by kernel_rfl
theorem gTab : Tryz.prog.globalNamed "math/bits.deBruijn64tab" = some 2 := by kernel_rfl
theorem gTabType : (Tryz.prog.globals[2]?).map (·.type) = some 174 := by kernel_rfl
theorem cellsT : Tryz.prog.cellsOf 174 = 64 := by kernel_rfl
theorem cellsB : Tryz.prog.cellsOf 5 = 1 := by kernel_rfl
theorem tab {W : World} (h : laidMetH Tryz.prog [("math/bits.deBruijn64tab", Rows.laid_math_bits_deBruijn64tab)] W) : Tab W := fun j hj => by
  have e := (Lib.tabIs_of_head (zs := Lib.deBruijn64tab.map Int.ofNat) (rest := []) gTab gTabType Tryz.underlying174 Tryz.underlying5 cellsB cellsT h).cell gTab j (by simpa [Lib.deBruijn64tab] using hj)
  rw [e]
  congr 2
  have hl : j < Lib.deBruijn64tab.length := hj
  simp [List.getD, List.getElem?_map, List.getElem?_eq_getElem hl]
theorem nat_of_u64 {n : Int} (h : (Lit.int .u64 n).wf = true) : ∃ a : Nat, n = a ∧ a < 18446744073709551616 := by
  simp only [Lit.wf, Bool.and_eq_true, decide_eq_true_eq] at h
  have h1 : (0 : Int) ≤ n := h.1
  have h2 : n ≤ 18446744073709551615 := h.2
  exact ⟨n.toNat, by omega, by omega⟩
noncomputable def laidWorld (os : Os) : World :=
  { World.holding Tryz.prog os ⟨#[], #[], []⟩ with heap := (World.holding Tryz.prog os ⟨#[], #[], []⟩).heap.modify 2 fun
      | .cells _ t frozen => .cells #[.int .u8 0, .int .u8 1, .int .u8 56, .int .u8 2, .int .u8 57, .int .u8 49, .int .u8 28, .int .u8 3, .int .u8 61, .int .u8 58, .int .u8 42, .int .u8 50, .int .u8 38, .int .u8 29, .int .u8 17, .int .u8 4, .int .u8 62, .int .u8 47, .int .u8 59, .int .u8 36, .int .u8 45, .int .u8 43, .int .u8 51, .int .u8 22, .int .u8 53, .int .u8 39, .int .u8 33, .int .u8 30, .int .u8 24, .int .u8 18, .int .u8 12, .int .u8 5, .int .u8 63, .int .u8 55, .int .u8 48, .int .u8 27, .int .u8 60, .int .u8 41, .int .u8 37, .int .u8 16, .int .u8 46, .int .u8 35, .int .u8 44, .int .u8 21, .int .u8 52, .int .u8 32, .int .u8 23, .int .u8 11, .int .u8 54, .int .u8 26, .int .u8 40, .int .u8 15, .int .u8 34, .int .u8 20, .int .u8 31, .int .u8 10, .int .u8 25, .int .u8 14, .int .u8 19, .int .u8 9, .int .u8 13, .int .u8 8, .int .u8 7, .int .u8 6] t frozen
      | o => o }
end Go.Proofs.YtjmaggfddinbkaaGreatDoor.Base
end

section
namespace Go.Proofs.YtjmaggfddinbkaaGreatDoor.Base
open Go.ChangeShapes Go.WideShapes Go.ChangeAt Go.RowKit
theorem gTab32 : Tryz.prog.globalNamed "math/bits.deBruijn32tab" = some 1 := by kernel_rfl
theorem gTab32Type : (Tryz.prog.globals[1]?).map (·.type) = some 160 := by kernel_rfl
theorem cells32 : Tryz.prog.cellsOf 160 = 32 := by kernel_rfl
theorem laid_tail {P : Program} {x : String × DataW Unit} {r : List (String × DataW Unit)} {w : World} (h : laidMet P (x :: r) w) : laidMet P r w := by
  obtain ⟨ps, hv, hnd, hrows⟩ := h
  obtain ⟨n, d⟩ := x
  obtain ⟨g, t, cs, fuel, p, q, _, _, _, _, hq, rfl⟩ := hv
  exact ⟨q, hq, List.Nodup.sublist (List.sublist_append_right _ _) hnd, fun b off hm => hrows b off (List.mem_append_right _ hm)⟩
theorem tab2 {W : World} (h : laidMetH Tryz.prog [("math/bits.deBruijn32tab", Rows.laid_math_bits_deBruijn32tab), ("math/bits.deBruijn64tab", Rows.laid_math_bits_deBruijn64tab)] W) : Tab W ∧ Tab32 W := by
  refine ⟨tab (laid_tail h), fun j hj => ?_⟩
  have e := (Lib.tabIs_of_head (zs := Lib.deBruijn32tab.map Int.ofNat) gTab32 gTab32Type Tryz.underlying160 Tryz.underlying5 cellsB cells32 h).cell gTab32 j (by simpa [Lib.deBruijn32tab] using hj)
  rw [e]
  congr 2
  have hl : j < Lib.deBruijn32tab.length := hj
  simp [List.getD, List.getElem?_map, List.getElem?_eq_getElem hl]
noncomputable def laidWorld2 (os : Os) : World :=
  { laidWorld os with heap := (laidWorld os).heap.modify 1 fun
      | .cells _ t frozen => .cells #[.int .u8 0, .int .u8 1, .int .u8 28, .int .u8 2, .int .u8 29, .int .u8 14, .int .u8 24, .int .u8 3, .int .u8 30, .int .u8 22, .int .u8 20, .int .u8 15, .int .u8 25, .int .u8 17, .int .u8 4, .int .u8 8, .int .u8 31, .int .u8 27, .int .u8 13, .int .u8 23, .int .u8 21, .int .u8 19, .int .u8 16, .int .u8 7, .int .u8 26, .int .u8 12, .int .u8 18, .int .u8 6, .int .u8 11, .int .u8 5, .int .u8 10, .int .u8 9] t frozen
      | o => o }
end Go.Proofs.YtjmaggfddinbkaaGreatDoor.Base
end

section
namespace Go.Proofs.YtjmaggfddinbkaaGreatDoor.eftProducts
open Go.ChangeShapes Go.WideShapes Go.ChangeAt Go.RowKit
set_option maxRecDepth 100000 in
theorem contract (H : Type) (enc : TypeId × Value → H) (W : World) (base : Nat) (args : Array Value) (ds gs : List (DataW H)) (before : List MemPlace)
    (hval : ∀ (j : Nat) t v, Tryz.f11.params[j]? = some t → args[j]? = some v → Value.okWide Tryz.prog W .any base t v)
    (hW : DataW.Whole enc Tryz.prog Tryz.f11.params.toList Rows.eftProductsSpec.vars false W args.toList ds gs before) (hL : laidMetH Tryz.prog Rows.eftProductsRow.laid W) :
    Calls Tryz.prog 11 args W fun e W' => ∃ v, e = .returned v ∧ Rows.eftProductsSpec.post enc Tryz.prog Tryz.f11 false true false false W args v W' := by
  have hW' := hW
  obtain ⟨p, q, hA0, hV, rfl, hfz, hnd⟩ := hW
  have hA : DataW.TrodAll enc Tryz.prog W 0 (fun _ => true) true Tryz.f11.params.toList args.toList ds p := hA0
  rw [Tryz.params11] at hA hval
  obtain ⟨v0, vs0, d0, ds0, p0, q0, hargs, rfl, rfl, h0, r0⟩ := trodAll_cons hA
  obtain ⟨v1, vs1, d1, ds1, p1, q1, rfl, rfl, rfl, h1, r1⟩ := trodAll_cons r0
  obtain ⟨rfl, rfl, rfl⟩ := trodAll_nil r1
  obtain rfl : args = #[v0, v1] := by cases args; simp_all
  obtain ⟨rfl, rfl⟩ := trodVars_none hV
  obtain ⟨n0, rfl, rfl, rfl, w0⟩ := open_int Tryz.underlying23 (hval 0 23 v0 rfl rfl) h0
  obtain ⟨a0, rfl, ha0⟩ := Base.nat_of_u64 w0
  obtain ⟨n1, rfl, rfl, rfl, w1⟩ := open_int Tryz.underlying23 (hval 1 23 v1 rfl rfl) h1
  obtain ⟨a1, rfl, ha1⟩ := Base.nat_of_u64 w1
  clear hA0
  simp only [List.append_nil] at hW'
  refine (products_law a0 a1 ha0 ha1 W (Base.tab2 hL)).mono fun e W' ⟨he, bel⟩ => ?_
  subst he
  exact ⟨_, rfl, _, _, _, [], _, [], hW', trodAll_mk1 (shut_bool Tryz.underlying4 _), (trodAll_cons_mk (shut_int Tryz.underlying23 w0) (trodAll_cons_mk (shut_int Tryz.underlying23 w1) trodAll_mk0)), rfl, Below.frame bel _, fun h => by cases h⟩
theorem laid_met (os : Os) : laidMet Tryz.prog Rows.eftProductsRow.laid ((Base.laidWorld2 os).forCall (fun _ _ => 0) ⟨#[], #[Value.int .u64 0, Value.int .u64 0], []⟩).memory :=
  laidMet_of_run' 8 (by kernel_rfl) (by kernel_rfl)
theorem reads (os : Os) {H : Type} (enc : TypeId × Value → H) : ∃ places, DataW.whole enc Tryz.prog ((Base.laidWorld2 os).forCall (fun _ _ => 0) ⟨#[], #[Value.int .u64 0, Value.int .u64 0], []⟩).memory Tryz.f11.params.toList Rows.eftProductsSpec.vars false (#[Value.int .u64 0, Value.int .u64 0] : Array Value).toList 8 = some ([.lit (.int .u64 0), .lit (.int .u64 0)], [], places) :=
  ⟨[], by kernel_rfl⟩
set_option maxRecDepth 100000 in
theorem lifted (os : Os) (started : os.Started) (H : Type) (enc : TypeId × Value → H) (F : Stop.Interp) :
    ReturnsInHanded {} Tryz.checked os 11 .any ((OpenSpec.ofChange Rows.eftProductsSpec).preRow enc Tryz.prog Tryz.f11 Rows.eftProductsRow.domain false Rows.eftProductsRow.laid) (((OpenSpec.ofChange Rows.eftProductsSpec).at F).post enc Tryz.prog Tryz.f11 false true false false) := by
  obtain ⟨places, hx⟩ := reads os enc
  refine returnsInHanded_of_row (C := Tryz.checked) (s := OpenSpec.ofChange Rows.eftProductsSpec) Base.own started (by kernel_rfl) Tryz.func11
    (witness_row_at (enc := enc) (C := Tryz.checked) false (Base.laidWorld2 os) #[Value.int .u64 0, Value.int .u64 0] rfl (by kernel_rfl) (by kernel_rfl) (by kernel_rfl)
      (OpenSpec.preRow_of_cond 8 hx (by kernel_rfl) (fun k hk => by cases hk) (by kernel_rfl) (laid_met os))) ?_
  intro W base args ds gs before hval hW _ _ _ hL _ _
  exact contract H enc W base args ds gs before hval hW hL
theorem said : Rows.EftProductsSaid :=
  OpenClaim.holds_of_cond 11 Tryz.f11 rfl rfl rfl rfl rfl rfl rfl ⟨rfl, rfl, rfl, rfl, rfl⟩ rfl rfl rfl rfl rfl (by kernel_rfl) Tryz.func11 (by kernel_rfl)
    (of_decide_eq_true (by kernel_rfl)) (by unfold Func.isWrapper; first | (rw [if_pos (by decide +kernel)]; kernel_rfl) | (rw [if_neg (by decide +kernel)]; exact ⟨rfl, rfl⟩))
    (fun os started H enc _ F => by rw [OpenClaim.pre_eq_preRow]; exact lifted os started H enc F)
theorem plain (f : FuncId) (fn : Func) (hf : Tryz.pinned.checked.prog.funcNamed "binnacle/binnaclelaw04.EftProducts" = some f) (hfn : Tryz.pinned.checked.prog.funcs[f]? = some fn) :
    false = Tryz.pinned.checked.prog.looks [] ∧ ∀ (j : Nat) t, fn.params[j]? = some t → Tryz.pinned.checked.prog.wantsStandIn t = false := by
  obtain rfl : f = 11 := Option.some.inj ((show Tryz.prog.funcNamed "binnacle/binnaclelaw04.EftProducts" = some 11 by kernel_rfl).symm.trans hf) |>.symm
  obtain rfl : fn = Tryz.f11 := (Option.some.inj (Tryz.func11.symm.trans hfn)).symm
  refine ⟨by kernel_rfl, fun j t ht => ?_⟩
  rw [Tryz.params11] at ht
  have hm := Array.mem_of_getElem? ht
  have hm' : t = 23 := by simpa using hm
  subst hm'
  exact (show Tryz.prog.wantsStandIn 23 = false by kernel_rfl)
theorem card : Rows.EftProductsCardSaid :=
  Claim7.holds_tied_plain_at .later [] _ _ _ _ said (fun _ h => by cases h) (by kernel_rfl) (fun _ h => by cases h) eftProducts_row_tie rfl ⟨rfl, rfl⟩ (by kernel_rfl) rfl plain (by kernel_rfl)
#print axioms card
end Go.Proofs.YtjmaggfddinbkaaGreatDoor.eftProducts
end
