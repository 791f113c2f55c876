/- The card of EftTransforms: whatever the input, the call returns true and the input reads as it did; the de Bruijn table holds what the program's text lays. -/
import Derived.Test.YtjmaggfddinbkaaGreatDoorRows
import Derived.WalkKit
import Derived.WalkSpells
import Derived.WalkLawsBesides
import Derived.BigQuiet
import Derived.Lib.Hide
import Ieee.Arith
import Derived.Deep.OwnRows
import Derived.OwnWalk
import Derived.LoopTactic
import Derived.Outline
import Derived.IntWalk
import Derived.Shelf.Bits.Mul64
import Derived.Laws.Externs
import Derived.Deep.QuietTactic
import Derived.Deep.RegionWith
import Derived.OrdersHeld
import Derived.StillTail
import Derived.Deep.RegionHeld3
import Derived.Maps.AppendAt
import Derived.Lib.TrailingZeros
import Derived.Lib.BitFns
import Derived.Lib.Strings
import Derived.Lib.Slices
import Derived.Lib.Small
import Derived.Lib.Walk
import Derived.Deep.AppendLies
import Derived.Deep.Draws
import Derived.Laws.OwnMore
import Derived.Deep.DeepCutAuto
import Derived.Test.YtjmaggfddinbkaaGreatDoorCards
import Derived.Test.YtjmaggfddinbkaaGreatDoorTie
import Derived.ProofKit
import Derived.OpenShut
import Derived.ShutString
import Derived.ChangeOld
import Derived.Below
import Derived.Deep.DeepHandedRow
import Derived.Lib.LaidTab
import Derived.Test.YtjmaggfddinbkaaGreatDoorZETr3
set_option linter.unusedVariables false
set_option linter.unusedSimpArgs false
section
namespace Go.Proofs.YtjmaggfddinbkaaGreatDoor
open Go.RowKit
@[go_sem] theorem run_field_ex (a b : Value) (w : World) : (Instr.field 53 (.agg #[a, b]) 0).run Tryz.prog w = .ok a w := by
  kernel_rfl
theorem Xlow (n E e : Int) (g k : Nat) (he : E - e = (k : Int)) (hk2 : k ≤ 16000) (hl : (dg n.natAbs).length ≤ 1000) (w : World) (hI : IntB w g n) : Calls Tryz.prog 104 #[.agg #[.pointer (some ⟨g, 0, none⟩), .int .i64 E], .int .i64 e] w (ExS w (n * 2 ^ k) e) := by
  rcases Nat.eq_zero_or_pos k with h | h
  · subst h
    obtain rfl : E = e := by omega
    rw [Int.pow_zero, Int.mul_one]
    exact Xlow_same n E E g (Int.le_refl _) w hI
  · exact Xlow_less n E e g k he h hk2 hl w hI
theorem wp_new_int {o : Oper} {a : Act} {w : World} {K : Act → World → Prop} {Q : Exit → Act → World → Prop} (ho : o.op = .alloc 102)
    (h : ∀ z w', IntTy w' z → Within w w' → w.heap.size ≤ z → K (a.put o.dst (.pointer (some ⟨z, 0, none⟩))) w') : o.wp Tryz.prog a w K Q := by
  have h1 := h w.heap.size (w.alloc (.cells #[.bool false, .slice none 0 0] 102)) (IntB.made w).ty ((Within.refl w).alloc _) (Nat.le_refl _)
  unfold Oper.wp execOp
  rw [ho]
  go_simp
  exact h1
set_option maxRecDepth 100000 in
set_option maxHeartbeats 600000 in
theorem Xadd_l (n2 E1 E2 e : Int) (g1 g2 : Nat) (he : min E1 E2 = e) (w : World) (hI1 : IntB w g1 0) (hI2 : IntB w g2 n2) : Calls Tryz.prog 48 #[.agg #[.pointer (some ⟨g1, 0, none⟩), .int .i64 E1], .agg #[.pointer (some ⟨g2, 0, none⟩), .int .i64 E2]] w (ExS w n2 E2) := by
  have S1 := Lib.hid (fun w (h : IntB w g1 0) => Bsign g1 0 w h)
  rw [show (0 : Int).sign = 0 from rfl] at S1
  have J1 := Lib.hid (hI1.of ((((Within.refl w).alloc (.cells #[.pointer (some ⟨g1, 0, none⟩), .int .i64 E1] 53)).alloc (.cells #[.pointer (some ⟨g2, 0, none⟩), .int .i64 E2] 53)).alloc (.cells #[.pointer none, .int .i64 0] 53)))
  have HI2 := Lib.hid hI2; clear hI1 hI2
  go_enter Tryz.func48, Tryz.ntmps48
  go_wp2_with fail
  refine (S1.out _ J1.out).mono ?_; rintro e5 w5 ⟨rfl, rfl⟩
  go_wp2
  refine bodyPost_ret (v := .agg #[.pointer (some ⟨g2, 0, none⟩), .int .i64 E2]) (by simp [results, Tryz.results48, go_sem]) rfl ⟨g2, rfl, HI2.out.of ((((Within.refl w).alloc _).alloc _).alloc _), ((((Within.refl w).alloc _).alloc _).alloc _)⟩
set_option maxRecDepth 100000 in
set_option maxHeartbeats 600000 in
theorem Xadd_r (n1 E1 E2 e : Int) (g1 g2 : Nat) (he : min E1 E2 = e) (h1 : n1 ≠ 0) (w : World) (hI1 : IntB w g1 n1) (hI2 : IntB w g2 0) : Calls Tryz.prog 48 #[.agg #[.pointer (some ⟨g1, 0, none⟩), .int .i64 E1], .agg #[.pointer (some ⟨g2, 0, none⟩), .int .i64 E2]] w (ExS w n1 E1) := by
  have S1 := Lib.hid (fun w (h : IntB w g1 n1) => Bsign g1 n1 w h)
  have S2 := Lib.hid (fun w (h : IntB w g2 0) => Bsign g2 0 w h)
  rw [show (0 : Int).sign = 0 from rfl] at S2
  have d1 : (n1.sign == 0) = false := by rw [beq_eq_false_iff_ne]; intro h; exact h1 (Int.sign_eq_zero_iff_zero.1 h)
  clear h1
  have J1 := Lib.hid (hI1.of ((((Within.refl w).alloc (.cells #[.pointer (some ⟨g1, 0, none⟩), .int .i64 E1] 53)).alloc (.cells #[.pointer (some ⟨g2, 0, none⟩), .int .i64 E2] 53)).alloc (.cells #[.pointer none, .int .i64 0] 53)))
  have J2 := Lib.hid (hI2.of ((((Within.refl w).alloc (.cells #[.pointer (some ⟨g1, 0, none⟩), .int .i64 E1] 53)).alloc (.cells #[.pointer (some ⟨g2, 0, none⟩), .int .i64 E2] 53)).alloc (.cells #[.pointer none, .int .i64 0] 53)))
  have HI1 := Lib.hid hI1; clear hI1 hI2
  go_enter Tryz.func48, Tryz.ntmps48
  go_wp2_with fail
  refine (S1.out _ J1.out).mono ?_; rintro e5 w5 ⟨rfl, rfl⟩
  go_wp2_with fail
  refine (S2.out _ J2.out).mono ?_; rintro e5 w5 ⟨rfl, rfl⟩
  go_wp2
  refine bodyPost_ret (v := .agg #[.pointer (some ⟨g1, 0, none⟩), .int .i64 E1]) (by simp [results, Tryz.results48, go_sem]) rfl ⟨g1, rfl, HI1.out.of ((((Within.refl w).alloc _).alloc _).alloc _), ((((Within.refl w).alloc _).alloc _).alloc _)⟩
set_option maxRecDepth 100000 in
set_option maxHeartbeats 600000 in
theorem Xadd_sum (n1 n2 E1 E2 e : Int) (g1 g2 : Nat) (he : min E1 E2 = e) (v1 v2 : Int) (h1 : n1 ≠ 0) (h2 : n2 ≠ 0) (hv : (dg v1.natAbs).length ≤ 1000000 ∧ (dg v2.natAbs).length ≤ 1000000) (L1 : Hid (∀ w, IntB w g1 n1 → Calls Tryz.prog 104 #[.agg #[.pointer (some ⟨g1, 0, none⟩), .int .i64 E1], .int .i64 e] w (ExS w v1 e))) (L2 : Hid (∀ w, IntB w g2 n2 → Calls Tryz.prog 104 #[.agg #[.pointer (some ⟨g2, 0, none⟩), .int .i64 E2], .int .i64 e] w (ExS w v2 e))) (w : World) (hI1 : IntB w g1 n1) (hI2 : IntB w g2 n2) : Calls Tryz.prog 48 #[.agg #[.pointer (some ⟨g1, 0, none⟩), .int .i64 E1], .agg #[.pointer (some ⟨g2, 0, none⟩), .int .i64 E2]] w (ExS w (v1 + v2) e) := by
  have S1 := Lib.hid (fun w (h : IntB w g1 n1) => Bsign g1 n1 w h)
  have S2 := Lib.hid (fun w (h : IntB w g2 n2) => Bsign g2 n2 w h)
  have d1 : (n1.sign == 0) = false := by rw [beq_eq_false_iff_ne]; intro h; exact h1 (Int.sign_eq_zero_iff_zero.1 h)
  have d2 : (n2.sign == 0) = false := by rw [beq_eq_false_iff_ne]; intro h; exact h2 (Int.sign_eq_zero_iff_zero.1 h)
  have HV := Lib.hid hv; clear h1 h2 hv
  have J1 := Lib.hid (hI1.of ((((Within.refl w).alloc (.cells #[.pointer (some ⟨g1, 0, none⟩), .int .i64 E1] 53)).alloc (.cells #[.pointer (some ⟨g2, 0, none⟩), .int .i64 E2] 53)).alloc (.cells #[.pointer none, .int .i64 0] 53)))
  have J2 := Lib.hid (hI2.of ((((Within.refl w).alloc (.cells #[.pointer (some ⟨g1, 0, none⟩), .int .i64 E1] 53)).alloc (.cells #[.pointer (some ⟨g2, 0, none⟩), .int .i64 E2] 53)).alloc (.cells #[.pointer none, .int .i64 0] 53)))
  go_enter Tryz.func48, Tryz.ntmps48
  go_wp2_with fail
  refine (S1.out _ J1.out).mono ?_; rintro e5 w5 ⟨rfl, rfl⟩
  go_wp2_with fail
  refine (S2.out _ J2.out).mono ?_; rintro e5 w5 ⟨rfl, rfl⟩
  go_wp2
  refine wp_region_schG (fun W => W.cell? ⟨w.heap.size, 0, none⟩ = some (.pointer (some ⟨g1, 0, none⟩)) ∧ W.cell? ⟨w.heap.size, 1, none⟩ = some (.int .i64 E1) ∧ W.cell? ⟨w.heap.size + 1, 0, none⟩ = some (.pointer (some ⟨g2, 0, none⟩)) ∧ W.cell? ⟨w.heap.size + 1, 1, none⟩ = some (.int .i64 E2) ∧ W.heap[w.heap.size + 2]? = some (.cells #[.pointer none, .int .i64 0] 53 (0, 0)) ∧ IntB W g1 n1 ∧ IntB W g2 n2 ∧ w.heap.size < W.heap.size ∧ w.heap.size + 1 < W.heap.size ∧ w.heap.size + 2 < W.heap.size ∧ Within w W) 12 (.firm 1 (.firm 2 (.firm 5 (.firm 6 (.firm 10 (.two 0 (.one 3 (.firm 4 (.one 7 (.firm 8 (.one 9 (.firm 11 (.one 12 .nil))))))) 3 (.firm 4 (.two 0 (.one 7 (.firm 8 (.one 9 (.firm 11 (.one 12 .nil))))) 7 (.firm 8 (.one 0 (.one 9 (.firm 11 (.one 12 .nil))))))))))))) (by kernel_rfl) (by kernel_rfl) ⟨by go_simp, by go_simp, by go_simp, by go_simp, (by have := heap_alloc_new ((w.alloc (.cells #[.pointer (some ⟨g1, 0, none⟩), .int .i64 E1] 53)).alloc (.cells #[.pointer (some ⟨g2, 0, none⟩), .int .i64 E2] 53)) (.cells #[.pointer none, .int .i64 0] 53); simpa using this), hI1.of (by repeat (first | with_reducible exact Within.refl _ | with_reducible assumption | with_reducible refine Within.alloc ?_ _ | with_reducible refine Within.drew ?_ | with_reducible refine Within.drewN ?_ _ | with_reducible refine Within.setCell ?_ (by first | (simp; done) | (simp; omega)) _ | with_reducible refine Within.trans ?_ (by assumption))), hI2.of (by repeat (first | with_reducible exact Within.refl _ | with_reducible assumption | with_reducible refine Within.alloc ?_ _ | with_reducible refine Within.drew ?_ | with_reducible refine Within.drewN ?_ _ | with_reducible refine Within.setCell ?_ (by first | (simp; done) | (simp; omega)) _ | with_reducible refine Within.trans ?_ (by assumption))), by first | (simp; done) | (simp; omega), by first | (simp; done) | (simp; omega), by first | (simp; done) | (simp; omega), (by repeat (first | with_reducible exact Within.refl _ | with_reducible assumption | with_reducible refine Within.alloc ?_ _ | with_reducible refine Within.drew ?_ | with_reducible refine Within.drewN ?_ _ | with_reducible refine Within.setCell ?_ (by first | (simp; done) | (simp; omega)) _ | with_reducible refine Within.trans ?_ (by assumption)))⟩ ?_
  rintro w0 ⟨c0, c1, d0, d1, hz, hI1, hI2, l0, l1, l2, hw0⟩
  try simp only [Act.put, List.setIfInBounds_toArray, List.set_cons_zero, List.set_cons_succ]
  apply sch_firm rfl rfl (by repeat (first | with_reducible exact Within.refl _ | with_reducible assumption | with_reducible refine Within.alloc ?_ _ | with_reducible refine Within.drew ?_ | with_reducible refine Within.drewN ?_ _ | with_reducible refine Within.setCell ?_ (by first | (simp; done) | (simp; omega)) _ | with_reducible refine Within.trans ?_ (by assumption)))
  · intro wq hq
    have hcq := hq.cells
    clear hq
    go_simp
    first | rfl | (trace_state; fail)
  try simp only [Act.put, List.setIfInBounds_toArray, List.set_cons_zero, List.set_cons_succ]
  apply sch_firm rfl rfl (by repeat (first | with_reducible exact Within.refl _ | with_reducible assumption | with_reducible refine Within.alloc ?_ _ | with_reducible refine Within.drew ?_ | with_reducible refine Within.drewN ?_ _ | with_reducible refine Within.setCell ?_ (by first | (simp; done) | (simp; omega)) _ | with_reducible refine Within.trans ?_ (by assumption)))
  · intro wq hq
    have hcq := hq.cells
    clear hq
    go_simp
    first | rfl | (trace_state; fail)
  try simp only [Act.put, List.setIfInBounds_toArray, List.set_cons_zero, List.set_cons_succ]
  apply sch_firm rfl rfl (by repeat (first | with_reducible exact Within.refl _ | with_reducible assumption | with_reducible refine Within.alloc ?_ _ | with_reducible refine Within.drew ?_ | with_reducible refine Within.drewN ?_ _ | with_reducible refine Within.setCell ?_ (by first | (simp; done) | (simp; omega)) _ | with_reducible refine Within.trans ?_ (by assumption)))
  · intro wq hq
    have hcq := hq.cells
    clear hq
    go_simp
    first | rfl | (trace_state; fail)
  try simp only [Act.put, List.setIfInBounds_toArray, List.set_cons_zero, List.set_cons_succ]
  apply sch_firm rfl rfl (by repeat (first | with_reducible exact Within.refl _ | with_reducible assumption | with_reducible refine Within.alloc ?_ _ | with_reducible refine Within.drew ?_ | with_reducible refine Within.drewN ?_ _ | with_reducible refine Within.setCell ?_ (by first | (simp; done) | (simp; omega)) _ | with_reducible refine Within.trans ?_ (by assumption)))
  · intro wq hq
    have hcq := hq.cells
    clear hq
    go_simp
    first | rfl | (trace_state; fail)
  try simp only [Act.put, List.setIfInBounds_toArray, List.set_cons_zero, List.set_cons_succ]
  apply sch_firm rfl rfl (by repeat (first | with_reducible exact Within.refl _ | with_reducible assumption | with_reducible refine Within.alloc ?_ _ | with_reducible refine Within.drew ?_ | with_reducible refine Within.drewN ?_ _ | with_reducible refine Within.setCell ?_ (by first | (simp; done) | (simp; omega)) _ | with_reducible refine Within.trans ?_ (by assumption)))
  · intro wq hq
    have hcq := hq.cells
    clear hq
    go_simp
    first | rfl | (trace_state; fail)
  try simp only [Act.put, List.setIfInBounds_toArray, List.set_cons_zero, List.set_cons_succ]
  refine sch_two rfl rfl rfl rfl (fun K hK => ?_) (fun K hK => ?_)
  · refine wp_new_int rfl ?_
    intro z w4 hT hb4 hge
    have hz0 : w0.heap.size ≤ z := Nat.le_trans (Below.size (by show Within w0 _; repeat (first | with_reducible exact Within.refl _ | with_reducible assumption | with_reducible refine Within.alloc ?_ _ | with_reducible refine Within.drew ?_ | with_reducible refine Within.drewN ?_ _ | with_reducible refine Within.setCell ?_ (by first | (simp; done) | (simp; omega)) _ | with_reducible refine Within.trans ?_ (by assumption)))) hge
    refine hK _ _ (by repeat (first | with_reducible exact Within.refl _ | with_reducible assumption | with_reducible refine Within.alloc ?_ _ | with_reducible refine Within.drew ?_ | with_reducible refine Within.drewN ?_ _ | with_reducible refine Within.setCell ?_ (by first | (simp; done) | (simp; omega)) _ | with_reducible refine Within.trans ?_ (by assumption))) ?_
    clear hK K
    try simp only [Act.put, List.setIfInBounds_toArray, List.set_cons_zero, List.set_cons_succ]
    refine sch_one rfl rfl (fun K hK => ?_)
    go_simp
    refine (L1.out _ (IntB.of hI1 (by repeat (first | with_reducible exact Within.refl _ | with_reducible assumption | with_reducible refine Within.alloc ?_ _ | with_reducible refine Within.drew ?_ | with_reducible refine Within.drewN ?_ _ | with_reducible refine Within.setCell ?_ (by first | (simp; done) | (simp; omega)) _ | with_reducible refine Within.trans ?_ (by assumption))))).mono ?_; rintro e5 w5 ⟨q1, rfl, hA1, hb5⟩
    refine hK _ _ (fun _ => (by repeat (first | with_reducible exact Within.refl _ | with_reducible assumption | with_reducible refine Within.alloc ?_ _ | with_reducible refine Within.drew ?_ | with_reducible refine Within.drewN ?_ _ | with_reducible refine Within.setCell ?_ (by first | (simp; done) | (simp; omega)) _ | with_reducible refine Within.trans ?_ (by assumption)))) ?_
    clear hK K
    try simp only [Act.put, List.setIfInBounds_toArray, List.set_cons_zero, List.set_cons_succ]
    apply sch_firm rfl rfl (by repeat (first | with_reducible exact Within.refl _ | with_reducible assumption | with_reducible refine Within.alloc ?_ _ | with_reducible refine Within.drew ?_ | with_reducible refine Within.drewN ?_ _ | with_reducible refine Within.setCell ?_ (by first | (simp; done) | (simp; omega)) _ | with_reducible refine Within.trans ?_ (by assumption)))
    · intro wq hq
      have hcq := hq.cells
      clear hq
      go_simp
      first | rfl | (trace_state; fail)
    try simp only [Act.put, List.setIfInBounds_toArray, List.set_cons_zero, List.set_cons_succ]
    refine sch_one rfl rfl (fun K hK => ?_)
    go_simp
    refine (L2.out _ (IntB.of hI2 (by repeat (first | with_reducible exact Within.refl _ | with_reducible assumption | with_reducible refine Within.alloc ?_ _ | with_reducible refine Within.drew ?_ | with_reducible refine Within.drewN ?_ _ | with_reducible refine Within.setCell ?_ (by first | (simp; done) | (simp; omega)) _ | with_reducible refine Within.trans ?_ (by assumption))))).mono ?_; rintro e6 w6 ⟨q2, rfl, hA2, hb6⟩
    refine hK _ _ (fun _ => (by repeat (first | with_reducible exact Within.refl _ | with_reducible assumption | with_reducible refine Within.alloc ?_ _ | with_reducible refine Within.drew ?_ | with_reducible refine Within.drewN ?_ _ | with_reducible refine Within.setCell ?_ (by first | (simp; done) | (simp; omega)) _ | with_reducible refine Within.trans ?_ (by assumption)))) ?_
    clear hK K
    try simp only [Act.put, List.setIfInBounds_toArray, List.set_cons_zero, List.set_cons_succ]
    apply sch_firm rfl rfl (by repeat (first | with_reducible exact Within.refl _ | with_reducible assumption | with_reducible refine Within.alloc ?_ _ | with_reducible refine Within.drew ?_ | with_reducible refine Within.drewN ?_ _ | with_reducible refine Within.setCell ?_ (by first | (simp; done) | (simp; omega)) _ | with_reducible refine Within.trans ?_ (by assumption)))
    · intro wq hq
      have hcq := hq.cells
      clear hq
      go_simp
      first | rfl | (trace_state; fail)
    try simp only [Act.put, List.setIfInBounds_toArray, List.set_cons_zero, List.set_cons_succ]
    refine sch_one rfl rfl (fun K hK => ?_)
    go_simp
    refine (BAdd z q1 q2 v1 v2 HV.out.1 HV.out.2 _ (IntTy.of hT (by repeat (first | with_reducible exact Within.refl _ | with_reducible assumption | with_reducible refine Within.alloc ?_ _ | with_reducible refine Within.drew ?_ | with_reducible refine Within.drewN ?_ _ | with_reducible refine Within.setCell ?_ (by first | (simp; done) | (simp; omega)) _ | with_reducible refine Within.trans ?_ (by assumption)))) (IntB.of hA1 (by repeat (first | with_reducible exact Within.refl _ | with_reducible assumption | with_reducible refine Within.alloc ?_ _ | with_reducible refine Within.drew ?_ | with_reducible refine Within.drewN ?_ _ | with_reducible refine Within.setCell ?_ (by first | (simp; done) | (simp; omega)) _ | with_reducible refine Within.trans ?_ (by assumption)))) (IntB.of hA2 (by repeat (first | with_reducible exact Within.refl _ | with_reducible assumption | with_reducible refine Within.alloc ?_ _ | with_reducible refine Within.drew ?_ | with_reducible refine Within.drewN ?_ _ | with_reducible refine Within.setCell ?_ (by first | (simp; done) | (simp; omega)) _ | with_reducible refine Within.trans ?_ (by assumption))))).mono ?_; rintro e7 w7 ⟨rfl, hJ, hG⟩
    have hv7 : Within w0 w7 := Within.grown (by repeat (first | with_reducible exact Within.refl _ | with_reducible assumption | with_reducible refine Within.alloc ?_ _ | with_reducible refine Within.drew ?_ | with_reducible refine Within.drewN ?_ _ | with_reducible refine Within.setCell ?_ (by first | (simp; done) | (simp; omega)) _ | with_reducible refine Within.trans ?_ (by assumption))) hG hz0
    have hz5 := (hv7.block _ l2).trans hz
    obtain ⟨y0, y1, yf⟩ := ex_cells hz5
    have yl := Nat.lt_of_lt_of_le l2 hv7.sizes
    refine hK _ _ (fun _ => (by repeat (first | with_reducible exact Within.refl _ | with_reducible assumption | with_reducible refine Within.alloc ?_ _ | with_reducible refine Within.drew ?_ | with_reducible refine Within.drewN ?_ _ | with_reducible refine Within.setCell ?_ (by first | (simp; done) | (simp; omega)) _ | with_reducible refine Within.trans ?_ (by assumption)))) ?_
    clear hK K
    try simp only [Act.put, List.setIfInBounds_toArray, List.set_cons_zero, List.set_cons_succ]
    apply sch_firm rfl rfl (by repeat (first | with_reducible exact Within.refl _ | with_reducible assumption | with_reducible refine Within.alloc ?_ _ | with_reducible refine Within.drew ?_ | with_reducible refine Within.drewN ?_ _ | with_reducible refine Within.setCell ?_ (by first | (simp; done) | (simp; omega)) _ | with_reducible refine Within.trans ?_ (by assumption)))
    · intro wq hq
      have hcq := hq.cells
      clear hq
      go_simp
      first | rfl | (trace_state; fail)
    try simp only [Act.put, List.setIfInBounds_toArray, List.set_cons_zero, List.set_cons_succ]
    refine sch_one rfl rfl (fun K hK => ?_)
    go_simp
    refine hK _ _ (fun h => absurd h (by decide)) ?_
    clear hK K
    try simp only [Act.put, List.setIfInBounds_toArray, List.set_cons_zero, List.set_cons_succ]
    refine sch_nil ?_
    obtain ⟨r0, r1, rI⟩ := ex_set (E := e) hz5 hJ (show z ≠ (w.heap.size + 2) by omega)
    have rl : (w.heap.size + 2) < w7.heap.size := by have := yl; omega
    go_wp2
    refine bodyPost_ret (v := .agg #[.pointer (some ⟨z, 0, none⟩), .int .i64 e]) (by simp [results, Tryz.results48, go_sem, r0, r1, rl]) rfl ⟨z, rfl, rI, ?_⟩
    exact ((hw0.trans hv7).setCell (by show _ ≤ (w.heap.size + 2); omega) _).setCell (by show _ ≤ (w.heap.size + 2); omega) _
  · go_simp
    refine (L1.out _ (IntB.of hI1 (by repeat (first | with_reducible exact Within.refl _ | with_reducible assumption | with_reducible refine Within.alloc ?_ _ | with_reducible refine Within.drew ?_ | with_reducible refine Within.drewN ?_ _ | with_reducible refine Within.setCell ?_ (by first | (simp; done) | (simp; omega)) _ | with_reducible refine Within.trans ?_ (by assumption))))).mono ?_; rintro e5 w5 ⟨q1, rfl, hA1, hb5⟩
    refine hK _ _ (by repeat (first | with_reducible exact Within.refl _ | with_reducible assumption | with_reducible refine Within.alloc ?_ _ | with_reducible refine Within.drew ?_ | with_reducible refine Within.drewN ?_ _ | with_reducible refine Within.setCell ?_ (by first | (simp; done) | (simp; omega)) _ | with_reducible refine Within.trans ?_ (by assumption))) ?_
    clear hK K
    try simp only [Act.put, List.setIfInBounds_toArray, List.set_cons_zero, List.set_cons_succ]
    apply sch_firm rfl rfl (by repeat (first | with_reducible exact Within.refl _ | with_reducible assumption | with_reducible refine Within.alloc ?_ _ | with_reducible refine Within.drew ?_ | with_reducible refine Within.drewN ?_ _ | with_reducible refine Within.setCell ?_ (by first | (simp; done) | (simp; omega)) _ | with_reducible refine Within.trans ?_ (by assumption)))
    · intro wq hq
      have hcq := hq.cells
      clear hq
      go_simp
      first | rfl | (trace_state; fail)
    try simp only [Act.put, List.setIfInBounds_toArray, List.set_cons_zero, List.set_cons_succ]
    refine sch_two rfl rfl rfl rfl (fun K hK => ?_) (fun K hK => ?_)
    · refine wp_new_int rfl ?_
      intro z w4 hT hb4 hge
      have hz0 : w0.heap.size ≤ z := Nat.le_trans (Below.size (by show Within w0 _; repeat (first | with_reducible exact Within.refl _ | with_reducible assumption | with_reducible refine Within.alloc ?_ _ | with_reducible refine Within.drew ?_ | with_reducible refine Within.drewN ?_ _ | with_reducible refine Within.setCell ?_ (by first | (simp; done) | (simp; omega)) _ | with_reducible refine Within.trans ?_ (by assumption)))) hge
      refine hK _ _ (by repeat (first | with_reducible exact Within.refl _ | with_reducible assumption | with_reducible refine Within.alloc ?_ _ | with_reducible refine Within.drew ?_ | with_reducible refine Within.drewN ?_ _ | with_reducible refine Within.setCell ?_ (by first | (simp; done) | (simp; omega)) _ | with_reducible refine Within.trans ?_ (by assumption))) ?_
      clear hK K
      try simp only [Act.put, List.setIfInBounds_toArray, List.set_cons_zero, List.set_cons_succ]
      refine sch_one rfl rfl (fun K hK => ?_)
      go_simp
      refine (L2.out _ (IntB.of hI2 (by repeat (first | with_reducible exact Within.refl _ | with_reducible assumption | with_reducible refine Within.alloc ?_ _ | with_reducible refine Within.drew ?_ | with_reducible refine Within.drewN ?_ _ | with_reducible refine Within.setCell ?_ (by first | (simp; done) | (simp; omega)) _ | with_reducible refine Within.trans ?_ (by assumption))))).mono ?_; rintro e6 w6 ⟨q2, rfl, hA2, hb6⟩
      refine hK _ _ (fun _ => (by repeat (first | with_reducible exact Within.refl _ | with_reducible assumption | with_reducible refine Within.alloc ?_ _ | with_reducible refine Within.drew ?_ | with_reducible refine Within.drewN ?_ _ | with_reducible refine Within.setCell ?_ (by first | (simp; done) | (simp; omega)) _ | with_reducible refine Within.trans ?_ (by assumption)))) ?_
      clear hK K
      try simp only [Act.put, List.setIfInBounds_toArray, List.set_cons_zero, List.set_cons_succ]
      apply sch_firm rfl rfl (by repeat (first | with_reducible exact Within.refl _ | with_reducible assumption | with_reducible refine Within.alloc ?_ _ | with_reducible refine Within.drew ?_ | with_reducible refine Within.drewN ?_ _ | with_reducible refine Within.setCell ?_ (by first | (simp; done) | (simp; omega)) _ | with_reducible refine Within.trans ?_ (by assumption)))
      · intro wq hq
        have hcq := hq.cells
        clear hq
        go_simp
        first | rfl | (trace_state; fail)
      try simp only [Act.put, List.setIfInBounds_toArray, List.set_cons_zero, List.set_cons_succ]
      refine sch_one rfl rfl (fun K hK => ?_)
      go_simp
      refine (BAdd z q1 q2 v1 v2 HV.out.1 HV.out.2 _ (IntTy.of hT (by repeat (first | with_reducible exact Within.refl _ | with_reducible assumption | with_reducible refine Within.alloc ?_ _ | with_reducible refine Within.drew ?_ | with_reducible refine Within.drewN ?_ _ | with_reducible refine Within.setCell ?_ (by first | (simp; done) | (simp; omega)) _ | with_reducible refine Within.trans ?_ (by assumption)))) (IntB.of hA1 (by repeat (first | with_reducible exact Within.refl _ | with_reducible assumption | with_reducible refine Within.alloc ?_ _ | with_reducible refine Within.drew ?_ | with_reducible refine Within.drewN ?_ _ | with_reducible refine Within.setCell ?_ (by first | (simp; done) | (simp; omega)) _ | with_reducible refine Within.trans ?_ (by assumption)))) (IntB.of hA2 (by repeat (first | with_reducible exact Within.refl _ | with_reducible assumption | with_reducible refine Within.alloc ?_ _ | with_reducible refine Within.drew ?_ | with_reducible refine Within.drewN ?_ _ | with_reducible refine Within.setCell ?_ (by first | (simp; done) | (simp; omega)) _ | with_reducible refine Within.trans ?_ (by assumption))))).mono ?_; rintro e7 w7 ⟨rfl, hJ, hG⟩
      have hv7 : Within w0 w7 := Within.grown (by repeat (first | with_reducible exact Within.refl _ | with_reducible assumption | with_reducible refine Within.alloc ?_ _ | with_reducible refine Within.drew ?_ | with_reducible refine Within.drewN ?_ _ | with_reducible refine Within.setCell ?_ (by first | (simp; done) | (simp; omega)) _ | with_reducible refine Within.trans ?_ (by assumption))) hG hz0
      have hz5 := (hv7.block _ l2).trans hz
      obtain ⟨y0, y1, yf⟩ := ex_cells hz5
      have yl := Nat.lt_of_lt_of_le l2 hv7.sizes
      refine hK _ _ (fun _ => (by repeat (first | with_reducible exact Within.refl _ | with_reducible assumption | with_reducible refine Within.alloc ?_ _ | with_reducible refine Within.drew ?_ | with_reducible refine Within.drewN ?_ _ | with_reducible refine Within.setCell ?_ (by first | (simp; done) | (simp; omega)) _ | with_reducible refine Within.trans ?_ (by assumption)))) ?_
      clear hK K
      try simp only [Act.put, List.setIfInBounds_toArray, List.set_cons_zero, List.set_cons_succ]
      apply sch_firm rfl rfl (by repeat (first | with_reducible exact Within.refl _ | with_reducible assumption | with_reducible refine Within.alloc ?_ _ | with_reducible refine Within.drew ?_ | with_reducible refine Within.drewN ?_ _ | with_reducible refine Within.setCell ?_ (by first | (simp; done) | (simp; omega)) _ | with_reducible refine Within.trans ?_ (by assumption)))
      · intro wq hq
        have hcq := hq.cells
        clear hq
        go_simp
        first | rfl | (trace_state; fail)
      try simp only [Act.put, List.setIfInBounds_toArray, List.set_cons_zero, List.set_cons_succ]
      refine sch_one rfl rfl (fun K hK => ?_)
      go_simp
      refine hK _ _ (fun h => absurd h (by decide)) ?_
      clear hK K
      try simp only [Act.put, List.setIfInBounds_toArray, List.set_cons_zero, List.set_cons_succ]
      refine sch_nil ?_
      obtain ⟨r0, r1, rI⟩ := ex_set (E := e) hz5 hJ (show z ≠ (w.heap.size + 2) by omega)
      have rl : (w.heap.size + 2) < w7.heap.size := by have := yl; omega
      go_wp2
      refine bodyPost_ret (v := .agg #[.pointer (some ⟨z, 0, none⟩), .int .i64 e]) (by simp [results, Tryz.results48, go_sem, r0, r1, rl]) rfl ⟨z, rfl, rI, ?_⟩
      exact ((hw0.trans hv7).setCell (by show _ ≤ (w.heap.size + 2); omega) _).setCell (by show _ ≤ (w.heap.size + 2); omega) _
    · go_simp
      refine (L2.out _ (IntB.of hI2 (by repeat (first | with_reducible exact Within.refl _ | with_reducible assumption | with_reducible refine Within.alloc ?_ _ | with_reducible refine Within.drew ?_ | with_reducible refine Within.drewN ?_ _ | with_reducible refine Within.setCell ?_ (by first | (simp; done) | (simp; omega)) _ | with_reducible refine Within.trans ?_ (by assumption))))).mono ?_; rintro e6 w6 ⟨q2, rfl, hA2, hb6⟩
      refine hK _ _ (by repeat (first | with_reducible exact Within.refl _ | with_reducible assumption | with_reducible refine Within.alloc ?_ _ | with_reducible refine Within.drew ?_ | with_reducible refine Within.drewN ?_ _ | with_reducible refine Within.setCell ?_ (by first | (simp; done) | (simp; omega)) _ | with_reducible refine Within.trans ?_ (by assumption))) ?_
      clear hK K
      try simp only [Act.put, List.setIfInBounds_toArray, List.set_cons_zero, List.set_cons_succ]
      apply sch_firm rfl rfl (by repeat (first | with_reducible exact Within.refl _ | with_reducible assumption | with_reducible refine Within.alloc ?_ _ | with_reducible refine Within.drew ?_ | with_reducible refine Within.drewN ?_ _ | with_reducible refine Within.setCell ?_ (by first | (simp; done) | (simp; omega)) _ | with_reducible refine Within.trans ?_ (by assumption)))
      · intro wq hq
        have hcq := hq.cells
        clear hq
        go_simp
        first | rfl | (trace_state; fail)
      try simp only [Act.put, List.setIfInBounds_toArray, List.set_cons_zero, List.set_cons_succ]
      refine sch_one rfl rfl (fun K hK => ?_)
      refine wp_new_int rfl ?_
      intro z w4 hT hb4 hge
      have hz0 : w0.heap.size ≤ z := Nat.le_trans (Below.size (by show Within w0 _; repeat (first | with_reducible exact Within.refl _ | with_reducible assumption | with_reducible refine Within.alloc ?_ _ | with_reducible refine Within.drew ?_ | with_reducible refine Within.drewN ?_ _ | with_reducible refine Within.setCell ?_ (by first | (simp; done) | (simp; omega)) _ | with_reducible refine Within.trans ?_ (by assumption)))) hge
      refine hK _ _ (fun _ => (by repeat (first | with_reducible exact Within.refl _ | with_reducible assumption | with_reducible refine Within.alloc ?_ _ | with_reducible refine Within.drew ?_ | with_reducible refine Within.drewN ?_ _ | with_reducible refine Within.setCell ?_ (by first | (simp; done) | (simp; omega)) _ | with_reducible refine Within.trans ?_ (by assumption)))) ?_
      clear hK K
      try simp only [Act.put, List.setIfInBounds_toArray, List.set_cons_zero, List.set_cons_succ]
      refine sch_one rfl rfl (fun K hK => ?_)
      go_simp
      refine (BAdd z q1 q2 v1 v2 HV.out.1 HV.out.2 _ (IntTy.of hT (by repeat (first | with_reducible exact Within.refl _ | with_reducible assumption | with_reducible refine Within.alloc ?_ _ | with_reducible refine Within.drew ?_ | with_reducible refine Within.drewN ?_ _ | with_reducible refine Within.setCell ?_ (by first | (simp; done) | (simp; omega)) _ | with_reducible refine Within.trans ?_ (by assumption)))) (IntB.of hA1 (by repeat (first | with_reducible exact Within.refl _ | with_reducible assumption | with_reducible refine Within.alloc ?_ _ | with_reducible refine Within.drew ?_ | with_reducible refine Within.drewN ?_ _ | with_reducible refine Within.setCell ?_ (by first | (simp; done) | (simp; omega)) _ | with_reducible refine Within.trans ?_ (by assumption)))) (IntB.of hA2 (by repeat (first | with_reducible exact Within.refl _ | with_reducible assumption | with_reducible refine Within.alloc ?_ _ | with_reducible refine Within.drew ?_ | with_reducible refine Within.drewN ?_ _ | with_reducible refine Within.setCell ?_ (by first | (simp; done) | (simp; omega)) _ | with_reducible refine Within.trans ?_ (by assumption))))).mono ?_; rintro e7 w7 ⟨rfl, hJ, hG⟩
      have hv7 : Within w0 w7 := Within.grown (by repeat (first | with_reducible exact Within.refl _ | with_reducible assumption | with_reducible refine Within.alloc ?_ _ | with_reducible refine Within.drew ?_ | with_reducible refine Within.drewN ?_ _ | with_reducible refine Within.setCell ?_ (by first | (simp; done) | (simp; omega)) _ | with_reducible refine Within.trans ?_ (by assumption))) hG hz0
      have hz5 := (hv7.block _ l2).trans hz
      obtain ⟨y0, y1, yf⟩ := ex_cells hz5
      have yl := Nat.lt_of_lt_of_le l2 hv7.sizes
      refine hK _ _ (fun _ => (by repeat (first | with_reducible exact Within.refl _ | with_reducible assumption | with_reducible refine Within.alloc ?_ _ | with_reducible refine Within.drew ?_ | with_reducible refine Within.drewN ?_ _ | with_reducible refine Within.setCell ?_ (by first | (simp; done) | (simp; omega)) _ | with_reducible refine Within.trans ?_ (by assumption)))) ?_
      clear hK K
      try simp only [Act.put, List.setIfInBounds_toArray, List.set_cons_zero, List.set_cons_succ]
      apply sch_firm rfl rfl (by repeat (first | with_reducible exact Within.refl _ | with_reducible assumption | with_reducible refine Within.alloc ?_ _ | with_reducible refine Within.drew ?_ | with_reducible refine Within.drewN ?_ _ | with_reducible refine Within.setCell ?_ (by first | (simp; done) | (simp; omega)) _ | with_reducible refine Within.trans ?_ (by assumption)))
      · intro wq hq
        have hcq := hq.cells
        clear hq
        go_simp
        first | rfl | (trace_state; fail)
      try simp only [Act.put, List.setIfInBounds_toArray, List.set_cons_zero, List.set_cons_succ]
      refine sch_one rfl rfl (fun K hK => ?_)
      go_simp
      refine hK _ _ (fun h => absurd h (by decide)) ?_
      clear hK K
      try simp only [Act.put, List.setIfInBounds_toArray, List.set_cons_zero, List.set_cons_succ]
      refine sch_nil ?_
      obtain ⟨r0, r1, rI⟩ := ex_set (E := e) hz5 hJ (show z ≠ (w.heap.size + 2) by omega)
      have rl : (w.heap.size + 2) < w7.heap.size := by have := yl; omega
      go_wp2
      refine bodyPost_ret (v := .agg #[.pointer (some ⟨z, 0, none⟩), .int .i64 e]) (by simp [results, Tryz.results48, go_sem, r0, r1, rl]) rfl ⟨z, rfl, rI, ?_⟩
      exact ((hw0.trans hv7).setCell (by show _ ≤ (w.heap.size + 2); omega) _).setCell (by show _ ≤ (w.heap.size + 2); omega) _
end Go.Proofs.YtjmaggfddinbkaaGreatDoor
end

section
namespace Go.Proofs.YtjmaggfddinbkaaGreatDoor
open Go.RowKit
def valE (n E : Int) (L : Nat) : Int := n * 2 ^ (E + L).toNat
theorem val_low {n E e : Int} {L k : Nat} (he : E - e = (k : Int)) (hL : -(L : Int) ≤ e) : valE (n * 2 ^ k) e L = valE n E L := by
  unfold valE
  rw [Int.mul_assoc, ← Int.pow_add, show k + (e + L).toNat = (E + L).toNat by omega]
theorem val_zero (E : Int) (L : Nat) : valE 0 E L = 0 := by unfold valE; rw [Int.zero_mul]
theorem val_add (n m E : Int) (L : Nat) : valE n E L + valE m E L = valE (n + m) E L := by unfold valE; rw [Int.add_mul]
theorem val_neg (n E : Int) (L : Nat) : valE (-n) E L = -valE n E L := by unfold valE; rw [Int.neg_mul]
def ExW (L U : Nat) (z : Int) (W : World) (e : Ending) (w' : World) : Prop := ∃ h n E, e = .returned (.agg #[.pointer (some ⟨h, 0, none⟩), .int .i64 E]) ∧ IntB w' h n ∧ -(L : Int) ≤ E ∧ E ≤ (U : Int) ∧ valE n E L = z ∧ Within W w'
theorem ExS.w {W w' : World} {n E : Int} {e : Ending} (L U : Nat) (h : ExS W n E e w') (h1 : -(L : Int) ≤ E) (h2 : E ≤ (U : Int)) : ExW L U (valE n E L) W e w' := by
  obtain ⟨g, k1, k2, k3⟩ := h
  exact ⟨g, n, E, k1, k2, h1, h2, rfl, k3⟩
theorem Xadd (n1 n2 E1 E2 : Int) (g1 g2 L U : Nat) (hL : L ≤ 9000) (hU : U ≤ 6000) (a1 : -(L : Int) ≤ E1) (a2 : E1 ≤ (U : Int)) (b1 : -(L : Int) ≤ E2) (b2 : E2 ≤ (U : Int)) (hl1 : (dg n1.natAbs).length ≤ 900) (hl2 : (dg n2.natAbs).length ≤ 900) (w : World) (hI1 : IntB w g1 n1) (hI2 : IntB w g2 n2) : Calls Tryz.prog 48 #[.agg #[.pointer (some ⟨g1, 0, none⟩), .int .i64 E1], .agg #[.pointer (some ⟨g2, 0, none⟩), .int .i64 E2]] w (ExW L U (valE n1 E1 L + valE n2 E2 L) w) := by
  by_cases h1 : n1 = 0
  · subst h1
    rw [val_zero, Int.zero_add]
    exact (Xadd_l n2 E1 E2 _ g1 g2 rfl w hI1 hI2).mono fun e w' h => h.w L U b1 b2
  · by_cases h2 : n2 = 0
    · subst h2
      rw [val_zero, Int.add_zero]
      exact (Xadd_r n1 E1 E2 _ g1 g2 rfl h1 w hI1 hI2).mono fun e w' h => h.w L U a1 a2
    · obtain ⟨e, he⟩ : ∃ e, min E1 E2 = e := ⟨_, rfl⟩
      obtain ⟨k1, hk1⟩ : ∃ k1 : Nat, E1 - e = (k1 : Int) := ⟨(E1 - e).toNat, by omega⟩
      obtain ⟨k2, hk2⟩ : ∃ k2 : Nat, E2 - e = (k2 : Int) := ⟨(E2 - e).toNat, by omega⟩
      have len : ∀ (n : Int) (k : Nat), k ≤ 16000 → (dg n.natAbs).length ≤ 900 → (dg (n * 2 ^ k).natAbs).length ≤ 1000000 := by
        intro n k hk hl
        rw [Int.natAbs_mul, Int.natAbs_pow]
        exact Nat.le_trans (dg_shl_le (k := 500) hl (by omega)) (by decide)
      refine (Xadd_sum n1 n2 E1 E2 e g1 g2 he (n1 * 2 ^ k1) (n2 * 2 ^ k2) h1 h2 ⟨len n1 k1 (by omega) hl1, len n2 k2 (by omega) hl2⟩ (Lib.hid fun w h => Xlow n1 E1 e g1 k1 hk1 (by omega) (Nat.le_trans hl1 (by decide)) w h) (Lib.hid fun w h => Xlow n2 E2 e g2 k2 hk2 (by omega) (Nat.le_trans hl2 (by decide)) w h) w hI1 hI2).mono fun e' w' h => ?_
      have := h.w L U (by omega) (by omega)
      rw [← val_add, val_low hk1 (by omega), val_low hk2 (by omega)] at this
      exact this
end Go.Proofs.YtjmaggfddinbkaaGreatDoor
end

section
namespace Go.Proofs.YtjmaggfddinbkaaGreatDoor
open Go.RowKit
theorem of_val (b : Nat) : valE (ofN b) (pExpD b) 1074 = P64.wholeI b := rfl
theorem dg_len_of {n e k : Nat} (h : n < 2 ^ e) (he : e ≤ 32 * k) : (dg n).length ≤ k :=
  dg_len_le (Nat.lt_of_lt_of_le h (by rw [show (4294967296 : Nat) = 2 ^ 32 from rfl, ← Nat.pow_mul]; exact Nat.pow_le_pow_right (by decide) he))
theorem val_mul (n m E F : Int) (L M : Nat) (h1 : -(L : Int) ≤ E) (h2 : -(M : Int) ≤ F) : valE (n * m) (E + F) (L + M) = valE n E L * valE m F M := by
  unfold valE
  rw [show (E + F + ((L + M : Nat) : Int)).toNat = (E + L).toNat + (F + M).toNat by omega, Int.pow_add]
  rw [Int.mul_assoc, Int.mul_assoc, Int.mul_left_comm m]
end Go.Proofs.YtjmaggfddinbkaaGreatDoor
end

section
namespace Go.Proofs.YtjmaggfddinbkaaGreatDoor
open Go.RowKit
set_option maxRecDepth 100000 in
set_option maxHeartbeats 600000 in
theorem same_law (x y : Nat) (w : World) : Calls Tryz.prog 42 #[.float .f64 x, .float .f64 y] w fun e w' => e = .returned (.bool (decide (x = canonD y))) ∧ w = w' := by
  obtain ⟨b, hb⟩ : ∃ b, b = decide (x = canonD y) := ⟨_, rfl⟩
  have he : ((x : Int) == ((canonD y : Nat) : Int)) = b := by
    rw [hb]; by_cases h : x = canonD y
    · rw [decide_eq_true h, beq_iff_eq]; omega
    · rw [decide_eq_false h, beq_eq_false_iff_ne]; omega
  rw [← hb]
  clear hb
  have CB := Lib.hid (fun w => Rbits_D y w)
  obtain ⟨z, hz⟩ : ∃ z, z = canonD y := ⟨_, rfl⟩
  rw [← hz] at CB he
  clear hz
  go_enter Tryz.func42, Tryz.ntmps42
  go_wp2_with fail
  refine (CB.out _).mono ?_; rintro e1 w1 ⟨rfl, rfl⟩
  go_wp2
  go_ret
  exact ⟨rfl, rfl⟩
end Go.Proofs.YtjmaggfddinbkaaGreatDoor
end

section
namespace Go.Proofs.YtjmaggfddinbkaaGreatDoor
/-! Compress -/
def ds (q : Nat) (d : List Nat) (k : Nat) : Lay := ((d.map fv).take k).foldl downStep ⟨fv q, [], false⟩
def us (D : Lay) (k : Nat) : Lay := (D.l.reverse.take k).foldl upStep ⟨D.q, [], D.ov⟩
/-! Value -/
def vs (es : List Nat) (k : Nat) : Option Nat := ((es.map fv).take k).foldl (fop .add) (some 0)
end Go.Proofs.YtjmaggfddinbkaaGreatDoor
end

section
namespace Go.Proofs.YtjmaggfddinbkaaGreatDoor
open Go.RowKit
theorem ex_cells' {w : World} {b : Nat} {x y : Value} (hb : w.heap[b]? = some (.cells #[x, y] 53 (0, 0))) : w.cell? ⟨b, 0, none⟩ = some x ∧ w.cell? ⟨b, 1, none⟩ = some y ∧ ∀ o, w.frozen? ⟨b, o, none⟩ = false :=
  ⟨by unfold World.cell?; rw [hb]; rfl, by unfold World.cell?; rw [hb]; rfl, fun o => by simp [World.frozen?, hb]⟩
end Go.Proofs.YtjmaggfddinbkaaGreatDoor
end

section
namespace Go.Proofs.YtjmaggfddinbkaaGreatDoor
open Go.RowKit
def Tab32 (w : World) : Prop := ∀ j, j < 32 → w.cell? ⟨1, j, none⟩ = some (.int .u8 (Lib.deBruijn32tab.getD j 0))
theorem Tab32.of {w w' : World} (h : Tab32 w) (k : Within w w') : Tab32 w' := fun j hj => by
  rw [k.cells _ _ (World.block_lt_of_cell? w _ (h j hj))]
  exact h j hj
set_option maxRecDepth 100000 in
set_option maxHeartbeats 600000 in
theorem tz32_core (x k idx : Nat) (w : World) (hx0 : ((x : Int) == 0) = false)
    (key : IntKind.u32.wrap (bits BinOp.and IntKind.u32 (x : Int) (IntKind.u32.wrap (-(x : Int))) * 125613361) / 134217728 = (idx : Int))
    (hi : idx < 32) (hk : k < 32) (hcell : w.cell? ⟨1, idx, none⟩ = some (.int .u8 k)) :
    Calls Tryz.prog 131 #[.int .u32 x] w fun e w' => e = .returned (.int .i64 k) ∧ w = w' := by
  rw [IntKind.wrap_u32, IntKind.wrap_u32] at key
  have k2 : (bits BinOp.and IntKind.u32 (x : Int) (-(x : Int) % 4294967296) * 125613361 % 4294967296 / 134217728).toNat = idx := by rw [key]; rfl
  go_enter Tryz.func131, Tryz.ntmps131
  go_wp2_with (simp only [key])
  go_ret
  exact ⟨rfl, rfl⟩
theorem tz32_key (x a : Nat) (hx : x < 4294967296) (hx0 : x ≠ 0) (hlow : x &&& (4294967296 - x) = a) :
    IntKind.u32.wrap (bits BinOp.and IntKind.u32 (x : Int) (IntKind.u32.wrap (-(x : Int))) * 125613361) / 134217728 = ((a * 125613361 % 4294967296 / 134217728 : Nat) : Int) := by
  have e1 : IntKind.u32.wrap (-(x : Int)) = ((4294967296 - x : Nat) : Int) := by rw [IntKind.wrap_u32]; omega
  have e2 : bits BinOp.and IntKind.u32 (x : Int) ((4294967296 - x : Nat) : Int) = ((x &&& (4294967296 - x) : Nat) : Int) := u32_and_nat x _ hx (by omega)
  rw [e1, e2, hlow, IntKind.wrap_u32]
  omega
theorem bits_tz32 (x : Nat) (h0 : x ≠ 0) (hx : x < 4294967296) (w : World) (hT : Tab32 w) :
    Calls Tryz.prog 131 #[.int .u32 x] w fun e w' => e = .returned (.int .i64 (Lib.ctz 32 x)) ∧ w = w' := by
  obtain ⟨hlow, hk⟩ := Lib.lowest_bit 32 x h0 hx
  obtain ⟨hi, htab⟩ := Lib.deBruijn32_at _ hk
  have hcell := hT _ hi
  rw [htab] at hcell
  exact tz32_core x _ _ w (by simp; omega) (tz32_key x _ hx h0 hlow) hi hk hcell
theorem ctz32_split {x : Nat} (h0 : x ≠ 0) (hx : x < 4294967296) : ∃ m, x = 2 ^ Lib.ctz 32 x * (2 * m + 1) ∧ Lib.ctz 32 x < 32 := by
  have := Lib.ctzFrom_spec 32 x (Nat.pos_of_ne_zero h0) hx
  unfold Lib.ctz
  first | exact this | (rw [if_neg h0]; exact this)
theorem OwnW.one (w : World) : OwnW (w.alloc (.cells #[.int .u32 1] 133)) w.heap.size [1] := by
  have h := World.rowIs_alloc w #[.int .u32 1] 133 (fun i => .int .u32 ((([1] : List Nat).getD i 0 : Nat) : Int)) (fun i hi => by
    have : i = 0 := by simpa using hi
    subst this
    rfl)
  exact h
theorem dg_one : dg 1 = [1] := by rw [dg_pos (by decide), show 1 / 4294967296 = 0 by decide, dg_zero]
set_option maxRecDepth 100000 in
set_option maxHeartbeats 600000 in
theorem Brsh_neg (z x n a : Nat) (h0 : 0 < a) (A : Option Addr) (ca : Nat) (ha : (dg a).length ≤ 1000000) (hn : n ≤ 40000000) (w : World) (hz : IntTy w z) (a0 : w.cell? ⟨x, 0, none⟩ = some (.bool true)) (a1 : w.cell? ⟨x, 1, none⟩ = some (.slice A (dg a).length ca)) (hra : RowAt w A (dg a)) : Calls Tryz.prog 100 #[.pointer (some ⟨z, 0, none⟩), .pointer (some ⟨x, 0, none⟩), .int .u64 (n : Int)] w (PutI w z (-(((a - 1) / 2 ^ n + 1 : Nat) : Int))) := by
  have HZ := Lib.hid hz; have HRA := Lib.hid hra; clear hz hra
  have MI := Lib.hid (fun w (Bv : Option Addr) (hra : RowAt w A (dg a)) (hrb : RowAt w Bv [1]) => (show Calls Tryz.prog 133 #[.slice A (dg a).length ca, .slice Bv 1 1] w (RetW w (a - 1)) from by
    have := Bminus a 1 A Bv ca 1 (Nat.le_trans ha (by decide)) h0 w hra (by rw [dg_one]; exact hrb)
    rw [dg_one] at this
    exact this))
  have RI := Lib.hid (fun w (A' : Option Addr) (c' : Nat) (hr : RowAt w A' (dg (a - 1))) => Bright (a - 1) A' c' n (Nat.le_trans (dg_len_mono (Nat.sub_le a 1)) (Nat.le_trans ha (by decide))) hn w hr)
  obtain ⟨q, hq⟩ : ∃ q, q = (a - 1) / 2 ^ n := ⟨_, rfl⟩
  have hql : (dg q).length ≤ 1000000 := by rw [hq]; exact Nat.le_trans (dg_len_mono (Nat.le_trans (Nat.div_le_self _ _) (Nat.sub_le a 1))) ha
  have hql2 : (dg (q + 1)).length ≤ 1000000 := Nat.le_trans (dg_len_mono (by rw [hq]; have := Nat.div_le_self (a - 1) (2 ^ n); omega)) ha
  rw [← hq] at RI ⊢
  have HQL := Lib.hid (And.intro hql hql2)
  have PL := Lib.hid (fun w (A' Bv : Option Addr) (c' : Nat) (hra : RowAt w A' (dg q)) (hrb : RowAt w Bv [1]) => (show Calls Tryz.prog 134 #[.slice A' (dg q).length c', .slice Bv 1 1] w (RetW w (q + 1)) from by
    have := Bplus q 1 A' Bv c' 1 (Nat.le_trans hql (by decide)) (by rw [dg_one]; decide) w hra (by rw [dg_one]; exact hrb)
    rw [dg_one] at this
    exact this))
  clear hq hql hql2 h0 ha hn
  have hw1 : Within w (w.alloc (.cells #[.int .u32 1] 133)) := (Within.refl w).alloc _
  go_enter Tryz.func100, Tryz.ntmps100
  go_wp2_with fail
  refine (MI.out _ _ (HRA.out.of hw1) (OwnW.one w).at).mono ?_; rintro e2 w2 ⟨A2, c2, rfl, hc2, hr2, hb2⟩
  go_wp2_with fail
  refine (RI.out _ A2 c2 hr2).mono ?_; rintro e3 w3 ⟨A3, c3, rfl, hc3, hr3, hb3⟩
  go_wp2_with fail
  refine (PL.out _ A3 _ c3 (hr3.of ((Within.refl w3).alloc _)) (OwnW.one w3).at).mono ?_; rintro e4 w4 ⟨A4, c4, rfl, hc4, hr4, hb4⟩
  have hb : Within w w4 := ((hw1.trans hb2).trans hb3).trans (((Within.refl w3).alloc _).trans hb4)
  go_wp2_with fail
  refine (Bput z true (dg (q + 1)) A4 c4 (words_dg _) hc4 (Nat.le_trans HQL.out.2 (by decide)) w4 hr4 (HZ.out.of hb)).mono ?_
  rintro e5 w5 ⟨rfl, hI, hG⟩
  go_wp2
  go_ret
  rw [wval_dg] at hI
  exact ⟨rfl, hI, grown_trans (grown_within z hb) hG⟩
theorem BrshD (z x t : Nat) (v r : Int) (h0 : v ≠ 0) (hv : v = r * 2 ^ t) (hl : (dg v.natAbs).length ≤ 1000000) (ht : t ≤ 40000000) (w : World) (hz : IntTy w z) (hx : IntB w x v) : Calls Tryz.prog 100 #[.pointer (some ⟨z, 0, none⟩), .pointer (some ⟨x, 0, none⟩), .int .u64 (t : Int)] w (PutI w z r) := by
  have ha : v.natAbs = r.natAbs * 2 ^ t := by rw [hv, natAbs_mul_pow]
  have hp := Nat.two_pow_pos t
  rcases Int.lt_or_le v 0 with g | g
  · obtain ⟨A, ca, a0, a1, hra⟩ := hx.rd
    rw [decide_eq_true g] at a0
    have h1 := Brsh_neg z x t v.natAbs (by omega) A ca hl ht w hz a0 a1 hra
    have hr0 : r < 0 := by
      rcases Int.lt_or_le r 0 with h | h
      · exact h
      · have := Int.mul_nonneg h (Int.le_of_lt (Int.pow_pos (show (0 : Int) < 2 by decide) : (0 : Int) < 2 ^ t))
        rw [← hv] at this; omega
    have e : (v.natAbs - 1) / 2 ^ t + 1 = r.natAbs := by
      obtain ⟨k, hk⟩ : ∃ k, r.natAbs = k + 1 := ⟨r.natAbs - 1, by omega⟩
      rw [ha, hk, Nat.add_mul, Nat.one_mul]
      have h3 : (k * 2 ^ t + 2 ^ t - 1) / 2 ^ t = k := by
        have : k * 2 ^ t + 2 ^ t - 1 = (2 ^ t - 1) + 2 ^ t * k := by rw [Nat.mul_comm]; omega
        rw [this, Nat.add_mul_div_left _ _ hp, Nat.div_eq_of_lt (by omega), Nat.zero_add]
      rw [h3]
    rw [e, show -((r.natAbs : Nat) : Int) = r by omega] at h1
    exact h1
  · have h1 := Brsh z x t v.natAbs (Nat.le_trans hl (by decide)) ht w hz (by rw [Int.natAbs_of_nonneg g]; exact hx)
    have hr0 : 0 ≤ r := by
      rcases Int.lt_or_le r 0 with h | h
      · have := Int.mul_neg_of_neg_of_pos h (Int.pow_pos (show (0 : Int) < 2 by decide) : (0 : Int) < 2 ^ t)
        rw [← hv] at this; omega
      · exact h
    have e : v.natAbs / 2 ^ t = r.natAbs := by rw [ha, Nat.mul_div_cancel _ hp]
    rw [e, Int.natAbs_of_nonneg hr0] at h1
    exact h1
theorem lo_none {l : List Nat} : ∀ k, (∀ j, j < k → l.getD j 0 = 0) → lo l k = 0
  | 0, _ => lo_zero l
  | k + 1, h => by rw [lo_succ, lo_none k fun j hj => h j (by omega), h k (by omega), Nat.mul_zero]
theorem tzb_split {l : List Nat} (hw : Words l) {k : Nat} (hk : k < l.length) (hz : ∀ j, j < k → l.getD j 0 = 0) (h0 : l.getD k 0 ≠ 0) : ∃ m, wval l = 2 ^ (32 * k + Lib.ctz 32 (l.getD k 0)) * (2 * m + 1) := by
  obtain ⟨m, h1, h2⟩ := ctz32_split h0 (hw.getD k)
  have e : l.drop k = l.getD k 0 :: l.drop (k + 1) := by rw [List.drop_eq_getElem_cons hk, List.getD, List.getElem?_eq_getElem hk]; rfl
  have h3 := wval_split l k
  rw [lo_none k hz, Nat.zero_add, e] at h3
  have h4 : wval (l.getD k 0 :: l.drop (k + 1)) = l.getD k 0 + 4294967296 * wval (l.drop (k + 1)) := rfl
  rw [h4] at h3
  generalize Lib.ctz 32 (l.getD k 0) = c at *
  refine ⟨m + 2 ^ (31 - c) * wval (l.drop (k + 1)), ?_⟩
  rw [h3, h1, show (4294967296 : Nat) = 2 ^ c * (2 * 2 ^ (31 - c)) by rw [← Nat.pow_succ', ← Nat.pow_add, show c + (31 - c + 1) = 32 by omega], show (2 ^ c * (2 * 2 ^ (31 - c))) ^ k = 2 ^ (32 * k) by rw [← Nat.pow_succ', ← Nat.pow_add, show c + (31 - c + 1) = 32 by omega, ← Nat.pow_mul], Nat.pow_add]
  generalize 2 ^ c = X
  generalize 2 ^ (31 - c) = Y
  generalize 2 ^ (32 * k) = Z
  generalize wval (l.drop (k + 1)) = V
  grind
set_option maxRecDepth 100000 in
set_option maxHeartbeats 600000 in
theorem Btzb (x : Nat) (v : Int) (h0 : v ≠ 0) (hl : (dg v.natAbs).length ≤ 1000000) (w : World) (hT : Tab32 w) (hx : IntB w x v) : Calls Tryz.prog 99 #[.pointer (some ⟨x, 0, none⟩)] w (fun e w' => ∃ t m : Nat, e = .returned (.int .u64 (t : Int)) ∧ v.natAbs = 2 ^ t * (2 * m + 1) ∧ t ≤ 32000000 ∧ w = w') := by
  obtain ⟨A, ca, a0, a1, hra⟩ := hx.rd
  have hxl := World.block_lt_of_cell? _ _ a1
  obtain ⟨l, hl'⟩ : ∃ l, l = dg v.natAbs := ⟨_, rfl⟩
  have hwl : Words l := by rw [hl']; exact words_dg _
  have hvl : wval l = v.natAbs := by rw [hl', wval_dg]
  rw [← hl'] at a1 hra hl
  clear hl' hx a0
  have HW := Lib.hid hwl; have HV := Lib.hid hvl; have HR := Lib.hid hra; have HT := Lib.hid hT; have H0 := Lib.hid h0; clear hwl hvl hra hT h0
  go_enter Tryz.func99, Tryz.ntmps99
  go_wp2
  go_loopw [3] (fun iv wr => ∃ k : Nat, k ≤ l.length ∧ iv = .int .i64 (k : Int) ∧ (∀ j, j < k → l.getD j 0 = 0) ∧ w = wr) (fun iv _ => l.length - (intOf iv).toNat)
  case atStart => exact ⟨0, Nat.zero_le _, rfl, fun j hj => absurd hj (Nat.not_lt_zero _), rfl⟩
  case round =>
    obtain ⟨k, hk, rfl, hzs, rfl⟩ := hrel
    have HZ := Lib.hid hzs; clear hzs
    by_cases hlt : k < l.length
    · obtain ⟨g, rfl, hg, hc⟩ := HR.out.cell hlt
      by_cases hx0 : l.getD k 0 = 0
      · rw [hx0] at hc
        have HZ2 := Lib.hid (show ∀ j, j < k + 1 → l.getD j 0 = 0 from fun j hj => (Nat.lt_succ_iff_lt_or_eq.1 hj).elim (HZ.out j) (fun h => h ▸ hx0))
        clear hx0
        go_wp2
        go_roundw
        case rel => exact ⟨k + 1, hlt, by go_num, HZ2.out, (by first | rfl | trivial)⟩
        case measure => first | (simp [intOf]; done) | (simp [intOf]; omega)
      · obtain ⟨m, hm⟩ := tzb_split HW.out hlt HZ.out hx0
        rw [HV.out] at hm
        have hx32 := HW.out.getD k
        obtain ⟨_, _, hct⟩ := ctz32_split hx0 hx32
        obtain ⟨y, hy⟩ : ∃ y, y = l.getD k 0 := ⟨_, rfl⟩
        rw [← hy] at hc hm hx0 hx32 hct
        have TZ := Lib.hid (fun w hT => bits_tz32 y hx0 hx32 w hT)
        have n0 : ((y : Int) != 0) = true := by rw [bne_iff_ne]; omega
        obtain ⟨c, hc2⟩ : ∃ c, c = Lib.ctz 32 y := ⟨_, rfl⟩
        rw [← hc2] at TZ hm hct
        have HM := Lib.hid hm; clear hc2 hm hy hx0 hx32
        have e1 : IntKind.i64.wrap (32 * (k : Int)) = 32 * (k : Int) := IntWalk.i64_in _ ⟨by omega, by omega⟩
        have e2 : IntKind.i64.wrap (32 * (k : Int) + (c : Int)) = 32 * (k : Int) + (c : Int) := IntWalk.i64_in _ ⟨by omega, by omega⟩
        have e3 : IntKind.u64.wrap (32 * (k : Int) + (c : Int)) = ((32 * k + c : Nat) : Int) := by rw [IntKind.wrap_u64]; omega
        go_wp2_with fail
        refine (TZ.out _ HT.out).mono ?_; rintro e5 w5 ⟨rfl, rfl⟩
        go_wp2
        go_ret
        exact ⟨32 * k + c, m, rfl, HM.out, by omega, rfl⟩
    · obtain rfl : k = l.length := by omega
      exfalso
      have h1 := lo_none l.length HZ.out
      rw [lo_all l (Nat.le_refl _), HV.out] at h1
      exact H0.out (by omega)
end Go.Proofs.YtjmaggfddinbkaaGreatDoor
end

section
namespace Go.Proofs.YtjmaggfddinbkaaGreatDoor
open Go.RowKit
theorem odd_part {n : Int} {t m : Nat} (h : n.natAbs = 2 ^ t * (2 * m + 1)) : ∃ r : Int, n = r * 2 ^ t ∧ r.natAbs = 2 * m + 1 := by
  rcases Int.natAbs_eq n with e | e
  · refine ⟨((2 * m + 1 : Nat) : Int), ?_, Int.natAbs_natCast _⟩
    rw [e, h, Int.natCast_mul, cast_pow, Int.mul_comm]
  · refine ⟨-((2 * m + 1 : Nat) : Int), ?_, by rw [Int.natAbs_neg, Int.natAbs_natCast]⟩
    rw [e, h, Int.natCast_mul, cast_pow, Int.neg_mul, Int.mul_comm]
def OddR (W : World) (n E : Int) (e : Ending) (w' : World) : Prop := ∃ (t m : Nat) (r : Int), n = r * 2 ^ t ∧ r.natAbs = 2 * m + 1 ∧ ExR W r (E + t) e w'
set_option maxRecDepth 100000 in
set_option maxHeartbeats 600000 in
theorem Xodd_zero (E : Int) (g : Nat) (w : World) (hI : IntB w g 0) : Calls Tryz.prog 45 #[.agg #[.pointer (some ⟨g, 0, none⟩), .int .i64 E]] w (ExR w 0 0) := by
  have S1 := Lib.hid (fun w h => Bsign g 0 w h)
  have J := Lib.hid (hI.of (((Within.refl w).alloc (.cells #[.pointer (some ⟨g, 0, none⟩), .int .i64 E] 53)).alloc (.cells #[.pointer none, .int .i64 0] 53)))
  clear hI
  have hm := IntB.made ((w.alloc (.cells #[.pointer (some ⟨g, 0, none⟩), .int .i64 E] 53)).alloc (.cells #[.pointer (some ⟨(w.heap.size + 2), 0, none⟩), .int .i64 0] 53))
  have hs : ((w.alloc (.cells #[.pointer (some ⟨g, 0, none⟩), .int .i64 E] 53)).alloc (.cells #[.pointer (some ⟨(w.heap.size + 2), 0, none⟩), .int .i64 0] 53)).heap.size = w.heap.size + 2 := by simp
  rw [hs] at hm
  have HM := Lib.hid hm; clear hm hs
  go_enter Tryz.func45, Tryz.ntmps45
  go_wp2_with fail
  refine (S1.out _ J.out).mono ?_; rintro e1 w1 ⟨rfl, rfl⟩
  go_wp2
  refine bodyPost_ret (v := .agg #[.pointer (some ⟨(w.heap.size + 2), 0, none⟩), .int .i64 0]) (by simp [results, Tryz.results45, go_sem]) rfl ⟨_, rfl, HM.out, by omega, (by repeat (first | with_reducible exact Within.refl _ | with_reducible assumption | with_reducible refine Within.alloc ?_ _ | with_reducible refine Within.drew ?_ | with_reducible refine Within.drewN ?_ _ | with_reducible refine Within.setCell ?_ (by first | (simp; done) | (simp; omega)) _ | with_reducible refine Within.trans ?_ (by assumption)))⟩
theorem pow_lim {t n K : Nat} (h : 2 ^ t ≤ n) (hl : (dg n).length ≤ K) : t ≤ 32 * K := by
  have h1 := Nat.lt_of_lt_of_le (lt_of_dg n) (Nat.pow_le_pow_right (by decide) hl)
  have h3 : (2 : Nat) ^ t < 2 ^ (32 * K) := by rw [Nat.pow_mul]; exact Nat.lt_of_le_of_lt h h1
  exact Nat.le_of_lt ((Nat.pow_lt_pow_iff_right (by decide)).1 h3)
set_option maxRecDepth 100000 in
set_option maxHeartbeats 600000 in
theorem Xodd (n E : Int) (g : Nat) (h0 : n ≠ 0) (hl : (dg n.natAbs).length ≤ 1000) (hE : -100000 ≤ E ∧ E ≤ 100000) (w : World) (hT : Tab32 w) (hI : IntB w g n) : Calls Tryz.prog 45 #[.agg #[.pointer (some ⟨g, 0, none⟩), .int .i64 E]] w (OddR w n E) := by
  have S1 := Lib.hid (fun w h => Bsign g n w h)
  have TB := Lib.hid (fun w hT h => Btzb g n h0 (Nat.le_trans hl (by decide)) w hT h)
  have J := Lib.hid (hI.of (((Within.refl w).alloc (.cells #[.pointer (some ⟨g, 0, none⟩), .int .i64 E] 53)).alloc (.cells #[.pointer none, .int .i64 0] 53)))
  have HT := Lib.hid (hT.of (((Within.refl w).alloc (.cells #[.pointer (some ⟨g, 0, none⟩), .int .i64 E] 53)).alloc (.cells #[.pointer none, .int .i64 0] 53)))
  have d1 : (n.sign == 0) = false := by rw [beq_eq_false_iff_ne]; intro h; exact h0 (Int.sign_eq_zero_iff_zero.1 h)
  have H0 := Lib.hid h0; have HL := Lib.hid hl; clear hI hT h0 hl
  go_enter Tryz.func45, Tryz.ntmps45
  go_wp2_with fail
  refine (S1.out _ J.out).mono ?_; rintro e1 w1 ⟨rfl, rfl⟩
  go_wp2_with fail
  refine (TB.out _ HT.out J.out).mono ?_; rintro e2 w2 ⟨t, m, rfl, hm, ht, rfl⟩
  obtain ⟨r, hr1, hr2⟩ := odd_part hm
  have HR := Lib.hid (And.intro hr1 hr2)
  have htl : t ≤ 32000 := pow_lim (K := 1000) (by rw [hm]; exact Nat.le_mul_of_pos_right _ (by omega)) HL.out
  have RS := Lib.hid (fun z w hz hx => BrshD z g t n r H0.out hr1 (Nat.le_trans HL.out (by decide)) (by omega) w hz hx)
  have ec : IntKind.i64.wrap (t : Int) = (t : Int) := IntWalk.i64_in _ ⟨by omega, by omega⟩
  have ea : IntKind.i64.wrap (E + (t : Int)) = E + (t : Int) := IntWalk.i64_in _ ⟨by omega, by omega⟩
  clear hr1 hr2 hm ht hE htl
  go_wp2
  refine wp_region_schG (fun W => W.cell? ⟨w.heap.size, 0, none⟩ = some (.pointer (some ⟨g, 0, none⟩)) ∧ W.cell? ⟨w.heap.size, 1, none⟩ = some (.int .i64 E) ∧ W.heap[w.heap.size + 1]? = some (.cells #[.pointer none, .int .i64 0] 53 (0, 0)) ∧ IntB W g n ∧ w.heap.size < W.heap.size ∧ w.heap.size + 1 < W.heap.size ∧ Within w W) 11 (.firm 1 (.firm 2 (.firm 3 (.firm 5 (.firm 6 (.firm 7 (.firm 8 (.firm 9 (.one 0 (.one 4 (.firm 10 (.one 11 .nil)))))))))))) (by kernel_rfl) (by kernel_rfl) ⟨by go_simp, by go_simp, (by have := heap_alloc_new (w.alloc (.cells #[.pointer (some ⟨g, 0, none⟩), .int .i64 E] 53)) (.cells #[.pointer none, .int .i64 0] 53); simpa using this), J.out, by first | (simp; done) | (simp; omega), by first | (simp; done) | (simp; omega), (by repeat (first | with_reducible exact Within.refl _ | with_reducible assumption | with_reducible refine Within.alloc ?_ _ | with_reducible refine Within.drew ?_ | with_reducible refine Within.drewN ?_ _ | with_reducible refine Within.setCell ?_ (by first | (simp; done) | (simp; omega)) _ | with_reducible refine Within.trans ?_ (by assumption)))⟩ ?_
  rintro w0 ⟨c0, c1, hz, hI, l0, l1, hw0⟩
  try simp only [Act.put, List.setIfInBounds_toArray, List.set_cons_zero, List.set_cons_succ]
  apply sch_firm rfl rfl (by repeat (first | with_reducible exact Within.refl _ | with_reducible assumption | with_reducible refine Within.alloc ?_ _ | with_reducible refine Within.drew ?_ | with_reducible refine Within.drewN ?_ _ | with_reducible refine Within.setCell ?_ (by first | (simp; done) | (simp; omega)) _ | with_reducible refine Within.trans ?_ (by assumption)))
  · intro wq hq
    have hcq := hq.cells
    clear hq
    go_simp
    first | rfl | (trace_state; fail)
  try simp only [Act.put, List.setIfInBounds_toArray, List.set_cons_zero, List.set_cons_succ]
  apply sch_firm rfl rfl (by repeat (first | with_reducible exact Within.refl _ | with_reducible assumption | with_reducible refine Within.alloc ?_ _ | with_reducible refine Within.drew ?_ | with_reducible refine Within.drewN ?_ _ | with_reducible refine Within.setCell ?_ (by first | (simp; done) | (simp; omega)) _ | with_reducible refine Within.trans ?_ (by assumption)))
  · intro wq hq
    have hcq := hq.cells
    clear hq
    go_simp
    first | rfl | (trace_state; fail)
  try simp only [Act.put, List.setIfInBounds_toArray, List.set_cons_zero, List.set_cons_succ]
  apply sch_firm rfl rfl (by repeat (first | with_reducible exact Within.refl _ | with_reducible assumption | with_reducible refine Within.alloc ?_ _ | with_reducible refine Within.drew ?_ | with_reducible refine Within.drewN ?_ _ | with_reducible refine Within.setCell ?_ (by first | (simp; done) | (simp; omega)) _ | with_reducible refine Within.trans ?_ (by assumption)))
  · intro wq hq
    have hcq := hq.cells
    clear hq
    go_simp
    first | rfl | (trace_state; fail)
  try simp only [Act.put, List.setIfInBounds_toArray, List.set_cons_zero, List.set_cons_succ]
  apply sch_firm rfl rfl (by repeat (first | with_reducible exact Within.refl _ | with_reducible assumption | with_reducible refine Within.alloc ?_ _ | with_reducible refine Within.drew ?_ | with_reducible refine Within.drewN ?_ _ | with_reducible refine Within.setCell ?_ (by first | (simp; done) | (simp; omega)) _ | with_reducible refine Within.trans ?_ (by assumption)))
  · intro wq hq
    have hcq := hq.cells
    clear hq
    go_simp
    first | rfl | (trace_state; fail)
  try simp only [Act.put, List.setIfInBounds_toArray, List.set_cons_zero, List.set_cons_succ]
  apply sch_firm rfl rfl (by repeat (first | with_reducible exact Within.refl _ | with_reducible assumption | with_reducible refine Within.alloc ?_ _ | with_reducible refine Within.drew ?_ | with_reducible refine Within.drewN ?_ _ | with_reducible refine Within.setCell ?_ (by first | (simp; done) | (simp; omega)) _ | with_reducible refine Within.trans ?_ (by assumption)))
  · intro wq hq
    have hcq := hq.cells
    clear hq
    go_simp
    first | rfl | (trace_state; fail)
  try simp only [Act.put, List.setIfInBounds_toArray, List.set_cons_zero, List.set_cons_succ]
  apply sch_firm rfl rfl (by repeat (first | with_reducible exact Within.refl _ | with_reducible assumption | with_reducible refine Within.alloc ?_ _ | with_reducible refine Within.drew ?_ | with_reducible refine Within.drewN ?_ _ | with_reducible refine Within.setCell ?_ (by first | (simp; done) | (simp; omega)) _ | with_reducible refine Within.trans ?_ (by assumption)))
  · intro wq hq
    have hcq := hq.cells
    clear hq
    go_simp
    first | rfl | (trace_state; fail)
  try simp only [Act.put, List.setIfInBounds_toArray, List.set_cons_zero, List.set_cons_succ]
  apply sch_firm rfl rfl (by repeat (first | with_reducible exact Within.refl _ | with_reducible assumption | with_reducible refine Within.alloc ?_ _ | with_reducible refine Within.drew ?_ | with_reducible refine Within.drewN ?_ _ | with_reducible refine Within.setCell ?_ (by first | (simp; done) | (simp; omega)) _ | with_reducible refine Within.trans ?_ (by assumption)))
  · intro wq hq
    have hcq := hq.cells
    clear hq
    go_simp
    first | rfl | (trace_state; fail)
  try simp only [Act.put, List.setIfInBounds_toArray, List.set_cons_zero, List.set_cons_succ]
  apply sch_firm rfl rfl (by repeat (first | with_reducible exact Within.refl _ | with_reducible assumption | with_reducible refine Within.alloc ?_ _ | with_reducible refine Within.drew ?_ | with_reducible refine Within.drewN ?_ _ | with_reducible refine Within.setCell ?_ (by first | (simp; done) | (simp; omega)) _ | with_reducible refine Within.trans ?_ (by assumption)))
  · intro wq hq
    have hcq := hq.cells
    clear hq
    go_simp
    first | rfl | (trace_state; fail)
  try simp only [Act.put, List.setIfInBounds_toArray, List.set_cons_zero, List.set_cons_succ]
  refine sch_one rfl rfl (fun K hK => ?_)
  go_simp
  refine hK _ _ (fun _ => (by repeat (first | with_reducible exact Within.refl _ | with_reducible assumption | with_reducible refine Within.alloc ?_ _ | with_reducible refine Within.drew ?_ | with_reducible refine Within.drewN ?_ _ | with_reducible refine Within.setCell ?_ (by first | (simp; done) | (simp; omega)) _ | with_reducible refine Within.trans ?_ (by assumption)))) ?_
  clear hK K
  try simp only [Act.put, List.setIfInBounds_toArray, List.set_cons_zero, List.set_cons_succ]
  refine sch_one rfl rfl (fun K hK => ?_)
  go_simp
  refine (RS.out _ _ (by exact (IntB.made w0).ty) (IntB.of hI (by repeat (first | with_reducible exact Within.refl _ | with_reducible assumption | with_reducible refine Within.alloc ?_ _ | with_reducible refine Within.drew ?_ | with_reducible refine Within.drewN ?_ _ | with_reducible refine Within.setCell ?_ (by first | (simp; done) | (simp; omega)) _ | with_reducible refine Within.trans ?_ (by assumption))))).mono ?_; rintro e5 w5 ⟨rfl, hJ, hG⟩
  have hv5 : Within w0 w5 := Within.grown (by repeat (first | with_reducible exact Within.refl _ | with_reducible assumption | with_reducible refine Within.alloc ?_ _ | with_reducible refine Within.drew ?_ | with_reducible refine Within.drewN ?_ _ | with_reducible refine Within.setCell ?_ (by first | (simp; done) | (simp; omega)) _ | with_reducible refine Within.trans ?_ (by assumption))) hG (by simp)
  have hz5 := (hv5.block _ l1).trans hz
  obtain ⟨y0, y1, yf⟩ := ex_cells hz5
  have yl := Nat.lt_of_lt_of_le l1 hv5.sizes
  refine hK _ _ (fun _ => (by repeat (first | with_reducible exact Within.refl _ | with_reducible assumption | with_reducible refine Within.alloc ?_ _ | with_reducible refine Within.drew ?_ | with_reducible refine Within.drewN ?_ _ | with_reducible refine Within.setCell ?_ (by first | (simp; done) | (simp; omega)) _ | with_reducible refine Within.trans ?_ (by assumption)))) ?_
  clear hK K
  try simp only [Act.put, List.setIfInBounds_toArray, List.set_cons_zero, List.set_cons_succ]
  apply sch_firm rfl rfl (by repeat (first | with_reducible exact Within.refl _ | with_reducible assumption | with_reducible refine Within.alloc ?_ _ | with_reducible refine Within.drew ?_ | with_reducible refine Within.drewN ?_ _ | with_reducible refine Within.setCell ?_ (by first | (simp; done) | (simp; omega)) _ | with_reducible refine Within.trans ?_ (by assumption)))
  · intro wq hq
    have hcq := hq.cells
    clear hq
    go_simp
    first | rfl | (trace_state; fail)
  try simp only [Act.put, List.setIfInBounds_toArray, List.set_cons_zero, List.set_cons_succ]
  refine sch_one rfl rfl (fun K hK => ?_)
  go_simp
  refine hK _ _ (fun h => absurd h (by decide)) ?_
  clear hK K
  try simp only [Act.put, List.setIfInBounds_toArray, List.set_cons_zero, List.set_cons_succ]
  refine sch_nil ?_
  obtain ⟨r0, r1, rI⟩ := ex_set (E := E + t) hz5 hJ (show w0.heap.size ≠ w.heap.size + 1 by omega)
  have rl : w.heap.size + 1 < w5.heap.size := yl
  have RO := Lib.hid rI; clear rI
  go_wp2
  refine bodyPost_ret (v := .agg #[.pointer (some ⟨w0.heap.size, 0, none⟩), .int .i64 (E + t)]) (by simp [results, Tryz.results45, go_sem, r0, r1, rl]) rfl ⟨t, m, r, HR.out.1, HR.out.2, w0.heap.size, rfl, RO.out, hw0.sizes, ?_⟩
  exact (((hw0.trans hv5).setCell (by show _ ≤ w.heap.size + 1; omega) _).setCell (by show _ ≤ w.heap.size + 1; omega) _)
end Go.Proofs.YtjmaggfddinbkaaGreatDoor
end

section
namespace Go.Proofs.YtjmaggfddinbkaaGreatDoor
open Go.RowKit
theorem dg_small {n k : Nat} (h : n < 2 ^ (32 * k)) : (dg n).length ≤ k := dg_len_le (by rw [show (4294967296 : Nat) = 2 ^ 32 from rfl, ← Nat.pow_mul]; exact h)
set_option maxRecDepth 100000 in
set_option maxHeartbeats 600000 in
theorem Bint64_neg (x : Nat) (v : Int) (h : v < 0) (h1 : -9223372036854775808 ≤ v) (h2 : v ≤ 9223372036854775807) (w : World) (hx : IntB w x v) : Calls Tryz.prog 165 #[.pointer (some ⟨x, 0, none⟩)] w (fun e w' => e = .returned (.int .i64 v) ∧ w = w') := by
  have h64 : (2 : Nat) ^ (32 * 2) = 18446744073709551616 := by decide
  have hlen : (dg v.natAbs).length ≤ 1000000 := Nat.le_trans (dg_small (k := 2) (by omega)) (by decide)
  clear h64
  have UI := Lib.hid (fun w' (hx' : IntB w' x v) => Buint64 x v hlen w' hx')
  clear hlen
  have g1 : IntKind.u64.wrap (-((v.natAbs % 18446744073709551616 : Nat) : Int)) = v + 18446744073709551616 := by rw [IntKind.wrap_u64]; omega
  have g2 : IntKind.i64.wrap (v + 18446744073709551616) = v := by rw [IntKind.wrap_i64]; omega
  have hneg : (decide (v < 0)) = true := decide_eq_true h
  obtain ⟨A, c, c0, c1, _⟩ := hx.rd
  rw [hneg] at c0
  generalize hu : ((v.natAbs % 18446744073709551616 : Nat) : Int) = u at *
  have HX := Lib.hid hx; clear hx c1 h h1 h2 hneg hu
  go_enter Tryz.func165, Tryz.ntmps165
  go_wp2_with fail
  refine (UI.out _ HX.out).mono ?_; rintro e1 w1 ⟨rfl, rfl⟩
  go_wp2
  go_ret
  exact ⟨rfl, rfl⟩
set_option maxRecDepth 100000 in
set_option maxHeartbeats 600000 in
theorem Bint64_pos (x : Nat) (v : Int) (h : 0 ≤ v) (h1 : -9223372036854775808 ≤ v) (h2 : v ≤ 9223372036854775807) (w : World) (hx : IntB w x v) : Calls Tryz.prog 165 #[.pointer (some ⟨x, 0, none⟩)] w (fun e w' => e = .returned (.int .i64 v) ∧ w = w') := by
  have h64 : (2 : Nat) ^ (32 * 2) = 18446744073709551616 := by decide
  have hlen : (dg v.natAbs).length ≤ 1000000 := Nat.le_trans (dg_small (k := 2) (by omega)) (by decide)
  clear h64
  have UI := Lib.hid (fun w' (hx' : IntB w' x v) => Buint64 x v hlen w' hx')
  clear hlen
  have g2 : IntKind.i64.wrap ((v.natAbs % 18446744073709551616 : Nat) : Int) = v := by rw [IntKind.wrap_i64]; omega
  have hneg : (decide (v < 0)) = false := decide_eq_false (by omega)
  obtain ⟨A, c, c0, c1, _⟩ := hx.rd
  rw [hneg] at c0
  generalize hu : ((v.natAbs % 18446744073709551616 : Nat) : Int) = u at *
  have HX := Lib.hid hx; clear hx c1 h h1 h2 hneg hu
  go_enter Tryz.func165, Tryz.ntmps165
  go_wp2_with fail
  refine (UI.out _ HX.out).mono ?_; rintro e1 w1 ⟨rfl, rfl⟩
  go_wp2
  go_ret
  exact ⟨rfl, rfl⟩
theorem Bint64 (x : Nat) (v : Int) (h1 : -9223372036854775808 ≤ v) (h2 : v ≤ 9223372036854775807) (w : World) (hx : IntB w x v) : Calls Tryz.prog 165 #[.pointer (some ⟨x, 0, none⟩)] w (fun e w' => e = .returned (.int .i64 v) ∧ w = w') := by
  rcases Int.lt_or_le v 0 with h | h
  · exact Bint64_neg x v h h1 h2 w hx
  · exact Bint64_pos x v h h1 h2 w hx
theorem Brsh_any (z x n : Nat) (v : Int) (hl : (dg v.natAbs).length ≤ 1000000) (hn : n ≤ 40000000) (w : World) (hz : IntTy w z) (hx : IntB w x v) : Calls Tryz.prog 100 #[.pointer (some ⟨z, 0, none⟩), .pointer (some ⟨x, 0, none⟩), .int .u64 (n : Int)] w (PutI w z (v / 2 ^ n)) := by
  rcases Int.lt_or_le v 0 with g | g
  · obtain ⟨A, ca, a0, a1, hra⟩ := hx.rd
    rw [decide_eq_true g] at a0
    have h1 := Brsh_neg z x n v.natAbs (by omega) A ca hl hn w hz a0 a1 hra
    have e : -(((v.natAbs - 1) / 2 ^ n + 1 : Nat) : Int) = v / 2 ^ n := by
      obtain ⟨a, rfl⟩ : ∃ a, v = Int.negSucc a := by
        cases v with
        | ofNat a => exact absurd g (by simp)
        | negSucc a => exact ⟨a, rfl⟩
      rw [Int.negSucc_ediv _ (Int.pow_pos (by decide)), show (Int.negSucc a).natAbs = a + 1 from rfl, Nat.add_sub_cancel, ← cast_pow, Int.natCast_add, Int.natCast_ediv]
      rfl
    rw [e] at h1
    exact h1
  · have h1 := Brsh z x n v.natAbs (Nat.le_trans hl (by decide)) hn w hz (by rw [Int.natAbs_of_nonneg g]; exact hx)
    have e : ((v.natAbs / 2 ^ n : Nat) : Int) = v / 2 ^ n := by rw [Int.natCast_ediv, Int.natAbs_of_nonneg g, cast_pow]
    rw [e] at h1
    exact h1
set_option maxRecDepth 100000 in
set_option maxHeartbeats 600000 in
theorem Bbit_neg_one (x a : Nat) (h0 : 0 < a) (A : Option Addr) (ca : Nat) (ha : (dg a).length ≤ 1000000) (hd : (dg (a - 1)).length = 0) (w : World) (a0 : w.cell? ⟨x, 0, none⟩ = some (.bool true)) (a1 : w.cell? ⟨x, 1, none⟩ = some (.slice A (dg a).length ca)) (hra : RowAt w A (dg a)) : Calls Tryz.prog 179 #[.pointer (some ⟨x, 0, none⟩), .int .i64 0] w (fun e w' => e = .returned (.int .u64 1) ∧ Within w w') := by
  have HRA := Lib.hid hra; clear hra
  have MI := Lib.hid (fun w (Bv : Option Addr) (hra : RowAt w A (dg a)) (hrb : RowAt w Bv [1]) => (show Calls Tryz.prog 133 #[.slice A (dg a).length ca, .slice Bv 1 1] w (RetW w (a - 1)) from by
    have := Bminus a 1 A Bv ca 1 (Nat.le_trans ha (by decide)) h0 w hra (by rw [dg_one]; exact hrb)
    rw [dg_one] at this
    exact this))
  have HD := Lib.hid hd; clear hd
  clear h0 ha
  have hw1 : Within w (w.alloc (.cells #[.int .u32 1] 133)) := (Within.refl w).alloc _
  have hx := World.block_lt_of_cell? _ _ a0
  go_enter Tryz.func179, Tryz.ntmps179
  go_wp2_with fail
  refine (MI.out _ _ (HRA.out.of hw1) (OwnW.one w).at).mono ?_; rintro e2 w2 ⟨A2, c2, rfl, hc2, hr2, hb2⟩
  have hw2 := hw1.trans hb2
  have b0 := (hw2.cells _ _ hx).trans a0
  rw [HD.out]
  clear hr2
  go_wp2
  go_ret
  exact ⟨ret_int (by first | rfl | assumption | omega), hw2⟩
set_option maxRecDepth 100000 in
set_option maxHeartbeats 600000 in
theorem Bbit_neg_more (x a : Nat) (h0 : 0 < a) (A : Option Addr) (ca : Nat) (ha : (dg a).length ≤ 1000000) (k t : Nat) (hd : (dg (a - 1)).length = k + 1) (hk : k ≤ 1000000) (htt : (dg (a - 1)).getD 0 0 = t) (ht : t < 4294967296) (w : World) (a0 : w.cell? ⟨x, 0, none⟩ = some (.bool true)) (a1 : w.cell? ⟨x, 1, none⟩ = some (.slice A (dg a).length ca)) (hra : RowAt w A (dg a)) : Calls Tryz.prog 179 #[.pointer (some ⟨x, 0, none⟩), .int .i64 0] w (fun e w' => e = .returned (.int .u64 (1 - (t % 2 : Nat) : Int)) ∧ Within w w') := by
  have HRA := Lib.hid hra; clear hra
  have MI := Lib.hid (fun w (Bv : Option Addr) (hra : RowAt w A (dg a)) (hrb : RowAt w Bv [1]) => (show Calls Tryz.prog 133 #[.slice A (dg a).length ca, .slice Bv 1 1] w (RetW w (a - 1)) from by
    have := Bminus a 1 A Bv ca 1 (Nat.le_trans ha (by decide)) h0 w hra (by rw [dg_one]; exact hrb)
    rw [dg_one] at this
    exact this))
  have ga := u32_and1 t ht
  have g3 : IntKind.u32.wrap (1 - (((t % 2 : Nat)) : Int)) = 1 - ((t % 2 : Nat) : Int) := by rw [IntKind.wrap_u32]; omega
  have g4 : IntKind.u64.wrap (1 - ((t % 2 : Nat) : Int)) = 1 - ((t % 2 : Nat) : Int) := by rw [IntKind.wrap_u64]; omega
  have HD := Lib.hid hd; have HTT := Lib.hid htt; clear hd htt ht
  generalize ht2 : ((t % 2 : Nat) : Int) = t2 at *
  clear ht2
  clear h0 ha
  have hw1 : Within w (w.alloc (.cells #[.int .u32 1] 133)) := (Within.refl w).alloc _
  have hx := World.block_lt_of_cell? _ _ a0
  go_enter Tryz.func179, Tryz.ntmps179
  go_wp2_with fail
  refine (MI.out _ _ (HRA.out.of hw1) (OwnW.one w).at).mono ?_; rintro e2 w2 ⟨A2, c2, rfl, hc2, hr2, hb2⟩
  have hw2 := hw1.trans hb2
  have b0 := (hw2.cells _ _ hx).trans a0
  obtain ⟨g, rfl, _, ct⟩ := hr2.cell (i := 0) (by rw [HD.out]; omega)
  rw [HTT.out] at ct
  rw [HD.out]
  clear hr2
  go_wp2
  go_ret
  exact ⟨ret_int (by first | rfl | assumption | omega), hw2⟩
theorem Bbit_any (x : Nat) (v : Int) (hl : (dg v.natAbs).length ≤ 1000000) (w : World) (hx : IntB w x v) : Calls Tryz.prog 179 #[.pointer (some ⟨x, 0, none⟩), .int .i64 0] w (fun e w' => e = .returned (.int .u64 (v % 2)) ∧ Within w w') := by
  rcases Int.lt_or_le v 0 with g | g
  · obtain ⟨A, ca, a0, a1, hra⟩ := hx.rd
    rw [decide_eq_true g] at a0
    rcases Nat.eq_zero_or_pos (dg (v.natAbs - 1)).length with h | h
    · refine (Bbit_neg_one x v.natAbs (by omega) A ca hl h w a0 a1 hra).mono fun e w' h' => ⟨h'.1.trans (ret_int ?_), h'.2⟩
      have : v.natAbs - 1 = 0 := by
        rcases Nat.eq_zero_or_pos (v.natAbs - 1) with h2 | h2
        · exact h2
        · have := dg_len_pos (n := v.natAbs - 1) (by omega); omega
      omega
    · obtain ⟨k, hk⟩ : ∃ k, (dg (v.natAbs - 1)).length = k + 1 := ⟨_, (Nat.succ_pred_eq_of_pos h).symm⟩
      have hk2 : k ≤ 1000000 := by have := dg_len_mono (Nat.sub_le v.natAbs 1); omega
      have ht := dg_at0 (v.natAbs - 1)
      refine (Bbit_neg_more x v.natAbs (by omega) A ca hl k _ hk hk2 ht (by omega) w a0 a1 hra).mono fun e w' h' => ⟨h'.1.trans (ret_int ?_), h'.2⟩
      omega
  · refine (Bbit x v.natAbs hl w (by rw [Int.natAbs_of_nonneg g]; exact hx)).mono fun e w' h => ⟨h.1.trans (ret_int ?_), by rw [← h.2]; exact Within.refl w⟩
    omega
end Go.Proofs.YtjmaggfddinbkaaGreatDoor
end

section
namespace Go.Proofs.YtjmaggfddinbkaaGreatDoor
open Go.RowKit
def nearZ (num : Int) (k : Nat) : Int := if num - num / 2 ^ k * 2 ^ k = 0 then num / 2 ^ k else if 0 < cmpI (num - num / 2 ^ k * 2 ^ k) (2 ^ (k - 1)) ∨ (cmpI (num - num / 2 ^ k * 2 ^ k) (2 ^ (k - 1)) = 0 ∧ num / 2 ^ k % 2 = 1) then num / 2 ^ k + 1 else num / 2 ^ k
theorem rest_len {num : Int} {k : Nat} (hl : (dg num.natAbs).length ≤ 1000) : (dg (num / 2 ^ k).natAbs).length ≤ 1000 ∧ (dg (num - num / 2 ^ k * 2 ^ k).natAbs).length ≤ k + 1 := by
  refine ⟨Nat.le_trans (dg_len_mono (Int.natAbs_ediv_le_natAbs _ _)) hl, dg_small ?_⟩
  have hp : (0 : Int) < 2 ^ k := Int.pow_pos (by decide)
  have e := Int.emod_def num (2 ^ k)
  have h1 := Int.emod_nonneg num (Int.ne_of_gt hp)
  have h2 := Int.emod_lt_of_pos num hp
  rw [Int.mul_comm] at e
  rw [← e]
  have h3 : (num % 2 ^ k).natAbs < 2 ^ k := by
    have := cast_pow k; omega
  exact Nat.lt_trans h3 (Nat.pow_lt_pow_right (by decide) (by omega))
theorem ty_at (w : World) (z : Nat) (h : z = w.heap.size) : IntTy (w.alloc (.cells #[.bool false, .slice none 0 0] 102)) z := by subst h; exact (IntB.made w).ty
theorem shl_len {q : Int} {k K J : Nat} (h : (dg q.natAbs).length ≤ K) (hk : k ≤ 32 * J) : (dg (q * 2 ^ k).natAbs).length ≤ K + J := by
  rw [natAbs_mul_pow]
  refine dg_small ?_
  have h1 : q.natAbs < 2 ^ (32 * K) := by
    rw [Nat.pow_mul]
    exact Nat.lt_of_lt_of_le (lt_of_dg _) (Nat.pow_le_pow_right (by decide) h)
  rw [Nat.mul_add, Nat.pow_add]
  exact Nat.lt_of_lt_of_le (Nat.mul_lt_mul_of_pos_right h1 (Nat.two_pow_pos _)) (Nat.mul_le_mul_left _ (Nat.pow_le_pow_right (by decide) hk))
set_option maxRecDepth 100000 in
set_option maxHeartbeats 600000 in
theorem Near_up (num : Int) (g s : Nat) (hs : s ≤ 16000) (hl : (dg num.natAbs).length ≤ 1000) (w : World) (hI : IntB w g num) : Calls Tryz.prog 164 #[.pointer (some ⟨g, 0, none⟩), .int .i64 (-(s : Int)), .int .i64 0] w (NewI w (num * 2 ^ s)) := by
  have HI := Lib.hid hI; clear hI
  have SH := Lib.hid (fun z w hz hx => Blsh z g s num (Nat.le_trans hl (by decide)) (by omega) w hz hx)
  obtain ⟨q, hq⟩ : ∃ q, q = num * 2 ^ s := ⟨_, rfl⟩
  rw [← hq] at SH ⊢
  have d1 : decide (-(s : Int) ≤ 0) = true := decide_eq_true (by omega)
  have g1 : IntKind.i64.wrap (- -(s : Int)) = (s : Int) := by rw [Int.neg_neg]; exact IntWalk.i64_in _ ⟨by omega, by omega⟩
  have g2 : IntKind.u64.wrap (s : Int) = (s : Int) := IntWalk.u64_in _ ⟨by omega, by omega⟩
  have g3 : IntKind.i64.wrap (s : Int) = (s : Int) := IntWalk.i64_in _ ⟨by omega, by omega⟩
  clear hs hl hq
  go_enter Tryz.func164, Tryz.ntmps164
  go_wp2_with fail
  refine (SH.out _ _ (ty_at _ _ (by first | rfl | (simp; done) )) (HI.out.of (by repeat (first | with_reducible exact Within.refl _ | with_reducible assumption | with_reducible refine Within.alloc ?_ _ | with_reducible refine Within.drew ?_ | with_reducible refine Within.drewN ?_ _ | with_reducible refine Within.setCell ?_ (by first | (simp; done) | (simp; omega)) _ | with_reducible refine Within.trans ?_ (by assumption))))).mono ?_; rintro e1 w1 ⟨rfl, hI1, hG1⟩
  have hb1 : Within w w1 := Within.grown (by repeat (first | with_reducible exact Within.refl _ | with_reducible assumption | with_reducible refine Within.alloc ?_ _ | with_reducible refine Within.drew ?_ | with_reducible refine Within.drewN ?_ _ | with_reducible refine Within.setCell ?_ (by first | (simp; done) | (simp; omega)) _ | with_reducible refine Within.trans ?_ (by assumption))) hG1 (by simp)
  clear hG1
  go_wp2
  go_ret
  exact ⟨_, rfl, hI1, by simp, hb1⟩
set_option maxRecDepth 100000 in
set_option maxHeartbeats 600000 in
theorem Near_ex (num : Int) (g k : Nat) (hk0 : 0 < k) (hk : k ≤ 16000) (hl : (dg num.natAbs).length ≤ 1000) (hr : num - num / 2 ^ k * 2 ^ k = 0) (w : World) (hI : IntB w g num) : Calls Tryz.prog 164 #[.pointer (some ⟨g, 0, none⟩), .int .i64 (k : Int), .int .i64 0] w (NewI w (num / 2 ^ k)) := by
  have HI := Lib.hid hI; clear hI
  obtain ⟨hq1, hr1⟩ := rest_len (k := k) hl
  have RS := Lib.hid (fun z w hz hx => Brsh_any z g k num (Nat.le_trans hl (by decide)) (by omega) w hz hx)
  obtain ⟨q, hq⟩ : ∃ q, q = num / 2 ^ k := ⟨_, rfl⟩
  rw [← hq] at RS hr hq1 hr1 ⊢
  have LS := Lib.hid (fun z x w hz hx => Blsh z x k q (Nat.le_trans hq1 (by decide)) (by omega) w hz hx)
  have hpl : (dg (q * 2 ^ k).natAbs).length ≤ 1000000 := Nat.le_trans (shl_len (J := 1000) hq1 (by omega)) (by decide)
  obtain ⟨p, hp⟩ : ∃ p, p = q * 2 ^ k := ⟨_, rfl⟩
  rw [← hp] at LS hr hr1 hpl
  have SU := Lib.hid (fun z y w hz hx hy => BSub z g y num p (Nat.le_trans hl (by decide)) hpl w hz hx hy)
  obtain ⟨r, hrr⟩ : ∃ r, r = num - p := ⟨_, rfl⟩
  rw [← hrr] at SU hr hr1
  have SG := Lib.hid (fun x w hx => Bsign x r w hx)
  have d1 : decide ((k : Int) ≤ 0) = false := decide_eq_false (by omega)
  have g2 : IntKind.u64.wrap (k : Int) = (k : Int) := IntWalk.u64_in _ ⟨by omega, by omega⟩
  have d2 : (r.sign == 0) = true := by rw [hr]; rfl
  generalize ((k : Nat) : Int) = kk at RS LS d1 g2 ⊢
  clear hk hk0 hl hr hq1 hr1 hpl hq hp hrr
  go_enter Tryz.func164, Tryz.ntmps164
  go_wp2_with fail
  refine (RS.out _ _ (ty_at _ _ (by first | rfl | (simp; done) )) (HI.out.of (by repeat (first | with_reducible exact Within.refl _ | with_reducible assumption | with_reducible refine Within.alloc ?_ _ | with_reducible refine Within.drew ?_ | with_reducible refine Within.drewN ?_ _ | with_reducible refine Within.setCell ?_ (by first | (simp; done) | (simp; omega)) _ | with_reducible refine Within.trans ?_ (by assumption))))).mono ?_; rintro e1 w1 ⟨rfl, hI1, hG1⟩
  have hb1 : Within w w1 := Within.grown (by repeat (first | with_reducible exact Within.refl _ | with_reducible assumption | with_reducible refine Within.alloc ?_ _ | with_reducible refine Within.drew ?_ | with_reducible refine Within.drewN ?_ _ | with_reducible refine Within.setCell ?_ (by first | (simp; done) | (simp; omega)) _ | with_reducible refine Within.trans ?_ (by assumption))) hG1 (by simp)
  clear hG1
  have hl1 := hI1.ty.lt
  go_wp2_with fail
  refine (LS.out _ _ _ (ty_at _ _ (by first | rfl | (simp; done) )) (hI1.of (by repeat (first | with_reducible exact Within.refl _ | with_reducible assumption | with_reducible refine Within.alloc ?_ _ | with_reducible refine Within.drew ?_ | with_reducible refine Within.drewN ?_ _ | with_reducible refine Within.setCell ?_ (by first | (simp; done) | (simp; omega)) _ | with_reducible refine Within.trans ?_ (by assumption))))).mono ?_; rintro e2 w2 ⟨rfl, hI2, hG2⟩
  have hv2 := Within.grown ((Within.refl (w1.alloc (.cells #[.bool false, .slice none 0 0] 102))).alloc (.cells #[.bool false, .slice none 0 0] 102)) hG2 (by simp)
  have hb2 : Within w1 w2 := ((Within.refl w1).alloc _).trans hv2
  have hty2 := (IntB.made w1).ty.of hv2
  clear hG2 hv2
  go_wp2_with fail
  refine (SU.out _ _ _ hty2 (HI.out.of (hb1.trans hb2)) hI2).mono ?_; rintro e3 w3 ⟨rfl, hI3, hG3⟩
  have hb3 : Within w1 w3 := Within.grown hb2 hG3 (by simp)
  clear hG3 hI2 hty2 hb2
  have hI1 := hI1.of hb3
  have hb3 := hb1.trans hb3
  go_wp2_with fail
  refine (SG.out _ _ hI3).mono ?_; rintro e4 w4 ⟨rfl, rfl⟩
  go_wp2
  go_ret
  exact ⟨_, rfl, hI1, by omega, hb3⟩
set_option maxRecDepth 100000 in
set_option maxHeartbeats 600000 in
theorem Near_fr_up (num : Int) (g k : Nat) (hk0 : 0 < k) (hk : k ≤ 16000) (hl : (dg num.natAbs).length ≤ 1000) (hr : num - num / 2 ^ k * 2 ^ k ≠ 0) (hc : cmpI (num - num / 2 ^ k * 2 ^ k) (2 ^ (k - 1)) = 1) (w : World) (hI : IntB w g num) : Calls Tryz.prog 164 #[.pointer (some ⟨g, 0, none⟩), .int .i64 (k : Int), .int .i64 0] w (NewI w (num / 2 ^ k + 1)) := by
  have HI := Lib.hid hI; clear hI
  obtain ⟨hq1, hr1⟩ := rest_len (k := k) hl
  have RS := Lib.hid (fun z w hz hx => Brsh_any z g k num (Nat.le_trans hl (by decide)) (by omega) w hz hx)
  obtain ⟨q, hq⟩ : ∃ q, q = num / 2 ^ k := ⟨_, rfl⟩
  rw [← hq] at RS hr hc hq1 hr1 ⊢
  have LS := Lib.hid (fun z x w hz hx => Blsh z x k q (Nat.le_trans hq1 (by decide)) (by omega) w hz hx)
  have hpl : (dg (q * 2 ^ k).natAbs).length ≤ 1000000 := Nat.le_trans (shl_len (J := 1000) hq1 (by omega)) (by decide)
  obtain ⟨p, hp⟩ : ∃ p, p = q * 2 ^ k := ⟨_, rfl⟩
  rw [← hp] at LS hr hc hr1 hpl
  have SU := Lib.hid (fun z y w hz hx hy => BSub z g y num p (Nat.le_trans hl (by decide)) hpl w hz hx hy)
  obtain ⟨r, hrr⟩ : ∃ r, r = num - p := ⟨_, rfl⟩
  rw [← hrr] at SU hr hc hr1
  have SG := Lib.hid (fun x w hx => Bsign x r w hx)
  have d1 : decide ((k : Int) ≤ 0) = false := decide_eq_false (by omega)
  have g2 : IntKind.u64.wrap (k : Int) = (k : Int) := IntWalk.u64_in _ ⟨by omega, by omega⟩
  have d2 : (r.sign == 0) = false := by rw [beq_eq_false_iff_ne]; intro h; exact hr (Int.sign_eq_zero_iff_zero.1 h)
  have L1 : (dg (1 : Int).natAbs).length ≤ 1000 := Nat.le_trans (dg_small (k := 1) (by decide)) (by decide)
  have AD := Lib.hid (fun z x y w hz hx hy => BAdd z x y q 1 (Nat.le_trans hq1 (by decide)) (Nat.le_trans L1 (by decide)) w hz hx hy)
  have L8 := Lib.hid (fun z x w hz hx => Blsh z x (k - 1) 1 (Nat.le_trans L1 (by decide)) (by omega) w hz hx)
  have hhl : (dg ((1 : Int) * 2 ^ (k - 1)).natAbs).length ≤ 1000000 := Nat.le_trans (shl_len (J := 1000) L1 (by omega)) (by decide)
  rw [Int.one_mul] at L8 hhl
  obtain ⟨h, hh⟩ : ∃ h, h = (2 : Int) ^ (k - 1) := ⟨_, rfl⟩
  rw [← hh] at L8 hhl hc
  have CM := Lib.hid (fun x y w hx hy => Bcmp x y r h (Nat.le_trans hr1 (by omega)) hhl w hx hy)
  rw [hc] at CM
  have g3 : IntKind.i64.wrap ((k : Int) - 1) = ((k - 1 : Nat) : Int) := by rw [IntWalk.i64_in _ ⟨by omega, by omega⟩]; omega
  have g4 : IntKind.u64.wrap ((k - 1 : Nat) : Int) = ((k - 1 : Nat) : Int) := IntWalk.u64_in _ ⟨by omega, by omega⟩
  generalize ((k - 1 : Nat) : Int) = kl at L8 g3 g4
  generalize ((k : Nat) : Int) = kk at RS LS d1 g2 g3 ⊢
  clear hk hk0 hl hr hq1 hr1 hpl hq hp hrr hhl hh hc L1
  go_enter Tryz.func164, Tryz.ntmps164
  go_wp2_with fail
  refine (RS.out _ _ (ty_at _ _ (by first | rfl | (simp; done) )) (HI.out.of (by repeat (first | with_reducible exact Within.refl _ | with_reducible assumption | with_reducible refine Within.alloc ?_ _ | with_reducible refine Within.drew ?_ | with_reducible refine Within.drewN ?_ _ | with_reducible refine Within.setCell ?_ (by first | (simp; done) | (simp; omega)) _ | with_reducible refine Within.trans ?_ (by assumption))))).mono ?_; rintro e1 w1 ⟨rfl, hI1, hG1⟩
  have hb1 : Within w w1 := Within.grown (by repeat (first | with_reducible exact Within.refl _ | with_reducible assumption | with_reducible refine Within.alloc ?_ _ | with_reducible refine Within.drew ?_ | with_reducible refine Within.drewN ?_ _ | with_reducible refine Within.setCell ?_ (by first | (simp; done) | (simp; omega)) _ | with_reducible refine Within.trans ?_ (by assumption))) hG1 (by simp)
  clear hG1
  have hl1 := hI1.ty.lt
  go_wp2_with fail
  refine (LS.out _ _ _ (ty_at _ _ (by first | rfl | (simp; done) )) (hI1.of (by repeat (first | with_reducible exact Within.refl _ | with_reducible assumption | with_reducible refine Within.alloc ?_ _ | with_reducible refine Within.drew ?_ | with_reducible refine Within.drewN ?_ _ | with_reducible refine Within.setCell ?_ (by first | (simp; done) | (simp; omega)) _ | with_reducible refine Within.trans ?_ (by assumption))))).mono ?_; rintro e2 w2 ⟨rfl, hI2, hG2⟩
  have hv2 := Within.grown ((Within.refl (w1.alloc (.cells #[.bool false, .slice none 0 0] 102))).alloc (.cells #[.bool false, .slice none 0 0] 102)) hG2 (by simp)
  have hb2 : Within w1 w2 := ((Within.refl w1).alloc _).trans hv2
  have hty2 := (IntB.made w1).ty.of hv2
  clear hG2 hv2
  go_wp2_with fail
  refine (SU.out _ _ _ hty2 (HI.out.of (hb1.trans hb2)) hI2).mono ?_; rintro e3 w3 ⟨rfl, hI3, hG3⟩
  have hb3 : Within w1 w3 := Within.grown hb2 hG3 (by simp)
  clear hG3 hI2 hty2 hb2
  have hI1 := hI1.of hb3
  have hb3 := hb1.trans hb3
  go_wp2_with fail
  refine (SG.out _ _ hI3).mono ?_; rintro e4 w4 ⟨rfl, rfl⟩
  have hl3 := hI3.ty.lt
  have hl1 := hI1.ty.lt
  go_wp2_with fail
  refine (BnewInt 1 (by decide) (by decide) _).mono ?_; rintro e5 w5 ⟨g5, rfl, hI5, hg5, hb5⟩
  have hv5 : Within w3 w5 := ((Within.refl w3).alloc _).trans hb5
  have hty5 := (IntB.made w3).ty.of hb5
  clear hg5
  go_wp2_with fail
  refine (AD.out _ _ _ _ hty5 (hI1.of hv5) hI5).mono ?_; rintro e6 w6 ⟨rfl, hI6, hG6⟩
  have hb6 : Within w3 w6 := Within.grown hv5 hG6 (by simp)
  clear hG6 hI5 hty5 hv5 hb5
  have hl6 := hI6.ty.lt
  have hI1 := hI1.of hb6
  have hI3 := hI3.of hb6
  have hb6 := hb3.trans hb6
  go_wp2_with fail
  refine (BnewInt 1 (by decide) (by decide) _).mono ?_; rintro e7 w7 ⟨g7, rfl, hI7, hg7, hb7⟩
  have hv7 : Within w6 w7 := ((Within.refl w6).alloc _).trans hb7
  have hty7 := (IntB.made w6).ty.of hb7
  clear hg7
  go_wp2_with fail
  refine (L8.out _ _ _ hty7 hI7).mono ?_; rintro e8 w8 ⟨rfl, hI8, hG8⟩
  have hb8 : Within w6 w8 := Within.grown hv7 hG8 (by simp)
  clear hG8 hI7 hty7 hv7 hb7
  have hI1 := hI1.of hb8
  have hI3 := hI3.of hb8
  have hI6 := hI6.of hb8
  have hb8 := hb6.trans hb8
  go_wp2_with fail
  refine (CM.out _ _ _ hI3 hI8).mono ?_; rintro e9 w9 ⟨rfl, hb9⟩
  have hI1 := hI1.of hb9
  have hI6 := hI6.of hb9
  have hb9 := hb8.trans hb9
  go_wp2
  go_ret
  exact ⟨_, rfl, hI6, by have := hb3.size; omega, hb9⟩
set_option maxRecDepth 100000 in
set_option maxHeartbeats 600000 in
theorem Near_fr_one (num : Int) (g k : Nat) (hk0 : 0 < k) (hk : k ≤ 16000) (hl : (dg num.natAbs).length ≤ 1000) (hr : num - num / 2 ^ k * 2 ^ k ≠ 0) (hc : cmpI (num - num / 2 ^ k * 2 ^ k) (2 ^ (k - 1)) = 0) (hb : num / 2 ^ k % 2 = 1) (w : World) (hI : IntB w g num) : Calls Tryz.prog 164 #[.pointer (some ⟨g, 0, none⟩), .int .i64 (k : Int), .int .i64 0] w (NewI w (num / 2 ^ k + 1)) := by
  have HI := Lib.hid hI; clear hI
  obtain ⟨hq1, hr1⟩ := rest_len (k := k) hl
  have RS := Lib.hid (fun z w hz hx => Brsh_any z g k num (Nat.le_trans hl (by decide)) (by omega) w hz hx)
  obtain ⟨q, hq⟩ : ∃ q, q = num / 2 ^ k := ⟨_, rfl⟩
  rw [← hq] at RS hr hc hb hq1 hr1 ⊢
  have LS := Lib.hid (fun z x w hz hx => Blsh z x k q (Nat.le_trans hq1 (by decide)) (by omega) w hz hx)
  have hpl : (dg (q * 2 ^ k).natAbs).length ≤ 1000000 := Nat.le_trans (shl_len (J := 1000) hq1 (by omega)) (by decide)
  obtain ⟨p, hp⟩ : ∃ p, p = q * 2 ^ k := ⟨_, rfl⟩
  rw [← hp] at LS hr hc hr1 hpl
  have SU := Lib.hid (fun z y w hz hx hy => BSub z g y num p (Nat.le_trans hl (by decide)) hpl w hz hx hy)
  obtain ⟨r, hrr⟩ : ∃ r, r = num - p := ⟨_, rfl⟩
  rw [← hrr] at SU hr hc hr1
  have SG := Lib.hid (fun x w hx => Bsign x r w hx)
  have d1 : decide ((k : Int) ≤ 0) = false := decide_eq_false (by omega)
  have g2 : IntKind.u64.wrap (k : Int) = (k : Int) := IntWalk.u64_in _ ⟨by omega, by omega⟩
  have d2 : (r.sign == 0) = false := by rw [beq_eq_false_iff_ne]; intro h; exact hr (Int.sign_eq_zero_iff_zero.1 h)
  have L1 : (dg (1 : Int).natAbs).length ≤ 1000 := Nat.le_trans (dg_small (k := 1) (by decide)) (by decide)
  have AD := Lib.hid (fun z x y w hz hx hy => BAdd z x y q 1 (Nat.le_trans hq1 (by decide)) (Nat.le_trans L1 (by decide)) w hz hx hy)
  have L8 := Lib.hid (fun z x w hz hx => Blsh z x (k - 1) 1 (Nat.le_trans L1 (by decide)) (by omega) w hz hx)
  have hhl : (dg ((1 : Int) * 2 ^ (k - 1)).natAbs).length ≤ 1000000 := Nat.le_trans (shl_len (J := 1000) L1 (by omega)) (by decide)
  rw [Int.one_mul] at L8 hhl
  obtain ⟨h, hh⟩ : ∃ h, h = (2 : Int) ^ (k - 1) := ⟨_, rfl⟩
  rw [← hh] at L8 hhl hc
  have CM := Lib.hid (fun x y w hx hy => Bcmp x y r h (Nat.le_trans hr1 (by omega)) hhl w hx hy)
  rw [hc] at CM
  have BI := Lib.hid (fun x w hx => Bbit_any x q (Nat.le_trans hq1 (by decide)) w hx)
  rw [hb] at BI
  have g3 : IntKind.i64.wrap ((k : Int) - 1) = ((k - 1 : Nat) : Int) := by rw [IntWalk.i64_in _ ⟨by omega, by omega⟩]; omega
  have g4 : IntKind.u64.wrap ((k - 1 : Nat) : Int) = ((k - 1 : Nat) : Int) := IntWalk.u64_in _ ⟨by omega, by omega⟩
  generalize ((k - 1 : Nat) : Int) = kl at L8 g3 g4
  generalize ((k : Nat) : Int) = kk at RS LS d1 g2 g3 ⊢
  clear hk hk0 hl hr hq1 hr1 hpl hq hp hrr hhl hh hc L1 hb
  go_enter Tryz.func164, Tryz.ntmps164
  go_wp2_with fail
  refine (RS.out _ _ (ty_at _ _ (by first | rfl | (simp; done) )) (HI.out.of (by repeat (first | with_reducible exact Within.refl _ | with_reducible assumption | with_reducible refine Within.alloc ?_ _ | with_reducible refine Within.drew ?_ | with_reducible refine Within.drewN ?_ _ | with_reducible refine Within.setCell ?_ (by first | (simp; done) | (simp; omega)) _ | with_reducible refine Within.trans ?_ (by assumption))))).mono ?_; rintro e1 w1 ⟨rfl, hI1, hG1⟩
  have hb1 : Within w w1 := Within.grown (by repeat (first | with_reducible exact Within.refl _ | with_reducible assumption | with_reducible refine Within.alloc ?_ _ | with_reducible refine Within.drew ?_ | with_reducible refine Within.drewN ?_ _ | with_reducible refine Within.setCell ?_ (by first | (simp; done) | (simp; omega)) _ | with_reducible refine Within.trans ?_ (by assumption))) hG1 (by simp)
  clear hG1
  have hl1 := hI1.ty.lt
  go_wp2_with fail
  refine (LS.out _ _ _ (ty_at _ _ (by first | rfl | (simp; done) )) (hI1.of (by repeat (first | with_reducible exact Within.refl _ | with_reducible assumption | with_reducible refine Within.alloc ?_ _ | with_reducible refine Within.drew ?_ | with_reducible refine Within.drewN ?_ _ | with_reducible refine Within.setCell ?_ (by first | (simp; done) | (simp; omega)) _ | with_reducible refine Within.trans ?_ (by assumption))))).mono ?_; rintro e2 w2 ⟨rfl, hI2, hG2⟩
  have hv2 := Within.grown ((Within.refl (w1.alloc (.cells #[.bool false, .slice none 0 0] 102))).alloc (.cells #[.bool false, .slice none 0 0] 102)) hG2 (by simp)
  have hb2 : Within w1 w2 := ((Within.refl w1).alloc _).trans hv2
  have hty2 := (IntB.made w1).ty.of hv2
  clear hG2 hv2
  go_wp2_with fail
  refine (SU.out _ _ _ hty2 (HI.out.of (hb1.trans hb2)) hI2).mono ?_; rintro e3 w3 ⟨rfl, hI3, hG3⟩
  have hb3 : Within w1 w3 := Within.grown hb2 hG3 (by simp)
  clear hG3 hI2 hty2 hb2
  have hI1 := hI1.of hb3
  have hb3 := hb1.trans hb3
  go_wp2_with fail
  refine (SG.out _ _ hI3).mono ?_; rintro e4 w4 ⟨rfl, rfl⟩
  have hl3 := hI3.ty.lt
  have hl1 := hI1.ty.lt
  go_wp2_with fail
  refine (BnewInt 1 (by decide) (by decide) _).mono ?_; rintro e5 w5 ⟨g5, rfl, hI5, hg5, hb5⟩
  have hv5 : Within w3 w5 := ((Within.refl w3).alloc _).trans hb5
  have hty5 := (IntB.made w3).ty.of hb5
  clear hg5
  go_wp2_with fail
  refine (AD.out _ _ _ _ hty5 (hI1.of hv5) hI5).mono ?_; rintro e6 w6 ⟨rfl, hI6, hG6⟩
  have hb6 : Within w3 w6 := Within.grown hv5 hG6 (by simp)
  clear hG6 hI5 hty5 hv5 hb5
  have hl6 := hI6.ty.lt
  have hI1 := hI1.of hb6
  have hI3 := hI3.of hb6
  have hb6 := hb3.trans hb6
  go_wp2_with fail
  refine (BnewInt 1 (by decide) (by decide) _).mono ?_; rintro e7 w7 ⟨g7, rfl, hI7, hg7, hb7⟩
  have hv7 : Within w6 w7 := ((Within.refl w6).alloc _).trans hb7
  have hty7 := (IntB.made w6).ty.of hb7
  clear hg7
  go_wp2_with fail
  refine (L8.out _ _ _ hty7 hI7).mono ?_; rintro e8 w8 ⟨rfl, hI8, hG8⟩
  have hb8 : Within w6 w8 := Within.grown hv7 hG8 (by simp)
  clear hG8 hI7 hty7 hv7 hb7
  have hI1 := hI1.of hb8
  have hI3 := hI3.of hb8
  have hI6 := hI6.of hb8
  have hb8 := hb6.trans hb8
  go_wp2_with fail
  refine (CM.out _ _ _ hI3 hI8).mono ?_; rintro e9 w9 ⟨rfl, hb9⟩
  have hI1 := hI1.of hb9
  have hI6 := hI6.of hb9
  have hb9 := hb8.trans hb9
  go_wp2_with fail
  refine (BI.out _ _ hI1).mono ?_; rintro e10 w10 ⟨rfl, hb10⟩
  have hI1 := hI1.of hb10
  have hI6 := hI6.of hb10
  have hb9 := hb9.trans hb10
  go_wp2
  go_ret
  exact ⟨_, rfl, hI6, by have := hb3.size; omega, hb9⟩
set_option maxRecDepth 100000 in
set_option maxHeartbeats 600000 in
theorem Near_fr_zero (num : Int) (g k : Nat) (hk0 : 0 < k) (hk : k ≤ 16000) (hl : (dg num.natAbs).length ≤ 1000) (hr : num - num / 2 ^ k * 2 ^ k ≠ 0) (hc : cmpI (num - num / 2 ^ k * 2 ^ k) (2 ^ (k - 1)) = 0) (hb : num / 2 ^ k % 2 = 0) (w : World) (hI : IntB w g num) : Calls Tryz.prog 164 #[.pointer (some ⟨g, 0, none⟩), .int .i64 (k : Int), .int .i64 0] w (NewI w (num / 2 ^ k)) := by
  have HI := Lib.hid hI; clear hI
  obtain ⟨hq1, hr1⟩ := rest_len (k := k) hl
  have RS := Lib.hid (fun z w hz hx => Brsh_any z g k num (Nat.le_trans hl (by decide)) (by omega) w hz hx)
  obtain ⟨q, hq⟩ : ∃ q, q = num / 2 ^ k := ⟨_, rfl⟩
  rw [← hq] at RS hr hc hb hq1 hr1 ⊢
  have LS := Lib.hid (fun z x w hz hx => Blsh z x k q (Nat.le_trans hq1 (by decide)) (by omega) w hz hx)
  have hpl : (dg (q * 2 ^ k).natAbs).length ≤ 1000000 := Nat.le_trans (shl_len (J := 1000) hq1 (by omega)) (by decide)
  obtain ⟨p, hp⟩ : ∃ p, p = q * 2 ^ k := ⟨_, rfl⟩
  rw [← hp] at LS hr hc hr1 hpl
  have SU := Lib.hid (fun z y w hz hx hy => BSub z g y num p (Nat.le_trans hl (by decide)) hpl w hz hx hy)
  obtain ⟨r, hrr⟩ : ∃ r, r = num - p := ⟨_, rfl⟩
  rw [← hrr] at SU hr hc hr1
  have SG := Lib.hid (fun x w hx => Bsign x r w hx)
  have d1 : decide ((k : Int) ≤ 0) = false := decide_eq_false (by omega)
  have g2 : IntKind.u64.wrap (k : Int) = (k : Int) := IntWalk.u64_in _ ⟨by omega, by omega⟩
  have d2 : (r.sign == 0) = false := by rw [beq_eq_false_iff_ne]; intro h; exact hr (Int.sign_eq_zero_iff_zero.1 h)
  have L1 : (dg (1 : Int).natAbs).length ≤ 1000 := Nat.le_trans (dg_small (k := 1) (by decide)) (by decide)
  have AD := Lib.hid (fun z x y w hz hx hy => BAdd z x y q 1 (Nat.le_trans hq1 (by decide)) (Nat.le_trans L1 (by decide)) w hz hx hy)
  have L8 := Lib.hid (fun z x w hz hx => Blsh z x (k - 1) 1 (Nat.le_trans L1 (by decide)) (by omega) w hz hx)
  have hhl : (dg ((1 : Int) * 2 ^ (k - 1)).natAbs).length ≤ 1000000 := Nat.le_trans (shl_len (J := 1000) L1 (by omega)) (by decide)
  rw [Int.one_mul] at L8 hhl
  obtain ⟨h, hh⟩ : ∃ h, h = (2 : Int) ^ (k - 1) := ⟨_, rfl⟩
  rw [← hh] at L8 hhl hc
  have CM := Lib.hid (fun x y w hx hy => Bcmp x y r h (Nat.le_trans hr1 (by omega)) hhl w hx hy)
  rw [hc] at CM
  have BI := Lib.hid (fun x w hx => Bbit_any x q (Nat.le_trans hq1 (by decide)) w hx)
  rw [hb] at BI
  have g3 : IntKind.i64.wrap ((k : Int) - 1) = ((k - 1 : Nat) : Int) := by rw [IntWalk.i64_in _ ⟨by omega, by omega⟩]; omega
  have g4 : IntKind.u64.wrap ((k - 1 : Nat) : Int) = ((k - 1 : Nat) : Int) := IntWalk.u64_in _ ⟨by omega, by omega⟩
  generalize ((k - 1 : Nat) : Int) = kl at L8 g3 g4
  generalize ((k : Nat) : Int) = kk at RS LS d1 g2 g3 ⊢
  clear hk hk0 hl hr hq1 hr1 hpl hq hp hrr hhl hh hc L1 hb
  go_enter Tryz.func164, Tryz.ntmps164
  go_wp2_with fail
  refine (RS.out _ _ (ty_at _ _ (by first | rfl | (simp; done) )) (HI.out.of (by repeat (first | with_reducible exact Within.refl _ | with_reducible assumption | with_reducible refine Within.alloc ?_ _ | with_reducible refine Within.drew ?_ | with_reducible refine Within.drewN ?_ _ | with_reducible refine Within.setCell ?_ (by first | (simp; done) | (simp; omega)) _ | with_reducible refine Within.trans ?_ (by assumption))))).mono ?_; rintro e1 w1 ⟨rfl, hI1, hG1⟩
  have hb1 : Within w w1 := Within.grown (by repeat (first | with_reducible exact Within.refl _ | with_reducible assumption | with_reducible refine Within.alloc ?_ _ | with_reducible refine Within.drew ?_ | with_reducible refine Within.drewN ?_ _ | with_reducible refine Within.setCell ?_ (by first | (simp; done) | (simp; omega)) _ | with_reducible refine Within.trans ?_ (by assumption))) hG1 (by simp)
  clear hG1
  have hl1 := hI1.ty.lt
  go_wp2_with fail
  refine (LS.out _ _ _ (ty_at _ _ (by first | rfl | (simp; done) )) (hI1.of (by repeat (first | with_reducible exact Within.refl _ | with_reducible assumption | with_reducible refine Within.alloc ?_ _ | with_reducible refine Within.drew ?_ | with_reducible refine Within.drewN ?_ _ | with_reducible refine Within.setCell ?_ (by first | (simp; done) | (simp; omega)) _ | with_reducible refine Within.trans ?_ (by assumption))))).mono ?_; rintro e2 w2 ⟨rfl, hI2, hG2⟩
  have hv2 := Within.grown ((Within.refl (w1.alloc (.cells #[.bool false, .slice none 0 0] 102))).alloc (.cells #[.bool false, .slice none 0 0] 102)) hG2 (by simp)
  have hb2 : Within w1 w2 := ((Within.refl w1).alloc _).trans hv2
  have hty2 := (IntB.made w1).ty.of hv2
  clear hG2 hv2
  go_wp2_with fail
  refine (SU.out _ _ _ hty2 (HI.out.of (hb1.trans hb2)) hI2).mono ?_; rintro e3 w3 ⟨rfl, hI3, hG3⟩
  have hb3 : Within w1 w3 := Within.grown hb2 hG3 (by simp)
  clear hG3 hI2 hty2 hb2
  have hI1 := hI1.of hb3
  have hb3 := hb1.trans hb3
  go_wp2_with fail
  refine (SG.out _ _ hI3).mono ?_; rintro e4 w4 ⟨rfl, rfl⟩
  have hl3 := hI3.ty.lt
  have hl1 := hI1.ty.lt
  go_wp2_with fail
  refine (BnewInt 1 (by decide) (by decide) _).mono ?_; rintro e5 w5 ⟨g5, rfl, hI5, hg5, hb5⟩
  have hv5 : Within w3 w5 := ((Within.refl w3).alloc _).trans hb5
  have hty5 := (IntB.made w3).ty.of hb5
  clear hg5
  go_wp2_with fail
  refine (AD.out _ _ _ _ hty5 (hI1.of hv5) hI5).mono ?_; rintro e6 w6 ⟨rfl, hI6, hG6⟩
  have hb6 : Within w3 w6 := Within.grown hv5 hG6 (by simp)
  clear hG6 hI5 hty5 hv5 hb5
  have hl6 := hI6.ty.lt
  have hI1 := hI1.of hb6
  have hI3 := hI3.of hb6
  have hb6 := hb3.trans hb6
  go_wp2_with fail
  refine (BnewInt 1 (by decide) (by decide) _).mono ?_; rintro e7 w7 ⟨g7, rfl, hI7, hg7, hb7⟩
  have hv7 : Within w6 w7 := ((Within.refl w6).alloc _).trans hb7
  have hty7 := (IntB.made w6).ty.of hb7
  clear hg7
  go_wp2_with fail
  refine (L8.out _ _ _ hty7 hI7).mono ?_; rintro e8 w8 ⟨rfl, hI8, hG8⟩
  have hb8 : Within w6 w8 := Within.grown hv7 hG8 (by simp)
  clear hG8 hI7 hty7 hv7 hb7
  have hI1 := hI1.of hb8
  have hI3 := hI3.of hb8
  have hI6 := hI6.of hb8
  have hb8 := hb6.trans hb8
  go_wp2_with fail
  refine (CM.out _ _ _ hI3 hI8).mono ?_; rintro e9 w9 ⟨rfl, hb9⟩
  have hI1 := hI1.of hb9
  have hI6 := hI6.of hb9
  have hb9 := hb8.trans hb9
  go_wp2_with fail
  refine (BI.out _ _ hI1).mono ?_; rintro e10 w10 ⟨rfl, hb10⟩
  have hI1 := hI1.of hb10
  have hI6 := hI6.of hb10
  have hb9 := hb9.trans hb10
  go_wp2
  go_ret
  exact ⟨_, rfl, hI1, by have := hb3.size; omega, hb9⟩
set_option maxRecDepth 100000 in
set_option maxHeartbeats 600000 in
theorem Near_fr_down (num : Int) (g k : Nat) (hk0 : 0 < k) (hk : k ≤ 16000) (hl : (dg num.natAbs).length ≤ 1000) (hr : num - num / 2 ^ k * 2 ^ k ≠ 0) (hc : cmpI (num - num / 2 ^ k * 2 ^ k) (2 ^ (k - 1)) = (-1)) (w : World) (hI : IntB w g num) : Calls Tryz.prog 164 #[.pointer (some ⟨g, 0, none⟩), .int .i64 (k : Int), .int .i64 0] w (NewI w (num / 2 ^ k)) := by
  have HI := Lib.hid hI; clear hI
  obtain ⟨hq1, hr1⟩ := rest_len (k := k) hl
  have RS := Lib.hid (fun z w hz hx => Brsh_any z g k num (Nat.le_trans hl (by decide)) (by omega) w hz hx)
  obtain ⟨q, hq⟩ : ∃ q, q = num / 2 ^ k := ⟨_, rfl⟩
  rw [← hq] at RS hr hc hq1 hr1 ⊢
  have LS := Lib.hid (fun z x w hz hx => Blsh z x k q (Nat.le_trans hq1 (by decide)) (by omega) w hz hx)
  have hpl : (dg (q * 2 ^ k).natAbs).length ≤ 1000000 := Nat.le_trans (shl_len (J := 1000) hq1 (by omega)) (by decide)
  obtain ⟨p, hp⟩ : ∃ p, p = q * 2 ^ k := ⟨_, rfl⟩
  rw [← hp] at LS hr hc hr1 hpl
  have SU := Lib.hid (fun z y w hz hx hy => BSub z g y num p (Nat.le_trans hl (by decide)) hpl w hz hx hy)
  obtain ⟨r, hrr⟩ : ∃ r, r = num - p := ⟨_, rfl⟩
  rw [← hrr] at SU hr hc hr1
  have SG := Lib.hid (fun x w hx => Bsign x r w hx)
  have d1 : decide ((k : Int) ≤ 0) = false := decide_eq_false (by omega)
  have g2 : IntKind.u64.wrap (k : Int) = (k : Int) := IntWalk.u64_in _ ⟨by omega, by omega⟩
  have d2 : (r.sign == 0) = false := by rw [beq_eq_false_iff_ne]; intro h; exact hr (Int.sign_eq_zero_iff_zero.1 h)
  have L1 : (dg (1 : Int).natAbs).length ≤ 1000 := Nat.le_trans (dg_small (k := 1) (by decide)) (by decide)
  have AD := Lib.hid (fun z x y w hz hx hy => BAdd z x y q 1 (Nat.le_trans hq1 (by decide)) (Nat.le_trans L1 (by decide)) w hz hx hy)
  have L8 := Lib.hid (fun z x w hz hx => Blsh z x (k - 1) 1 (Nat.le_trans L1 (by decide)) (by omega) w hz hx)
  have hhl : (dg ((1 : Int) * 2 ^ (k - 1)).natAbs).length ≤ 1000000 := Nat.le_trans (shl_len (J := 1000) L1 (by omega)) (by decide)
  rw [Int.one_mul] at L8 hhl
  obtain ⟨h, hh⟩ : ∃ h, h = (2 : Int) ^ (k - 1) := ⟨_, rfl⟩
  rw [← hh] at L8 hhl hc
  have CM := Lib.hid (fun x y w hx hy => Bcmp x y r h (Nat.le_trans hr1 (by omega)) hhl w hx hy)
  rw [hc] at CM
  have g3 : IntKind.i64.wrap ((k : Int) - 1) = ((k - 1 : Nat) : Int) := by rw [IntWalk.i64_in _ ⟨by omega, by omega⟩]; omega
  have g4 : IntKind.u64.wrap ((k - 1 : Nat) : Int) = ((k - 1 : Nat) : Int) := IntWalk.u64_in _ ⟨by omega, by omega⟩
  generalize ((k - 1 : Nat) : Int) = kl at L8 g3 g4
  generalize ((k : Nat) : Int) = kk at RS LS d1 g2 g3 ⊢
  clear hk hk0 hl hr hq1 hr1 hpl hq hp hrr hhl hh hc L1
  go_enter Tryz.func164, Tryz.ntmps164
  go_wp2_with fail
  refine (RS.out _ _ (ty_at _ _ (by first | rfl | (simp; done) )) (HI.out.of (by repeat (first | with_reducible exact Within.refl _ | with_reducible assumption | with_reducible refine Within.alloc ?_ _ | with_reducible refine Within.drew ?_ | with_reducible refine Within.drewN ?_ _ | with_reducible refine Within.setCell ?_ (by first | (simp; done) | (simp; omega)) _ | with_reducible refine Within.trans ?_ (by assumption))))).mono ?_; rintro e1 w1 ⟨rfl, hI1, hG1⟩
  have hb1 : Within w w1 := Within.grown (by repeat (first | with_reducible exact Within.refl _ | with_reducible assumption | with_reducible refine Within.alloc ?_ _ | with_reducible refine Within.drew ?_ | with_reducible refine Within.drewN ?_ _ | with_reducible refine Within.setCell ?_ (by first | (simp; done) | (simp; omega)) _ | with_reducible refine Within.trans ?_ (by assumption))) hG1 (by simp)
  clear hG1
  have hl1 := hI1.ty.lt
  go_wp2_with fail
  refine (LS.out _ _ _ (ty_at _ _ (by first | rfl | (simp; done) )) (hI1.of (by repeat (first | with_reducible exact Within.refl _ | with_reducible assumption | with_reducible refine Within.alloc ?_ _ | with_reducible refine Within.drew ?_ | with_reducible refine Within.drewN ?_ _ | with_reducible refine Within.setCell ?_ (by first | (simp; done) | (simp; omega)) _ | with_reducible refine Within.trans ?_ (by assumption))))).mono ?_; rintro e2 w2 ⟨rfl, hI2, hG2⟩
  have hv2 := Within.grown ((Within.refl (w1.alloc (.cells #[.bool false, .slice none 0 0] 102))).alloc (.cells #[.bool false, .slice none 0 0] 102)) hG2 (by simp)
  have hb2 : Within w1 w2 := ((Within.refl w1).alloc _).trans hv2
  have hty2 := (IntB.made w1).ty.of hv2
  clear hG2 hv2
  go_wp2_with fail
  refine (SU.out _ _ _ hty2 (HI.out.of (hb1.trans hb2)) hI2).mono ?_; rintro e3 w3 ⟨rfl, hI3, hG3⟩
  have hb3 : Within w1 w3 := Within.grown hb2 hG3 (by simp)
  clear hG3 hI2 hty2 hb2
  have hI1 := hI1.of hb3
  have hb3 := hb1.trans hb3
  go_wp2_with fail
  refine (SG.out _ _ hI3).mono ?_; rintro e4 w4 ⟨rfl, rfl⟩
  have hl3 := hI3.ty.lt
  have hl1 := hI1.ty.lt
  go_wp2_with fail
  refine (BnewInt 1 (by decide) (by decide) _).mono ?_; rintro e5 w5 ⟨g5, rfl, hI5, hg5, hb5⟩
  have hv5 : Within w3 w5 := ((Within.refl w3).alloc _).trans hb5
  have hty5 := (IntB.made w3).ty.of hb5
  clear hg5
  go_wp2_with fail
  refine (AD.out _ _ _ _ hty5 (hI1.of hv5) hI5).mono ?_; rintro e6 w6 ⟨rfl, hI6, hG6⟩
  have hb6 : Within w3 w6 := Within.grown hv5 hG6 (by simp)
  clear hG6 hI5 hty5 hv5 hb5
  have hl6 := hI6.ty.lt
  have hI1 := hI1.of hb6
  have hI3 := hI3.of hb6
  have hb6 := hb3.trans hb6
  go_wp2_with fail
  refine (BnewInt 1 (by decide) (by decide) _).mono ?_; rintro e7 w7 ⟨g7, rfl, hI7, hg7, hb7⟩
  have hv7 : Within w6 w7 := ((Within.refl w6).alloc _).trans hb7
  have hty7 := (IntB.made w6).ty.of hb7
  clear hg7
  go_wp2_with fail
  refine (L8.out _ _ _ hty7 hI7).mono ?_; rintro e8 w8 ⟨rfl, hI8, hG8⟩
  have hb8 : Within w6 w8 := Within.grown hv7 hG8 (by simp)
  clear hG8 hI7 hty7 hv7 hb7
  have hI1 := hI1.of hb8
  have hI3 := hI3.of hb8
  have hI6 := hI6.of hb8
  have hb8 := hb6.trans hb8
  go_wp2_with fail
  refine (CM.out _ _ _ hI3 hI8).mono ?_; rintro e9 w9 ⟨rfl, hb9⟩
  have hI1 := hI1.of hb9
  have hI6 := hI6.of hb9
  have hb9 := hb8.trans hb9
  go_wp2
  go_ret
  exact ⟨_, rfl, hI1, by have := hb3.size; omega, hb9⟩
theorem cmpI_val (a b : Int) : cmpI a b = 1 ∨ cmpI a b = 0 ∨ cmpI a b = -1 := by
  unfold cmpI
  repeat' split
  all_goals simp
theorem Near_down (num : Int) (g k : Nat) (hk0 : 0 < k) (hk : k ≤ 16000) (hl : (dg num.natAbs).length ≤ 1000) (w : World) (hI : IntB w g num) : Calls Tryz.prog 164 #[.pointer (some ⟨g, 0, none⟩), .int .i64 (k : Int), .int .i64 0] w (NewI w (nearZ num k)) := by
  unfold nearZ
  by_cases hr : num - num / 2 ^ k * 2 ^ k = 0
  · rw [if_pos hr]; exact Near_ex num g k hk0 hk hl hr w hI
  · rw [if_neg hr]
    rcases cmpI_val (num - num / 2 ^ k * 2 ^ k) (2 ^ (k - 1)) with hc | hc | hc
    · rw [if_pos (.inl (by rw [hc]; decide))]; exact Near_fr_up num g k hk0 hk hl hr hc w hI
    · rcases Int.emod_two_eq (num / 2 ^ k) with hb | hb
      · rw [if_neg (by rw [hc, hb]; decide)]; exact Near_fr_zero num g k hk0 hk hl hr hc hb w hI
      · rw [if_pos (.inr ⟨hc, hb⟩)]; exact Near_fr_one num g k hk0 hk hl hr hc hb w hI
    · rw [if_neg (by rw [hc]; omega)]; exact Near_fr_down num g k hk0 hk hl hr hc w hI
end Go.Proofs.YtjmaggfddinbkaaGreatDoor
end

section
namespace Go.Proofs.YtjmaggfddinbkaaGreatDoor
theorem nearZ_pos (n k : Nat) (hk : 0 < k) : nearZ (n : Int) k = (Fp.rne n (2 ^ k) : Nat) := by
  obtain ⟨j, rfl⟩ : ∃ j, k = j + 1 := ⟨k - 1, by omega⟩
  have e1 : (n : Int) / 2 ^ (j + 1) = ((n / 2 ^ (j + 1) : Nat) : Int) := by rw [Int.natCast_ediv, cast_pow]
  have e2 := Nat.div_add_mod n (2 ^ (j + 1))
  have e3 : n % 2 ^ (j + 1) < 2 ^ (j + 1) := Nat.mod_lt _ (Nat.two_pow_pos _)
  have e4 : ((n / 2 ^ (j + 1) : Nat) : Int) * 2 ^ (j + 1) = ((2 ^ (j + 1) * (n / 2 ^ (j + 1)) : Nat) : Int) := by rw [← cast_pow, ← Int.natCast_mul, Nat.mul_comm]
  have e5 : (2 : Int) ^ (j + 1 - 1) = ((2 ^ j : Nat) : Int) := by rw [cast_pow, Nat.add_sub_cancel]
  have e6 : (2 : Nat) ^ (j + 1) = 2 * 2 ^ j := by rw [Nat.pow_succ, Nat.mul_comm]
  unfold nearZ Fp.rne cmpI
  rw [e1, e4, e5]
  rw [e6] at e2 e3 ⊢
  generalize n / (2 * 2 ^ j) = q at *
  generalize n % (2 * 2 ^ j) = r at *
  generalize 2 * 2 ^ j * q = p at *
  generalize 2 ^ j = h at *
  have e7 : (n : Int) - (p : Int) = (r : Int) := by omega
  rw [e7]
  repeat' split
  all_goals omega
theorem neg_div (n d : Nat) (hd : 0 < d) : (-(n : Int)) / (d : Int) = if n % d = 0 then -((n / d : Nat) : Int) else -((n / d : Nat) : Int) - 1 := by
  have e2 := Nat.div_add_mod n d
  have e3 := Nat.mod_lt n hd
  have e4 : ((n : Nat) : Int) = (d : Int) * ((n / d : Nat) : Int) + ((n % d : Nat) : Int) := by rw [← Int.natCast_mul, ← Int.natCast_add, e2]
  split
  · rename_i h
    refine ((Int.ediv_emod_unique (r := 0) (by omega)).2 ⟨?_, by omega, by omega⟩).1
    rw [h] at e4
    rw [Int.mul_neg]; omega
  · rename_i h
    refine ((Int.ediv_emod_unique (r := (d : Int) - ((n % d : Nat) : Int)) (by omega)).2 ⟨?_, by omega, by omega⟩).1
    rw [Int.mul_sub, Int.mul_neg]; omega
theorem nearZ_neg (n k : Nat) (hk : 0 < k) : nearZ (-(n : Int)) k = -((Fp.rne n (2 ^ k) : Nat) : Int) := by
  obtain ⟨j, rfl⟩ : ∃ j, k = j + 1 := ⟨k - 1, by omega⟩
  have e1 := neg_div n (2 ^ (j + 1)) (Nat.two_pow_pos _)
  have e2 := Nat.div_add_mod n (2 ^ (j + 1))
  have e3 : n % 2 ^ (j + 1) < 2 ^ (j + 1) := Nat.mod_lt _ (Nat.two_pow_pos _)
  have e4 : (2 : Int) ^ (j + 1) * ((n / 2 ^ (j + 1) : Nat) : Int) = ((2 ^ (j + 1) * (n / 2 ^ (j + 1)) : Nat) : Int) := by rw [← cast_pow, ← Int.natCast_mul]
  have e5 : (2 : Int) ^ (j + 1 - 1) = ((2 ^ j : Nat) : Int) := by rw [cast_pow, Nat.add_sub_cancel]
  have e6 : (2 : Nat) ^ (j + 1) = 2 * 2 ^ j := by rw [Nat.pow_succ, Nat.mul_comm]
  rw [cast_pow] at e1
  have e8 : ((2 : Int) ^ (j + 1)) = ((2 * 2 ^ j : Nat) : Int) := by rw [← e6, cast_pow]
  unfold nearZ Fp.rne cmpI
  rw [e1, e5]
  rw [e6] at e2 e3 e1 ⊢
  rw [e8, e6] at e4
  rw [e8]
  generalize n / (2 * 2 ^ j) = q at *
  generalize n % (2 * 2 ^ j) = r at *
  by_cases h0 : r = 0
  · rw [if_pos h0]
    have e7 : -(n : Int) - -(q : Int) * ((2 * 2 ^ j : Nat) : Int) = 0 := by rw [Int.neg_mul, Int.mul_comm, e4]; omega
    rw [e7, if_pos rfl]
    have hp := Nat.two_pow_pos j
    rw [if_neg (by omega)]; rfl
  · rw [if_neg h0]
    have e7 : -(n : Int) - (-(q : Int) - 1) * ((2 * 2 ^ j : Nat) : Int) = ((2 * 2 ^ j : Nat) : Int) - (r : Int) := by rw [Int.sub_mul, Int.neg_mul, Int.mul_comm, e4]; omega
    rw [e7]
    generalize 2 ^ j = h at *
    repeat' split
    all_goals omega
theorem nearZ_is (v : Int) (k : Nat) (hk : 0 < k) : nearZ v k = if v < 0 then -((Fp.rne v.natAbs (2 ^ k) : Nat) : Int) else ((Fp.rne v.natAbs (2 ^ k) : Nat) : Int) := by
  split
  · rename_i h
    have := nearZ_neg v.natAbs k hk
    rwa [show -((v.natAbs : Nat) : Int) = v by omega] at this
  · rename_i h
    have := nearZ_pos v.natAbs k hk
    rwa [show ((v.natAbs : Nat) : Int) = v by omega] at this
end Go.Proofs.YtjmaggfddinbkaaGreatDoor
end

section
namespace Go.Proofs.YtjmaggfddinbkaaGreatDoor
namespace Fp
open Ieee
theorem mag_join (j q : Nat) (hq : q ≤ 9007199254740992) (hj : j ≠ 0 → 4503599627370496 ≤ q) : mag double (j * 4503599627370496 + q) = q * 2 ^ j := by
  unfold mag
  rw [dB]
  by_cases h0 : j = 0
  · subst h0
    rw [Nat.zero_mul, Nat.zero_add, Nat.pow_zero, Nat.mul_one]
    by_cases h : q < 4503599627370496
    · rw [if_pos h]
    · rw [if_neg h]
      by_cases h2 : q = 9007199254740992
      · subst h2; decide
      · have e1 : q / 4503599627370496 = 1 := by omega
        rw [e1, Nat.sub_self, Nat.pow_zero, Nat.mul_one]; omega
  · have h1 := hj h0
    rw [if_neg (by omega)]
    by_cases h2 : q = 9007199254740992
    · subst h2
      have e1 : (j * 4503599627370496 + 9007199254740992) / 4503599627370496 = j + 2 := by omega
      have e2 : (j * 4503599627370496 + 9007199254740992) % 4503599627370496 = 0 := by omega
      rw [e1, e2, Nat.add_zero, show j + 2 - 1 = j + 1 by omega, Nat.pow_succ, Nat.mul_comm (2 ^ j) 2, ← Nat.mul_assoc]
    · have e1 : (j * 4503599627370496 + q) / 4503599627370496 = j + 1 := by omega
      have e2 : (j * 4503599627370496 + q) % 4503599627370496 = q - 4503599627370496 := by omega
      rw [e1, e2, Nat.add_sub_cancel]
      rw [show 4503599627370496 + (q - 4503599627370496) = q by omega]
theorem log_between {M : Nat} (h : M ≠ 0) : 2 ^ M.log2 ≤ M ∧ M < 2 ^ (M.log2 + 1) := ⟨Nat.log2_self_le h, Nat.lt_log2_self⟩
theorem grid_parts (M s : Nat) : rne M (2 ^ max (M.log2 - 52) s) ≤ 9007199254740992 ∧ (max (M.log2 - 52) s - s ≠ 0 → 4503599627370496 ≤ rne M (2 ^ max (M.log2 - 52) s)) := by
  obtain ⟨k, hk⟩ : ∃ k, k = max (M.log2 - 52) s := ⟨_, rfl⟩
  rw [← hk]
  have hp := Nat.two_pow_pos k
  have e52 : (2 : Nat) ^ 52 = 4503599627370496 := by decide
  have e53 : (2 : Nat) ^ 53 = 9007199254740992 := by decide
  by_cases h0 : M = 0
  · subst h0
    rw [rne_zero _ hp]
    refine ⟨by omega, fun h => ?_⟩
    have : (0 : Nat).log2 = 0 := by decide
    omega
  · obtain ⟨l1, l2⟩ := log_between h0
    constructor
    · have h1 : M < 9007199254740992 * 2 ^ k := by
        rw [← e53, ← Nat.pow_add]
        exact Nat.lt_of_lt_of_le l2 (Nat.pow_le_pow_right (by decide) (by omega))
      have h2 : M / 2 ^ k < 9007199254740992 := (Nat.div_lt_iff_lt_mul hp).2 h1
      unfold rne
      split <;> omega
    · intro hs
      have h1 : 4503599627370496 * 2 ^ k ≤ M := by
        rw [← e52, ← Nat.pow_add]
        exact Nat.le_trans (Nat.pow_le_pow_right (by decide) (by omega)) l1
      have h2 : 4503599627370496 ≤ M / 2 ^ k := (Nat.le_div_iff_mul_le hp).2 h1
      unfold rne
      omega
theorem read_small (f : Format) (w : Nat) (h : rg f w < f.infRung) : ∃ m e, f.read w = .number (sg f w) m e ∧ f.leastPlace ≤ e ∧ m * 2 ^ (e - f.leastPlace).toNat = mag f (rg f w) ∧ m < 2 * f.binade := by
  have hb := binade_pos f
  unfold Format.read
  dsimp only
  have e0 : w % f.signWeight = rg f w := rfl
  rw [e0]
  by_cases h1 : rg f w < f.binade
  · rw [if_pos h1]
    exact ⟨_, _, rfl, Int.le_refl _, by rw [mag_lt f _ h1]; simp, by omega⟩
  · rw [if_neg h1, if_pos h]
    refine ⟨_, _, rfl, by omega, ?_, by have := Nat.mod_lt (rg f w) hb; omega⟩
    unfold mag
    rw [if_neg h1]
    congr 2
    omega
theorem grid_is (M s : Nat) : grid double M s = (max (M.log2 - 52) s - s) * 4503599627370496 + rne M (2 ^ max (M.log2 - 52) s) := by
  unfold grid
  rw [dB]
  rfl
theorem mag_grid (M s : Nat) : mag double (grid double M s) = rne M (2 ^ max (M.log2 - 52) s) * 2 ^ (max (M.log2 - 52) s - s) := by
  rw [grid_is]
  exact mag_join _ _ (grid_parts M s).1 (grid_parts M s).2
end Fp
theorem two_un : Fp.un Ieee.double 4611686018427387904 = 2 * 2 ^ upl := by
  have e : Fp.mag Ieee.double 4611686018427387904 = 2 * 2 ^ upl := by
    rw [upl_is]
    decide +kernel
  unfold Fp.un
  rw [Fp.rg64, Fp.sg64, show (4611686018427387904 : Nat) % 9223372036854775808 = 4611686018427387904 by decide, e, if_neg (by decide), Int.natCast_mul, cast_pow]
  rfl
theorem mul_two {x : Nat} {A : Int} (hx : x % 9223372036854775808 < 9218868437227405312) (hA : Fp.un Ieee.double x = A) (hr : RepZ (2 * A)) (hl : (2 * A).natAbs < 2 ^ Fp.dtop) :
    ∃ r, floatBits .mul .f64 x 4611686018427387904 = some r ∧ r < 18446744073709551616 ∧ r % 9223372036854775808 < 9218868437227405312 ∧ Fp.un Ieee.double r = 2 * A := by
  have h := mul_fz (u := some x) (v := some 4611686018427387904) (A := A) (B := 2 * 2 ^ upl) (P := 2 * A) ⟨x, rfl, hx, hA⟩ ⟨_, rfl, by decide, two_un⟩ (by rw [Int.mul_comm 2 A, Int.mul_assoc]) (by rw [rn_few hr]; exact hl)
  obtain ⟨r, h1, h2, h3⟩ := h
  have h4 : floatBits .mul .f64 x 4611686018427387904 = some r := h1
  exact ⟨r, h4, (floatBits_sane h4).1, h2, by rw [h3, rn_few hr]⟩
theorem read_two : Ieee.double.read 4611686018427387904 = .number false 4503599627370496 (-51) := by decide +kernel
theorem zero_log : (0 : Nat).log2 = 0 := by decide
theorem div_two {x : Nat} {Z : Int} (hx : x % 9223372036854775808 < 9218868437227405312) (hZ : Fp.un Ieee.double x = 2 * Z) (hr : RepZ Z) (hl : Z.natAbs < 2 ^ Fp.dtop) :
    ∃ r, floatBits .quo .f64 x 4611686018427387904 = some r ∧ r < 18446744073709551616 ∧ r % 9223372036854775808 < 9218868437227405312 ∧ Fp.un Ieee.double r = Z := by
  obtain ⟨m, i, r1, l1, u1, hm⟩ := Fp.read_small Ieee.double x (by rw [Fp.rg64, Fp.dI]; exact hx)
  rw [Fp.dL] at l1 u1
  rw [Fp.dB] at hm
  obtain ⟨mo, hmo⟩ : ∃ mo, mo = 54 + (4503599627370496 : Nat).log2 - m.log2 := ⟨_, rfl⟩
  have h52 : (4503599627370496 : Nat).log2 = 52 := by decide +kernel
  have hlm : m.log2 ≤ 52 := by
    by_cases h0 : m = 0
    · subst h0; decide
    · have h1 := (Fp.log_between h0).1
      have h2 : (2 : Nat) ^ m.log2 < 2 ^ 53 := by omega
      have := (Nat.pow_lt_pow_iff_right (a := 2) (by decide)).1 h2
      omega
  rw [h52] at hmo
  have hN : (4503599627370496 : Nat) = 2 ^ 52 := by decide
  have hsh : m <<< mo = m * 2 ^ (mo - 52) * 4503599627370496 := by
    rw [Nat.shiftLeft_eq, hN, Nat.mul_assoc, ← Nat.pow_add, show mo - 52 + 52 = mo by omega]
  have hq : (Ieee.Datum.number (Fp.sg Ieee.double x) m i).quotient (Ieee.double.fractionBits + 2) (.number false 4503599627370496 (-51)) = some (.number (Fp.sg Ieee.double x ^^ false) (2 * (m * 2 ^ (mo - 52))) (i - (-51) - (mo : Int) - 1)) := by
    unfold Ieee.Datum.quotient
    have ef : Ieee.double.fractionBits + 2 = 54 := by decide
    dsimp only
    rw [if_neg (by decide), ef, h52, ← hmo, hsh, Nat.mul_div_cancel _ (by decide), Nat.mul_mod_left]
    rfl
  have hd : floatBits .quo .f64 x 4611686018427387904 = some (Ieee.double.nearest (Fp.sg Ieee.double x ^^ false) (2 * (m * 2 ^ (mo - 52))) (i - (-51) - (mo : Int) - 1)) := by
    show Ieee.double.div x 4611686018427387904 = _
    unfold Ieee.Format.div
    rw [r1, read_two, hq]
    rfl
  rw [Fp.nearest_deep Ieee.double _ _ _ 200 (by rw [Fp.dL]; omega), Bool.xor_false] at hd
  have hU : m * 2 ^ (i - -1074).toNat = 2 * Z.natAbs := by
    rw [u1]
    have := un_abs x
    rw [hZ] at this
    omega
  have hM : 2 * (m * 2 ^ (mo - 52)) * 2 ^ (i - (-51) - (mo : Int) - 1 - (Ieee.double.leastPlace - ((200 : Nat) : Int))).toNat = Z.natAbs * 2 ^ 200 := by
    rw [Fp.dL]
    have e1 : 2 * (m * 2 ^ (mo - 52)) * 2 ^ (i - (-51) - (mo : Int) - 1 - (-1074 - ((200 : Nat) : Int))).toNat = m * (2 ^ 1 * 2 ^ (mo - 52) * 2 ^ (i - (-51) - (mo : Int) - 1 - (-1074 - ((200 : Nat) : Int))).toNat) := by
      rw [Nat.pow_one, ← Nat.mul_assoc, ← Nat.mul_assoc, ← Nat.mul_assoc, Nat.mul_comm m 2]
    rw [e1, ← Nat.pow_add, ← Nat.pow_add, show 1 + (mo - 52) + (i - (-51) - (mo : Int) - 1 - (-1074 - ((200 : Nat) : Int))).toNat = (i - -1074).toNat + 199 by omega, Nat.pow_add, ← Nat.mul_assoc, hU, Nat.mul_comm 2, Nat.mul_assoc]
  rw [hM] at hd
  have hg := Fp.grid_shift Ieee.double Z.natAbs 200 0
  rw [Nat.zero_add] at hg
  rw [hg] at hd
  have hs : Z ≠ 0 → Fp.sg Ieee.double x = decide (Z < 0) := fun h0 => by
    rw [un_sign (by rw [hZ]; omega), hZ]
    exact decide_eq_decide.2 (by omega)
  obtain ⟨w1, w2⟩ := word_is Z (Fp.sg Ieee.double x) hs
  have hl' : (rn Z).natAbs < 2 ^ Fp.dtop := by rw [rn_few hr]; exact hl
  exact ⟨_, hd, (floatBits_sane hd).1, w1.2 hl', (w2 hl').trans (rn_few hr)⟩
end Go.Proofs.YtjmaggfddinbkaaGreatDoor
end

section
namespace Go.Proofs.YtjmaggfddinbkaaGreatDoor
open Go.RowKit
@[go_sem] theorem mx_bits64 (a : Nat) (w : World) : (callFunc 63 #[.float .f64 a]).run Tryz.prog w = .ok (.value (.int .u64 a)) w := by kernel_rfl
@[go_sem] theorem mx_from64 (a : Int) (w : World) : (callFunc 68 #[.int .u64 a]).run Tryz.prog w = .ok (.value (.float .f64 a.toNat)) w := by kernel_rfl
theorem key_pos {r : Nat} (h : r < 9223372036854775808) : Fp.key64 r = r := by unfold Fp.key64; rw [if_neg (by omega), Nat.mod_eq_of_lt h]
theorem notnan {r : Nat} (h : r % 9223372036854775808 ≤ 9218868437227405312) : Fp.isNaN64 r = false := decide_eq_false (by omega)
theorem gt_max {r : Nat} (h : r < 9223372036854775808) : (FloatKind.f64.format.order r 9218868437227405311 == some .gt) = decide (r = 9218868437227405312) := by
  show (Ieee.double.order r 9218868437227405311 == some .gt) = _
  by_cases hn : r ≤ 9218868437227405312
  · rw [Fp.gt64 _ _ (notnan (by omega)) (notnan (by decide)), key_pos h, key_pos (by decide)]
    exact decide_eq_decide.2 (by omega)
  · rw [Fp.order64_nan _ _ (.inl (decide_eq_true (by omega))), decide_eq_false (by omega)]; rfl
set_option maxRecDepth 100000 in
set_option maxHeartbeats 600000 in
theorem m_abs (a : Nat) (ha : a < 18446744073709551616) (w : World) : Calls Tryz.prog 31 #[.float .f64 a] w fun e w' => e = .returned (.float .f64 (a % 9223372036854775808)) ∧ w = w' := by
  have h := u64_unsign a ha
  generalize a % 9223372036854775808 = m at *
  clear ha
  go_enter Tryz.func31, Tryz.ntmps31
  go_wp2
  go_ret
  exact ⟨rfl, rfl⟩
set_option maxRecDepth 100000 in
set_option maxHeartbeats 600000 in
theorem m_isinf (a : Nat) (ha : a < 18446744073709551616) (w : World) : Calls Tryz.prog 86 #[.float .f64 a, .int .i64 0] w fun e w' => e = .returned (.bool (decide (a % 9223372036854775808 = 9218868437227405312))) ∧ w = w' := by
  have HA := Lib.hid (fun w => m_abs a ha w)
  have h := gt_max (r := a % 9223372036854775808) (by omega)
  rw [← h]
  generalize a % 9223372036854775808 = m at *
  clear ha h
  go_enter Tryz.func86, Tryz.ntmps86
  go_wp2_with fail
  refine (HA.out _).mono ?_; rintro e1 w1 ⟨rfl, rfl⟩
  go_wp2
  go_ret
  exact ⟨rfl, rfl⟩
end Go.Proofs.YtjmaggfddinbkaaGreatDoor
end

section
namespace Go.Proofs.YtjmaggfddinbkaaGreatDoor
open Go.RowKit
theorem whole_num {c : Int} (hc : c.natAbs ≤ 9007199254740992) : ∃ a, FloatKind.f64.nearest c = a ∧ a < 18446744073709551616 ∧ a % 9223372036854775808 < 9218868437227405312 ∧ Fp.un Ieee.double a = c * 2 ^ upl := by
  have hr : RepZ (c * 2 ^ upl) := ⟨c, upl, rfl, hc⟩
  have h := Fp.ofInt_fin Ieee.double Fp.dL0 c
  rw [Fp.dD, show (1074 : Nat) = upl from rfl, ← natAbs_mul_pow] at h
  have hs : c * 2 ^ upl ≠ 0 → decide (c < 0) = decide (c * 2 ^ upl < 0) := fun _ => by
    have hp : (0 : Int) < 2 ^ upl := Int.pow_pos (by decide)
    refine decide_eq_decide.2 ⟨fun g => Int.mul_neg_of_neg_of_pos g hp, fun g => ?_⟩
    rcases Int.lt_or_le c 0 with g2 | g2
    · exact g2
    · exact absurd (Int.mul_nonneg g2 (Int.le_of_lt hp)) (Int.not_le.2 g)
  obtain ⟨w1, w2⟩ := word_is (c * 2 ^ upl) _ hs
  have hl : (rn (c * 2 ^ upl)).natAbs < 2 ^ Fp.dtop := by
    rw [rn_few hr, natAbs_mul_pow]
    have e53 : (2 : Nat) ^ 53 = 9007199254740992 := by decide
    have h0 : c.natAbs ≤ 2 ^ 53 := by omega
    have h1 : c.natAbs * 2 ^ upl ≤ 2 ^ 53 * 2 ^ upl := Nat.mul_le_mul_right _ h0
    rw [← Nat.pow_add] at h1
    exact Nat.lt_of_le_of_lt h1 (Nat.pow_lt_pow_right (by decide) (by rw [upl_is, Fp.dtop_eq]; decide))
  have e : FloatKind.f64.nearest c = Ieee.double.write (.number (c < 0) c.natAbs 0) := rfl
  refine ⟨_, e, (write_sane _ rfl).1, ?_, ?_⟩
  · rw [h]; exact w1.2 hl
  · rw [h, w2 hl, rn_few hr]
theorem un_ne {a : Nat} {Z : Int} (h : Fp.un Ieee.double a = Z) (h0 : Z ≠ 0) : (FloatKind.f64.format.order a 0 != some .eq) = true := by
  rw [bne, c_zero, decide_eq_false (fun g => h0 (by rw [← h]; exact un_zero.2 g))]; rfl
theorem pow_step (c : Int) (j : Nat) : 2 * (c * 2 ^ j) = c * 2 ^ (j + 1) := by rw [Int.pow_succ, Int.mul_comm, Int.mul_assoc]
theorem pow_ne {c : Int} (h : c ≠ 0) (j : Nat) : c * 2 ^ j ≠ 0 := Int.mul_ne_zero h (Int.ne_of_gt (Int.pow_pos (by decide)))
theorem pow_le_top {c : Int} {j k : Nat} (h : j ≤ k) (hl : (c * 2 ^ k).natAbs < 2 ^ Fp.dtop) : (c * 2 ^ j).natAbs < 2 ^ Fp.dtop := by
  rw [natAbs_mul_pow] at hl ⊢
  exact Nat.lt_of_le_of_lt (Nat.mul_le_mul_left _ (Nat.pow_le_pow_right (by decide) h)) hl
set_option maxRecDepth 100000 in
set_option maxHeartbeats 600000 in
theorem Xnumber (c x : Int) (g : Nat) (hc : c.natAbs ≤ 9007199254740992) (hx : -1074 ≤ x) (hx2 : x ≤ 5000) (hx0 : x ≠ 0 → c ≠ 0) (hl : (c * 2 ^ (1074 + x.toNat)).natAbs < 2 ^ Fp.dtop) (w : World) (hI : IntB w g c) : Calls Tryz.prog 144 #[.pointer (some ⟨g, 0, none⟩), .int .i64 x] w fun e w' => ∃ r, e = .returned (.float .f64 r) ∧ r < 18446744073709551616 ∧ r % 9223372036854775808 < 9218868437227405312 ∧ Fp.un Ieee.double r = c * 2 ^ (x + 1074).toNat ∧ Within w w' := by
  have HI := Lib.hid hI; clear hI
  obtain ⟨a0, ha0, al0, af0, au0⟩ := whole_num hc
  have BI := Lib.hid (fun w h => Bint64 g c (by omega) (by omega) w h)
  have hcv := fun (w : World) => run_convert_int_float (P := Tryz.prog) w 2 29 .i64 .f64 c (by kernel_rfl) (by kernel_rfl)
  have e0 : floatOfInt .f64 c = a0 := ha0
  rw [e0] at hcv
  clear ha0 e0
  have HC := Lib.hid hc; have HX0 := Lib.hid hx0; have HL := Lib.hid hl; clear hc hx0 hl
  go_enter Tryz.func144, Tryz.ntmps144
  go_wp2_with fail
  refine (BI.out _ HI.out).mono ?_; rintro e1 w1 ⟨rfl, rfl⟩
  have A0 := Lib.hid (And.intro al0 (And.intro af0 au0)); clear al0 af0 au0
  go_wp2
  go_loopw [5, 1] (fun xv ev wr => ∃ (j a : Nat), (j : Int) ≤ max x 0 ∧ xv = .float .f64 a ∧ ev = .int .i64 (x - (j : Int)) ∧ a < 18446744073709551616 ∧ a % 9223372036854775808 < 9218868437227405312 ∧ Fp.un Ieee.double a = c * 2 ^ (upl + j) ∧ Within w wr) (fun _ ev _ => (intOf ev).toNat)
  case atStart => exact ⟨0, a0, by omega, rfl, by rw [Int.natCast_zero, Int.sub_zero], A0.out.1, A0.out.2.1, A0.out.2.2, Within.refl _⟩
  case round =>
    obtain ⟨j, a, hj, rfl, rfl, al, af, au, hin⟩ := hrel
    by_cases hlt : x - (j : Int) > 0
    · have hc0 := HX0.out (by omega)
      have d1 : decide (x - (j : Int) > 0) = true := decide_eq_true hlt
      have d2 := un_ne au (pow_ne hc0 _)
      have II := Lib.hid (fun w => m_isinf a al w)
      rw [decide_eq_false (by omega)] at II
      obtain ⟨r, hr, rl, rf, ru⟩ := mul_two af au (by rw [pow_step]; exact ⟨c, _, rfl, HC.out⟩) (by rw [pow_step]; exact pow_le_top (by rw [upl_is]; omega) HL.out)
      rw [pow_step] at ru
      have hm := fun (t : TypeId) w => run_float_arith (P := Tryz.prog) w .mul t .f64 a 4611686018427387904 r hr
      have g1 : IntKind.i64.wrap (x - (j : Int) - 1) = x - ((j + 1 : Nat) : Int) := by rw [IntWalk.i64_in _ ⟨by omega, by omega⟩]; omega
      have RR := Lib.hid (And.intro rl (And.intro rf ru)); have HIN := Lib.hid hin; clear rl rf ru hr au af al hin
      generalize hy : x - (j : Int) = y at *
      have HY := Lib.hid hy; clear hy
      go_wp2_with fail
      refine (II.out _).mono ?_; rintro e2 w2 ⟨rfl, rfl⟩
      go_wp2
      go_roundw
      case rel => exact ⟨j + 1, r, by have := HY.out; omega, rfl, by first | rfl | exact congrArg _ g1, RR.out.1, RR.out.2.1, RR.out.2.2, HIN.out⟩
      case measure => simp [intOf]; have := HY.out; omega
    · have d1 : decide (x - (j : Int) > 0) = false := decide_eq_false hlt
      have ej : upl + j = 1074 + x.toNat := by rw [upl_is]; omega
      rw [ej] at au
      have ey : x - (j : Int) = min x 0 := by omega
      rw [ey] at d1 ⊢
      obtain ⟨y, hy⟩ : ∃ y, y = min x 0 := ⟨_, rfl⟩
      rw [← hy] at d1 ⊢
      have AA := Lib.hid (And.intro al (And.intro af au)); have HIN := Lib.hid hin; have HY := Lib.hid hy; clear al af au hin hy ey ej hj hlt
      go_wp2
      go_loopw [5, 1] (fun xv ev wr => ∃ (i b : Nat), (i : Int) ≤ -y ∧ xv = .float .f64 b ∧ ev = .int .i64 (y + (i : Int)) ∧ b < 18446744073709551616 ∧ b % 9223372036854775808 < 9218868437227405312 ∧ Fp.un Ieee.double b = c * 2 ^ (1074 + x.toNat - i) ∧ Within w wr) (fun _ ev _ => (-(intOf ev)).toNat)
      case atStart => exact ⟨0, a, by have := HY.out; omega, rfl, by rw [Int.natCast_zero, Int.add_zero], AA.out.1, AA.out.2.1, AA.out.2.2, HIN.out⟩
      case round =>
        obtain ⟨i, b, hi, rfl, rfl, bl, bf, bu, hin⟩ := hrel
        by_cases hlt : y + (i : Int) < 0
        · have hc0 := HX0.out (by have := HY.out; omega)
          have d1 : decide (y + (i : Int) < 0) = true := decide_eq_true hlt
          have d2 := un_ne bu (pow_ne hc0 _)
          have hlow : i + 1 ≤ 1074 + x.toNat := by have := HY.out; omega
          have ei : 1074 + x.toNat - i = (1074 + x.toNat - (i + 1)) + 1 := by omega
          rw [ei, ← pow_step] at bu
          obtain ⟨r, hr, rl, rf, ru⟩ := div_two bf bu ⟨c, _, rfl, HC.out⟩ (pow_le_top (by omega) HL.out)
          have hm := fun (t : TypeId) w => run_float_arith (P := Tryz.prog) w .quo t .f64 b 4611686018427387904 r hr
          have g1 : IntKind.i64.wrap (y + (i : Int) + 1) = y + ((i + 1 : Nat) : Int) := by rw [IntWalk.i64_in _ ⟨by have := HY.out; omega, by omega⟩]; omega
          have RR := Lib.hid (And.intro rl (And.intro rf ru)); have HIN := Lib.hid hin; clear rl rf ru hr bu bf bl hin ei hlow
          generalize hz : y + (i : Int) = z at *
          have HZ := Lib.hid hz; clear hz
          go_wp2
          go_roundw
          case rel => exact ⟨i + 1, r, by have := HZ.out; omega, rfl, by first | rfl | exact congrArg _ g1, RR.out.1, RR.out.2.1, RR.out.2.2, HIN.out⟩
          case measure => simp [intOf]; have := HZ.out; omega
        · have d1 : decide (y + (i : Int) < 0) = false := decide_eq_false hlt
          have ei : 1074 + x.toNat - i = (x + 1074).toNat := by have := HY.out; omega
          rw [ei] at bu
          have BB := Lib.hid (And.intro bl (And.intro bf bu)); have HIN := Lib.hid hin; clear bl bf bu hin ei hi hlt
          go_wp2
          go_ret
          exact ⟨b, rfl, BB.out.1, BB.out.2.1, BB.out.2.2, HIN.out⟩
end Go.Proofs.YtjmaggfddinbkaaGreatDoor
end

section
namespace Go.Proofs.YtjmaggfddinbkaaGreatDoor
open Go.RowKit
def nearA (r d : Int) : Int := if 0 < d then nearZ r d.toNat else r * 2 ^ (-d).toNat
theorem Near_any (r d : Int) (g : Nat) (hd : -16000 ≤ d ∧ d ≤ 16000) (hl : (dg r.natAbs).length ≤ 1000) (w : World) (hI : IntB w g r) : Calls Tryz.prog 164 #[.pointer (some ⟨g, 0, none⟩), .int .i64 d, .int .i64 0] w (NewI w (nearA r d)) := by
  unfold nearA
  by_cases h : 0 < d
  · rw [if_pos h]
    have := Near_down r g d.toNat (by omega) (by omega) hl w hI
    rwa [show ((d.toNat : Nat) : Int) = d by omega] at this
  · rw [if_neg h]
    have := Near_up r g (-d).toNat (by omega) hl w hI
    rwa [show -(((-d).toNat : Nat) : Int) = d by omega] at this
def qOf (n E x : Int) : Int := if n < 0 then -((Fp.rne (n.natAbs * 2 ^ (E + 2148).toNat) (2 ^ (x + 2148).toNat) : Nat) : Int) else ((Fp.rne (n.natAbs * 2 ^ (E + 2148).toNat) (2 ^ (x + 2148).toNat) : Nat) : Int)
theorem neg_iff {n r : Int} {t : Nat} (h : n = r * 2 ^ t) : (n < 0) ↔ (r < 0) := by
  have hp : (0 : Int) < 2 ^ t := Int.pow_pos (by decide)
  rw [h]
  refine ⟨fun g => ?_, fun g => Int.mul_neg_of_neg_of_pos g hp⟩
  rcases Int.lt_or_le r 0 with g2 | g2
  · exact g2
  · exact absurd (Int.mul_nonneg g2 (Int.le_of_lt hp)) (Int.not_le.2 g)
theorem near_q {n r E x : Int} {t : Nat} (h : n = r * 2 ^ t) (hE : -2148 ≤ E) (hx : -1074 ≤ x) : nearA r (x - (E + t)) = qOf n E x := by
  have hn : n.natAbs * 2 ^ (E + 2148).toNat = r.natAbs * 2 ^ (t + (E + 2148).toNat) := by rw [h, natAbs_mul_pow, Nat.mul_assoc, ← Nat.pow_add]
  unfold nearA qOf
  rw [hn]
  simp only [neg_iff h]
  by_cases hd : 0 < x - (E + t)
  · rw [if_pos hd, nearZ_is _ _ (by omega)]
    have e : (x + 2148).toNat = (x - (E + t)).toNat + (t + (E + 2148).toNat) := by omega
    rw [e, Nat.pow_add 2 (x - (E + t)).toNat, Fp.rne_scale _ _ _ (Nat.two_pow_pos _)]
  · rw [if_neg hd]
    have e : t + (E + 2148).toNat = (-(x - (E + t))).toNat + (x + 2148).toNat := by omega
    rw [e, Nat.pow_add, ← Nat.mul_assoc, Fp.rne_mul _ _ (Nat.two_pow_pos _), ← natAbs_mul_pow]
    have hs := neg_iff (n := r * 2 ^ (-(x - (E + t))).toNat) (r := r) rfl
    split <;> omega
theorem blen_odd {n r : Int} {t : Nat} (h : n = r * 2 ^ t) (h0 : r ≠ 0) : (blen n.natAbs : Nat) = blen r.natAbs + t := by
  rw [h, natAbs_mul_pow, blen_pos (Nat.mul_ne_zero (by omega) (Nat.ne_of_gt (Nat.two_pow_pos _))), blen_pos (by omega), Fp.log2_mul_pow _ _ (by omega)]; omega
theorem blen_small {n K : Nat} (h : (dg n).length ≤ K) : blen n ≤ 32 * K := by
  by_cases h0 : n = 0
  · subst h0; rw [blen_zero]; exact Nat.zero_le _
  · rw [blen_pos h0]
    have h1 : 2 ^ n.log2 < 2 ^ (32 * K) := by
      rw [Nat.pow_mul]
      exact Nat.lt_of_le_of_lt (Nat.log2_self_le h0) (Nat.lt_of_lt_of_le (lt_of_dg n) (Nat.pow_le_pow_right (by decide) h))
    exact (Nat.pow_lt_pow_iff_right (a := 2) (by decide)).1 h1
def RndR (W : World) (n E : Int) (e : Ending) (w' : World) : Prop := ∃ (h : Nat) (x : Int), e = .returned (.tuple #[.pointer (some ⟨h, 0, none⟩), .int .i64 x]) ∧ IntB w' h (qOf n E x) ∧ x = max (-1074) (E + (blen n.natAbs : Nat) - 53) ∧ Within W w'
set_option maxRecDepth 100000 in
set_option maxHeartbeats 600000 in
theorem Xround (n E : Int) (g : Nat) (h0 : n ≠ 0) (hl : (dg n.natAbs).length ≤ 100) (hE : -2148 ≤ E ∧ E ≤ 5000) (w : World) (hT : Tab32 w) (hI : IntB w g n) : Calls Tryz.prog 143 #[.agg #[.pointer (some ⟨g, 0, none⟩), .int .i64 E], .int .i64 53, .int .i64 (-1074), .int .i64 0] w (RndR w n E) := by
  have HI := Lib.hid hI; have HT := Lib.hid hT; clear hI hT
  have OD := Lib.hid (fun w hT hI => Xodd n E g h0 (Nat.le_trans hl (by decide)) (by omega) w hT hI)
  have hw1 : Within w (w.alloc (.cells #[.pointer (some ⟨g, 0, none⟩), .int .i64 E] 53)) := (Within.refl w).alloc _
  go_enter Tryz.func143, Tryz.ntmps143
  go_wp2_with fail
  refine (OD.out _ (HT.out.of (by repeat (first | with_reducible exact Within.refl _ | with_reducible assumption | with_reducible refine Within.alloc ?_ _ | with_reducible refine Within.drew ?_ | with_reducible refine Within.drewN ?_ _ | with_reducible refine Within.setCell ?_ (by first | (simp; done) | (simp; omega)) _ | with_reducible refine Within.trans ?_ (by assumption)))) (HI.out.of (by repeat (first | with_reducible exact Within.refl _ | with_reducible assumption | with_reducible refine Within.alloc ?_ _ | with_reducible refine Within.drew ?_ | with_reducible refine Within.drewN ?_ _ | with_reducible refine Within.setCell ?_ (by first | (simp; done) | (simp; omega)) _ | with_reducible refine Within.trans ?_ (by assumption))))).mono ?_; rintro e1 w1 ⟨t, m, r, hn, hr, h, rfl, hI1, hg1, hb1⟩
  have hz1 := (hb1.block _ (by simp)).trans (heap_alloc_new w (.cells #[.pointer (some ⟨g, 0, none⟩), .int .i64 E] 53))
  have hww1 := hw1.trans hb1
  have hhb : h ≠ w.heap.size := by have h9 : (w.alloc (.cells #[.pointer (some ⟨g, 0, none⟩), .int .i64 E] 53)).heap.size ≤ h := hg1; simp at h9; omega
  obtain ⟨y0, y1, yf⟩ := ex_cells' hz1
  have yl := World.block_lt_of_cell? _ _ y0
  obtain ⟨r0, r1, rI⟩ := ex_set (E := E + (t : Int)) hz1 hI1 hhb
  have hr0 : r ≠ 0 := by intro h; rw [h] at hr; simp at hr
  have hbl := blen_odd hn hr0
  have hrl : (dg r.natAbs).length ≤ 100 := Nat.le_trans (dg_len_mono (by rw [hn, natAbs_mul_pow]; exact Nat.le_mul_of_pos_right _ (Nat.two_pow_pos _))) hl
  have htb := blen_small hl
  have hw2 : Within w ((w1.setCell ⟨w.heap.size, 0, none⟩ (.pointer (some ⟨h, 0, none⟩))).setCell ⟨w.heap.size, 1, none⟩ (.int .i64 (E + (t : Int)))) := (hww1.setCell (Nat.le_refl _) _).setCell (Nat.le_refl _) _
  have rl : w.heap.size < ((w1.setCell ⟨w.heap.size, 0, none⟩ (.pointer (some ⟨h, 0, none⟩))).setCell ⟨w.heap.size, 1, none⟩ (.int .i64 (E + (t : Int)))).heap.size := by simpa [World.setCell] using yl
  have BL := Lib.hid (fun w hI => Bbitlen h r (Nat.le_trans hrl (by decide)) w hI)
  obtain ⟨bl, hbb⟩ : ∃ bl, bl = blen r.natAbs := ⟨_, rfl⟩
  rw [← hbb] at BL hbl
  have ga : IntKind.i64.wrap (E + (t : Int) + (bl : Int)) = E + (t : Int) + (bl : Int) := IntWalk.i64_in _ ⟨by omega, by omega⟩
  have gs : IntKind.i64.wrap (E + (t : Int) + (bl : Int) - 53) = E + (t : Int) + (bl : Int) - 53 := IntWalk.i64_in _ ⟨by omega, by omega⟩
  obtain ⟨x, hx⟩ : ∃ x, x = max (-1074) (E + (t : Int) + (bl : Int) - 53) := ⟨_, rfl⟩
  have gm : max (-1074) (E + (t : Int) + (bl : Int) - 53) = x := hx.symm
  have gd : IntKind.i64.wrap (x - (E + (t : Int))) = x - (E + (t : Int)) := IntWalk.i64_in _ ⟨by omega, by omega⟩
  have NE := Lib.hid (fun w hI => Near_any r (x - (E + (t : Int))) h (by omega) (Nat.le_trans hrl (by decide)) w hI)
  have hq := near_q (x := x) hn hE.1 (by omega)
  rw [hq] at NE
  have HX : Hid (x = max (-1074) (E + (blen n.natAbs : Nat) - 53)) := Lib.hid (by rw [hbl]; omega)
  clear hq hx hbl hbb htb hrl hr0 hr hn hl h0
  go_upto_region 2 with fail
  clear y0 y1 yf yl hz1 hI1 hg1 hww1 hhb hb1 hw1
  refine wp_region_schG (fun W => W.cell? ⟨w.heap.size, 0, none⟩ = some (.pointer (some ⟨h, 0, none⟩)) ∧ W.cell? ⟨w.heap.size, 1, none⟩ = some (.int .i64 (E + (t : Int))) ∧ IntB W h r ∧ w.heap.size < W.heap.size ∧ Within w W) 10 (.firm 0 (.firm 1 (.firm 2 (.firm 3 (.firm 4 (.firm 7 (.one 5 (.firm 6 (.firm 8 (.one 9 (.one 10 .nil))))))))))) (by kernel_rfl) (by kernel_rfl) ⟨r0, r1, rI, rl, hw2⟩ ?_
  rintro w0 ⟨c0, c1, hIr, l0, hw0⟩
  try simp only [Act.put, List.setIfInBounds_toArray, List.set_cons_zero, List.set_cons_succ]
  apply sch_firm rfl rfl (by repeat (first | with_reducible exact Within.refl _ | with_reducible assumption | with_reducible refine Within.alloc ?_ _ | with_reducible refine Within.drew ?_ | with_reducible refine Within.drewN ?_ _ | with_reducible refine Within.setCell ?_ (by first | (simp; done) | (simp; omega)) _ | with_reducible refine Within.trans ?_ (by assumption)))
  · intro wq hq
    have hcq := hq.cells
    clear hq
    go_simp
    first | rfl | (trace_state; fail)
  try simp only [Act.put, List.setIfInBounds_toArray, List.set_cons_zero, List.set_cons_succ]
  apply sch_firm rfl rfl (by repeat (first | with_reducible exact Within.refl _ | with_reducible assumption | with_reducible refine Within.alloc ?_ _ | with_reducible refine Within.drew ?_ | with_reducible refine Within.drewN ?_ _ | with_reducible refine Within.setCell ?_ (by first | (simp; done) | (simp; omega)) _ | with_reducible refine Within.trans ?_ (by assumption)))
  · intro wq hq
    have hcq := hq.cells
    clear hq
    go_simp
    first | rfl | (trace_state; fail)
  try simp only [Act.put, List.setIfInBounds_toArray, List.set_cons_zero, List.set_cons_succ]
  apply sch_firm rfl rfl (by repeat (first | with_reducible exact Within.refl _ | with_reducible assumption | with_reducible refine Within.alloc ?_ _ | with_reducible refine Within.drew ?_ | with_reducible refine Within.drewN ?_ _ | with_reducible refine Within.setCell ?_ (by first | (simp; done) | (simp; omega)) _ | with_reducible refine Within.trans ?_ (by assumption)))
  · intro wq hq
    have hcq := hq.cells
    clear hq
    go_simp
    first | rfl | (trace_state; fail)
  try simp only [Act.put, List.setIfInBounds_toArray, List.set_cons_zero, List.set_cons_succ]
  apply sch_firm rfl rfl (by repeat (first | with_reducible exact Within.refl _ | with_reducible assumption | with_reducible refine Within.alloc ?_ _ | with_reducible refine Within.drew ?_ | with_reducible refine Within.drewN ?_ _ | with_reducible refine Within.setCell ?_ (by first | (simp; done) | (simp; omega)) _ | with_reducible refine Within.trans ?_ (by assumption)))
  · intro wq hq
    have hcq := hq.cells
    clear hq
    go_simp
    first | rfl | (trace_state; fail)
  try simp only [Act.put, List.setIfInBounds_toArray, List.set_cons_zero, List.set_cons_succ]
  apply sch_firm rfl rfl (by repeat (first | with_reducible exact Within.refl _ | with_reducible assumption | with_reducible refine Within.alloc ?_ _ | with_reducible refine Within.drew ?_ | with_reducible refine Within.drewN ?_ _ | with_reducible refine Within.setCell ?_ (by first | (simp; done) | (simp; omega)) _ | with_reducible refine Within.trans ?_ (by assumption)))
  · intro wq hq
    have hcq := hq.cells
    clear hq
    go_simp
    first | rfl | (trace_state; fail)
  try simp only [Act.put, List.setIfInBounds_toArray, List.set_cons_zero, List.set_cons_succ]
  apply sch_firm rfl rfl (by repeat (first | with_reducible exact Within.refl _ | with_reducible assumption | with_reducible refine Within.alloc ?_ _ | with_reducible refine Within.drew ?_ | with_reducible refine Within.drewN ?_ _ | with_reducible refine Within.setCell ?_ (by first | (simp; done) | (simp; omega)) _ | with_reducible refine Within.trans ?_ (by assumption)))
  · intro wq hq
    have hcq := hq.cells
    clear hq
    go_simp
    first | rfl | (trace_state; fail)
  try simp only [Act.put, List.setIfInBounds_toArray, List.set_cons_zero, List.set_cons_succ]
  refine sch_one rfl rfl (fun K hK => ?_)
  go_simp
  refine (BL.out _ (IntB.of hIr (by repeat (first | with_reducible exact Within.refl _ | with_reducible assumption | with_reducible refine Within.alloc ?_ _ | with_reducible refine Within.drew ?_ | with_reducible refine Within.drewN ?_ _ | with_reducible refine Within.setCell ?_ (by first | (simp; done) | (simp; omega)) _ | with_reducible refine Within.trans ?_ (by assumption))))).mono ?_; rintro e5 w5 ⟨rfl, hv5⟩
  have hv5 := ((Within.refl w0).drew).trans hv5
  have k0 := (hv5.cells _ _ l0).trans c0
  have k1 := (hv5.cells _ _ l0).trans c1
  have kI := hIr.of hv5
  refine hK _ _ (fun _ => (by repeat (first | with_reducible exact Within.refl _ | with_reducible assumption | with_reducible refine Within.alloc ?_ _ | with_reducible refine Within.drew ?_ | with_reducible refine Within.drewN ?_ _ | with_reducible refine Within.setCell ?_ (by first | (simp; done) | (simp; omega)) _ | with_reducible refine Within.trans ?_ (by assumption)))) ?_
  clear hK K
  try simp only [Act.put, List.setIfInBounds_toArray, List.set_cons_zero, List.set_cons_succ]
  apply sch_firm rfl rfl (by repeat (first | with_reducible exact Within.refl _ | with_reducible assumption | with_reducible refine Within.alloc ?_ _ | with_reducible refine Within.drew ?_ | with_reducible refine Within.drewN ?_ _ | with_reducible refine Within.setCell ?_ (by first | (simp; done) | (simp; omega)) _ | with_reducible refine Within.trans ?_ (by assumption)))
  · intro wq hq
    have hcq := hq.cells
    clear hq
    go_simp
    first | rfl | (trace_state; fail)
  try simp only [Act.put, List.setIfInBounds_toArray, List.set_cons_zero, List.set_cons_succ]
  apply sch_firm rfl rfl (by repeat (first | with_reducible exact Within.refl _ | with_reducible assumption | with_reducible refine Within.alloc ?_ _ | with_reducible refine Within.drew ?_ | with_reducible refine Within.drewN ?_ _ | with_reducible refine Within.setCell ?_ (by first | (simp; done) | (simp; omega)) _ | with_reducible refine Within.trans ?_ (by assumption)))
  · intro wq hq
    have hcq := hq.cells
    clear hq
    go_simp
    first | rfl | (trace_state; fail)
  try simp only [Act.put, List.setIfInBounds_toArray, List.set_cons_zero, List.set_cons_succ]
  refine sch_one rfl rfl (fun K hK => ?_)
  go_simp
  refine hK _ _ (fun _ => (by repeat (first | with_reducible exact Within.refl _ | with_reducible assumption | with_reducible refine Within.alloc ?_ _ | with_reducible refine Within.drew ?_ | with_reducible refine Within.drewN ?_ _ | with_reducible refine Within.setCell ?_ (by first | (simp; done) | (simp; omega)) _ | with_reducible refine Within.trans ?_ (by assumption)))) ?_
  clear hK K
  try simp only [Act.put, List.setIfInBounds_toArray, List.set_cons_zero, List.set_cons_succ]
  refine sch_one rfl rfl (fun K hK => ?_)
  go_simp
  refine hK _ _ (fun h => absurd h (by decide)) ?_
  clear hK K
  try simp only [Act.put, List.setIfInBounds_toArray, List.set_cons_zero, List.set_cons_succ]
  refine sch_nil ?_
  have hw5 : Within w w5 := hw0.trans hv5
  clear c0 c1 hIr l0 hw0 hv5 r0 r1 rI rl hw2
  go_wp2_with fail
  refine (NE.out _ (kI.of (by repeat (first | with_reducible exact Within.refl _ | with_reducible assumption | with_reducible refine Within.alloc ?_ _ | with_reducible refine Within.drew ?_ | with_reducible refine Within.drewN ?_ _ | with_reducible refine Within.setCell ?_ (by first | (simp; done) | (simp; omega)) _ | with_reducible refine Within.trans ?_ (by assumption))))).mono ?_; rintro e6 w6 ⟨p, rfl, hI6, hg6, hb6⟩
  go_wp2
  go_ret2
  exact ⟨p, x, rfl, hI6, HX.out, hw5.trans hb6⟩
end Go.Proofs.YtjmaggfddinbkaaGreatDoor
end

section
namespace Go.Proofs.YtjmaggfddinbkaaGreatDoor
open Go.RowKit
theorem e53 : (2 : Nat) ^ 53 = 9007199254740992 := by decide
theorem low_top {c : Nat} {k : Nat} (hc : c ≤ 9007199254740992) (hk : k ≤ 1074 + 920) : c * 2 ^ k < 2 ^ Fp.dtop := by
  have h1 : c * 2 ^ k ≤ 2 ^ 53 * 2 ^ k := Nat.mul_le_mul_right _ (by rw [e53]; exact hc)
  rw [← Nat.pow_add] at h1
  exact Nat.lt_of_le_of_lt h1 (Nat.pow_lt_pow_right (by decide) (by rw [Fp.dtop_eq]; omega))
def OdR (W : World) (Q x : Int) (e : Ending) (w' : World) : Prop := ∃ c y : Int, ExR W c y e w' ∧ c.natAbs ≤ 9007199254740992 ∧ -1074 ≤ y ∧ y ≤ 5000 ∧ (y ≠ 0 → c ≠ 0) ∧ (c * 2 ^ (1074 + y.toNat)).natAbs < 2 ^ Fp.dtop ∧ c * 2 ^ (y + 1074).toNat = Q * 2 ^ (x + 1074).toNat
theorem Xodd_any (Q x : Int) (g : Nat) (hQ : Q.natAbs ≤ 9007199254740992) (hx : -1074 ≤ x ∧ x ≤ 918) (w : World) (hT : Tab32 w) (hI : IntB w g Q) : Calls Tryz.prog 45 #[.agg #[.pointer (some ⟨g, 0, none⟩), .int .i64 x]] w (OdR w Q x) := by
  by_cases h0 : Q = 0
  · subst h0
    refine (Xodd_zero x g w hI).mono fun e w' h => ⟨0, 0, h, by decide, by decide, by decide, fun h => absurd rfl h, ?_, by rw [Int.zero_mul, Int.zero_mul]⟩
    rw [Int.zero_mul]; exact Nat.two_pow_pos _
  · have hl : (dg Q.natAbs).length ≤ 1000 := Nat.le_trans (dg_small (k := 2) (Nat.lt_of_le_of_lt hQ (by decide))) (by decide)
    refine (Xodd Q x g h0 hl (by omega) w hT hI).mono ?_
    rintro e w' ⟨t, m, r, hn, hr, hE⟩
    have hr0 : r ≠ 0 := by intro h; rw [h] at hr; simp at hr
    have hrQ : r.natAbs * 2 ^ t = Q.natAbs := by rw [hn, natAbs_mul_pow]
    have hp := Nat.two_pow_pos t
    have hrl : r.natAbs ≤ Q.natAbs := by rw [← hrQ]; exact Nat.le_mul_of_pos_right _ hp
    have ht : t ≤ 53 := by
      have h1 : 2 ^ t ≤ Q.natAbs := by rw [← hrQ]; exact Nat.le_mul_of_pos_left _ (by omega)
      have h2 : (2 : Nat) ^ t < 2 ^ 54 := by have : (2 : Nat) ^ 54 = 18014398509481984 := by decide
                                             omega
      have := (Nat.pow_lt_pow_iff_right (a := 2) (by decide)).1 h2
      omega
    refine ⟨r, x + t, hE, by omega, by omega, by omega, fun _ => hr0, ?_, ?_⟩
    · rw [natAbs_mul_pow]
      by_cases hxt : 0 ≤ x + t
      · rw [show 1074 + (x + (t : Int)).toNat = t + (x + 1074).toNat by omega, Nat.pow_add, ← Nat.mul_assoc, hrQ]
        exact low_top hQ (by omega)
      · obtain ⟨z, hz⟩ : ∃ z, z = (x + (t : Int)).toNat := ⟨_, rfl⟩
        rw [← hz]
        exact low_top (by omega) (by omega)
    · rw [show (x + (t : Int) + 1074).toNat = t + (x + 1074).toNat by omega, Int.pow_add, ← Int.mul_assoc, ← hn]
theorem log_mul {n : Nat} {E : Int} (h0 : n ≠ 0) (hE : -2148 ≤ E) : (((n * 2 ^ (E + 2148).toNat).log2 : Nat) : Int) = (blen n : Nat) - 1 + E + 2148 := by
  rw [Fp.log2_mul_pow _ _ h0, blen_pos h0]; omega
theorem x_is {n : Nat} {E x : Int} (h0 : n ≠ 0) (hE : -2148 ≤ E) (hx : x = max (-1074) (E + (blen n : Nat) - 53)) : (x + 2148).toNat = max ((n * 2 ^ (E + 2148).toNat).log2 - 52) 1074 := by
  have := log_mul h0 hE; omega
theorem q_is {n E x : Int} (h0 : n ≠ 0) (hE : -2148 ≤ E) (hx : x = max (-1074) (E + (blen n.natAbs : Nat) - 53)) : (qOf n E x).natAbs ≤ 9007199254740992 ∧ (qOf n E x).natAbs * 2 ^ (x + 1074).toNat = Fp.mag Ieee.double (Fp.grid Ieee.double (n.natAbs * 2 ^ (E + 2148).toNat) 1074) := by
  have e := x_is (by omega) hE hx
  have ea : (qOf n E x).natAbs = Fp.rne (n.natAbs * 2 ^ (E + 2148).toNat) (2 ^ (x + 2148).toNat) := by unfold qOf; split <;> omega
  obtain ⟨M, hM⟩ : ∃ M, M = n.natAbs * 2 ^ (E + 2148).toNat := ⟨_, rfl⟩
  rw [← hM] at e ea ⊢
  have g1 := (Fp.grid_parts M 1074).1
  have g2 := Fp.mag_grid M 1074
  obtain ⟨K, hK⟩ : ∃ K, K = max (M.log2 - 52) 1074 := ⟨_, rfl⟩
  rw [← hK] at e g1 g2
  rw [e] at ea
  rw [ea, g2]
  refine ⟨g1, ?_⟩
  rw [show (x + 1074).toNat = K - 1074 by omega]
def rndW (n E : Int) : Nat := Ieee.double.word (decide (n < 0)) (Fp.grid Ieee.double (n.natAbs * 2 ^ (E + 2148).toNat) 1074)
theorem word_rnd {n E x : Int} {r : Nat} (h0 : n ≠ 0) (hE : -2148 ≤ E) (hx : x = max (-1074) (E + (blen n.natAbs : Nat) - 53)) (_hr : r < 18446744073709551616) (hf : r % 9223372036854775808 < 9218868437227405312) (hu : Fp.un Ieee.double r = qOf n E x * 2 ^ (x + 1074).toNat) : rndW n E = r % 9223372036854775808 + (if n < 0 then 9223372036854775808 else 0) := by
  have h1 := un_abs r
  rw [hu, natAbs_mul_pow, (q_is h0 hE hx).2] at h1
  have h2 := (Fp.mag_inj Ieee.double).1 h1
  unfold rndW Ieee.Format.word
  rw [h2, Fp.rg64, Fp.dS]
  by_cases h : n < 0
  · rw [decide_eq_true h, if_pos h]; simp; omega
  · rw [decide_eq_false h, if_neg h]; simp
end Go.Proofs.YtjmaggfddinbkaaGreatDoor
end

section
namespace Go.Proofs.YtjmaggfddinbkaaGreatDoor
open Go.RowKit
theorem blen_53 {n : Nat} (h : n ≤ 9007199254740992) : blen n ≤ 54 := by
  by_cases h0 : n = 0
  · subst h0; decide
  · rw [blen_pos h0]
    have h1 := Nat.log2_self_le h0
    have e54 : (2 : Nat) ^ 54 = 18014398509481984 := by decide
    have h2 : (2 : Nat) ^ n.log2 < 2 ^ 54 := by omega
    have := (Nat.pow_lt_pow_iff_right (a := 2) (by decide)).1 h2
    omega
theorem or_none (a : Nat) (ha : a < 9223372036854775808) : bits .or .u64 (a : Int) 0 = (a : Int) := by
  rw [show (0 : Int) = ((0 : Nat) : Int) from rfl, u64_or_nat a 0 (by omega) (by decide), Nat.or_zero]
theorem or_sgn (a : Nat) (ha : a < 9223372036854775808) : bits .or .u64 (a : Int) 9223372036854775808 = ((a + 9223372036854775808 : Nat) : Int) := by
  rw [show (9223372036854775808 : Int) = ((9223372036854775808 : Nat) : Int) from rfl, u64_or_nat a 9223372036854775808 (by omega) (by decide)]
  congr 1
  have h := Nat.two_pow_add_eq_or_of_lt (i := 63) (b := a) (by simpa using ha) 1
  rw [Nat.or_comm]
  simp at h
  omega
set_option maxRecDepth 100000 in
set_option maxHeartbeats 600000 in
theorem m_cps_p (a : Nat) (ha : a < 18446744073709551616) (w : World) : Calls Tryz.prog 140 #[.float .f64 a, .float .f64 4607182418800017408] w fun e w' => e = .returned (.float .f64 (a % 9223372036854775808)) ∧ w = w' := by
  have h1 := u64_unsign a ha
  have h2 : bits .and .u64 4607182418800017408 9223372036854775808 = 0 := by decide +kernel
  have hb : a % 9223372036854775808 < 9223372036854775808 := Nat.mod_lt _ (by decide)
  have h3 := or_none _ hb
  generalize a % 9223372036854775808 = b at *
  clear ha hb
  go_enter Tryz.func140, Tryz.ntmps140
  go_wp2
  go_ret
  exact ⟨rfl, rfl⟩
set_option maxRecDepth 100000 in
set_option maxHeartbeats 600000 in
theorem m_cps_n (a : Nat) (ha : a < 18446744073709551616) (w : World) : Calls Tryz.prog 140 #[.float .f64 a, .float .f64 13830554455654793216] w fun e w' => e = .returned (.float .f64 (a % 9223372036854775808 + 9223372036854775808)) ∧ w = w' := by
  have h1 := u64_unsign a ha
  have h2 : bits .and .u64 13830554455654793216 9223372036854775808 = 9223372036854775808 := by decide +kernel
  have hb : a % 9223372036854775808 < 9223372036854775808 := Nat.mod_lt _ (by decide)
  have h3 := or_sgn _ hb
  generalize a % 9223372036854775808 = b at *
  generalize hs : b + 9223372036854775808 = s at *
  clear hs
  clear ha hb
  go_enter Tryz.func140, Tryz.ntmps140
  go_wp2
  go_ret
  exact ⟨rfl, rfl⟩
set_option maxRecDepth 100000 in
set_option maxHeartbeats 600000 in
theorem Xrnd_p (n E : Int) (g : Nat) (hn : 0 < n) (hl : (dg n.natAbs).length ≤ 100) (hE : -2148 ≤ E ∧ E ≤ 5000) (hbig : E + (blen n.natAbs : Nat) ≤ 971) (w : World) (hT : Tab32 w) (hI : IntB w g n) : Calls Tryz.prog 113 #[.agg #[.pointer (some ⟨g, 0, none⟩), .int .i64 E], .int .i64 0] w fun e w' => e = .returned (.float .f64 (rndW n E)) ∧ Within w w' := by
  have hss : n.sign = 1 := Int.sign_eq_one_of_pos hn
  have h0 : n ≠ 0 := by omega
  have hdw := fun x r hx hr hf hu => word_rnd (x := x) (r := r) h0 hE.1 hx hr hf hu
  rw [if_neg (show ¬ n < 0 by omega)] at hdw
  simp only [Nat.add_zero] at hdw
  obtain ⟨W, hW⟩ : ∃ W, W = rndW n E := ⟨_, rfl⟩
  rw [← hW] at hdw ⊢
  have HDW := Lib.hid hdw; clear hdw hW
  have HI := Lib.hid hI; have HT := Lib.hid hT; clear hI hT
  have SG := Lib.hid (fun w hI => Bsign g n w hI)
  rw [hss] at SG
  have RN := Lib.hid (fun w hT hI => Xround n E g h0 hl hE w hT hI)
  have hw1 : Within w (w.alloc (.cells #[.pointer (some ⟨g, 0, none⟩), .int .i64 E] 53)) := (Within.refl w).alloc _
  have hcv := fun (w : World) => run_convert_int_float (P := Tryz.prog) w 3 29 .i64 .f64 1 (by kernel_rfl) (by kernel_rfl)
  rw [show floatOfInt .f64 1 = 4607182418800017408 by decide +kernel] at hcv
  have HN := Lib.hid hn; have HB := Lib.hid hbig; have HE := Lib.hid hE; have H0 := Lib.hid h0; clear hn hss hbig hl
  go_enter Tryz.func113, Tryz.ntmps113
  go_wp2_with fail
  refine (SG.out _ (HI.out.of (by repeat (first | with_reducible exact Within.refl _ | with_reducible assumption | with_reducible refine Within.alloc ?_ _ | with_reducible refine Within.drew ?_ | with_reducible refine Within.drewN ?_ _ | with_reducible refine Within.setCell ?_ (by first | (simp; done) | (simp; omega)) _ | with_reducible refine Within.trans ?_ (by assumption))))).mono ?_; rintro e1 w1 ⟨rfl, rfl⟩
  go_wp2_with fail
  refine (RN.out _ (HT.out.of (by repeat (first | with_reducible exact Within.refl _ | with_reducible assumption | with_reducible refine Within.alloc ?_ _ | with_reducible refine Within.drew ?_ | with_reducible refine Within.drewN ?_ _ | with_reducible refine Within.setCell ?_ (by first | (simp; done) | (simp; omega)) _ | with_reducible refine Within.trans ?_ (by assumption)))) (HI.out.of (by repeat (first | with_reducible exact Within.refl _ | with_reducible assumption | with_reducible refine Within.alloc ?_ _ | with_reducible refine Within.drew ?_ | with_reducible refine Within.drewN ?_ _ | with_reducible refine Within.setCell ?_ (by first | (simp; done) | (simp; omega)) _ | with_reducible refine Within.trans ?_ (by assumption))))).mono ?_; rintro e2 w2 ⟨h, x, rfl, hI2, hx, hb2⟩
  have hw2 := hw1.trans hb2
  have hq := (q_is H0.out HE.out.1 hx).1
  have hx2 : -1074 ≤ x ∧ x ≤ 918 := by have := HB.out; omega
  have HX := Lib.hid hx; clear hx
  have hql : (dg (qOf n E x).natAbs).length ≤ 2 := dg_small (Nat.lt_of_le_of_lt hq (by decide))
  have hqb := blen_53 hq
  obtain ⟨Q, hQ⟩ : ∃ Q, Q = qOf n E x := ⟨_, rfl⟩
  have hdw2 := fun r hr hf hu => HDW.out x r HX.out hr hf hu
  rw [← hQ] at hdw2 hI2 hq hql hqb
  have HD2 := Lib.hid hdw2; clear hdw2 HDW hQ
  have BL := Lib.hid (fun w hI => Bbitlen h Q (Nat.le_trans hql (by decide)) w hI)
  have OD := Lib.hid (fun w hT hI => Xodd_any Q x h hq hx2 w hT hI)
  obtain ⟨bl, hbl⟩ : ∃ bl, bl = blen Q.natAbs := ⟨_, rfl⟩
  rw [← hbl] at BL hqb
  have ga : IntKind.i64.wrap ((bl : Int) + x) = (bl : Int) + x := IntWalk.i64_in _ ⟨by omega, by omega⟩
  have gg : decide ((bl : Int) + x > 1024) = false := decide_eq_false (by omega)
  clear hbl hqb hql hq HX HB
  go_wp2_with fail
  refine (BL.out _ hI2).mono ?_; rintro e3 w3 ⟨rfl, hb3⟩
  have hI3 := hI2.of hb3
  have hw3 := hw2.trans hb3
  go_wp2_with fail
  refine (OD.out _ (HT.out.of hw3) hI3).mono ?_; rintro e4 w4 ⟨c, y, ⟨p, rfl, hI4, hp4, hb4⟩, y1, y2, y3, y4, y5, y6⟩
  have hw4 := hw3.trans hb4
  have NU := Lib.hid (fun w hI => Xnumber c y p y1 y2 y3 y4 y5 w hI)
  rw [y6] at NU
  clear y1 y2 y3 y4 y5 y6
  have hI5 := hI4.of ((Within.refl w4).alloc (.cells #[.pointer (some ⟨p, 0, none⟩), .int .i64 y] 53))
  have hw5 := hw4.trans ((Within.refl w4).alloc (.cells #[.pointer (some ⟨p, 0, none⟩), .int .i64 y] 53))
  clear hb2 hb3 hb4 hI2 hI3 hw2 hw3 hp4
  go_wp2_with fail
  refine (NU.out _ hI5).mono ?_; rintro e6 w6 ⟨r, rfl, r1, r2, r3, hb6⟩
  have hw6 := hw5.trans hb6
  have hres := HD2.out r r1 r2 r3
  have CS := Lib.hid (fun w => m_cps_p r r1 w)
  rw [← hres] at CS
  clear hres r1 r2 r3
  go_wp2_with fail
  refine (CS.out _).mono ?_; rintro e7 w7 ⟨rfl, rfl⟩
  go_wp2
  go_ret
  exact ⟨rfl, hw6⟩
set_option maxRecDepth 100000 in
set_option maxHeartbeats 600000 in
theorem Xrnd_n (n E : Int) (g : Nat) (hn : n < 0) (hl : (dg n.natAbs).length ≤ 100) (hE : -2148 ≤ E ∧ E ≤ 5000) (hbig : E + (blen n.natAbs : Nat) ≤ 971) (w : World) (hT : Tab32 w) (hI : IntB w g n) : Calls Tryz.prog 113 #[.agg #[.pointer (some ⟨g, 0, none⟩), .int .i64 E], .int .i64 0] w fun e w' => e = .returned (.float .f64 (rndW n E)) ∧ Within w w' := by
  have hss : n.sign = -1 := Int.sign_eq_neg_one_of_neg hn
  have h0 : n ≠ 0 := by omega
  have hdw := fun x r hx hr hf hu => word_rnd (x := x) (r := r) h0 hE.1 hx hr hf hu
  rw [if_pos hn] at hdw
  obtain ⟨W, hW⟩ : ∃ W, W = rndW n E := ⟨_, rfl⟩
  rw [← hW] at hdw ⊢
  have HDW := Lib.hid hdw; clear hdw hW
  have HI := Lib.hid hI; have HT := Lib.hid hT; clear hI hT
  have SG := Lib.hid (fun w hI => Bsign g n w hI)
  rw [hss] at SG
  have RN := Lib.hid (fun w hT hI => Xround n E g h0 hl hE w hT hI)
  have hw1 : Within w (w.alloc (.cells #[.pointer (some ⟨g, 0, none⟩), .int .i64 E] 53)) := (Within.refl w).alloc _
  have hcv := fun (w : World) => run_convert_int_float (P := Tryz.prog) w 3 29 .i64 .f64 (-1) (by kernel_rfl) (by kernel_rfl)
  rw [show floatOfInt .f64 (-1) = 13830554455654793216 by decide +kernel] at hcv
  have HN := Lib.hid hn; have HB := Lib.hid hbig; have HE := Lib.hid hE; have H0 := Lib.hid h0; clear hn hss hbig hl
  go_enter Tryz.func113, Tryz.ntmps113
  go_wp2_with fail
  refine (SG.out _ (HI.out.of (by repeat (first | with_reducible exact Within.refl _ | with_reducible assumption | with_reducible refine Within.alloc ?_ _ | with_reducible refine Within.drew ?_ | with_reducible refine Within.drewN ?_ _ | with_reducible refine Within.setCell ?_ (by first | (simp; done) | (simp; omega)) _ | with_reducible refine Within.trans ?_ (by assumption))))).mono ?_; rintro e1 w1 ⟨rfl, rfl⟩
  go_wp2_with fail
  refine (RN.out _ (HT.out.of (by repeat (first | with_reducible exact Within.refl _ | with_reducible assumption | with_reducible refine Within.alloc ?_ _ | with_reducible refine Within.drew ?_ | with_reducible refine Within.drewN ?_ _ | with_reducible refine Within.setCell ?_ (by first | (simp; done) | (simp; omega)) _ | with_reducible refine Within.trans ?_ (by assumption)))) (HI.out.of (by repeat (first | with_reducible exact Within.refl _ | with_reducible assumption | with_reducible refine Within.alloc ?_ _ | with_reducible refine Within.drew ?_ | with_reducible refine Within.drewN ?_ _ | with_reducible refine Within.setCell ?_ (by first | (simp; done) | (simp; omega)) _ | with_reducible refine Within.trans ?_ (by assumption))))).mono ?_; rintro e2 w2 ⟨h, x, rfl, hI2, hx, hb2⟩
  have hw2 := hw1.trans hb2
  have hq := (q_is H0.out HE.out.1 hx).1
  have hx2 : -1074 ≤ x ∧ x ≤ 918 := by have := HB.out; omega
  have HX := Lib.hid hx; clear hx
  have hql : (dg (qOf n E x).natAbs).length ≤ 2 := dg_small (Nat.lt_of_le_of_lt hq (by decide))
  have hqb := blen_53 hq
  obtain ⟨Q, hQ⟩ : ∃ Q, Q = qOf n E x := ⟨_, rfl⟩
  have hdw2 := fun r hr hf hu => HDW.out x r HX.out hr hf hu
  rw [← hQ] at hdw2 hI2 hq hql hqb
  have HD2 := Lib.hid hdw2; clear hdw2 HDW hQ
  have BL := Lib.hid (fun w hI => Bbitlen h Q (Nat.le_trans hql (by decide)) w hI)
  have OD := Lib.hid (fun w hT hI => Xodd_any Q x h hq hx2 w hT hI)
  obtain ⟨bl, hbl⟩ : ∃ bl, bl = blen Q.natAbs := ⟨_, rfl⟩
  rw [← hbl] at BL hqb
  have ga : IntKind.i64.wrap ((bl : Int) + x) = (bl : Int) + x := IntWalk.i64_in _ ⟨by omega, by omega⟩
  have gg : decide ((bl : Int) + x > 1024) = false := decide_eq_false (by omega)
  clear hbl hqb hql hq HX HB
  go_wp2_with fail
  refine (BL.out _ hI2).mono ?_; rintro e3 w3 ⟨rfl, hb3⟩
  have hI3 := hI2.of hb3
  have hw3 := hw2.trans hb3
  go_wp2_with fail
  refine (OD.out _ (HT.out.of hw3) hI3).mono ?_; rintro e4 w4 ⟨c, y, ⟨p, rfl, hI4, hp4, hb4⟩, y1, y2, y3, y4, y5, y6⟩
  have hw4 := hw3.trans hb4
  have NU := Lib.hid (fun w hI => Xnumber c y p y1 y2 y3 y4 y5 w hI)
  rw [y6] at NU
  clear y1 y2 y3 y4 y5 y6
  have hI5 := hI4.of ((Within.refl w4).alloc (.cells #[.pointer (some ⟨p, 0, none⟩), .int .i64 y] 53))
  have hw5 := hw4.trans ((Within.refl w4).alloc (.cells #[.pointer (some ⟨p, 0, none⟩), .int .i64 y] 53))
  clear hb2 hb3 hb4 hI2 hI3 hw2 hw3 hp4
  go_wp2_with fail
  refine (NU.out _ hI5).mono ?_; rintro e6 w6 ⟨r, rfl, r1, r2, r3, hb6⟩
  have hw6 := hw5.trans hb6
  have hres := HD2.out r r1 r2 r3
  have CS := Lib.hid (fun w => m_cps_n r r1 w)
  rw [← hres] at CS
  clear hres r1 r2 r3
  go_wp2_with fail
  refine (CS.out _).mono ?_; rintro e7 w7 ⟨rfl, rfl⟩
  go_wp2
  go_ret
  exact ⟨rfl, hw6⟩
theorem Xrnd (n E : Int) (g : Nat) (hn : n ≠ 0) (hl : (dg n.natAbs).length ≤ 100) (hE : -2148 ≤ E ∧ E ≤ 5000) (hbig : E + (blen n.natAbs : Nat) ≤ 971) (w : World) (hT : Tab32 w) (hI : IntB w g n) : Calls Tryz.prog 113 #[.agg #[.pointer (some ⟨g, 0, none⟩), .int .i64 E], .int .i64 0] w fun e w' => e = .returned (.float .f64 (rndW n E)) ∧ Within w w' := by
  rcases Int.lt_or_le n 0 with h | h
  · exact Xrnd_n n E g h hl hE hbig w hT hI
  · exact Xrnd_p n E g (by omega) hl hE hbig w hT hI
end Go.Proofs.YtjmaggfddinbkaaGreatDoor
end

section
namespace Go.Proofs.YtjmaggfddinbkaaGreatDoor
def fusD (a b p : Nat) : Int := Fp.un Ieee.double a * Fp.un Ieee.double b - Fp.un Ieee.double p * 2 ^ upl
def fusR (a b p : Nat) : Nat := if fusD a b p = 0 then 0 else Ieee.double.word (decide (fusD a b p < 0)) (Fp.grid Ieee.double (fusD a b p).natAbs upl)
def e3118 : Nat := 3118
theorem e3118_is : e3118 = 3118 := rfl
theorem pow_half {K e : Nat} (h : K ≤ e + 1) : 2 ^ K ≤ 2 * 2 ^ e := by
  rw [Nat.mul_comm, ← Nat.pow_succ]; exact Nat.pow_le_pow_right (by decide) h
theorem rne_half (n g : Nat) (hg : 0 < g) : 2 * ((n : Int) - ((Fp.rne n g * g : Nat) : Int)).natAbs ≤ g := by
  have e := Nat.div_add_mod n g
  have hm := Nat.mod_lt n hg
  unfold Fp.rne
  generalize n / g = q at *
  generalize n % g = r at *
  split
  · rw [Nat.add_mul, Nat.one_mul, Nat.mul_comm q g]
    generalize g * q = p at *
    omega
  · rw [Nat.add_zero, Nat.mul_comm q g]
    generalize g * q = p at *
    omega
theorem grid_top {M : Nat} (h : Fp.mag Ieee.double (Fp.grid Ieee.double M upl) < 2 ^ Fp.dtop) : max (M.log2 - 52) upl ≤ 3119 := by
  obtain ⟨K, hK⟩ : ∃ K, K = max (M.log2 - 52) upl := ⟨_, rfl⟩
  have g1 := Fp.mag_grid M upl
  have g2 := (Fp.grid_parts M upl).2
  rw [← hK] at g1 g2 ⊢
  rw [g1] at h
  by_cases h0 : K - upl = 0
  · have := upl_is; omega
  · have h1 := g2 h0
    have e52 : (2 : Nat) ^ 52 = 4503599627370496 := by decide
    rw [← e52] at h1
    have h2 : 2 ^ 52 * 2 ^ (K - upl) < 2 ^ Fp.dtop := Nat.lt_of_le_of_lt (Nat.mul_le_mul_right _ h1) h
    rw [← Nat.pow_add] at h2
    have := (Nat.pow_lt_pow_iff_right (a := 2) (by decide)).1 h2
    have := upl_is; have := Fp.dtop_eq
    omega
theorem fus_mag {a b p : Nat} (fa : a % 9223372036854775808 < 9218868437227405312) (fb : b % 9223372036854775808 < 9218868437227405312) (fp : p % 9223372036854775808 < 9218868437227405312) (hm : floatBits .mul .f64 a b = some p) :
    Fp.sg Ieee.double p = (Fp.sg Ieee.double a ^^ Fp.sg Ieee.double b) ∧ Fp.rg Ieee.double p = Fp.grid Ieee.double (Fp.un Ieee.double a * Fp.un Ieee.double b).natAbs upl := by
  have h := Fp.mul_fin Ieee.double Fp.dL0 a b (by rw [Fp.rg64, Fp.dI]; exact fa) (by rw [Fp.rg64, Fp.dI]; exact fb)
  have h' : Ieee.double.mul a b = some p := hm
  rw [h', Fp.dD, show (1074 : Nat) = upl from rfl, ← un_abs, ← un_abs, ← Int.natAbs_mul] at h
  have h := Option.some.inj h
  have hl := Nat.lt_of_le_of_lt (Nat.min_le_right (Fp.grid Ieee.double (Fp.un Ieee.double a * Fp.un Ieee.double b).natAbs upl) Ieee.double.infRung) (Fp.inf_lt Ieee.double)
  have e1 : Fp.sg Ieee.double p = (Fp.sg Ieee.double a ^^ Fp.sg Ieee.double b) := by rw [h]; exact Fp.sg_word Ieee.double _ _ hl
  have e2 : Fp.rg Ieee.double p = min (Fp.grid Ieee.double (Fp.un Ieee.double a * Fp.un Ieee.double b).natAbs upl) Ieee.double.infRung := by rw [h]; exact Fp.rg_word Ieee.double _ _ hl
  refine ⟨e1, ?_⟩
  rw [Fp.rg64] at e2
  rw [Fp.rg64, e2]
  rw [e2, ← Fp.dI] at fp
  omega
theorem xor_un (s t : Bool) (x y : Nat) : (if s then -(x : Int) else (x : Int)) * (if t then -(y : Int) else (y : Int)) = if (s ^^ t) then -((x * y : Nat) : Int) else ((x * y : Nat) : Int) := (Fp.signed_prod s t x y).symm
theorem fus_bound {a b p : Nat} (fa : a % 9223372036854775808 < 9218868437227405312) (fb : b % 9223372036854775808 < 9218868437227405312) (fp : p % 9223372036854775808 < 9218868437227405312) (hm : floatBits .mul .f64 a b = some p) : (fusD a b p).natAbs ≤ 2 ^ e3118 := by
  obtain ⟨e1, e2⟩ := fus_mag fa fb fp hm
  have hfin : Fp.mag Ieee.double (Fp.rg Ieee.double p) < 2 ^ Fp.dtop := by
    rw [← Fp.mag_infD]; exact (Fp.mag_lt_iff Ieee.double).2 (by rw [Fp.rg64, Fp.dI]; exact fp)
  obtain ⟨M, hM⟩ : ∃ M, M = (Fp.un Ieee.double a * Fp.un Ieee.double b).natAbs := ⟨_, rfl⟩
  rw [← hM] at e2
  have hk := grid_top (M := M) (by rw [← e2]; exact hfin)
  have g1 := Fp.mag_grid M upl
  obtain ⟨K, hK⟩ : ∃ K, K = max (M.log2 - 52) upl := ⟨_, rfl⟩
  rw [← hK] at hk g1
  have hh := rne_half M (2 ^ K) (Nat.two_pow_pos _)
  have hab : Fp.un Ieee.double a * Fp.un Ieee.double b = if (Fp.sg Ieee.double a ^^ Fp.sg Ieee.double b) then -(M : Int) else (M : Int) := by
    have h1 : Fp.un Ieee.double a * Fp.un Ieee.double b = if (Fp.sg Ieee.double a ^^ Fp.sg Ieee.double b) then -((Fp.mag Ieee.double (Fp.rg Ieee.double a) * Fp.mag Ieee.double (Fp.rg Ieee.double b) : Nat) : Int) else ((Fp.mag Ieee.double (Fp.rg Ieee.double a) * Fp.mag Ieee.double (Fp.rg Ieee.double b) : Nat) : Int) := by
      rw [← xor_un]; rfl
    have h2 : M = Fp.mag Ieee.double (Fp.rg Ieee.double a) * Fp.mag Ieee.double (Fp.rg Ieee.double b) := by rw [hM, Int.natAbs_mul, un_abs, un_abs]
    rw [h1, h2]
  have hpp : Fp.un Ieee.double p * 2 ^ upl = if (Fp.sg Ieee.double a ^^ Fp.sg Ieee.double b) then -((Fp.rne M (2 ^ K) * 2 ^ K : Nat) : Int) else ((Fp.rne M (2 ^ K) * 2 ^ K : Nat) : Int) := by
    have h1 : Fp.rne M (2 ^ K) * 2 ^ K = Fp.mag Ieee.double (Fp.rg Ieee.double p) * 2 ^ upl := by
      rw [e2, g1, Nat.mul_assoc, ← Nat.pow_add, show K - upl + upl = K by omega]
    rw [h1]
    unfold Fp.un
    rw [e1, Int.natCast_mul, cast_pow]
    split
    · rw [Int.neg_mul]
    · rfl
  have hd : 2 * (fusD a b p).natAbs ≤ 2 ^ K := by
    unfold fusD
    rw [hab, hpp]
    split <;> omega
  have hk2 : K ≤ e3118 + 1 := by have := e3118_is; omega
  have hkk := pow_half hk2
  omega
theorem fus_small {D : Nat} (h : D ≤ 2 ^ e3118) : Fp.grid Ieee.double D upl < Ieee.double.infRung := by
  refine (Fp.mag_lt_iff Ieee.double).1 ?_
  rw [Fp.mag_infD, Fp.mag_grid]
  have g1 := (Fp.grid_parts D upl).1
  have hK : max (D.log2 - 52) upl - upl ≤ 1992 := by
    have : D.log2 ≤ e3118 := by
      by_cases h0 : D = 0
      · subst h0; rw [zero_log]; exact Nat.zero_le _
      · have h1 := Nat.le_trans (Nat.log2_self_le h0) h
        exact (Nat.pow_le_pow_iff_right (a := 2) (by decide)).1 h1
    rw [e3118_is] at this
    have := upl_is
    omega
  generalize max (D.log2 - 52) upl - upl = K at *
  have e53' : (2 : Nat) ^ 53 = 9007199254740992 := by decide
  rw [← e53'] at g1
  have h1 := Nat.mul_le_mul_right (2 ^ K) g1
  rw [← Nat.pow_add] at h1
  exact Nat.lt_of_le_of_lt h1 (Nat.pow_lt_pow_right (by decide) (by rw [Fp.dtop_eq]; omega))
theorem fus_prog {a b p : Nat} (fa : a % 9223372036854775808 < 9218868437227405312) (fb : b % 9223372036854775808 < 9218868437227405312) (hp : p < 18446744073709551616) (fp : p % 9223372036854775808 < 9218868437227405312) (hm : floatBits .mul .f64 a b = some p) :
    Ieee.double.fma a b (Go.Op.negFloat .f64 p) = some (fusR a b p) := by
  obtain ⟨n1, n2, n3⟩ := neg_un hp fp
  obtain ⟨e1, e2⟩ := fus_mag fa fb fp hm
  have hb := fus_bound fa fb fp hm
  have h := Fp.fma_fin Ieee.double Fp.dL0 a b (Go.Op.negFloat .f64 p) (by rw [Fp.rg64, Fp.dI]; exact fa) (by rw [Fp.rg64, Fp.dI]; exact fb) (by rw [Fp.rg64, Fp.dI]; exact n2)
  rw [n3, Fp.dD, show (1074 : Nat) = upl from rfl] at h
  have eD : Fp.un Ieee.double a * Fp.un Ieee.double b + -Fp.un Ieee.double p * 2 ^ upl = fusD a b p := by unfold fusD; rw [Int.neg_mul]; omega
  rw [eD] at h
  rw [h, Nat.min_eq_left (Nat.le_of_lt (fus_small hb))]
  unfold fusR
  by_cases h0 : fusD a b p = 0
  · rw [if_pos h0, if_pos h0, h0, Int.natAbs_zero, Fp.grid_zero]
    have hs : ((Fp.sg Ieee.double a ^^ Fp.sg Ieee.double b) && Fp.sg Ieee.double (Go.Op.negFloat .f64 p)) = false := by
      rw [← e1]
      by_cases h : 9223372036854775808 ≤ p
      · have s2 : Fp.sg Ieee.double (Go.Op.negFloat .f64 p) = false := by rw [neg_float h hp, sg_is (by omega)]; exact decide_eq_false (by omega)
        rw [s2, Bool.and_false]
      · rw [sg_is hp, decide_eq_false h, Bool.false_and]
    rw [hs]; rfl
  · rw [if_neg h0, if_neg h0]
end Go.Proofs.YtjmaggfddinbkaaGreatDoor
end

section
namespace Go.Proofs.YtjmaggfddinbkaaGreatDoor
open Go.RowKit
theorem fma_ext (x y z r : Nat) (h : FloatKind.f64.format.fma x y z = some r) : Go.Extern.MathFMA.fma #[.float .f64 x, .float .f64 y, .float .f64 z] = pure (.float .f64 r) := by
  conv => lhs; whnf
  rw [h]
theorem fma_run (w : World) (x y z : Nat) : (callFunc 111 #[.float .f64 x, .float .f64 y, .float .f64 z]).run Tryz.prog w = (Go.Extern.MathFMA.fma #[.float .f64 x, .float .f64 y, .float .f64 z] >>= fun v => pure (Next.value v)).run Tryz.prog w := by kernel_rfl
theorem fma_any (x y z r : Nat) (h : Ieee.double.fma x y z = some r) (w : World) : (callFunc 111 #[.float .f64 x, .float .f64 y, .float .f64 z]).run Tryz.prog w = .ok (.value (.float .f64 r)) w := by
  rw [fma_run, fma_ext x y z r h]; rfl
set_option maxRecDepth 100000 in
set_option maxHeartbeats 600000 in
theorem Efused_fin (a b p q r : Nat) (fa : finW a = true) (fb : finW b = true) (fp : finW p = true) (hm : floatBits .mul .f64 a b = some p) (hq : Go.Op.negFloat .f64 p = q) (hf : Ieee.double.fma a b q = some r) (w : World) : Calls Tryz.prog 59 #[.float .f64 a, .float .f64 b] w fun e w' => e = .returned (.tuple #[.float .f64 p, .float .f64 r]) ∧ Within w w' := by
  have hmul := fun (t : TypeId) w => run_float_arith (P := Tryz.prog) w .mul t .f64 a b p hm
  have hfm := fun w => fma_any a b q r hf w
  have FA := Lib.hid (fun w => efinite_any a w)
  have FB := Lib.hid (fun w => efinite_any b w)
  have FP := Lib.hid (fun w => efinite_any p w)
  rw [fa] at FA
  rw [fb] at FB
  rw [fp] at FP
  clear fa fb fp hm hf
  go_enter Tryz.func59, Tryz.ntmps59
  go_wp2_with fail
  refine (FA.out _).mono ?_; rintro e1 w1 ⟨rfl, hb1⟩
  go_wp2_with fail
  refine (FB.out _).mono ?_; rintro e2 w2 ⟨rfl, hb2⟩
  go_wp2_with fail
  refine (FP.out _).mono ?_; rintro e3 w3 ⟨rfl, hb3⟩
  go_wp2
  go_ret2
  exact ⟨rfl, (by repeat (first | with_reducible exact Within.refl _ | with_reducible assumption | with_reducible refine arW_within ?_ _ _ _ | with_reducible refine Within.alloc ?_ _ | with_reducible refine Within.drew ?_ | with_reducible refine Within.trans ?_ (by assumption)))⟩
end Go.Proofs.YtjmaggfddinbkaaGreatDoor
end

section
namespace Go.Proofs.YtjmaggfddinbkaaGreatDoor
open Go.RowKit
def fusN (a b : Nat) : Bool := finV (fv a) && (finV (fv b) && finV (fop .mul (fv a) (fv b)))
def fusL (a b : Nat) : Option Nat := if fusN a b = true then (match floatBits .mul .f64 a b with | some p => some (fusR a b p) | none => none) else none
theorem val_more' {n E : Int} {L : Nat} (M : Nat) (h : -(L : Int) ≤ E) : valE n E (L + M) = valE n E L * 2 ^ M := by
  unfold valE
  rw [Int.mul_assoc, ← Int.pow_add]
  congr 2; omega
theorem fus_val {a b p : Nat} (ha : a < 18446744073709551616) (hb : b < 18446744073709551616) (hp : p < 18446744073709551616) (fa : a % 9223372036854775808 < 9218868437227405312) (fb : b % 9223372036854775808 < 9218868437227405312) (fp : p % 9223372036854775808 < 9218868437227405312) :
    valE (ofN a * ofN b) (pExpD a + pExpD b) (1074 + 1074) + valE (-ofN p) (pExpD p) (1074 + 1074) = fusD a b p := by
  have ra := (P64.pExpD_range a).1; have rb := (P64.pExpD_range b).1; have rp := (P64.pExpD_range p).1
  rw [val_mul _ _ _ _ _ _ ra rb, val_neg, val_more' 1074 rp, of_val, of_val, of_val, whole_un ha fa, whole_un hb fb, whole_un hp fp]
  unfold fusD
  rw [upl_is]
  exact (Int.sub_eq_add_neg).symm
theorem pow_lt_succ {n e : Nat} (h : n ≤ 2 ^ e) : n < 2 ^ (e + 1) := Nat.lt_of_le_of_lt h (Nat.pow_lt_pow_right (by decide) (by omega))
theorem fus_ref {a b p : Nat} {n E : Int} (hE : -2148 ≤ E) (hv : valE n E (1074 + 1074) = fusD a b p) (h0 : fusD a b p ≠ 0) (hb : (fusD a b p).natAbs ≤ 2 ^ e3118) : n ≠ 0 ∧ (dg n.natAbs).length ≤ 100 ∧ E + (blen n.natAbs : Nat) ≤ 971 ∧ rndW n E = fusR a b p := by
  have hv' : fusD a b p = n * 2 ^ (E + 2148).toNat := by rw [← hv]; rfl
  have hn : n ≠ 0 := by rintro rfl; exact h0 (by rw [hv', Int.zero_mul])
  have ha : (fusD a b p).natAbs = n.natAbs * 2 ^ (E + 2148).toNat := by rw [hv', natAbs_mul_pow]
  refine ⟨hn, ?_, ?_, ?_⟩
  · refine dg_len_of (e := e3118 + 1) ?_ (by have := e3118_is; omega)
    refine pow_lt_succ (Nat.le_trans ?_ hb)
    rw [ha]; exact Nat.le_mul_of_pos_right _ (Nat.two_pow_pos _)
  · rw [blen_pos (by omega)]
    rw [ha] at hb
    have h1 : 2 ^ n.natAbs.log2 * 2 ^ (E + 2148).toNat ≤ 2 ^ e3118 := Nat.le_trans (Nat.mul_le_mul_right _ (Nat.log2_self_le (by omega))) hb
    rw [← Nat.pow_add] at h1
    have h2 := (Nat.pow_le_pow_iff_right (a := 2) (by decide)).1 h1
    have := e3118_is
    omega
  · unfold rndW fusR
    rw [if_neg h0, ha, show upl = 1074 from rfl]
    congr 1
    exact decide_eq_decide.2 (neg_iff hv').symm
theorem fus_fin {a b p : Nat} (fa : finW a = true) (fb : finW b = true) (fp : finW p = true) (hm : floatBits .mul .f64 a b = some p) : fusL a b = some (fusR a b p) ∧ proP (fv a) (fv b) = some p := by
  have e : proP (fv a) (fv b) = some p := by
    show fop .mul (fv a) (fv b) = _
    have h1 := of_decide_eq_true fa; have h2 := of_decide_eq_true fb
    have e1 : fv a = some a := if_neg (by omega)
    have e2 : fv b = some b := if_neg (by omega)
    rw [e1, e2]; exact hm
  refine ⟨?_, e⟩
  have e' : fop .mul (fv a) (fv b) = some p := e
  have ep : some p = fv p := by have h3 := of_decide_eq_true fp; exact (if_neg (by omega)).symm
  unfold fusL fusN
  rw [e', ep, finV_fv, finV_fv, finV_fv, fa, fb, fp, hm]
  rfl
theorem fus_finite {a b p : Nat} (ha : a % 9223372036854775808 < 9218868437227405312) (hb : b % 9223372036854775808 < 9218868437227405312) (hp : p % 9223372036854775808 < 9218868437227405312) (hm : floatBits .mul .f64 a b = some p) : fusR a b p < 18446744073709551616 ∧ fv (fusR a b p) = some (fusR a b p) := by
  unfold fusR
  by_cases h0 : fusD a b p = 0
  · rw [if_pos h0]; exact ⟨by decide, by decide⟩
  · rw [if_neg h0]
    have hs := fus_small (fus_bound ha hb hp hm)
    rw [Fp.dI] at hs
    obtain ⟨⟨h1, h2⟩, _⟩ := word_fi (decide (fusD a b p < 0)) hs
    exact ⟨h1, if_neg (by omega)⟩
theorem ofN_small (b : Nat) : (ofN b).natAbs ≤ 18446744073709551615 := by
  have e : (ofN b).natAbs = pMantD b := by unfold ofN sgv; split <;> omega
  rw [e]; have := P64.pMantD_lt b; omega
theorem fin_prod {a b : Nat} (_ha : a < 18446744073709551616) (_hb : b < 18446744073709551616) (h : finV (fop .mul (fv a) (fv b)) = true) : ∃ p, fop .mul (fv a) (fv b) = some p ∧ p % 9223372036854775808 < 9218868437227405312 ∧ floatBits .mul .f64 a b = some p := by
  obtain ⟨z, p, h1, h2, _⟩ := fz_some h
  refine ⟨p, h1, h2, ?_⟩
  unfold fop at h1
  cases hx : fv a with
  | none => rw [hx] at h1; cases h1
  | some x =>
    cases hy : fv b with
    | none => rw [hx, hy] at h1; cases h1
    | some y =>
      rw [hx, hy] at h1
      rw [fv_some hx, fv_some hy]
      exact h1
theorem canon_some {x : Nat} (h : fv x = some x) : canonD x = x := by
  unfold fv at h
  unfold canonD nanD
  split at h
  · cases h
  · rename_i g; rw [decide_eq_false g, if_neg Bool.false_ne_true]
theorem fusL_none {a b : Nat} (h : fusN a b = false) : fusL a b = none := by unfold fusL; rw [h]; rfl
set_option maxRecDepth 100000 in
set_option maxHeartbeats 600000 in
theorem m_nan2 (w : World) : Calls Tryz.prog 110 #[] w fun e w' => e = .returned (.float .f64 9221120237041090561) ∧ w = w' := by
  go_enter Tryz.func110, Tryz.ntmps110
  go_wp2
  go_ret
  exact ⟨rfl, rfl⟩
set_option maxRecDepth 100000 in
set_option maxHeartbeats 600000 in
theorem Efused_n1 (a b : Nat) (ga : finW a = false) (w : World) : Calls Tryz.prog 59 #[.float .f64 a, .float .f64 b] w (fun e w' => ∃ s l, e = .returned (.tuple #[.float .f64 (canonD s), .float .f64 (canonD l)]) ∧ s < 18446744073709551616 ∧ l < 18446744073709551616 ∧ fv s = proP (fv a) (fv b) ∧ fv l = fusL a b ∧ Within w w') := by
  have hn : fusN a b = false := by unfold fusN; rw [finV_fv, finV_fv, ga]; rfl
  have hl := fusL_none hn
  clear hn
  have hmul := fun t x y w => run_ar .mul (.inr (.inr (.inl rfl))) t x y Tryz.prog w
  have FA := Lib.hid (fun w => efinite_any a w)
  rw [ga] at FA
  obtain ⟨p, hp⟩ : ∃ p, p = arF .mul a b w := ⟨_, rfl⟩
  have hp1 : fv p = proP (fv a) (fv b) := by rw [hp, fv_arF]; rfl
  have hp2 : p < 18446744073709551616 := by rw [hp]; exact arF_lt _ _ _ _
  have CP := Lib.hid (fun w => Canon_D p hp2 w)
  have CN := Lib.hid (fun w => Canon_D 9221120237041090561 (by decide) w)
  have HP := Lib.hid (And.intro hp1 (And.intro hp2 hl))
  clear hp1 hp2 hl ga
  subst hp
  go_enter Tryz.func59, Tryz.ntmps59
  go_wp2_with fail
  refine (FA.out _).mono ?_; rintro e1 w1 ⟨rfl, hb1⟩
  go_wp2_with fail
  refine (CP.out _).mono ?_; rintro e4 w4 ⟨rfl, hb4⟩
  go_wp2_with fail
  refine (m_nan2 _).mono ?_; rintro e5 w5 ⟨rfl, rfl⟩
  go_wp2_with fail
  refine (CN.out _).mono ?_; rintro e6 w6 ⟨rfl, hb6⟩
  go_wp2
  go_ret2
  exact ⟨_, 9221120237041090561, rfl, HP.out.2.1, by decide, HP.out.1, by rw [HP.out.2.2]; rfl, (by repeat (first | with_reducible exact Within.refl _ | with_reducible assumption | with_reducible refine arW_within ?_ _ _ _ | with_reducible refine Within.alloc ?_ _ | with_reducible refine Within.drew ?_ | with_reducible refine Within.trans ?_ (by assumption)))⟩
set_option maxRecDepth 100000 in
set_option maxHeartbeats 600000 in
theorem Efused_n2 (a b : Nat) (ga : finW a = true) (gb : finW b = false) (w : World) : Calls Tryz.prog 59 #[.float .f64 a, .float .f64 b] w (fun e w' => ∃ s l, e = .returned (.tuple #[.float .f64 (canonD s), .float .f64 (canonD l)]) ∧ s < 18446744073709551616 ∧ l < 18446744073709551616 ∧ fv s = proP (fv a) (fv b) ∧ fv l = fusL a b ∧ Within w w') := by
  have hn : fusN a b = false := by unfold fusN; rw [finV_fv, finV_fv, ga, gb]; rfl
  have hl := fusL_none hn
  clear hn
  have hmul := fun t x y w => run_ar .mul (.inr (.inr (.inl rfl))) t x y Tryz.prog w
  have FA := Lib.hid (fun w => efinite_any a w)
  rw [ga] at FA
  have FB := Lib.hid (fun w => efinite_any b w)
  rw [gb] at FB
  obtain ⟨p, hp⟩ : ∃ p, p = arF .mul a b w := ⟨_, rfl⟩
  have hp1 : fv p = proP (fv a) (fv b) := by rw [hp, fv_arF]; rfl
  have hp2 : p < 18446744073709551616 := by rw [hp]; exact arF_lt _ _ _ _
  have CP := Lib.hid (fun w => Canon_D p hp2 w)
  have CN := Lib.hid (fun w => Canon_D 9221120237041090561 (by decide) w)
  have HP := Lib.hid (And.intro hp1 (And.intro hp2 hl))
  clear hp1 hp2 hl ga gb
  subst hp
  go_enter Tryz.func59, Tryz.ntmps59
  go_wp2_with fail
  refine (FA.out _).mono ?_; rintro e1 w1 ⟨rfl, hb1⟩
  go_wp2_with fail
  refine (FB.out _).mono ?_; rintro e2 w2 ⟨rfl, hb2⟩
  go_wp2_with fail
  refine (CP.out _).mono ?_; rintro e4 w4 ⟨rfl, hb4⟩
  go_wp2_with fail
  refine (m_nan2 _).mono ?_; rintro e5 w5 ⟨rfl, rfl⟩
  go_wp2_with fail
  refine (CN.out _).mono ?_; rintro e6 w6 ⟨rfl, hb6⟩
  go_wp2
  go_ret2
  exact ⟨_, 9221120237041090561, rfl, HP.out.2.1, by decide, HP.out.1, by rw [HP.out.2.2]; rfl, (by repeat (first | with_reducible exact Within.refl _ | with_reducible assumption | with_reducible refine arW_within ?_ _ _ _ | with_reducible refine Within.alloc ?_ _ | with_reducible refine Within.drew ?_ | with_reducible refine Within.trans ?_ (by assumption)))⟩
set_option maxRecDepth 100000 in
set_option maxHeartbeats 600000 in
theorem Efused_n3 (a b : Nat) (ga : finW a = true) (gb : finW b = true) (gp : finV (fop .mul (fv a) (fv b)) = false) (w : World) : Calls Tryz.prog 59 #[.float .f64 a, .float .f64 b] w (fun e w' => ∃ s l, e = .returned (.tuple #[.float .f64 (canonD s), .float .f64 (canonD l)]) ∧ s < 18446744073709551616 ∧ l < 18446744073709551616 ∧ fv s = proP (fv a) (fv b) ∧ fv l = fusL a b ∧ Within w w') := by
  have hn : fusN a b = false := by unfold fusN; rw [finV_fv, finV_fv, ga, gb, gp]; rfl
  have hl := fusL_none hn
  clear hn
  have hmul := fun t x y w => run_ar .mul (.inr (.inr (.inl rfl))) t x y Tryz.prog w
  have FA := Lib.hid (fun w => efinite_any a w)
  rw [ga] at FA
  have FB := Lib.hid (fun w => efinite_any b w)
  rw [gb] at FB
  obtain ⟨p, hp⟩ : ∃ p, p = arF .mul a b w := ⟨_, rfl⟩
  have hp1 : fv p = proP (fv a) (fv b) := by rw [hp, fv_arF]; rfl
  have hp2 : p < 18446744073709551616 := by rw [hp]; exact arF_lt _ _ _ _
  have FP := Lib.hid (fun w => efinite_any p w)
  rw [show finW p = false by rw [← finV_fv, hp1]; exact gp] at FP
  have CP := Lib.hid (fun w => Canon_D p hp2 w)
  have CN := Lib.hid (fun w => Canon_D 9221120237041090561 (by decide) w)
  have HP := Lib.hid (And.intro hp1 (And.intro hp2 hl))
  clear hp1 hp2 hl ga gb gp
  subst hp
  go_enter Tryz.func59, Tryz.ntmps59
  go_wp2_with fail
  refine (FA.out _).mono ?_; rintro e1 w1 ⟨rfl, hb1⟩
  go_wp2_with fail
  refine (FB.out _).mono ?_; rintro e2 w2 ⟨rfl, hb2⟩
  go_wp2_with fail
  refine (FP.out _).mono ?_; rintro e3 w3 ⟨rfl, hb3⟩
  go_wp2_with fail
  refine (CP.out _).mono ?_; rintro e4 w4 ⟨rfl, hb4⟩
  go_wp2_with fail
  refine (m_nan2 _).mono ?_; rintro e5 w5 ⟨rfl, rfl⟩
  go_wp2_with fail
  refine (CN.out _).mono ?_; rintro e6 w6 ⟨rfl, hb6⟩
  go_wp2
  go_ret2
  exact ⟨_, 9221120237041090561, rfl, HP.out.2.1, by decide, HP.out.1, by rw [HP.out.2.2]; rfl, (by repeat (first | with_reducible exact Within.refl _ | with_reducible assumption | with_reducible refine arW_within ?_ _ _ _ | with_reducible refine Within.alloc ?_ _ | with_reducible refine Within.drew ?_ | with_reducible refine Within.trans ?_ (by assumption)))⟩
theorem words3 {a b p : Nat} (ha : a < 18446744073709551616) (hb : b < 18446744073709551616) (hp : p < 18446744073709551616) : Words64 [a, b, p] := fun x hx => by
  simp only [List.mem_cons, List.not_mem_nil, or_false] at hx
  rcases hx with rfl | rfl | rfl <;> assumption
theorem all_three {a b p : Nat} (ha : a < 18446744073709551616) (hb : b < 18446744073709551616) (hp : p < 18446744073709551616) : [a, b, p].all finD = (finW a && (finW b && finW p)) := by
  simp only [List.all_cons, List.all_nil, Bool.and_true, finD_is ha, finD_is hb, finD_is hp]
set_option maxRecDepth 100000 in
set_option maxHeartbeats 600000 in
theorem rfused_none (a b : Nat) (ha : a < 18446744073709551616) (hb : b < 18446744073709551616) (hn : fusN a b = false) (w : World) : Calls Tryz.prog 60 #[.float .f64 a, .float .f64 b] w (Pr (proP (fv a) (fv b)) (fusL a b) w) := by
  have hl := fusL_none hn
  have hmul := fun t x y w => run_ar .mul (.inr (.inr (.inl rfl))) t x y Tryz.prog w
  obtain ⟨p, hp⟩ : ∃ p, p = arF .mul a b w := ⟨_, rfl⟩
  have hp1 : fv p = proP (fv a) (fv b) := by rw [hp, fv_arF]; rfl
  have hp2 : p < 18446744073709551616 := by rw [hp]; exact arF_lt _ _ _ _
  have AF := Lib.hid (fun (A : Option Addr) (w' : World) (hr : SlAt w' A (f64v [a, b, p])) => RallFinite_any A 3 [a, b, p] (words3 ha hb hp2) (show 3 ≤ 1152921504606846976 by decide) w' hr)
  rw [all_three ha hb hp2, show (finW a && (finW b && finW p)) = false by rw [← finV_fv, ← finV_fv, ← finV_fv p, hp1]; exact hn] at AF
  have HP := Lib.hid (And.intro hp1 (And.intro hp2 hl))
  clear hp1 hp2 hl hn ha hb
  subst hp
  go_enter Tryz.func60, Tryz.ntmps60
  go_wp2_with fail
  refine (AF.out _ _ (P64.slAt_made _ [a, b, arF .mul a b w] _ 29 rfl)).mono ?_; rintro e1 w1 ⟨rfl, hb1⟩
  go_wp2_with fail
  refine (Rnan_D _).mono ?_; rintro e5 w5 ⟨rfl, rfl⟩
  go_wp2
  go_ret2
  exact ⟨_, 9221120237041090561, rfl, HP.out.2.1, by decide, HP.out.1, by rw [HP.out.2.2]; rfl, (by repeat (first | with_reducible exact Within.refl _ | with_reducible assumption | with_reducible refine arW_within ?_ _ _ _ | with_reducible refine Within.alloc ?_ _ | with_reducible refine Within.drew ?_ | with_reducible refine Within.trans ?_ (by assumption)))⟩
set_option maxRecDepth 100000 in
set_option maxHeartbeats 1600000 in
theorem rfused_zero (a b p : Nat) (ha : a < 18446744073709551616) (hb : b < 18446744073709551616) (hp : p < 18446744073709551616) (ga : finW a = true) (gb : finW b = true) (gp : finW p = true) (hm : floatBits .mul .f64 a b = some p) (h0 : fusD a b p = 0) (w : World) : Calls Tryz.prog 60 #[.float .f64 a, .float .f64 b] w fun e w' => e = .returned (.tuple #[.float .f64 p, .float .f64 (fusR a b p)]) ∧ Within w w' := by
  have hmul := fun (t : TypeId) w => run_float_arith (P := Tryz.prog) w .mul t .f64 a b p hm
  have AF := Lib.hid (fun (A : Option Addr) (w' : World) (hr : SlAt w' A (f64v [a, b, p])) => RallFinite_any A 3 [a, b, p] (words3 ha hb hp) (show 3 ≤ 1152921504606846976 by decide) w' hr)
  rw [all_three ha hb hp, ga, gb, gp] at AF
  have fa := of_decide_eq_true ga; have fb := of_decide_eq_true gb; have fp := of_decide_eq_true gp
  have hvv := fus_val ha hb hp fa fb fp
  have hbd := fus_bound fa fb fp hm
  have OA := Lib.hid (fun w => Xof a ha w)
  have OB := Lib.hid (fun w => Xof b hb w)
  have OP := Lib.hid (fun w => Xof p hp w)
  have la : ∀ x, x < 18446744073709551616 → (dg (ofN x).natAbs).length ≤ 2 := fun x hx => dg_small (Nat.lt_of_le_of_lt (ofN_small x) (by decide))
  have ra := P64.pExpD_range a; have rb := P64.pExpD_range b; have rp := P64.pExpD_range p
  have MU := Lib.hid (fun g1 g2 w h1 h2 => Xmul (ofN a) (ofN b) (pExpD a) (pExpD b) g1 g2 (Nat.le_trans (la a ha) (by decide)) (Nat.le_trans (la b hb) (by decide)) (by omega) (by omega) w h1 h2)
  have NG := Lib.hid (fun g w h => Xneg (ofN p) (pExpD p) g (Nat.le_trans (la p hp) (by decide)) w h)
  have lm : (dg (ofN a * ofN b).natAbs).length ≤ 900 := by
    rw [Int.natAbs_mul]
    refine Nat.le_trans (dg_small (k := 4) (Nat.lt_of_le_of_lt (Nat.mul_le_mul (ofN_small a) (ofN_small b)) (by decide))) (by decide)
  have ln : (dg (-ofN p).natAbs).length ≤ 900 := by rw [Int.natAbs_neg]; exact Nat.le_trans (la p hp) (by decide)
  have AD := Lib.hid (fun g1 g2 w h1 h2 => Xadd (ofN a * ofN b) (-ofN p) (pExpD a + pExpD b) (pExpD p) g1 g2 (1074 + 1074) 2500 (by decide) (by decide) (by omega) (by omega) (by omega) (by omega) lm ln w h1 h2)
  rw [hvv] at AD
  have HH := Lib.hid (And.intro h0 hbd); have HP := Lib.hid hp
  clear hvv hbd ra rb rp la lm ln fa fb fp ha hb hp ga gb gp hm h0
  have hfr : fusR a b p = 0 := by unfold fusR; rw [if_pos HH.out.1]
  rw [hfr]
  obtain ⟨na, hna⟩ : ∃ n, n = ofN a := ⟨_, rfl⟩
  obtain ⟨nb, hnb⟩ : ∃ n, n = ofN b := ⟨_, rfl⟩
  obtain ⟨np, hnp⟩ : ∃ n, n = ofN p := ⟨_, rfl⟩
  rw [← hna] at OA MU AD
  rw [← hnb] at OB MU AD
  rw [← hnp] at OP NG AD
  clear hna hnb hnp
  generalize pExpD a = ea at *
  generalize pExpD b = eb at *
  generalize pExpD p = ep at *
  go_enter Tryz.func60, Tryz.ntmps60
  go_wp2_with fail
  refine (AF.out _ _ (P64.slAt_made _ [a, b, p] _ 29 rfl)).mono ?_; rintro e1 w1 ⟨rfl, hb1⟩
  have hw1 := ((Within.refl w).alloc (.cells #[.float .f64 a, .float .f64 b, .float .f64 p] 29)).trans hb1
  clear hb1
  go_wp2_with fail
  refine (OA.out _).mono ?_; rintro e2 w2 ⟨h2, rfl, hI2, _, hb2⟩
  have hw2 := hw1.trans hb2
  go_wp2_with fail
  refine (OB.out _).mono ?_; rintro e3 w3 ⟨h3, rfl, hI3, _, hb3⟩
  have hw3 := hw2.trans hb3
  have hI2 := hI2.of hb3
  go_wp2_with fail
  refine (MU.out _ _ _ hI2 hI3).mono ?_; rintro e4 w4 ⟨h4, rfl, hI4, _, hb4⟩
  have hw4 := hw3.trans hb4
  clear hI2 hI3
  go_wp2_with fail
  refine (OP.out _).mono ?_; rintro e5 w5 ⟨h5, rfl, hI5, _, hb5⟩
  have hw5 := hw4.trans hb5
  have hI4 := hI4.of hb5
  go_wp2_with fail
  refine (NG.out _ _ hI5).mono ?_; rintro e6 w6 ⟨h6, rfl, hI6, _, hb6⟩
  have hw6 := hw5.trans hb6
  have hI4 := hI4.of hb6
  clear hI5
  go_wp2_with fail
  refine (AD.out _ _ _ hI4 hI6).mono ?_; rintro e7 w7 ⟨h7, n, E, rfl, hI7, y1, y2, hv, hb7⟩
  have hw7 := hw6.trans hb7
  clear hI4 hI6 hb2 hb3 hb4 hb5 hb6 hb7 hw1 hw2 hw3 hw4 hw5 hw6
  have SG := Lib.hid (fun w h => Bsign h7 n w h)
  have hn0 : n = 0 := by
    rw [HH.out.1] at hv
    rcases Int.mul_eq_zero.1 hv with h | h
    · exact h
    · exact absurd h (Int.ne_of_gt (Int.pow_pos (by decide)))
  subst hn0
  rw [show (0 : Int).sign = 0 from rfl] at SG
  go_wp2_with fail
  refine (SG.out _ (hI7.of ((Within.refl w7).alloc (.cells #[.pointer (some ⟨h7, 0, none⟩), .int .i64 E] 53)))).mono ?_; rintro e8 w8 ⟨rfl, rfl⟩
  go_wp2
  go_ret2
  exact ⟨rfl, hw7.alloc _⟩
set_option maxRecDepth 100000 in
set_option maxHeartbeats 1600000 in
theorem rfused_rest (a b p : Nat) (ha : a < 18446744073709551616) (hb : b < 18446744073709551616) (hp : p < 18446744073709551616) (ga : finW a = true) (gb : finW b = true) (gp : finW p = true) (hm : floatBits .mul .f64 a b = some p) (h0 : fusD a b p ≠ 0) (w : World) (hT : Tab32 w) : Calls Tryz.prog 60 #[.float .f64 a, .float .f64 b] w fun e w' => e = .returned (.tuple #[.float .f64 p, .float .f64 (fusR a b p)]) ∧ Within w w' := by
  have hmul := fun (t : TypeId) w => run_float_arith (P := Tryz.prog) w .mul t .f64 a b p hm
  have AF := Lib.hid (fun (A : Option Addr) (w' : World) (hr : SlAt w' A (f64v [a, b, p])) => RallFinite_any A 3 [a, b, p] (words3 ha hb hp) (show 3 ≤ 1152921504606846976 by decide) w' hr)
  rw [all_three ha hb hp, ga, gb, gp] at AF
  have fa := of_decide_eq_true ga; have fb := of_decide_eq_true gb; have fp := of_decide_eq_true gp
  have hvv := fus_val ha hb hp fa fb fp
  have hbd := fus_bound fa fb fp hm
  have OA := Lib.hid (fun w => Xof a ha w)
  have OB := Lib.hid (fun w => Xof b hb w)
  have OP := Lib.hid (fun w => Xof p hp w)
  have la : ∀ x, x < 18446744073709551616 → (dg (ofN x).natAbs).length ≤ 2 := fun x hx => dg_small (Nat.lt_of_le_of_lt (ofN_small x) (by decide))
  have ra := P64.pExpD_range a; have rb := P64.pExpD_range b; have rp := P64.pExpD_range p
  have MU := Lib.hid (fun g1 g2 w h1 h2 => Xmul (ofN a) (ofN b) (pExpD a) (pExpD b) g1 g2 (Nat.le_trans (la a ha) (by decide)) (Nat.le_trans (la b hb) (by decide)) (by omega) (by omega) w h1 h2)
  have NG := Lib.hid (fun g w h => Xneg (ofN p) (pExpD p) g (Nat.le_trans (la p hp) (by decide)) w h)
  have lm : (dg (ofN a * ofN b).natAbs).length ≤ 900 := by
    rw [Int.natAbs_mul]
    refine Nat.le_trans (dg_small (k := 4) (Nat.lt_of_le_of_lt (Nat.mul_le_mul (ofN_small a) (ofN_small b)) (by decide))) (by decide)
  have ln : (dg (-ofN p).natAbs).length ≤ 900 := by rw [Int.natAbs_neg]; exact Nat.le_trans (la p hp) (by decide)
  have AD := Lib.hid (fun g1 g2 w h1 h2 => Xadd (ofN a * ofN b) (-ofN p) (pExpD a + pExpD b) (pExpD p) g1 g2 (1074 + 1074) 2500 (by decide) (by decide) (by omega) (by omega) (by omega) (by omega) lm ln w h1 h2)
  rw [hvv] at AD
  have HH := Lib.hid (And.intro h0 hbd); have HP := Lib.hid hp
  clear hvv hbd ra rb rp la lm ln fa fb fp ha hb hp ga gb gp hm h0
  have HT := Lib.hid hT; clear hT
  obtain ⟨na, hna⟩ : ∃ n, n = ofN a := ⟨_, rfl⟩
  obtain ⟨nb, hnb⟩ : ∃ n, n = ofN b := ⟨_, rfl⟩
  obtain ⟨np, hnp⟩ : ∃ n, n = ofN p := ⟨_, rfl⟩
  rw [← hna] at OA MU AD
  rw [← hnb] at OB MU AD
  rw [← hnp] at OP NG AD
  clear hna hnb hnp
  generalize pExpD a = ea at *
  generalize pExpD b = eb at *
  generalize pExpD p = ep at *
  go_enter Tryz.func60, Tryz.ntmps60
  go_wp2_with fail
  refine (AF.out _ _ (P64.slAt_made _ [a, b, p] _ 29 rfl)).mono ?_; rintro e1 w1 ⟨rfl, hb1⟩
  have hw1 := ((Within.refl w).alloc (.cells #[.float .f64 a, .float .f64 b, .float .f64 p] 29)).trans hb1
  clear hb1
  go_wp2_with fail
  refine (OA.out _).mono ?_; rintro e2 w2 ⟨h2, rfl, hI2, _, hb2⟩
  have hw2 := hw1.trans hb2
  go_wp2_with fail
  refine (OB.out _).mono ?_; rintro e3 w3 ⟨h3, rfl, hI3, _, hb3⟩
  have hw3 := hw2.trans hb3
  have hI2 := hI2.of hb3
  go_wp2_with fail
  refine (MU.out _ _ _ hI2 hI3).mono ?_; rintro e4 w4 ⟨h4, rfl, hI4, _, hb4⟩
  have hw4 := hw3.trans hb4
  clear hI2 hI3
  go_wp2_with fail
  refine (OP.out _).mono ?_; rintro e5 w5 ⟨h5, rfl, hI5, _, hb5⟩
  have hw5 := hw4.trans hb5
  have hI4 := hI4.of hb5
  go_wp2_with fail
  refine (NG.out _ _ hI5).mono ?_; rintro e6 w6 ⟨h6, rfl, hI6, _, hb6⟩
  have hw6 := hw5.trans hb6
  have hI4 := hI4.of hb6
  clear hI5
  go_wp2_with fail
  refine (AD.out _ _ _ hI4 hI6).mono ?_; rintro e7 w7 ⟨h7, n, E, rfl, hI7, y1, y2, hv, hb7⟩
  have hw7 := hw6.trans hb7
  clear hI4 hI6 hb2 hb3 hb4 hb5 hb6 hb7 hw1 hw2 hw3 hw4 hw5 hw6
  have SG := Lib.hid (fun w h => Bsign h7 n w h)
  obtain ⟨z1, z2, z3, z4⟩ := fus_ref y1 hv HH.out.1 HH.out.2
  have hs0 : (n.sign == 0) = false := by rw [beq_eq_false_iff_ne]; intro h; exact z1 (Int.sign_eq_zero_iff_zero.1 h)
  have hw8 : Within w (w7.alloc (.cells #[.pointer (some ⟨h7, 0, none⟩), .int .i64 E] 53)) := hw7.alloc _
  have RD := Lib.hid (fun w hT hI => Xrnd n E h7 z1 z2 ⟨y1, by omega⟩ z3 w hT hI)
  rw [z4] at RD
  clear z1 z2 z3 z4 y1 y2 hv
  go_wp2_with fail
  refine (SG.out _ (hI7.of ((Within.refl w7).alloc (.cells #[.pointer (some ⟨h7, 0, none⟩), .int .i64 E] 53)))).mono ?_; rintro e8 w8 ⟨rfl, rfl⟩
  go_wp2_with fail
  refine (RD.out _ (HT.out.of hw8) (hI7.of ((Within.refl w7).alloc (.cells #[.pointer (some ⟨h7, 0, none⟩), .int .i64 E] 53)))).mono ?_; rintro e9 w9 ⟨rfl, hb9⟩
  go_wp2
  go_ret2
  exact ⟨rfl, hw8.trans hb9⟩
theorem Efused_any (a b : Nat) (ha : a < 18446744073709551616) (hb : b < 18446744073709551616) (w : World) : Calls Tryz.prog 59 #[.float .f64 a, .float .f64 b] w (fun e w' => ∃ s l, e = .returned (.tuple #[.float .f64 (canonD s), .float .f64 (canonD l)]) ∧ s < 18446744073709551616 ∧ l < 18446744073709551616 ∧ fv s = proP (fv a) (fv b) ∧ fv l = fusL a b ∧ Within w w') := by
  cases ga : finW a
  · exact Efused_n1 a b ga w
  · cases gb : finW b
    · exact Efused_n2 a b ga gb w
    · cases gp : finV (fop .mul (fv a) (fv b))
      · exact Efused_n3 a b ga gb gp w
      · obtain ⟨p, ep, fp, hm⟩ := fin_prod ha hb gp
        obtain ⟨e1, e2⟩ := fus_fin ga gb (decide_eq_true fp) hm
        have hpl := (floatBits_sane hm).1
        obtain ⟨e3, e4⟩ := fus_finite (of_decide_eq_true ga) (of_decide_eq_true gb) fp hm
        refine (Efused_fin a b p _ _ ga gb (decide_eq_true fp) hm rfl (fus_prog (of_decide_eq_true ga) (of_decide_eq_true gb) hpl fp hm) w).mono ?_
        rintro e w' ⟨h, hin⟩
        have ep' : fv p = some p := if_neg (by omega)
        refine ⟨p, fusR a b p, ?_, hpl, e3, by rw [e2, ep'], by rw [e1, e4], hin⟩
        rw [h, canon_some ep', canon_some e4]
theorem rfused_any (a b : Nat) (ha : a < 18446744073709551616) (hb : b < 18446744073709551616) (w : World) (hT : Tab32 w) : Calls Tryz.prog 60 #[.float .f64 a, .float .f64 b] w (Pr (proP (fv a) (fv b)) (fusL a b) w) := by
  cases hn : fusN a b
  · exact rfused_none a b ha hb hn w
  · have hn' := hn
    unfold fusN at hn'
    rw [Bool.and_eq_true, Bool.and_eq_true, finV_fv, finV_fv] at hn'
    obtain ⟨ga, gb, gp⟩ := hn'
    obtain ⟨p, ep, fp, hm⟩ := fin_prod ha hb gp
    obtain ⟨e1, e2⟩ := fus_fin ga gb (decide_eq_true fp) hm
    have hpl := (floatBits_sane hm).1
    obtain ⟨e3, e4⟩ := fus_finite (of_decide_eq_true ga) (of_decide_eq_true gb) fp hm
    have ep' : fv p = some p := if_neg (by omega)
    have fin : ∀ e w', (e = .returned (.tuple #[.float .f64 p, .float .f64 (fusR a b p)]) ∧ Within w w') → Pr (proP (fv a) (fv b)) (fusL a b) w e w' := fun e w' h => ⟨p, fusR a b p, h.1, hpl, e3, by rw [e2, ep'], by rw [e1, e4], h.2⟩
    by_cases h0 : fusD a b p = 0
    · exact (rfused_zero a b p ha hb hpl ga gb (decide_eq_true fp) hm h0 w).mono fin
    · exact (rfused_rest a b p ha hb hpl ga gb (decide_eq_true fp) hm h0 w hT).mono fin
end Go.Proofs.YtjmaggfddinbkaaGreatDoor
end

section
namespace Go.Proofs.YtjmaggfddinbkaaGreatDoor
open Go.RowKit
set_option maxRecDepth 100000 in
set_option maxHeartbeats 600000 in
theorem two_law (a b c d : Nat) (h1 : a = canonD c) (h2 : b = canonD d) (w : World) : Calls Tryz.prog 54 #[.float .f64 a, .float .f64 b, .float .f64 c, .float .f64 d] w fun e w' => e = .returned (.bool true) ∧ Within w w' := by
  have S1 := Lib.hid (fun w => same_law a c w)
  have S2 := Lib.hid (fun w => same_law b d w)
  rw [decide_eq_true h1] at S1
  rw [decide_eq_true h2] at S2
  clear h1 h2
  go_enter Tryz.func54, Tryz.ntmps54
  go_wp2_with fail
  refine (S1.out _).mono ?_; rintro e1 w1 ⟨rfl, rfl⟩
  go_wp2_with fail
  refine (S2.out _).mono ?_; rintro e2 w2 ⟨rfl, rfl⟩
  go_wp2
  go_ret
  exact ⟨rfl, Within.refl _⟩
set_option maxRecDepth 100000 in
set_option maxHeartbeats 4000000 in
theorem transforms_law (x y : Nat) (hx : x < 18446744073709551616) (hy : y < 18446744073709551616) (w : World) (hT : Tab w ∧ Tab32 w) : Calls Tryz.prog 10 #[.int .u64 (x : Int), .int .u64 (y : Int)] w fun e w' => e = .returned (.bool true) ∧ Within w w' := by
  have HT := Lib.hid hT; clear hT
  have AW := Lib.hid (fun w hT => awake_true w hT)
  have E0 := Lib.hid (fun w => Etwo_any x y hx hy w)
  have R0 := Lib.hid (fun w => rtwo_any x y hx hy w)
  have E1 := Lib.hid (fun w => Equick_any x y hx hy w)
  have R1 := Lib.hid (fun w => rquick_any x y hx hy w)
  have E2 := Lib.hid (fun w => Esplit_any x hx w)
  have R2 := Lib.hid (fun w => rsplit_any x hx w)
  have E3 := Lib.hid (fun w => Eprod_any x y hx hy w)
  have R3 := Lib.hid (fun w => rprod_any x y hx hy w)
  have E4 := Lib.hid (fun w => Efused_any x y hx hy w)
  have R4 := Lib.hid (fun w hT => rfused_any x y hx hy w hT)
  obtain ⟨s0, hs0⟩ : ∃ s, s = twoS (fv x) (fv y) := ⟨_, rfl⟩
  rw [← hs0] at E0 R0 E1 R1
  obtain ⟨s1, hs1⟩ : ∃ s, s = twoL (fv x) (fv y) := ⟨_, rfl⟩
  rw [← hs1] at E0 R0
  obtain ⟨s2, hs2⟩ : ∃ s, s = quiL (fv x) (fv y) := ⟨_, rfl⟩
  rw [← hs2] at E1 R1
  obtain ⟨s3, hs3⟩ : ∃ s, s = halH (fv x) := ⟨_, rfl⟩
  rw [← hs3] at E2 R2
  obtain ⟨s4, hs4⟩ : ∃ s, s = halL (fv x) := ⟨_, rfl⟩
  rw [← hs4] at E2 R2
  obtain ⟨s5, hs5⟩ : ∃ s, s = proP (fv x) (fv y) := ⟨_, rfl⟩
  rw [← hs5] at E3 R3 E4 R4
  obtain ⟨s6, hs6⟩ : ∃ s, s = proE (fv x) (fv y) := ⟨_, rfl⟩
  rw [← hs6] at E3 R3
  obtain ⟨s7, hs7⟩ : ∃ s, s = fusL x y := ⟨_, rfl⟩
  rw [← hs7] at E4 R4
  clear hs0 hs1 hs2 hs3 hs4 hs5 hs6 hs7 hx hy
  go_enter Tryz.func10, Tryz.ntmps10
  go_wp2_with fail
  refine (ef_any x _).mono ?_; rintro e0 w0 ⟨rfl, rfl⟩
  go_wp2_with fail
  refine (ef_any y _).mono ?_; rintro e0 w0 ⟨rfl, rfl⟩
  go_wp2_with fail
  refine (E0.out _).mono ?_; rintro e0 w0a ⟨p0, q0, rfl, _, _, hp0, hq0, ha0⟩
  go_wp2_with fail
  unfold Pr at R0
  refine (R0.out _).mono ?_; rintro f0 w0b ⟨t0, u0, rfl, _, _, ht0, hu0, hb0⟩
  have TL0 := Lib.hid (fun w => two_law (canonD p0) (canonD q0) t0 u0 (canon_eq (hp0.trans ht0.symm)) (canon_eq (hq0.trans hu0.symm)) w)
  have hc0 := ha0.trans hb0
  clear hp0 hq0 ht0 hu0 ha0 hb0 E0 R0
  go_wp2_with fail
  refine (TL0.out _).mono ?_; rintro g0 w0c ⟨rfl, hd0⟩
  have hd0 := hc0.trans hd0
  clear hc0 TL0
  go_wp2_with fail
  refine (E1.out _).mono ?_; rintro e1 w1a ⟨p1, q1, rfl, _, _, hp1, hq1, ha1⟩
  go_wp2_with fail
  unfold Pr at R1
  refine (R1.out _).mono ?_; rintro f1 w1b ⟨t1, u1, rfl, _, _, ht1, hu1, hb1⟩
  have TL1 := Lib.hid (fun w => two_law (canonD p1) (canonD q1) t1 u1 (canon_eq (hp1.trans ht1.symm)) (canon_eq (hq1.trans hu1.symm)) w)
  have hc1 := (hd0.trans ha1).trans hb1
  clear hp1 hq1 ht1 hu1 ha1 hb1 E1 R1
  go_wp2_with fail
  refine (TL1.out _).mono ?_; rintro g1 w1c ⟨rfl, hd1⟩
  have hd1 := hc1.trans hd1
  clear hc1 TL1 hd0
  go_wp2_with fail
  refine (E2.out _).mono ?_; rintro e2 w2a ⟨p2, q2, rfl, _, _, hp2, hq2, ha2⟩
  go_wp2_with fail
  unfold Pr at R2
  refine (R2.out _).mono ?_; rintro f2 w2b ⟨t2, u2, rfl, _, _, ht2, hu2, hb2⟩
  have TL2 := Lib.hid (fun w => two_law (canonD p2) (canonD q2) t2 u2 (canon_eq (hp2.trans ht2.symm)) (canon_eq (hq2.trans hu2.symm)) w)
  have hc2 := (hd1.trans ha2).trans hb2
  clear hp2 hq2 ht2 hu2 ha2 hb2 E2 R2
  go_wp2_with fail
  refine (TL2.out _).mono ?_; rintro g2 w2c ⟨rfl, hd2⟩
  have hd2 := hc2.trans hd2
  clear hc2 TL2 hd1
  go_wp2_with fail
  refine (E3.out _).mono ?_; rintro e3 w3a ⟨p3, q3, rfl, _, _, hp3, hq3, ha3⟩
  go_wp2_with fail
  unfold Pr at R3
  refine (R3.out _).mono ?_; rintro f3 w3b ⟨t3, u3, rfl, _, _, ht3, hu3, hb3⟩
  have TL3 := Lib.hid (fun w => two_law (canonD p3) (canonD q3) t3 u3 (canon_eq (hp3.trans ht3.symm)) (canon_eq (hq3.trans hu3.symm)) w)
  have hc3 := (hd2.trans ha3).trans hb3
  clear hp3 hq3 ht3 hu3 ha3 hb3 E3 R3
  go_wp2_with fail
  refine (TL3.out _).mono ?_; rintro g3 w3c ⟨rfl, hd3⟩
  have hd3 := hc3.trans hd3
  clear hc3 TL3 hd2
  go_wp2_with fail
  refine (E4.out _).mono ?_; rintro e4 w4a ⟨p4, q4, rfl, _, _, hp4, hq4, ha4⟩
  go_wp2_with fail
  unfold Pr at R4
  refine (R4.out _ (HT.out.2.of (by repeat (first | with_reducible exact Within.refl _ | with_reducible assumption | with_reducible refine arW_within ?_ _ _ _ | with_reducible refine Within.alloc ?_ _ | with_reducible refine Within.drew ?_ | with_reducible refine Within.trans ?_ (by assumption))))).mono ?_; rintro f4 w4b ⟨t4, u4, rfl, _, _, ht4, hu4, hb4⟩
  have TL4 := Lib.hid (fun w => two_law (canonD p4) (canonD q4) t4 u4 (canon_eq (hp4.trans ht4.symm)) (canon_eq (hq4.trans hu4.symm)) w)
  have hc4 := (hd3.trans ha4).trans hb4
  clear hp4 hq4 ht4 hu4 ha4 hb4 E4 R4
  go_wp2_with fail
  refine (TL4.out _).mono ?_; rintro g4 w4c ⟨rfl, hd4⟩
  have hd4 := hc4.trans hd4
  clear hc4 TL4 hd3
  go_wp2_with fail
  refine (AW.out _ (HT.out.1.of hd4)).mono ?_; rintro e9 w9 ⟨rfl, hb9⟩
  go_wp2
  go_ret
  exact ⟨rfl, hd4.trans hb9⟩
end Go.Proofs.YtjmaggfddinbkaaGreatDoor
end

section
namespace Go.Proofs.YtjmaggfddinbkaaGreatDoor.Base
open Go.ChangeShapes Go.WideShapes Go.ChangeAt Go.RowKit
theorem own : ownKnob Tryz.prog.godebug = none := by kernel_rfl
theorem gTab : Tryz.prog.globalNamed "math/bits.deBruijn64tab" = some 2 := by kernel_rfl
theorem gTabType : (Tryz.prog.globals[2]?).map (·.type) = some 174 := by kernel_rfl
theorem cellsT : Tryz.prog.cellsOf 174 = 64 := by kernel_rfl
theorem cellsB : Tryz.prog.cellsOf 5 = 1 := by kernel_rfl
theorem tab {W : World} (h : laidMetH Tryz.prog [("math/bits.deBruijn64tab", Rows.laid_math_bits_deBruijn64tab)] W) : Tab W := fun j hj => by
  have e := (Lib.tabIs_of_head (zs := Lib.deBruijn64tab.map Int.ofNat) (rest := []) gTab gTabType Tryz.underlying174 Tryz.underlying5 cellsB cellsT h).cell gTab j (by simpa [Lib.deBruijn64tab] using hj)
  rw [e]
  congr 2
  have hl : j < Lib.deBruijn64tab.length := hj
  simp [List.getD, List.getElem?_map, List.getElem?_eq_getElem hl]
theorem nat_of_u64 {n : Int} (h : (Lit.int .u64 n).wf = true) : ∃ a : Nat, n = a ∧ a < 18446744073709551616 := by
  simp only [Lit.wf, Bool.and_eq_true, decide_eq_true_eq] at h
  have h1 : (0 : Int) ≤ n := h.1
  have h2 : n ≤ 18446744073709551615 := h.2
  exact ⟨n.toNat, by omega, by omega⟩
noncomputable def laidWorld (os : Os) : World :=
  { World.holding Tryz.prog os ⟨#[], #[], []⟩ with heap := (World.holding Tryz.prog os ⟨#[], #[], []⟩).heap.modify 2 fun
      | .cells _ t frozen => .cells #[.int .u8 0, .int .u8 1, .int .u8 56, .int .u8 2, .int .u8 57, .int .u8 49, .int .u8 28, .int .u8 3, .int .u8 61, .int .u8 58, .int .u8 42, .int .u8 50, .int .u8 38, .int .u8 29, .int .u8 17, .int .u8 4, .int .u8 62, .int .u8 47, .int .u8 59, .int .u8 36, .int .u8 45, .int .u8 43, .int .u8 51, .int .u8 22, .int .u8 53, .int .u8 39, .int .u8 33, .int .u8 30, .int .u8 24, .int .u8 18, .int .u8 12, .int .u8 5, .int .u8 63, .int .u8 55, .int .u8 48, .int .u8 27, .int .u8 60, .int .u8 41, .int .u8 37, .int .u8 16, .int .u8 46, .int .u8 35, .int .u8 44, .int .u8 21, .int .u8 52, .int .u8 32, .int .u8 23, .int .u8 11, .int .u8 54, .int .u8 26, .int .u8 40, .int .u8 15, .int .u8 34, .int .u8 20, .int .u8 31, .int .u8 10, .int .u8 25, .int .u8 14, .int .u8 19, .int .u8 9, .int .u8 13, .int .u8 8, .int .u8 7, .int .u8 6] t frozen
      | o => o }
end Go.Proofs.YtjmaggfddinbkaaGreatDoor.Base
end

section
namespace Go.Proofs.YtjmaggfddinbkaaGreatDoor.Base
open Go.ChangeShapes Go.WideShapes Go.ChangeAt Go.RowKit
theorem gTab32 : Tryz.prog.globalNamed "math/bits.deBruijn32tab" = some 1 := by kernel_rfl
theorem gTab32Type : (Tryz.prog.globals[1]?).map (·.type) = some 160 := by kernel_rfl
theorem cells32 : Tryz.prog.cellsOf 160 = 32 := by kernel_rfl
theorem laid_tail {P : Program} {x : String × DataW Unit} {r : List (String × DataW Unit)} {w : World} (h : laidMet P (x :: r) w) : laidMet P r w := by
  obtain ⟨ps, hv, hnd, hrows⟩ := h
  obtain ⟨n, d⟩ := x
  obtain ⟨g, t, cs, fuel, p, q, _, _, _, _, hq, rfl⟩ := hv
  exact ⟨q, hq, List.Nodup.sublist (List.sublist_append_right _ _) hnd, fun b off hm => hrows b off (List.mem_append_right _ hm)⟩
theorem tab2 {W : World} (h : laidMetH Tryz.prog [("math/bits.deBruijn32tab", Rows.laid_math_bits_deBruijn32tab), ("math/bits.deBruijn64tab", Rows.laid_math_bits_deBruijn64tab)] W) : Tab W ∧ Tab32 W := by
  refine ⟨tab (laid_tail h), fun j hj => ?_⟩
  have e := (Lib.tabIs_of_head (zs := Lib.deBruijn32tab.map Int.ofNat) gTab32 gTab32Type Tryz.underlying160 Tryz.underlying5 cellsB cells32 h).cell gTab32 j (by simpa [Lib.deBruijn32tab] using hj)
  rw [e]
  congr 2
  have hl : j < Lib.deBruijn32tab.length := hj
  simp [List.getD, List.getElem?_map, List.getElem?_eq_getElem hl]
noncomputable def laidWorld2 (os : Os) : World :=
  { laidWorld os with heap := (laidWorld os).heap.modify 1 fun
      | .cells _ t frozen => .cells #[.int .u8 0, .int .u8 1, .int .u8 28, .int .u8 2, .int .u8 29, .int .u8 14, .int .u8 24, .int .u8 3, .int .u8 30, .int .u8 22, .int .u8 20, .int .u8 15, .int .u8 25, .int .u8 17, .int .u8 4, .int .u8 8, .int .u8 31, .int .u8 27, .int .u8 13, .int .u8 23, .int .u8 21, .int .u8 19, .int .u8 16, .int .u8 7, .int .u8 26, .int .u8 12, .int .u8 18, .int .u8 6, .int .u8 11, .int .u8 5, .int .u8 10, .int .u8 9] t frozen
      | o => o }
end Go.Proofs.YtjmaggfddinbkaaGreatDoor.Base
end

section
namespace Go.Proofs.YtjmaggfddinbkaaGreatDoor.eftTransforms
open Go.ChangeShapes Go.WideShapes Go.ChangeAt Go.RowKit
set_option maxRecDepth 100000 in
theorem contract (H : Type) (enc : TypeId × Value → H) (W : World) (base : Nat) (args : Array Value) (ds gs : List (DataW H)) (before : List MemPlace)
    (hval : ∀ (j : Nat) t v, Tryz.f10.params[j]? = some t → args[j]? = some v → Value.okWide Tryz.prog W .any base t v)
    (hW : DataW.Whole enc Tryz.prog Tryz.f10.params.toList Rows.eftTransformsSpec.vars false W args.toList ds gs before) (hL : laidMetH Tryz.prog Rows.eftTransformsRow.laid W) :
    Calls Tryz.prog 10 args W fun e W' => ∃ v, e = .returned v ∧ Rows.eftTransformsSpec.post enc Tryz.prog Tryz.f10 false true false false W args v W' := by
  have hW' := hW
  obtain ⟨p, q, hA0, hV, rfl, hfz, hnd⟩ := hW
  have hA : DataW.TrodAll enc Tryz.prog W 0 (fun _ => true) true Tryz.f10.params.toList args.toList ds p := hA0
  rw [Tryz.params10] at hA hval
  obtain ⟨v0, vs0, d0, ds0, p0, q0, hargs, rfl, rfl, h0, r0⟩ := trodAll_cons hA
  obtain ⟨v1, vs1, d1, ds1, p1, q1, rfl, rfl, rfl, h1, r1⟩ := trodAll_cons r0
  obtain ⟨rfl, rfl, rfl⟩ := trodAll_nil r1
  obtain rfl : args = #[v0, v1] := by cases args; simp_all
  obtain ⟨rfl, rfl⟩ := trodVars_none hV
  obtain ⟨n0, rfl, rfl, rfl, w0⟩ := open_int Tryz.underlying23 (hval 0 23 v0 rfl rfl) h0
  obtain ⟨a0, rfl, ha0⟩ := Base.nat_of_u64 w0
  obtain ⟨n1, rfl, rfl, rfl, w1⟩ := open_int Tryz.underlying23 (hval 1 23 v1 rfl rfl) h1
  obtain ⟨a1, rfl, ha1⟩ := Base.nat_of_u64 w1
  clear hA0
  simp only [List.append_nil] at hW'
  refine (transforms_law a0 a1 ha0 ha1 W (Base.tab2 hL)).mono fun e W' ⟨he, bel⟩ => ?_
  subst he
  exact ⟨_, rfl, _, _, _, [], _, [], hW', trodAll_mk1 (shut_bool Tryz.underlying4 _), (trodAll_cons_mk (shut_int Tryz.underlying23 w0) (trodAll_cons_mk (shut_int Tryz.underlying23 w1) trodAll_mk0)), rfl, Below.frame bel _, fun h => by cases h⟩
theorem laid_met (os : Os) : laidMet Tryz.prog Rows.eftTransformsRow.laid ((Base.laidWorld2 os).forCall (fun _ _ => 0) ⟨#[], #[Value.int .u64 0, Value.int .u64 0], []⟩).memory :=
  laidMet_of_run' 8 (by kernel_rfl) (by kernel_rfl)
theorem reads (os : Os) {H : Type} (enc : TypeId × Value → H) : ∃ places, DataW.whole enc Tryz.prog ((Base.laidWorld2 os).forCall (fun _ _ => 0) ⟨#[], #[Value.int .u64 0, Value.int .u64 0], []⟩).memory Tryz.f10.params.toList Rows.eftTransformsSpec.vars false (#[Value.int .u64 0, Value.int .u64 0] : Array Value).toList 8 = some ([.lit (.int .u64 0), .lit (.int .u64 0)], [], places) :=
  ⟨[], by kernel_rfl⟩
set_option maxRecDepth 100000 in
theorem lifted (os : Os) (started : os.Started) (H : Type) (enc : TypeId × Value → H) (F : Stop.Interp) :
    ReturnsInHanded {} Tryz.checked os 10 .any ((OpenSpec.ofChange Rows.eftTransformsSpec).preRow enc Tryz.prog Tryz.f10 Rows.eftTransformsRow.domain false Rows.eftTransformsRow.laid) (((OpenSpec.ofChange Rows.eftTransformsSpec).at F).post enc Tryz.prog Tryz.f10 false true false false) := by
  obtain ⟨places, hx⟩ := reads os enc
  refine returnsInHanded_of_row (C := Tryz.checked) (s := OpenSpec.ofChange Rows.eftTransformsSpec) Base.own started (by kernel_rfl) Tryz.func10
    (witness_row_at (enc := enc) (C := Tryz.checked) false (Base.laidWorld2 os) #[Value.int .u64 0, Value.int .u64 0] rfl (by kernel_rfl) (by kernel_rfl) (by kernel_rfl)
      (OpenSpec.preRow_of_cond 8 hx (by kernel_rfl) (fun k hk => by cases hk) (by kernel_rfl) (laid_met os))) ?_
  intro W base args ds gs before hval hW _ _ _ hL _ _
  exact contract H enc W base args ds gs before hval hW hL
theorem said : Rows.EftTransformsSaid :=
  OpenClaim.holds_of_cond 10 Tryz.f10 rfl rfl rfl rfl rfl rfl rfl ⟨rfl, rfl, rfl, rfl, rfl⟩ rfl rfl rfl rfl rfl (by kernel_rfl) Tryz.func10 (by kernel_rfl)
    (of_decide_eq_true (by kernel_rfl)) (by unfold Func.isWrapper; first | (rw [if_pos (by decide +kernel)]; kernel_rfl) | (rw [if_neg (by decide +kernel)]; exact ⟨rfl, rfl⟩))
    (fun os started H enc _ F => by rw [OpenClaim.pre_eq_preRow]; exact lifted os started H enc F)
theorem plain (f : FuncId) (fn : Func) (hf : Tryz.pinned.checked.prog.funcNamed "binnacle/binnaclelaw04.EftTransforms" = some f) (hfn : Tryz.pinned.checked.prog.funcs[f]? = some fn) :
    false = Tryz.pinned.checked.prog.looks [] ∧ ∀ (j : Nat) t, fn.params[j]? = some t → Tryz.pinned.checked.prog.wantsStandIn t = false := by
  obtain rfl : f = 10 := Option.some.inj ((show Tryz.prog.funcNamed "binnacle/binnaclelaw04.EftTransforms" = some 10 by kernel_rfl).symm.trans hf) |>.symm
  obtain rfl : fn = Tryz.f10 := (Option.some.inj (Tryz.func10.symm.trans hfn)).symm
  refine ⟨by kernel_rfl, fun j t ht => ?_⟩
  rw [Tryz.params10] at ht
  have hm := Array.mem_of_getElem? ht
  have hm' : t = 23 := by simpa using hm
  subst hm'
  exact (show Tryz.prog.wantsStandIn 23 = false by kernel_rfl)
theorem card : Rows.EftTransformsCardSaid :=
  Claim7.holds_tied_plain_at .later [] _ _ _ _ said (fun _ h => by cases h) (by kernel_rfl) (fun _ h => by cases h) eftTransforms_row_tie rfl ⟨rfl, rfl⟩ (by kernel_rfl) rfl plain (by kernel_rfl)
#print axioms card
end Go.Proofs.YtjmaggfddinbkaaGreatDoor.eftTransforms
end
