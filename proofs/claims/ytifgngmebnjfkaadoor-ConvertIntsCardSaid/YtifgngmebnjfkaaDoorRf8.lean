/- Package binnacleref02: of whole numbers: walks. -/
import Derived.Test.YtifgngmebnjfkaaDoorRf6
namespace Go.Proofs.YtifgngmebnjfkaaDoor
open Go.RowKit

theorem IntB.drew {w : World} {g : Nat} {v : Int} (h : IntB w g v) : IntB w.drew g v := h.of (Within.refl _).drew
theorem sign_lt (v : Int) : v.sign < 0 ↔ v < 0 := by
  rcases Int.lt_trichotomy v 0 with h | h | h
  · rw [Int.sign_eq_neg_one_of_neg h]; exact ⟨fun _ => h, fun _ => by decide⟩
  · subst h; simp
  · rw [Int.sign_eq_one_of_pos h]; constructor
    · intro h1; exact absurd h1 (by decide)
    · intro h1; omega
set_option maxRecDepth 100000 in
set_option maxHeartbeats 600000 in
theorem RfromD_bad (g : Nat) (mode : Int) (KN : Hid (∀ w, Calls Tryd.prog 72 #[.int .i64 mode] w (fun e w' => e = .returned (.bool false) ∧ w = w'))) (w : World) : Calls Tryd.prog 82 #[fmD, .pointer (some ⟨g, 0, none⟩), .int .i64 mode] w (fun e w' => e = .returned (.tuple #[.int .u64 0, .int .i64 0, .int .i64 20]) ∧ Within w w') := by
  go_enter Tryd.func82, Tryd.ntmps82
  go_wp2_with fail
  refine (KN.out _).mono ?_; rintro e1 w1 ⟨rfl, rfl⟩
  go_wp2
  go_ret3
  exact ⟨rfl, (by repeat (first | with_reducible exact Within.refl _ | with_reducible assumption | with_reducible refine Within.alloc ?_ _ | with_reducible refine Within.drew ?_ | with_reducible refine Within.drewN ?_ _ | with_reducible refine Within.setCell ?_ (by first | (simp; done) | (simp; omega)) _ | with_reducible refine Within.trans ?_ (by assumption)))⟩

set_option maxRecDepth 100000 in
set_option maxHeartbeats 600000 in
theorem RfromD_zero (g : Nat) (mode : Int) (KN : Hid (∀ w, Calls Tryd.prog 72 #[.int .i64 mode] w (fun e w' => e = .returned (.bool true) ∧ w = w'))) (w : World) (hI : IntB w g 0) : Calls Tryd.prog 82 #[fmD, .pointer (some ⟨g, 0, none⟩), .int .i64 mode] w (fun e w' => e = .returned (.tuple #[.int .u64 0, .int .i64 0, .int .i64 0]) ∧ Within w w') := by
  have SG := Lib.hid (fun (w' : World) (h : IntB w' g 0) => Bsign g 0 w' h)
  rw [show (0 : Int).sign = 0 from rfl] at SG
  go_enter Tryd.func82, Tryd.ntmps82
  go_wp2_with fail
  refine (KN.out _).mono ?_; rintro e1 w1 ⟨rfl, rfl⟩
  go_wp2_with fail
  refine (SG.out _ (by repeat (first | with_reducible assumption | with_reducible exact ib_new _ _ (by simp; done) | with_reducible refine IntB.alloc ?_ _ | with_reducible refine IntB.drew ?_ | with_reducible refine IntB.drewN ?_ _))).mono ?_; rintro e2 w2 ⟨rfl, rfl⟩
  go_wp2
  go_ret3
  exact ⟨rfl, (by repeat (first | with_reducible exact Within.refl _ | with_reducible assumption | with_reducible refine Within.alloc ?_ _ | with_reducible refine Within.drew ?_ | with_reducible refine Within.drewN ?_ _ | with_reducible refine Within.setCell ?_ (by first | (simp; done) | (simp; omega)) _ | with_reducible refine Within.trans ?_ (by assumption)))⟩

set_option maxRecDepth 100000 in
set_option maxHeartbeats 600000 in
theorem RfromD_main (g M W : Nat) (v mode F : Int) (b : Bool) (hv : v ≠ 0) (hM : (v.natAbs : Int) = (M : Int)) (hb : decide (v < 0) = b) (hl : (dg v.natAbs).length ≤ 2000000) (KN : Hid (∀ w, Calls Tryd.prog 72 #[.int .i64 mode] w (fun e w' => e = .returned (.bool true) ∧ w = w'))) (w : World) (hI : IntB w g v) (RR : Hid (∀ w g, IntB w g (M : Int) → Calls Tryd.prog 109 #[fmD, .bool b, .pointer (some ⟨g, 0, none⟩), .int .i64 0, .bool false, .int .i64 mode] w (fun e' w' => e' = .returned (.tuple #[.int .u64 (W : Int), .int .i64 F]) ∧ Within w w'))) : Calls Tryd.prog 82 #[fmD, .pointer (some ⟨g, 0, none⟩), .int .i64 mode] w (fun e w' => e = .returned (.tuple #[.int .u64 (W : Int), .int .i64 F, .int .i64 0]) ∧ Within w w') := by
  have HM := Lib.hid hM; clear hM
  have d1 : (v.sign == 0) = false := beq_eq_false_iff_ne.2 (fun h => hv (Int.sign_eq_zero_iff_zero.1 h))
  have d2 : decide (v.sign < 0) = b := by rw [← hb, decide_eq_decide]; exact sign_lt v
  have d3 : decide (v < 0) = b := hb
  clear hv hb
  go_enter Tryd.func82, Tryd.ntmps82
  go_wp2_with fail
  refine (KN.out _).mono ?_; rintro e1 w1 ⟨rfl, rfl⟩
  go_wp2_with fail
  refine (Bsign g v _ (by repeat (first | with_reducible assumption | with_reducible exact ib_new _ _ (by simp; done) | with_reducible refine IntB.alloc ?_ _ | with_reducible refine IntB.drew ?_ | with_reducible refine IntB.drewN ?_ _))).mono ?_; rintro e2 w2 ⟨rfl, rfl⟩
  go_upto_region 5 with fail
  refine wp_region_schG (fun W => W.cell? ⟨w.heap.size, 0, none⟩ = some (.int .i64 (53)) ∧ W.cell? ⟨w.heap.size, 1, none⟩ = some (.int .i64 (-1022)) ∧ W.cell? ⟨w.heap.size, 2, none⟩ = some (.int .i64 (1023)) ∧ W.cell? ⟨w.heap.size, 3, none⟩ = some (.int .i64 (11)) ∧ IntB W g v ∧ Within (w.alloc (.cells #[.int .i64 53, .int .i64 (-1022), .int .i64 1023, .int .i64 11] 84)) W ∧ w.heap.size < W.heap.size) 13 (.firm 0 (.firm 1 (.firm 5 (.firm 7 (.two 2 (.firm 3 (.one 4 (.one 6 (.one 8 (.firm 9 (.firm 10 (.firm 11 (.one 12 (.one 13 .nil))))))))) 4 (.one 2 (.firm 3 (.one 6 (.one 8 (.firm 9 (.firm 10 (.firm 11 (.one 12 (.one 13 .nil)))))))))))))) (by kernel_rfl) (by kernel_rfl) ⟨by go_simp, by go_simp, by go_simp, by go_simp, (by repeat (first | with_reducible assumption | with_reducible exact ib_new _ _ (by simp; done) | with_reducible refine IntB.alloc ?_ _ | with_reducible refine IntB.drew ?_ | with_reducible refine IntB.drewN ?_ _)), Within.refl _, by simp⟩ ?_
  rintro w0 ⟨c0, c1, c2, c3, hJ, hw0, hs0⟩
  try simp only [Act.put, List.setIfInBounds_toArray, List.set_cons_zero, List.set_cons_succ]
  repeat
    apply sch_firm rfl rfl (by repeat (first | with_reducible exact Within.refl _ | with_reducible assumption | with_reducible refine Within.alloc ?_ _ | with_reducible refine Within.drew ?_ | with_reducible refine Within.drewN ?_ _ | with_reducible refine Within.setCell ?_ (by first | (simp; done) | (simp; omega)) _ | with_reducible refine Within.trans ?_ (by assumption)))
    · intro wq hq
      have hcq := hq.cells
      clear hq
      go_simp
      first | rfl | (trace_state; fail)
    try simp only [Act.put, List.setIfInBounds_toArray, List.set_cons_zero, List.set_cons_succ]
  refine sch_two rfl rfl rfl rfl (fun K hK => ?_) (fun K hK => ?_)
  · go_simp
    refine (Bsign g v _ (by repeat (first | with_reducible assumption | with_reducible exact ib_new _ _ (by simp; done) | with_reducible refine IntB.alloc ?_ _ | with_reducible refine IntB.drew ?_ | with_reducible refine IntB.drewN ?_ _))).mono ?_; rintro e4 w4 ⟨rfl, rfl⟩
    refine hK _ _ (by repeat (first | with_reducible exact Within.refl _ | with_reducible assumption | with_reducible refine Within.alloc ?_ _ | with_reducible refine Within.drew ?_ | with_reducible refine Within.drewN ?_ _ | with_reducible refine Within.setCell ?_ (by first | (simp; done) | (simp; omega)) _ | with_reducible refine Within.trans ?_ (by assumption))) ?_
    clear hK K
    try simp only [Act.put, List.setIfInBounds_toArray, List.set_cons_zero, List.set_cons_succ]
    repeat
      apply sch_firm rfl rfl (by repeat (first | with_reducible exact Within.refl _ | with_reducible assumption | with_reducible refine Within.alloc ?_ _ | with_reducible refine Within.drew ?_ | with_reducible refine Within.drewN ?_ _ | with_reducible refine Within.setCell ?_ (by first | (simp; done) | (simp; omega)) _ | with_reducible refine Within.trans ?_ (by assumption)))
      · intro wq hq
        have hcq := hq.cells
        clear hq
        go_simp
        first | rfl | (trace_state; fail)
      try simp only [Act.put, List.setIfInBounds_toArray, List.set_cons_zero, List.set_cons_succ]
    refine sch_one rfl rfl (fun K hK => ?_)
    go_simp
    refine hK _ _ (fun _ => (by repeat (first | with_reducible exact Within.refl _ | with_reducible assumption | with_reducible refine Within.alloc ?_ _ | with_reducible refine Within.drew ?_ | with_reducible refine Within.drewN ?_ _ | with_reducible refine Within.setCell ?_ (by first | (simp; done) | (simp; omega)) _ | with_reducible refine Within.trans ?_ (by assumption)))) ?_
    clear hK K
    try simp only [Act.put, List.setIfInBounds_toArray, List.set_cons_zero, List.set_cons_succ]
    refine sch_one rfl rfl (fun K hK => ?_)
    go_simp
    refine (Babs _ g v hl _ (by repeat (first | with_reducible assumption | with_reducible exact ty_new _ _ _ _ (by simp; done) | with_reducible refine ty_drew ?_ | with_reducible refine ty_alloc ?_ _)) (by repeat (first | with_reducible assumption | with_reducible exact ib_new _ _ (by simp; done) | with_reducible refine IntB.alloc ?_ _ | with_reducible refine IntB.drew ?_ | with_reducible refine IntB.drewN ?_ _))).mono ?_; rintro e5 w5 ⟨rfl, hI5, hG5⟩
    have hv5 : Within w0 w5 := Within.grown (by repeat (first | with_reducible exact Within.refl _ | with_reducible assumption | with_reducible refine Within.alloc ?_ _ | with_reducible refine Within.drew ?_ | with_reducible refine Within.drewN ?_ _ | with_reducible refine Within.setCell ?_ (by first | (simp; done) | (simp; omega)) _ | with_reducible refine Within.trans ?_ (by assumption))) hG5 (by simp)
    rw [HM.out] at hI5
    refine hK _ _ (fun _ => (by repeat (first | with_reducible exact Within.refl _ | with_reducible assumption | with_reducible refine Within.alloc ?_ _ | with_reducible refine Within.drew ?_ | with_reducible refine Within.drewN ?_ _ | with_reducible refine Within.setCell ?_ (by first | (simp; done) | (simp; omega)) _ | with_reducible refine Within.trans ?_ (by assumption)))) ?_
    clear hK K
    try simp only [Act.put, List.setIfInBounds_toArray, List.set_cons_zero, List.set_cons_succ]
    refine sch_one rfl rfl (fun K hK => ?_)
    go_simp
    refine (RR.out _ _ hI5).mono ?_; rintro e6 w6 ⟨rfl, hb6⟩
    have hv6 := hv5.trans hb6
    refine hK _ _ (fun _ => (by repeat (first | with_reducible exact Within.refl _ | with_reducible assumption | with_reducible refine Within.alloc ?_ _ | with_reducible refine Within.drew ?_ | with_reducible refine Within.drewN ?_ _ | with_reducible refine Within.setCell ?_ (by first | (simp; done) | (simp; omega)) _ | with_reducible refine Within.trans ?_ (by assumption)))) ?_
    clear hK K
    try simp only [Act.put, List.setIfInBounds_toArray, List.set_cons_zero, List.set_cons_succ]
    repeat
      apply sch_firm rfl rfl (by repeat (first | with_reducible exact Within.refl _ | with_reducible assumption | with_reducible refine Within.alloc ?_ _ | with_reducible refine Within.drew ?_ | with_reducible refine Within.drewN ?_ _ | with_reducible refine Within.setCell ?_ (by first | (simp; done) | (simp; omega)) _ | with_reducible refine Within.trans ?_ (by assumption)))
      · intro wq hq
        have hcq := hq.cells
        clear hq
        go_simp
        first | rfl | (trace_state; fail)
      try simp only [Act.put, List.setIfInBounds_toArray, List.set_cons_zero, List.set_cons_succ]
    refine sch_one rfl rfl (fun K hK => ?_)
    go_simp
    refine hK _ _ (fun _ => (by repeat (first | with_reducible exact Within.refl _ | with_reducible assumption | with_reducible refine Within.alloc ?_ _ | with_reducible refine Within.drew ?_ | with_reducible refine Within.drewN ?_ _ | with_reducible refine Within.setCell ?_ (by first | (simp; done) | (simp; omega)) _ | with_reducible refine Within.trans ?_ (by assumption)))) ?_
    clear hK K
    try simp only [Act.put, List.setIfInBounds_toArray, List.set_cons_zero, List.set_cons_succ]
    refine sch_one rfl rfl (fun K hK => ?_)
    go_simp
    refine hK _ _ (fun h => absurd h (by decide)) ?_
    clear hK K
    try simp only [Act.put, List.setIfInBounds_toArray, List.set_cons_zero, List.set_cons_succ]
    refine sch_nil ?_
    go_wp2
    go_ret3
    exact ⟨rfl, ((Within.refl w).alloc _).trans (hw0.trans hv6)⟩
  · go_simp
    refine hK _ _ (by repeat (first | with_reducible exact Within.refl _ | with_reducible assumption | with_reducible refine Within.alloc ?_ _ | with_reducible refine Within.drew ?_ | with_reducible refine Within.drewN ?_ _ | with_reducible refine Within.setCell ?_ (by first | (simp; done) | (simp; omega)) _ | with_reducible refine Within.trans ?_ (by assumption))) ?_
    clear hK K
    try simp only [Act.put, List.setIfInBounds_toArray, List.set_cons_zero, List.set_cons_succ]
    refine sch_one rfl rfl (fun K hK => ?_)
    go_simp
    refine (Bsign g v _ (by repeat (first | with_reducible assumption | with_reducible exact ib_new _ _ (by simp; done) | with_reducible refine IntB.alloc ?_ _ | with_reducible refine IntB.drew ?_ | with_reducible refine IntB.drewN ?_ _))).mono ?_; rintro e4 w4 ⟨rfl, rfl⟩
    refine hK _ _ (fun _ => (by repeat (first | with_reducible exact Within.refl _ | with_reducible assumption | with_reducible refine Within.alloc ?_ _ | with_reducible refine Within.drew ?_ | with_reducible refine Within.drewN ?_ _ | with_reducible refine Within.setCell ?_ (by first | (simp; done) | (simp; omega)) _ | with_reducible refine Within.trans ?_ (by assumption)))) ?_
    clear hK K
    try simp only [Act.put, List.setIfInBounds_toArray, List.set_cons_zero, List.set_cons_succ]
    repeat
      apply sch_firm rfl rfl (by repeat (first | with_reducible exact Within.refl _ | with_reducible assumption | with_reducible refine Within.alloc ?_ _ | with_reducible refine Within.drew ?_ | with_reducible refine Within.drewN ?_ _ | with_reducible refine Within.setCell ?_ (by first | (simp; done) | (simp; omega)) _ | with_reducible refine Within.trans ?_ (by assumption)))
      · intro wq hq
        have hcq := hq.cells
        clear hq
        go_simp
        first | rfl | (trace_state; fail)
      try simp only [Act.put, List.setIfInBounds_toArray, List.set_cons_zero, List.set_cons_succ]
    refine sch_one rfl rfl (fun K hK => ?_)
    go_simp
    refine (Babs _ g v hl _ (by repeat (first | with_reducible assumption | with_reducible exact ty_new _ _ _ _ (by simp; done) | with_reducible refine ty_drew ?_ | with_reducible refine ty_alloc ?_ _)) (by repeat (first | with_reducible assumption | with_reducible exact ib_new _ _ (by simp; done) | with_reducible refine IntB.alloc ?_ _ | with_reducible refine IntB.drew ?_ | with_reducible refine IntB.drewN ?_ _))).mono ?_; rintro e5 w5 ⟨rfl, hI5, hG5⟩
    have hv5 : Within w0 w5 := Within.grown (by repeat (first | with_reducible exact Within.refl _ | with_reducible assumption | with_reducible refine Within.alloc ?_ _ | with_reducible refine Within.drew ?_ | with_reducible refine Within.drewN ?_ _ | with_reducible refine Within.setCell ?_ (by first | (simp; done) | (simp; omega)) _ | with_reducible refine Within.trans ?_ (by assumption))) hG5 (by simp)
    rw [HM.out] at hI5
    refine hK _ _ (fun _ => (by repeat (first | with_reducible exact Within.refl _ | with_reducible assumption | with_reducible refine Within.alloc ?_ _ | with_reducible refine Within.drew ?_ | with_reducible refine Within.drewN ?_ _ | with_reducible refine Within.setCell ?_ (by first | (simp; done) | (simp; omega)) _ | with_reducible refine Within.trans ?_ (by assumption)))) ?_
    clear hK K
    try simp only [Act.put, List.setIfInBounds_toArray, List.set_cons_zero, List.set_cons_succ]
    refine sch_one rfl rfl (fun K hK => ?_)
    go_simp
    refine (RR.out _ _ hI5).mono ?_; rintro e6 w6 ⟨rfl, hb6⟩
    have hv6 := hv5.trans hb6
    refine hK _ _ (fun _ => (by repeat (first | with_reducible exact Within.refl _ | with_reducible assumption | with_reducible refine Within.alloc ?_ _ | with_reducible refine Within.drew ?_ | with_reducible refine Within.drewN ?_ _ | with_reducible refine Within.setCell ?_ (by first | (simp; done) | (simp; omega)) _ | with_reducible refine Within.trans ?_ (by assumption)))) ?_
    clear hK K
    try simp only [Act.put, List.setIfInBounds_toArray, List.set_cons_zero, List.set_cons_succ]
    repeat
      apply sch_firm rfl rfl (by repeat (first | with_reducible exact Within.refl _ | with_reducible assumption | with_reducible refine Within.alloc ?_ _ | with_reducible refine Within.drew ?_ | with_reducible refine Within.drewN ?_ _ | with_reducible refine Within.setCell ?_ (by first | (simp; done) | (simp; omega)) _ | with_reducible refine Within.trans ?_ (by assumption)))
      · intro wq hq
        have hcq := hq.cells
        clear hq
        go_simp
        first | rfl | (trace_state; fail)
      try simp only [Act.put, List.setIfInBounds_toArray, List.set_cons_zero, List.set_cons_succ]
    refine sch_one rfl rfl (fun K hK => ?_)
    go_simp
    refine hK _ _ (fun _ => (by repeat (first | with_reducible exact Within.refl _ | with_reducible assumption | with_reducible refine Within.alloc ?_ _ | with_reducible refine Within.drew ?_ | with_reducible refine Within.drewN ?_ _ | with_reducible refine Within.setCell ?_ (by first | (simp; done) | (simp; omega)) _ | with_reducible refine Within.trans ?_ (by assumption)))) ?_
    clear hK K
    try simp only [Act.put, List.setIfInBounds_toArray, List.set_cons_zero, List.set_cons_succ]
    refine sch_one rfl rfl (fun K hK => ?_)
    go_simp
    refine hK _ _ (fun h => absurd h (by decide)) ?_
    clear hK K
    try simp only [Act.put, List.setIfInBounds_toArray, List.set_cons_zero, List.set_cons_succ]
    refine sch_nil ?_
    go_wp2
    go_ret3
    exact ⟨rfl, ((Within.refl w).alloc _).trans (hw0.trans hv6)⟩

theorem RfromD (g : Nat) (v mode : Int) (hl : (dg v.natAbs).length ≤ 900) (w : World) (hI : IntB w g v) : Calls Tryd.prog 82 #[fmD, .pointer (some ⟨g, 0, none⟩), .int .i64 mode] w (fun e w' => e = .returned (.tuple #[.int .u64 ((if 0 ≤ mode ∧ mode ≤ 4 then (if v = 0 then 0 else gWord 53 (-1074) 1023 9218868437227405311 9218868437227405312 4503599627370496 9223372036854775808 (decide (v < 0)) v.natAbs 0 false mode) else 0 : Nat) : Int), .int .i64 (if 0 ≤ mode ∧ mode ≤ 4 then (if v = 0 then 0 else gFlags 53 (-1074) 1023 (decide (v < 0)) v.natAbs 0 false mode) else 0), .int .i64 (if 0 ≤ mode ∧ mode ≤ 4 then 0 else 20)]) ∧ Within w w') := by
  have KN := Lib.hid (fun w => Rknown mode w)
  by_cases h : 0 ≤ mode ∧ mode ≤ 4
  · rw [decide_eq_true h] at KN
    rw [if_pos h, if_pos h, if_pos h]
    by_cases h0 : v = 0
    · subst h0
      rw [if_pos rfl, if_pos rfl]
      exact RfromD_zero g mode KN w hI
    · rw [if_neg h0, if_neg h0]
      exact RfromD_main g v.natAbs _ v mode _ _ h0 rfl rfl (Nat.le_trans hl (by decide)) KN w hI (Lib.hid fun w g hI => RroundD _ false g v.natAbs 0 mode (by decide) hl (by omega) w hI)
  · rw [decide_eq_false h] at KN
    rw [if_neg h, if_neg h, if_neg h]
    exact RfromD_bad g mode KN w

set_option maxRecDepth 100000 in
set_option maxHeartbeats 600000 in
theorem RfromS_bad (g : Nat) (mode : Int) (KN : Hid (∀ w, Calls Tryd.prog 72 #[.int .i64 mode] w (fun e w' => e = .returned (.bool false) ∧ w = w'))) (w : World) : Calls Tryd.prog 82 #[fmS, .pointer (some ⟨g, 0, none⟩), .int .i64 mode] w (fun e w' => e = .returned (.tuple #[.int .u64 0, .int .i64 0, .int .i64 20]) ∧ Within w w') := by
  go_enter Tryd.func82, Tryd.ntmps82
  go_wp2_with fail
  refine (KN.out _).mono ?_; rintro e1 w1 ⟨rfl, rfl⟩
  go_wp2
  go_ret3
  exact ⟨rfl, (by repeat (first | with_reducible exact Within.refl _ | with_reducible assumption | with_reducible refine Within.alloc ?_ _ | with_reducible refine Within.drew ?_ | with_reducible refine Within.drewN ?_ _ | with_reducible refine Within.setCell ?_ (by first | (simp; done) | (simp; omega)) _ | with_reducible refine Within.trans ?_ (by assumption)))⟩

set_option maxRecDepth 100000 in
set_option maxHeartbeats 600000 in
theorem RfromS_zero (g : Nat) (mode : Int) (KN : Hid (∀ w, Calls Tryd.prog 72 #[.int .i64 mode] w (fun e w' => e = .returned (.bool true) ∧ w = w'))) (w : World) (hI : IntB w g 0) : Calls Tryd.prog 82 #[fmS, .pointer (some ⟨g, 0, none⟩), .int .i64 mode] w (fun e w' => e = .returned (.tuple #[.int .u64 0, .int .i64 0, .int .i64 0]) ∧ Within w w') := by
  have SG := Lib.hid (fun (w' : World) (h : IntB w' g 0) => Bsign g 0 w' h)
  rw [show (0 : Int).sign = 0 from rfl] at SG
  go_enter Tryd.func82, Tryd.ntmps82
  go_wp2_with fail
  refine (KN.out _).mono ?_; rintro e1 w1 ⟨rfl, rfl⟩
  go_wp2_with fail
  refine (SG.out _ (by repeat (first | with_reducible assumption | with_reducible exact ib_new _ _ (by simp; done) | with_reducible refine IntB.alloc ?_ _ | with_reducible refine IntB.drew ?_ | with_reducible refine IntB.drewN ?_ _))).mono ?_; rintro e2 w2 ⟨rfl, rfl⟩
  go_wp2
  go_ret3
  exact ⟨rfl, (by repeat (first | with_reducible exact Within.refl _ | with_reducible assumption | with_reducible refine Within.alloc ?_ _ | with_reducible refine Within.drew ?_ | with_reducible refine Within.drewN ?_ _ | with_reducible refine Within.setCell ?_ (by first | (simp; done) | (simp; omega)) _ | with_reducible refine Within.trans ?_ (by assumption)))⟩

set_option maxRecDepth 100000 in
set_option maxHeartbeats 600000 in
theorem RfromS_main (g M W : Nat) (v mode F : Int) (b : Bool) (hv : v ≠ 0) (hM : (v.natAbs : Int) = (M : Int)) (hb : decide (v < 0) = b) (hl : (dg v.natAbs).length ≤ 2000000) (KN : Hid (∀ w, Calls Tryd.prog 72 #[.int .i64 mode] w (fun e w' => e = .returned (.bool true) ∧ w = w'))) (w : World) (hI : IntB w g v) (RR : Hid (∀ w g, IntB w g (M : Int) → Calls Tryd.prog 109 #[fmS, .bool b, .pointer (some ⟨g, 0, none⟩), .int .i64 0, .bool false, .int .i64 mode] w (fun e' w' => e' = .returned (.tuple #[.int .u64 (W : Int), .int .i64 F]) ∧ Within w w'))) : Calls Tryd.prog 82 #[fmS, .pointer (some ⟨g, 0, none⟩), .int .i64 mode] w (fun e w' => e = .returned (.tuple #[.int .u64 (W : Int), .int .i64 F, .int .i64 0]) ∧ Within w w') := by
  have HM := Lib.hid hM; clear hM
  have d1 : (v.sign == 0) = false := beq_eq_false_iff_ne.2 (fun h => hv (Int.sign_eq_zero_iff_zero.1 h))
  have d2 : decide (v.sign < 0) = b := by rw [← hb, decide_eq_decide]; exact sign_lt v
  have d3 : decide (v < 0) = b := hb
  clear hv hb
  go_enter Tryd.func82, Tryd.ntmps82
  go_wp2_with fail
  refine (KN.out _).mono ?_; rintro e1 w1 ⟨rfl, rfl⟩
  go_wp2_with fail
  refine (Bsign g v _ (by repeat (first | with_reducible assumption | with_reducible exact ib_new _ _ (by simp; done) | with_reducible refine IntB.alloc ?_ _ | with_reducible refine IntB.drew ?_ | with_reducible refine IntB.drewN ?_ _))).mono ?_; rintro e2 w2 ⟨rfl, rfl⟩
  go_upto_region 5 with fail
  refine wp_region_schG (fun W => W.cell? ⟨w.heap.size, 0, none⟩ = some (.int .i64 (24)) ∧ W.cell? ⟨w.heap.size, 1, none⟩ = some (.int .i64 (-126)) ∧ W.cell? ⟨w.heap.size, 2, none⟩ = some (.int .i64 (127)) ∧ W.cell? ⟨w.heap.size, 3, none⟩ = some (.int .i64 (8)) ∧ IntB W g v ∧ Within (w.alloc (.cells #[.int .i64 24, .int .i64 (-126), .int .i64 127, .int .i64 8] 84)) W ∧ w.heap.size < W.heap.size) 13 (.firm 0 (.firm 1 (.firm 5 (.firm 7 (.two 2 (.firm 3 (.one 4 (.one 6 (.one 8 (.firm 9 (.firm 10 (.firm 11 (.one 12 (.one 13 .nil))))))))) 4 (.one 2 (.firm 3 (.one 6 (.one 8 (.firm 9 (.firm 10 (.firm 11 (.one 12 (.one 13 .nil)))))))))))))) (by kernel_rfl) (by kernel_rfl) ⟨by go_simp, by go_simp, by go_simp, by go_simp, (by repeat (first | with_reducible assumption | with_reducible exact ib_new _ _ (by simp; done) | with_reducible refine IntB.alloc ?_ _ | with_reducible refine IntB.drew ?_ | with_reducible refine IntB.drewN ?_ _)), Within.refl _, by simp⟩ ?_
  rintro w0 ⟨c0, c1, c2, c3, hJ, hw0, hs0⟩
  try simp only [Act.put, List.setIfInBounds_toArray, List.set_cons_zero, List.set_cons_succ]
  repeat
    apply sch_firm rfl rfl (by repeat (first | with_reducible exact Within.refl _ | with_reducible assumption | with_reducible refine Within.alloc ?_ _ | with_reducible refine Within.drew ?_ | with_reducible refine Within.drewN ?_ _ | with_reducible refine Within.setCell ?_ (by first | (simp; done) | (simp; omega)) _ | with_reducible refine Within.trans ?_ (by assumption)))
    · intro wq hq
      have hcq := hq.cells
      clear hq
      go_simp
      first | rfl | (trace_state; fail)
    try simp only [Act.put, List.setIfInBounds_toArray, List.set_cons_zero, List.set_cons_succ]
  refine sch_two rfl rfl rfl rfl (fun K hK => ?_) (fun K hK => ?_)
  · go_simp
    refine (Bsign g v _ (by repeat (first | with_reducible assumption | with_reducible exact ib_new _ _ (by simp; done) | with_reducible refine IntB.alloc ?_ _ | with_reducible refine IntB.drew ?_ | with_reducible refine IntB.drewN ?_ _))).mono ?_; rintro e4 w4 ⟨rfl, rfl⟩
    refine hK _ _ (by repeat (first | with_reducible exact Within.refl _ | with_reducible assumption | with_reducible refine Within.alloc ?_ _ | with_reducible refine Within.drew ?_ | with_reducible refine Within.drewN ?_ _ | with_reducible refine Within.setCell ?_ (by first | (simp; done) | (simp; omega)) _ | with_reducible refine Within.trans ?_ (by assumption))) ?_
    clear hK K
    try simp only [Act.put, List.setIfInBounds_toArray, List.set_cons_zero, List.set_cons_succ]
    repeat
      apply sch_firm rfl rfl (by repeat (first | with_reducible exact Within.refl _ | with_reducible assumption | with_reducible refine Within.alloc ?_ _ | with_reducible refine Within.drew ?_ | with_reducible refine Within.drewN ?_ _ | with_reducible refine Within.setCell ?_ (by first | (simp; done) | (simp; omega)) _ | with_reducible refine Within.trans ?_ (by assumption)))
      · intro wq hq
        have hcq := hq.cells
        clear hq
        go_simp
        first | rfl | (trace_state; fail)
      try simp only [Act.put, List.setIfInBounds_toArray, List.set_cons_zero, List.set_cons_succ]
    refine sch_one rfl rfl (fun K hK => ?_)
    go_simp
    refine hK _ _ (fun _ => (by repeat (first | with_reducible exact Within.refl _ | with_reducible assumption | with_reducible refine Within.alloc ?_ _ | with_reducible refine Within.drew ?_ | with_reducible refine Within.drewN ?_ _ | with_reducible refine Within.setCell ?_ (by first | (simp; done) | (simp; omega)) _ | with_reducible refine Within.trans ?_ (by assumption)))) ?_
    clear hK K
    try simp only [Act.put, List.setIfInBounds_toArray, List.set_cons_zero, List.set_cons_succ]
    refine sch_one rfl rfl (fun K hK => ?_)
    go_simp
    refine (Babs _ g v hl _ (by repeat (first | with_reducible assumption | with_reducible exact ty_new _ _ _ _ (by simp; done) | with_reducible refine ty_drew ?_ | with_reducible refine ty_alloc ?_ _)) (by repeat (first | with_reducible assumption | with_reducible exact ib_new _ _ (by simp; done) | with_reducible refine IntB.alloc ?_ _ | with_reducible refine IntB.drew ?_ | with_reducible refine IntB.drewN ?_ _))).mono ?_; rintro e5 w5 ⟨rfl, hI5, hG5⟩
    have hv5 : Within w0 w5 := Within.grown (by repeat (first | with_reducible exact Within.refl _ | with_reducible assumption | with_reducible refine Within.alloc ?_ _ | with_reducible refine Within.drew ?_ | with_reducible refine Within.drewN ?_ _ | with_reducible refine Within.setCell ?_ (by first | (simp; done) | (simp; omega)) _ | with_reducible refine Within.trans ?_ (by assumption))) hG5 (by simp)
    rw [HM.out] at hI5
    refine hK _ _ (fun _ => (by repeat (first | with_reducible exact Within.refl _ | with_reducible assumption | with_reducible refine Within.alloc ?_ _ | with_reducible refine Within.drew ?_ | with_reducible refine Within.drewN ?_ _ | with_reducible refine Within.setCell ?_ (by first | (simp; done) | (simp; omega)) _ | with_reducible refine Within.trans ?_ (by assumption)))) ?_
    clear hK K
    try simp only [Act.put, List.setIfInBounds_toArray, List.set_cons_zero, List.set_cons_succ]
    refine sch_one rfl rfl (fun K hK => ?_)
    go_simp
    refine (RR.out _ _ hI5).mono ?_; rintro e6 w6 ⟨rfl, hb6⟩
    have hv6 := hv5.trans hb6
    refine hK _ _ (fun _ => (by repeat (first | with_reducible exact Within.refl _ | with_reducible assumption | with_reducible refine Within.alloc ?_ _ | with_reducible refine Within.drew ?_ | with_reducible refine Within.drewN ?_ _ | with_reducible refine Within.setCell ?_ (by first | (simp; done) | (simp; omega)) _ | with_reducible refine Within.trans ?_ (by assumption)))) ?_
    clear hK K
    try simp only [Act.put, List.setIfInBounds_toArray, List.set_cons_zero, List.set_cons_succ]
    repeat
      apply sch_firm rfl rfl (by repeat (first | with_reducible exact Within.refl _ | with_reducible assumption | with_reducible refine Within.alloc ?_ _ | with_reducible refine Within.drew ?_ | with_reducible refine Within.drewN ?_ _ | with_reducible refine Within.setCell ?_ (by first | (simp; done) | (simp; omega)) _ | with_reducible refine Within.trans ?_ (by assumption)))
      · intro wq hq
        have hcq := hq.cells
        clear hq
        go_simp
        first | rfl | (trace_state; fail)
      try simp only [Act.put, List.setIfInBounds_toArray, List.set_cons_zero, List.set_cons_succ]
    refine sch_one rfl rfl (fun K hK => ?_)
    go_simp
    refine hK _ _ (fun _ => (by repeat (first | with_reducible exact Within.refl _ | with_reducible assumption | with_reducible refine Within.alloc ?_ _ | with_reducible refine Within.drew ?_ | with_reducible refine Within.drewN ?_ _ | with_reducible refine Within.setCell ?_ (by first | (simp; done) | (simp; omega)) _ | with_reducible refine Within.trans ?_ (by assumption)))) ?_
    clear hK K
    try simp only [Act.put, List.setIfInBounds_toArray, List.set_cons_zero, List.set_cons_succ]
    refine sch_one rfl rfl (fun K hK => ?_)
    go_simp
    refine hK _ _ (fun h => absurd h (by decide)) ?_
    clear hK K
    try simp only [Act.put, List.setIfInBounds_toArray, List.set_cons_zero, List.set_cons_succ]
    refine sch_nil ?_
    go_wp2
    go_ret3
    exact ⟨rfl, ((Within.refl w).alloc _).trans (hw0.trans hv6)⟩
  · go_simp
    refine hK _ _ (by repeat (first | with_reducible exact Within.refl _ | with_reducible assumption | with_reducible refine Within.alloc ?_ _ | with_reducible refine Within.drew ?_ | with_reducible refine Within.drewN ?_ _ | with_reducible refine Within.setCell ?_ (by first | (simp; done) | (simp; omega)) _ | with_reducible refine Within.trans ?_ (by assumption))) ?_
    clear hK K
    try simp only [Act.put, List.setIfInBounds_toArray, List.set_cons_zero, List.set_cons_succ]
    refine sch_one rfl rfl (fun K hK => ?_)
    go_simp
    refine (Bsign g v _ (by repeat (first | with_reducible assumption | with_reducible exact ib_new _ _ (by simp; done) | with_reducible refine IntB.alloc ?_ _ | with_reducible refine IntB.drew ?_ | with_reducible refine IntB.drewN ?_ _))).mono ?_; rintro e4 w4 ⟨rfl, rfl⟩
    refine hK _ _ (fun _ => (by repeat (first | with_reducible exact Within.refl _ | with_reducible assumption | with_reducible refine Within.alloc ?_ _ | with_reducible refine Within.drew ?_ | with_reducible refine Within.drewN ?_ _ | with_reducible refine Within.setCell ?_ (by first | (simp; done) | (simp; omega)) _ | with_reducible refine Within.trans ?_ (by assumption)))) ?_
    clear hK K
    try simp only [Act.put, List.setIfInBounds_toArray, List.set_cons_zero, List.set_cons_succ]
    repeat
      apply sch_firm rfl rfl (by repeat (first | with_reducible exact Within.refl _ | with_reducible assumption | with_reducible refine Within.alloc ?_ _ | with_reducible refine Within.drew ?_ | with_reducible refine Within.drewN ?_ _ | with_reducible refine Within.setCell ?_ (by first | (simp; done) | (simp; omega)) _ | with_reducible refine Within.trans ?_ (by assumption)))
      · intro wq hq
        have hcq := hq.cells
        clear hq
        go_simp
        first | rfl | (trace_state; fail)
      try simp only [Act.put, List.setIfInBounds_toArray, List.set_cons_zero, List.set_cons_succ]
    refine sch_one rfl rfl (fun K hK => ?_)
    go_simp
    refine (Babs _ g v hl _ (by repeat (first | with_reducible assumption | with_reducible exact ty_new _ _ _ _ (by simp; done) | with_reducible refine ty_drew ?_ | with_reducible refine ty_alloc ?_ _)) (by repeat (first | with_reducible assumption | with_reducible exact ib_new _ _ (by simp; done) | with_reducible refine IntB.alloc ?_ _ | with_reducible refine IntB.drew ?_ | with_reducible refine IntB.drewN ?_ _))).mono ?_; rintro e5 w5 ⟨rfl, hI5, hG5⟩
    have hv5 : Within w0 w5 := Within.grown (by repeat (first | with_reducible exact Within.refl _ | with_reducible assumption | with_reducible refine Within.alloc ?_ _ | with_reducible refine Within.drew ?_ | with_reducible refine Within.drewN ?_ _ | with_reducible refine Within.setCell ?_ (by first | (simp; done) | (simp; omega)) _ | with_reducible refine Within.trans ?_ (by assumption))) hG5 (by simp)
    rw [HM.out] at hI5
    refine hK _ _ (fun _ => (by repeat (first | with_reducible exact Within.refl _ | with_reducible assumption | with_reducible refine Within.alloc ?_ _ | with_reducible refine Within.drew ?_ | with_reducible refine Within.drewN ?_ _ | with_reducible refine Within.setCell ?_ (by first | (simp; done) | (simp; omega)) _ | with_reducible refine Within.trans ?_ (by assumption)))) ?_
    clear hK K
    try simp only [Act.put, List.setIfInBounds_toArray, List.set_cons_zero, List.set_cons_succ]
    refine sch_one rfl rfl (fun K hK => ?_)
    go_simp
    refine (RR.out _ _ hI5).mono ?_; rintro e6 w6 ⟨rfl, hb6⟩
    have hv6 := hv5.trans hb6
    refine hK _ _ (fun _ => (by repeat (first | with_reducible exact Within.refl _ | with_reducible assumption | with_reducible refine Within.alloc ?_ _ | with_reducible refine Within.drew ?_ | with_reducible refine Within.drewN ?_ _ | with_reducible refine Within.setCell ?_ (by first | (simp; done) | (simp; omega)) _ | with_reducible refine Within.trans ?_ (by assumption)))) ?_
    clear hK K
    try simp only [Act.put, List.setIfInBounds_toArray, List.set_cons_zero, List.set_cons_succ]
    repeat
      apply sch_firm rfl rfl (by repeat (first | with_reducible exact Within.refl _ | with_reducible assumption | with_reducible refine Within.alloc ?_ _ | with_reducible refine Within.drew ?_ | with_reducible refine Within.drewN ?_ _ | with_reducible refine Within.setCell ?_ (by first | (simp; done) | (simp; omega)) _ | with_reducible refine Within.trans ?_ (by assumption)))
      · intro wq hq
        have hcq := hq.cells
        clear hq
        go_simp
        first | rfl | (trace_state; fail)
      try simp only [Act.put, List.setIfInBounds_toArray, List.set_cons_zero, List.set_cons_succ]
    refine sch_one rfl rfl (fun K hK => ?_)
    go_simp
    refine hK _ _ (fun _ => (by repeat (first | with_reducible exact Within.refl _ | with_reducible assumption | with_reducible refine Within.alloc ?_ _ | with_reducible refine Within.drew ?_ | with_reducible refine Within.drewN ?_ _ | with_reducible refine Within.setCell ?_ (by first | (simp; done) | (simp; omega)) _ | with_reducible refine Within.trans ?_ (by assumption)))) ?_
    clear hK K
    try simp only [Act.put, List.setIfInBounds_toArray, List.set_cons_zero, List.set_cons_succ]
    refine sch_one rfl rfl (fun K hK => ?_)
    go_simp
    refine hK _ _ (fun h => absurd h (by decide)) ?_
    clear hK K
    try simp only [Act.put, List.setIfInBounds_toArray, List.set_cons_zero, List.set_cons_succ]
    refine sch_nil ?_
    go_wp2
    go_ret3
    exact ⟨rfl, ((Within.refl w).alloc _).trans (hw0.trans hv6)⟩

theorem RfromS (g : Nat) (v mode : Int) (hl : (dg v.natAbs).length ≤ 900) (w : World) (hI : IntB w g v) : Calls Tryd.prog 82 #[fmS, .pointer (some ⟨g, 0, none⟩), .int .i64 mode] w (fun e w' => e = .returned (.tuple #[.int .u64 ((if 0 ≤ mode ∧ mode ≤ 4 then (if v = 0 then 0 else gWord 24 (-149) 127 2139095039 2139095040 8388608 2147483648 (decide (v < 0)) v.natAbs 0 false mode) else 0 : Nat) : Int), .int .i64 (if 0 ≤ mode ∧ mode ≤ 4 then (if v = 0 then 0 else gFlags 24 (-149) 127 (decide (v < 0)) v.natAbs 0 false mode) else 0), .int .i64 (if 0 ≤ mode ∧ mode ≤ 4 then 0 else 20)]) ∧ Within w w') := by
  have KN := Lib.hid (fun w => Rknown mode w)
  by_cases h : 0 ≤ mode ∧ mode ≤ 4
  · rw [decide_eq_true h] at KN
    rw [if_pos h, if_pos h, if_pos h]
    by_cases h0 : v = 0
    · subst h0
      rw [if_pos rfl, if_pos rfl]
      exact RfromS_zero g mode KN w hI
    · rw [if_neg h0, if_neg h0]
      exact RfromS_main g v.natAbs _ v mode _ _ h0 rfl rfl (Nat.le_trans hl (by decide)) KN w hI (Lib.hid fun w g hI => RroundS _ false g v.natAbs 0 mode (by decide) hl (by omega) w hI)
  · rw [decide_eq_false h] at KN
    rw [if_neg h, if_neg h, if_neg h]
    exact RfromS_bad g mode KN w

set_option maxRecDepth 100000 in
set_option maxHeartbeats 600000 in
theorem RFromInt (v mode F E : Int) (W : Nat) (h1 : -9223372036854775808 ≤ v) (h2 : v ≤ 9223372036854775807) (FR : Hid (∀ w g, IntB w g v → Calls Tryd.prog 82 #[fmD, .pointer (some ⟨g, 0, none⟩), .int .i64 mode] w (fun e w' => e = .returned (.tuple #[.int .u64 (W : Int), .int .i64 F, .int .i64 E]) ∧ Within w w'))) (w : World) : Calls Tryd.prog 39 #[.int .i64 v, .int .i64 mode] w (fun e w' => e = .returned (.tuple #[.int .u64 (W : Int), .int .i64 F, .int .i64 E]) ∧ Within w w') := by
  have NI := Lib.hid (fun w' => BnewInt v h1 h2 w')
  clear h1 h2
  go_enter Tryd.func39, Tryd.ntmps39
  go_wp2_with fail
  refine (RDouble _).mono ?_; rintro e1 w1 ⟨rfl, hb1⟩
  go_wp2_with fail
  refine (NI.out _).mono ?_; rintro e2 w2 ⟨g, rfl, hI2, hg2, hb2⟩
  go_wp2_with fail
  refine (FR.out _ _ hI2).mono ?_; rintro e3 w3 ⟨rfl, hb3⟩
  go_wp2
  go_ret3
  exact ⟨rfl, hb1.trans (hb2.trans hb3)⟩

set_option maxRecDepth 100000 in
set_option maxHeartbeats 600000 in
theorem RNarrowInt (v mode F E : Int) (W : Nat) (h1 : -9223372036854775808 ≤ v) (h2 : v ≤ 9223372036854775807) (FR : Hid (∀ w g, IntB w g v → Calls Tryd.prog 82 #[fmS, .pointer (some ⟨g, 0, none⟩), .int .i64 mode] w (fun e w' => e = .returned (.tuple #[.int .u64 (W : Int), .int .i64 F, .int .i64 E]) ∧ Within w w'))) (w : World) : Calls Tryd.prog 43 #[.int .i64 v, .int .i64 mode] w (fun e w' => e = .returned (.tuple #[.int .u32 ((W : Int) % 4294967296), .int .i64 F, .int .i64 E]) ∧ Within w w') := by
  have NI := Lib.hid (fun w' => BnewInt v h1 h2 w')
  clear h1 h2
  go_enter Tryd.func43, Tryd.ntmps43
  go_wp2_with fail
  refine (RSingle _).mono ?_; rintro e1 w1 ⟨rfl, hb1⟩
  go_wp2_with fail
  refine (NI.out _).mono ?_; rintro e2 w2 ⟨g, rfl, hI2, hg2, hb2⟩
  go_wp2_with fail
  refine (FR.out _ _ hI2).mono ?_; rintro e3 w3 ⟨rfl, hb3⟩
  go_wp2
  go_ret3
  exact ⟨rfl, hb1.trans (hb2.trans hb3)⟩

set_option maxRecDepth 100000 in
set_option maxHeartbeats 600000 in
theorem RFromUint (u W : Nat) (v mode F E : Int) (hu : u < 18446744073709551616) (hv : v = (u : Int)) (FR : Hid (∀ w g, IntB w g v → Calls Tryd.prog 82 #[fmD, .pointer (some ⟨g, 0, none⟩), .int .i64 mode] w (fun e w' => e = .returned (.tuple #[.int .u64 (W : Int), .int .i64 F, .int .i64 E]) ∧ Within w w'))) (w : World) : Calls Tryd.prog 41 #[.int .u64 (u : Int), .int .i64 mode] w (fun e w' => e = .returned (.tuple #[.int .u64 (W : Int), .int .i64 F, .int .i64 E]) ∧ Within w w') := by
  subst hv
  have NI := Lib.hid (fun (w' : World) (z : Nat) (hz : IntTy w' z) => BsetUint64 z u hu w' hz)
  clear hu
  go_enter Tryd.func41, Tryd.ntmps41
  go_wp2_with fail
  refine (RDouble _).mono ?_; rintro e1 w1 ⟨rfl, hb1⟩
  go_wp2_with fail
  refine (NI.out _ _ (by repeat (first | with_reducible assumption | with_reducible exact ty_new _ _ _ _ (by simp; done) | with_reducible refine ty_drew ?_ | with_reducible refine ty_alloc ?_ _))).mono ?_; rintro e2 w2 ⟨rfl, hI2, hG2⟩
  have hb2 : Within w1 w2 := Within.grown (by repeat (first | with_reducible exact Within.refl _ | with_reducible assumption | with_reducible refine Within.alloc ?_ _ | with_reducible refine Within.drew ?_ | with_reducible refine Within.drewN ?_ _ | with_reducible refine Within.setCell ?_ (by first | (simp; done) | (simp; omega)) _ | with_reducible refine Within.trans ?_ (by assumption))) hG2 (by simp)
  go_wp2_with fail
  refine (FR.out _ _ hI2).mono ?_; rintro e3 w3 ⟨rfl, hb3⟩
  go_wp2
  go_ret3
  exact ⟨rfl, hb1.trans (hb2.trans hb3)⟩

end Go.Proofs.YtifgngmebnjfkaaDoor
