/- What the law's walk rests on, part 4: contracts of functions and plain facts. -/
import Derived.Test.YtifgngmebnjfkaaGreatDoorRows
import Ieee.Arith
import Derived.WalkKit
import Derived.WalkSpells
import Derived.WalkLawsBesides
import Derived.BigQuiet
import Derived.Lib.Hide
import Derived.Lib.TrailingZeros
import Derived.Lib.BitFns
import Derived.Lib.Strings
import Derived.Lib.Slices
import Derived.Lib.Small
import Derived.Lib.Walk
import Derived.Deep.OwnRows
import Derived.OwnWalk
import Derived.LoopTactic
import Derived.Outline
import Derived.IntWalk
import Derived.OrdersHeld
import Derived.StillTail
import Derived.Deep.RegionHeld3
import Derived.Maps.AppendAt
import Derived.Deep.DeepCutAuto
import Derived.Deep.QuietTactic
import Derived.ProofKit
import Derived.OpenShut
import Derived.ShutString
import Derived.ChangeOld
import Derived.Below
import Derived.Deep.DeepHandedRow
import Derived.Deep.Strs
import Derived.Lib.LaidTab
import Derived.Test.YtifgngmebnjfkaaGreatDoorZWh3
set_option linter.unusedVariables false
set_option linter.unusedSimpArgs false
section
namespace Go.Proofs.YtifgngmebnjfkaaGreatDoor
open Go.RowKit
def CmpRel (W : World) (la lb : List Nat) (iv : Value) (wr : World) : Prop :=
  ∃ k : Nat, k ≤ la.length ∧ iv = .int .i64 ((k : Int) - 1) ∧ (∀ j, k ≤ j → la.getD j 0 = lb.getD j 0) ∧ Within W wr
set_option maxRecDepth 100000 in
set_option maxHeartbeats 600000 in
theorem Bcompare_ne (n m : Nat) (A Bv : Option Addr) (ca cb : Nat) (h : n ≠ m) (hn : n ≤ 1500000) (hm : m ≤ 1500000) (w : World) :
    Calls Tryz.prog 131 #[.slice A n ca, .slice Bv m cb] w fun e w' => e = .returned (.int .i64 (if n < m then -1 else 1)) ∧ Within w w' := by
  have d0 : ((n : Int) != m) = true := bne_iff_ne.2 (by omega)
  rcases Nat.lt_or_ge n m with hlt | hlt
  · rw [if_pos hlt]
    clear h
    go_enter Tryz.func131, Tryz.ntmps131
    go_wp2
    go_ret
    exact ⟨rfl, Within.refl _⟩
  · rw [if_neg (by omega)]
    clear h
    go_enter Tryz.func131, Tryz.ntmps131
    go_wp2
    go_ret
    exact ⟨rfl, Within.refl _⟩
set_option maxRecDepth 100000 in
set_option maxHeartbeats 600000 in
theorem Bcompare_eq (a b : Nat) (A Bv : Option Addr) (ca cb : Nat) (h : (dg b).length = (dg a).length) (ha : (dg a).length ≤ 1500000) (w : World) (hra : RowAt w A (dg a)) (hrb : RowAt w Bv (dg b)) :
    Calls Tryz.prog 131 #[.slice A (dg a).length ca, .slice Bv (dg a).length cb] w fun e w' => e = .returned (.int .i64 (cmpN a b)) ∧ Within w w' := by
  have d0 : (((dg a).length : Int) != (dg a).length) = false := bne_self_eq_false _
  have HRA := Lib.hid hra; have HRB := Lib.hid hrb; clear hra hrb
  have HL := Lib.hid h; clear h
  go_enter Tryz.func131, Tryz.ntmps131
  go_wp2
  go_loopw [5] (fun iv wr => CmpRel w (dg a) (dg b) iv wr) (fun iv _ => (intOf iv + 1).toNat)
  case atStart => exact ⟨(dg a).length, Nat.le_refl _, by simp, fun j hj => by simp [List.getD_eq_getElem?_getD, hj, HL.out], Within.refl _⟩
  case round =>
    obtain ⟨k, hk, rfl, he, hin⟩ := hrel
    have HE := Lib.hid he; clear he
    rcases k with _ | k
    · rw [show ((0 : Nat) : Int) - 1 = -1 from rfl]
      go_wp2
      go_ret
      refine ⟨ret_int ?_, hin⟩
      rw [eq_of_all (a := a) (b := b) HL.out.symm (fun j => HE.out j (Nat.zero_le _)), cmpN_eq]
    · obtain ⟨ga, rfl, hga, hca⟩ := (HRA.out.of hin).cell (i := k) (by omega)
      obtain ⟨gb, rfl, hgb, hcb⟩ := (HRB.out.of hin).cell (i := k) (by rw [HL.out]; omega)
      obtain ⟨x, hxe⟩ : ∃ x, x = (dg a).getD k 0 := ⟨_, rfl⟩
      obtain ⟨y, hye⟩ : ∃ y, y = (dg b).getD k 0 := ⟨_, rfl⟩
      rw [← hxe] at hca; rw [← hye] at hcb
      have HXE := Lib.hid hxe; have HYE := Lib.hid hye; clear hxe hye
      have e1 : ((k + 1 : Nat) : Int) - 1 = (k : Int) := by omega
      rw [e1]
      rcases Nat.lt_trichotomy x y with hxy | hxy | hxy
      · have hxx : decide ((x : Int) < y) = true := decide_eq_true (by omega)
        go_wp2
        go_quiet (fail)
        go_wp2
        go_ret
        refine ⟨ret_int ?_, hin.drewN _⟩
        rw [cmpN_lt (lt_of_top (i := k) HL.out.symm (fun j hj => HE.out j hj) (by rw [← HXE.out, ← HYE.out]; exact hxy))]
      · subst hxy
        have hxx : decide ((x : Int) < x) = false := decide_eq_false (by omega)
        have hxx2 : decide ((x : Int) > x) = false := decide_eq_false (by omega)
        go_wp2
        go_quiet (fail)
        go_wp2
        go_quiet (fail)
        go_wp2
        go_roundw
        case rel => exact ⟨k, by omega, rfl, fun j hj => by
          rcases Nat.eq_or_lt_of_le hj with h | h
          · subst h; rw [← HXE.out, ← HYE.out]
          · exact HE.out j h, hin.drewN _⟩
        case measure => simp [intOf]
      · have hxx : decide ((x : Int) < y) = false := decide_eq_false (by omega)
        have hxx2 : decide ((x : Int) > y) = true := decide_eq_true (by omega)
        go_wp2
        go_quiet (fail)
        go_wp2
        go_quiet (fail)
        go_wp2
        go_ret
        refine ⟨ret_int ?_, (hin.drewN _).drewN _⟩
        rw [cmpN_gt (lt_of_top (i := k) HL.out (fun j hj => (HE.out j hj).symm) (by rw [← HXE.out, ← HYE.out]; exact hxy))]
theorem Bcompare (a b : Nat) (A Bv : Option Addr) (ca cb : Nat) (ha : (dg a).length ≤ 1500000) (hb : (dg b).length ≤ 1500000) (w : World) (hra : RowAt w A (dg a)) (hrb : RowAt w Bv (dg b)) :
    Calls Tryz.prog 131 #[.slice A (dg a).length ca, .slice Bv (dg b).length cb] w fun e w' => e = .returned (.int .i64 (cmpN a b)) ∧ Within w w' := by
  by_cases h : (dg b).length = (dg a).length
  · rw [h]; exact Bcompare_eq a b A Bv ca cb h ha w hra hrb
  · refine (Bcompare_ne _ _ A Bv ca cb (fun e => h e.symm) ha hb w).mono ?_
    rintro e w' ⟨rfl, hb'⟩
    refine ⟨?_, hb'⟩
    rcases Nat.lt_or_ge (dg a).length (dg b).length with hlt | hlt
    · rw [if_pos hlt, cmpN_lt (lt_of_len hlt)]
    · rw [if_neg (by omega), cmpN_gt (lt_of_len (by omega))]
end Go.Proofs.YtifgngmebnjfkaaGreatDoor
end

section
namespace Go.Proofs.YtifgngmebnjfkaaGreatDoor
open Go.RowKit
theorem dg_add_len {a b n : Nat} (ha : (dg a).length ≤ n) (hb : (dg b).length ≤ n) : (dg (a + b)).length ≤ n + 1 := by
  refine dg_len_le ?_
  have h1 := lt_of_dg a
  have h2 := lt_of_dg b
  have h3 : 4294967296 ^ (dg a).length ≤ 4294967296 ^ n := Nat.pow_le_pow_right (by decide) ha
  have h4 : 4294967296 ^ (dg b).length ≤ 4294967296 ^ n := Nat.pow_le_pow_right (by decide) hb
  rw [Nat.pow_succ]
  generalize 4294967296 ^ n = Z at *
  omega
theorem dg_add_le {a b : Nat} (ha : (dg a).length ≤ 1000000) (hb : (dg b).length ≤ 1000000) : (dg (a + b)).length ≤ 1500000 := Nat.le_trans (dg_add_len ha hb) (by decide)
set_option maxRecDepth 100000 in
set_option maxHeartbeats 600000 in
theorem Bsum_same000 (z x y : Nat) (na nb : Nat) (A Bv : Option Addr) (ca cb : Nat) (ha : (dg na).length ≤ 1000000) (hb : (dg nb).length ≤ 1000000) (w : World) (hz : IntTy w z) (a0 : w.cell? ⟨x, 0, none⟩ = some (.bool false)) (a1 : w.cell? ⟨x, 1, none⟩ = some (.slice A (dg na).length ca)) (hra : RowAt w A (dg na)) (b0 : w.cell? ⟨y, 0, none⟩ = some (.bool false)) (b1 : w.cell? ⟨y, 1, none⟩ = some (.slice Bv (dg nb).length cb)) (hrb : RowAt w Bv (dg nb)) : Calls Tryz.prog 105 #[.pointer (some ⟨z, 0, none⟩), .pointer (some ⟨x, 0, none⟩), .pointer (some ⟨y, 0, none⟩), .bool false] w (PutI w z (sgv false (na + nb))) := by
  have HZ := Lib.hid hz; have HRA := Lib.hid hra; have HRB := Lib.hid hrb; clear hz hra hrb
  have hlx := World.block_lt_of_cell? w _ a0
  have hly := World.block_lt_of_cell? w _ b0
  go_enter Tryz.func105, Tryz.ntmps105
  go_wp2
  refine wp_region_sched (fun W => W.cell? ⟨x, 1, none⟩ = some (.slice A (dg na).length ca) ∧ W.cell? ⟨y, 1, none⟩ = some (.slice Bv (dg nb).length cb)) 11 [(0, true), (1, true), (2, true), (3, true), (4, true), (5, true), (6, true), (7, true), (8, true), (9, true), (10, false), (11, false), (12, false)] (by kernel_rfl) (by kernel_rfl) ⟨a1, b1⟩ ?_
  intro hS
  repeat
    apply sched_firm rfl rfl hS
    · intro wq hq
      have hq0 := hq.1; have hq1 := hq.2
      clear hq
      go_simp
      first | rfl | (trace_state; fail)
    try simp only [Act.put, List.setIfInBounds_toArray, List.set_cons_zero, List.set_cons_succ]
  refine sched_one rfl rfl (fun K hK => ?_)
  go_simp
  refine (Bplus na nb A Bv ca cb (by omega) (by omega) w.drew (RowAt.drew HRA.out) (RowAt.drew HRB.out)).mono ?_
  rintro e2 w2 ⟨A', c', rfl, hc', hr', hb'⟩
  have hb2 : Within w w2 := (Within.refl w).drew.trans hb'
  have hlA : (dg (na + nb)).length ≤ 1500000 := by first | exact Nat.le_trans (dg_len_mono (Nat.sub_le _ _)) (by omega) | exact dg_add_le ha hb
  refine hK _ _ (fun h => ⟨(hb2.cells _ _ hlx).trans a1, (hb2.cells _ _ hly).trans b1⟩) ?_
  clear hK K
  try simp only [Act.put, List.setIfInBounds_toArray, List.set_cons_zero, List.set_cons_succ]
  refine sched_one rfl rfl (fun K hK => ?_)
  go_simp
  refine (Bput z false (dg (na + nb)) A' c' (words_dg _) hc' (by omega) w2 hr' (HZ.out.of hb2)).mono ?_
  rintro e3 w3 ⟨rfl, hI, hG⟩
  refine hK _ _ (fun h => absurd h (by decide)) ?_
  clear hK K
  try simp only [Act.put, List.setIfInBounds_toArray, List.set_cons_zero, List.set_cons_succ]
  refine sched_one rfl rfl (fun K hK => ?_)
  go_simp
  refine hK _ _ (fun h => absurd h (by decide)) ?_
  clear hK K
  try simp only [Act.put, List.setIfInBounds_toArray, List.set_cons_zero, List.set_cons_succ]
  refine sched_nil ?_
  go_wp2
  go_ret
  rw [wval_dg] at hI
  exact ⟨rfl, hI, grown_trans (grown_within z hb2) hG⟩
set_option maxRecDepth 100000 in
set_option maxHeartbeats 600000 in
theorem Bsum_ge001 (z x y : Nat) (na nb : Nat) (A Bv : Option Addr) (ca cb : Nat) (ha : (dg na).length ≤ 1000000) (hb : (dg nb).length ≤ 1000000) (w : World) (hz : IntTy w z) (a0 : w.cell? ⟨x, 0, none⟩ = some (.bool false)) (a1 : w.cell? ⟨x, 1, none⟩ = some (.slice A (dg na).length ca)) (hra : RowAt w A (dg na)) (b0 : w.cell? ⟨y, 0, none⟩ = some (.bool false)) (b1 : w.cell? ⟨y, 1, none⟩ = some (.slice Bv (dg nb).length cb)) (hrb : RowAt w Bv (dg nb)) (hge : nb ≤ na) : Calls Tryz.prog 105 #[.pointer (some ⟨z, 0, none⟩), .pointer (some ⟨x, 0, none⟩), .pointer (some ⟨y, 0, none⟩), .bool true] w (PutI w z (sgv false (na - nb))) := by
  have HZ := Lib.hid hz; have HRA := Lib.hid hra; have HRB := Lib.hid hrb; clear hz hra hrb
  have hlx := World.block_lt_of_cell? w _ a0
  have hly := World.block_lt_of_cell? w _ b0
  have hc : decide (cmpN na nb ≥ 0) = true := by unfold cmpN; rw [if_neg (by omega)]; split <;> rfl
  obtain ⟨cm, hcm⟩ : ∃ cm, cm = cmpN na nb := ⟨_, rfl⟩
  rw [← hcm] at hc
  have HC := Lib.hid hcm; clear hcm
  go_enter Tryz.func105, Tryz.ntmps105
  go_wp2
  refine wp_region_sched (fun W => W.cell? ⟨x, 1, none⟩ = some (.slice A (dg na).length ca) ∧ W.cell? ⟨y, 1, none⟩ = some (.slice Bv (dg nb).length cb)) 8 [(0, true), (1, true), (2, true), (3, true), (4, true), (5, true), (6, true), (7, true), (8, false), (9, false)] (by kernel_rfl) (by kernel_rfl) ⟨a1, b1⟩ ?_
  intro hS
  repeat
    apply sched_firm rfl rfl hS
    · intro wq hq
      have hq0 := hq.1; have hq1 := hq.2
      clear hq
      go_simp
      first | rfl | (trace_state; fail)
    try simp only [Act.put, List.setIfInBounds_toArray, List.set_cons_zero, List.set_cons_succ]
  refine sched_one rfl rfl (fun K hK => ?_)
  go_simp
  refine (Bcompare na nb A Bv ca cb (by omega) (by omega) w.drew (RowAt.drew HRA.out) (RowAt.drew HRB.out)).mono ?_
  rintro e1 w1 ⟨rfl, hb1'⟩
  rw [← HC.out]
  have hb1 : Within w w1 := (Within.refl w).drew.trans hb1'
  refine hK _ _ (fun h => absurd h (by decide)) ?_
  clear hK K
  try simp only [Act.put, List.setIfInBounds_toArray, List.set_cons_zero, List.set_cons_succ]
  refine sched_one rfl rfl (fun K hK => ?_)
  go_simp
  refine hK _ _ (fun h => absurd h (by decide)) ?_
  clear hK K
  try simp only [Act.put, List.setIfInBounds_toArray, List.set_cons_zero, List.set_cons_succ]
  refine sched_nil ?_
  have a0' := (hb1.cells _ 0 hlx).trans a0; have a1' := (hb1.cells _ 1 hlx).trans a1; have b0' := (hb1.cells _ 0 hly).trans b0; have b1' := (hb1.cells _ 1 hly).trans b1
  clear hS
  go_wp2
  refine wp_region_sched (fun W => W.cell? ⟨x, 0, none⟩ = some (.bool false) ∧ W.cell? ⟨x, 1, none⟩ = some (.slice A (dg na).length ca) ∧ W.cell? ⟨y, 1, none⟩ = some (.slice Bv (dg nb).length cb)) 14 [(0, true), (1, true), (2, true), (3, true), (4, true), (5, true), (6, true), (7, true), (8, true), (9, true), (10, true), (11, true), (12, true), (13, false), (14, false), (15, false)] (by kernel_rfl) (by kernel_rfl) ⟨a0', a1', b1'⟩ ?_
  intro hS
  repeat
    apply sched_firm rfl rfl hS
    · intro wq hq
      have hq0 := hq.1; have hq1 := hq.2.1; have hq2 := hq.2.2
      clear hq
      go_simp
      first | rfl | (trace_state; fail)
    try simp only [Act.put, List.setIfInBounds_toArray, List.set_cons_zero, List.set_cons_succ]
  refine sched_one rfl rfl (fun K hK => ?_)
  go_simp
  refine (Bminus na nb A Bv ca cb (by omega) hge w1.drew (RowAt.drew (HRA.out.of hb1)) (RowAt.drew (HRB.out.of hb1))).mono ?_
  rintro e2 w2 ⟨A', c', rfl, hc', hr', hb'⟩
  have hb2 : Within w w2 := hb1.drew.trans hb'
  have hlA : (dg (na - nb)).length ≤ 1500000 := by first | exact Nat.le_trans (dg_len_mono (Nat.sub_le _ _)) (by omega) | exact dg_add_le ha hb
  refine hK _ _ (fun h => ⟨(hb2.cells _ _ hlx).trans a0, (hb2.cells _ _ hlx).trans a1, (hb2.cells _ _ hly).trans b1⟩) ?_
  clear hK K
  try simp only [Act.put, List.setIfInBounds_toArray, List.set_cons_zero, List.set_cons_succ]
  refine sched_one rfl rfl (fun K hK => ?_)
  go_simp
  refine (Bput z false (dg (na - nb)) A' c' (words_dg _) hc' (by omega) w2 hr' (HZ.out.of hb2)).mono ?_
  rintro e3 w3 ⟨rfl, hI, hG⟩
  refine hK _ _ (fun h => absurd h (by decide)) ?_
  clear hK K
  try simp only [Act.put, List.setIfInBounds_toArray, List.set_cons_zero, List.set_cons_succ]
  refine sched_one rfl rfl (fun K hK => ?_)
  go_simp
  refine hK _ _ (fun h => absurd h (by decide)) ?_
  clear hK K
  try simp only [Act.put, List.setIfInBounds_toArray, List.set_cons_zero, List.set_cons_succ]
  refine sched_nil ?_
  go_wp2
  go_ret
  rw [wval_dg] at hI
  exact ⟨rfl, hI, grown_trans (grown_within z hb2) hG⟩
set_option maxRecDepth 100000 in
set_option maxHeartbeats 600000 in
theorem Bsum_lt001 (z x y : Nat) (na nb : Nat) (A Bv : Option Addr) (ca cb : Nat) (ha : (dg na).length ≤ 1000000) (hb : (dg nb).length ≤ 1000000) (w : World) (hz : IntTy w z) (a0 : w.cell? ⟨x, 0, none⟩ = some (.bool false)) (a1 : w.cell? ⟨x, 1, none⟩ = some (.slice A (dg na).length ca)) (hra : RowAt w A (dg na)) (b0 : w.cell? ⟨y, 0, none⟩ = some (.bool false)) (b1 : w.cell? ⟨y, 1, none⟩ = some (.slice Bv (dg nb).length cb)) (hrb : RowAt w Bv (dg nb)) (hge : na < nb) : Calls Tryz.prog 105 #[.pointer (some ⟨z, 0, none⟩), .pointer (some ⟨x, 0, none⟩), .pointer (some ⟨y, 0, none⟩), .bool true] w (PutI w z (sgv true (nb - na))) := by
  have HZ := Lib.hid hz; have HRA := Lib.hid hra; have HRB := Lib.hid hrb; clear hz hra hrb
  have hlx := World.block_lt_of_cell? w _ a0
  have hly := World.block_lt_of_cell? w _ b0
  have hc : decide (cmpN na nb ≥ 0) = false := by unfold cmpN; rw [if_pos hge]; rfl
  obtain ⟨cm, hcm⟩ : ∃ cm, cm = cmpN na nb := ⟨_, rfl⟩
  rw [← hcm] at hc
  have HC := Lib.hid hcm; clear hcm
  go_enter Tryz.func105, Tryz.ntmps105
  go_wp2
  refine wp_region_sched (fun W => W.cell? ⟨x, 1, none⟩ = some (.slice A (dg na).length ca) ∧ W.cell? ⟨y, 1, none⟩ = some (.slice Bv (dg nb).length cb)) 8 [(0, true), (1, true), (2, true), (3, true), (4, true), (5, true), (6, true), (7, true), (8, false), (9, false)] (by kernel_rfl) (by kernel_rfl) ⟨a1, b1⟩ ?_
  intro hS
  repeat
    apply sched_firm rfl rfl hS
    · intro wq hq
      have hq0 := hq.1; have hq1 := hq.2
      clear hq
      go_simp
      first | rfl | (trace_state; fail)
    try simp only [Act.put, List.setIfInBounds_toArray, List.set_cons_zero, List.set_cons_succ]
  refine sched_one rfl rfl (fun K hK => ?_)
  go_simp
  refine (Bcompare na nb A Bv ca cb (by omega) (by omega) w.drew (RowAt.drew HRA.out) (RowAt.drew HRB.out)).mono ?_
  rintro e1 w1 ⟨rfl, hb1'⟩
  rw [← HC.out]
  have hb1 : Within w w1 := (Within.refl w).drew.trans hb1'
  refine hK _ _ (fun h => absurd h (by decide)) ?_
  clear hK K
  try simp only [Act.put, List.setIfInBounds_toArray, List.set_cons_zero, List.set_cons_succ]
  refine sched_one rfl rfl (fun K hK => ?_)
  go_simp
  refine hK _ _ (fun h => absurd h (by decide)) ?_
  clear hK K
  try simp only [Act.put, List.setIfInBounds_toArray, List.set_cons_zero, List.set_cons_succ]
  refine sched_nil ?_
  have a0' := (hb1.cells _ 0 hlx).trans a0; have a1' := (hb1.cells _ 1 hlx).trans a1; have b0' := (hb1.cells _ 0 hly).trans b0; have b1' := (hb1.cells _ 1 hly).trans b1
  clear hS
  go_wp2
  refine wp_region_sched (fun W => W.cell? ⟨y, 1, none⟩ = some (.slice Bv (dg nb).length cb) ∧ W.cell? ⟨x, 1, none⟩ = some (.slice A (dg na).length ca)) 11 [(0, true), (1, true), (2, true), (3, true), (4, true), (5, true), (6, true), (7, true), (8, true), (9, true), (10, false), (11, false), (12, false)] (by kernel_rfl) (by kernel_rfl) ⟨b1', a1'⟩ ?_
  intro hS
  repeat
    apply sched_firm rfl rfl hS
    · intro wq hq
      have hq0 := hq.1; have hq1 := hq.2
      clear hq
      go_simp
      first | rfl | (trace_state; fail)
    try simp only [Act.put, List.setIfInBounds_toArray, List.set_cons_zero, List.set_cons_succ]
  refine sched_one rfl rfl (fun K hK => ?_)
  go_simp
  refine (Bminus nb na Bv A cb ca (by omega) (by omega) w1.drew (RowAt.drew (HRB.out.of hb1)) (RowAt.drew (HRA.out.of hb1))).mono ?_
  rintro e2 w2 ⟨A', c', rfl, hc', hr', hb'⟩
  have hb2 : Within w w2 := hb1.drew.trans hb'
  have hlA : (dg (nb - na)).length ≤ 1500000 := by first | exact Nat.le_trans (dg_len_mono (Nat.sub_le _ _)) (by omega) | exact dg_add_le ha hb
  refine hK _ _ (fun h => ⟨(hb2.cells _ _ hly).trans b1, (hb2.cells _ _ hlx).trans a1⟩) ?_
  clear hK K
  try simp only [Act.put, List.setIfInBounds_toArray, List.set_cons_zero, List.set_cons_succ]
  refine sched_one rfl rfl (fun K hK => ?_)
  go_simp
  refine (Bput z true (dg (nb - na)) A' c' (words_dg _) hc' (by omega) w2 hr' (HZ.out.of hb2)).mono ?_
  rintro e3 w3 ⟨rfl, hI, hG⟩
  refine hK _ _ (fun h => absurd h (by decide)) ?_
  clear hK K
  try simp only [Act.put, List.setIfInBounds_toArray, List.set_cons_zero, List.set_cons_succ]
  refine sched_one rfl rfl (fun K hK => ?_)
  go_simp
  refine hK _ _ (fun h => absurd h (by decide)) ?_
  clear hK K
  try simp only [Act.put, List.setIfInBounds_toArray, List.set_cons_zero, List.set_cons_succ]
  refine sched_nil ?_
  go_wp2
  go_ret
  rw [wval_dg] at hI
  exact ⟨rfl, hI, grown_trans (grown_within z hb2) hG⟩
set_option maxRecDepth 100000 in
set_option maxHeartbeats 600000 in
theorem Bsum_ge010 (z x y : Nat) (na nb : Nat) (A Bv : Option Addr) (ca cb : Nat) (ha : (dg na).length ≤ 1000000) (hb : (dg nb).length ≤ 1000000) (w : World) (hz : IntTy w z) (a0 : w.cell? ⟨x, 0, none⟩ = some (.bool false)) (a1 : w.cell? ⟨x, 1, none⟩ = some (.slice A (dg na).length ca)) (hra : RowAt w A (dg na)) (b0 : w.cell? ⟨y, 0, none⟩ = some (.bool true)) (b1 : w.cell? ⟨y, 1, none⟩ = some (.slice Bv (dg nb).length cb)) (hrb : RowAt w Bv (dg nb)) (hge : nb ≤ na) : Calls Tryz.prog 105 #[.pointer (some ⟨z, 0, none⟩), .pointer (some ⟨x, 0, none⟩), .pointer (some ⟨y, 0, none⟩), .bool false] w (PutI w z (sgv false (na - nb))) := by
  have HZ := Lib.hid hz; have HRA := Lib.hid hra; have HRB := Lib.hid hrb; clear hz hra hrb
  have hlx := World.block_lt_of_cell? w _ a0
  have hly := World.block_lt_of_cell? w _ b0
  have hc : decide (cmpN na nb ≥ 0) = true := by unfold cmpN; rw [if_neg (by omega)]; split <;> rfl
  obtain ⟨cm, hcm⟩ : ∃ cm, cm = cmpN na nb := ⟨_, rfl⟩
  rw [← hcm] at hc
  have HC := Lib.hid hcm; clear hcm
  go_enter Tryz.func105, Tryz.ntmps105
  go_wp2
  refine wp_region_sched (fun W => W.cell? ⟨x, 1, none⟩ = some (.slice A (dg na).length ca) ∧ W.cell? ⟨y, 1, none⟩ = some (.slice Bv (dg nb).length cb)) 8 [(0, true), (1, true), (2, true), (3, true), (4, true), (5, true), (6, true), (7, true), (8, false), (9, false)] (by kernel_rfl) (by kernel_rfl) ⟨a1, b1⟩ ?_
  intro hS
  repeat
    apply sched_firm rfl rfl hS
    · intro wq hq
      have hq0 := hq.1; have hq1 := hq.2
      clear hq
      go_simp
      first | rfl | (trace_state; fail)
    try simp only [Act.put, List.setIfInBounds_toArray, List.set_cons_zero, List.set_cons_succ]
  refine sched_one rfl rfl (fun K hK => ?_)
  go_simp
  refine (Bcompare na nb A Bv ca cb (by omega) (by omega) w.drew (RowAt.drew HRA.out) (RowAt.drew HRB.out)).mono ?_
  rintro e1 w1 ⟨rfl, hb1'⟩
  rw [← HC.out]
  have hb1 : Within w w1 := (Within.refl w).drew.trans hb1'
  refine hK _ _ (fun h => absurd h (by decide)) ?_
  clear hK K
  try simp only [Act.put, List.setIfInBounds_toArray, List.set_cons_zero, List.set_cons_succ]
  refine sched_one rfl rfl (fun K hK => ?_)
  go_simp
  refine hK _ _ (fun h => absurd h (by decide)) ?_
  clear hK K
  try simp only [Act.put, List.setIfInBounds_toArray, List.set_cons_zero, List.set_cons_succ]
  refine sched_nil ?_
  have a0' := (hb1.cells _ 0 hlx).trans a0; have a1' := (hb1.cells _ 1 hlx).trans a1; have b0' := (hb1.cells _ 0 hly).trans b0; have b1' := (hb1.cells _ 1 hly).trans b1
  clear hS
  go_wp2
  refine wp_region_sched (fun W => W.cell? ⟨x, 0, none⟩ = some (.bool false) ∧ W.cell? ⟨x, 1, none⟩ = some (.slice A (dg na).length ca) ∧ W.cell? ⟨y, 1, none⟩ = some (.slice Bv (dg nb).length cb)) 14 [(0, true), (1, true), (2, true), (3, true), (4, true), (5, true), (6, true), (7, true), (8, true), (9, true), (10, true), (11, true), (12, true), (13, false), (14, false), (15, false)] (by kernel_rfl) (by kernel_rfl) ⟨a0', a1', b1'⟩ ?_
  intro hS
  repeat
    apply sched_firm rfl rfl hS
    · intro wq hq
      have hq0 := hq.1; have hq1 := hq.2.1; have hq2 := hq.2.2
      clear hq
      go_simp
      first | rfl | (trace_state; fail)
    try simp only [Act.put, List.setIfInBounds_toArray, List.set_cons_zero, List.set_cons_succ]
  refine sched_one rfl rfl (fun K hK => ?_)
  go_simp
  refine (Bminus na nb A Bv ca cb (by omega) hge w1.drew (RowAt.drew (HRA.out.of hb1)) (RowAt.drew (HRB.out.of hb1))).mono ?_
  rintro e2 w2 ⟨A', c', rfl, hc', hr', hb'⟩
  have hb2 : Within w w2 := hb1.drew.trans hb'
  have hlA : (dg (na - nb)).length ≤ 1500000 := by first | exact Nat.le_trans (dg_len_mono (Nat.sub_le _ _)) (by omega) | exact dg_add_le ha hb
  refine hK _ _ (fun h => ⟨(hb2.cells _ _ hlx).trans a0, (hb2.cells _ _ hlx).trans a1, (hb2.cells _ _ hly).trans b1⟩) ?_
  clear hK K
  try simp only [Act.put, List.setIfInBounds_toArray, List.set_cons_zero, List.set_cons_succ]
  refine sched_one rfl rfl (fun K hK => ?_)
  go_simp
  refine (Bput z false (dg (na - nb)) A' c' (words_dg _) hc' (by omega) w2 hr' (HZ.out.of hb2)).mono ?_
  rintro e3 w3 ⟨rfl, hI, hG⟩
  refine hK _ _ (fun h => absurd h (by decide)) ?_
  clear hK K
  try simp only [Act.put, List.setIfInBounds_toArray, List.set_cons_zero, List.set_cons_succ]
  refine sched_one rfl rfl (fun K hK => ?_)
  go_simp
  refine hK _ _ (fun h => absurd h (by decide)) ?_
  clear hK K
  try simp only [Act.put, List.setIfInBounds_toArray, List.set_cons_zero, List.set_cons_succ]
  refine sched_nil ?_
  go_wp2
  go_ret
  rw [wval_dg] at hI
  exact ⟨rfl, hI, grown_trans (grown_within z hb2) hG⟩
set_option maxRecDepth 100000 in
set_option maxHeartbeats 600000 in
theorem Bsum_lt010 (z x y : Nat) (na nb : Nat) (A Bv : Option Addr) (ca cb : Nat) (ha : (dg na).length ≤ 1000000) (hb : (dg nb).length ≤ 1000000) (w : World) (hz : IntTy w z) (a0 : w.cell? ⟨x, 0, none⟩ = some (.bool false)) (a1 : w.cell? ⟨x, 1, none⟩ = some (.slice A (dg na).length ca)) (hra : RowAt w A (dg na)) (b0 : w.cell? ⟨y, 0, none⟩ = some (.bool true)) (b1 : w.cell? ⟨y, 1, none⟩ = some (.slice Bv (dg nb).length cb)) (hrb : RowAt w Bv (dg nb)) (hge : na < nb) : Calls Tryz.prog 105 #[.pointer (some ⟨z, 0, none⟩), .pointer (some ⟨x, 0, none⟩), .pointer (some ⟨y, 0, none⟩), .bool false] w (PutI w z (sgv true (nb - na))) := by
  have HZ := Lib.hid hz; have HRA := Lib.hid hra; have HRB := Lib.hid hrb; clear hz hra hrb
  have hlx := World.block_lt_of_cell? w _ a0
  have hly := World.block_lt_of_cell? w _ b0
  have hc : decide (cmpN na nb ≥ 0) = false := by unfold cmpN; rw [if_pos hge]; rfl
  obtain ⟨cm, hcm⟩ : ∃ cm, cm = cmpN na nb := ⟨_, rfl⟩
  rw [← hcm] at hc
  have HC := Lib.hid hcm; clear hcm
  go_enter Tryz.func105, Tryz.ntmps105
  go_wp2
  refine wp_region_sched (fun W => W.cell? ⟨x, 1, none⟩ = some (.slice A (dg na).length ca) ∧ W.cell? ⟨y, 1, none⟩ = some (.slice Bv (dg nb).length cb)) 8 [(0, true), (1, true), (2, true), (3, true), (4, true), (5, true), (6, true), (7, true), (8, false), (9, false)] (by kernel_rfl) (by kernel_rfl) ⟨a1, b1⟩ ?_
  intro hS
  repeat
    apply sched_firm rfl rfl hS
    · intro wq hq
      have hq0 := hq.1; have hq1 := hq.2
      clear hq
      go_simp
      first | rfl | (trace_state; fail)
    try simp only [Act.put, List.setIfInBounds_toArray, List.set_cons_zero, List.set_cons_succ]
  refine sched_one rfl rfl (fun K hK => ?_)
  go_simp
  refine (Bcompare na nb A Bv ca cb (by omega) (by omega) w.drew (RowAt.drew HRA.out) (RowAt.drew HRB.out)).mono ?_
  rintro e1 w1 ⟨rfl, hb1'⟩
  rw [← HC.out]
  have hb1 : Within w w1 := (Within.refl w).drew.trans hb1'
  refine hK _ _ (fun h => absurd h (by decide)) ?_
  clear hK K
  try simp only [Act.put, List.setIfInBounds_toArray, List.set_cons_zero, List.set_cons_succ]
  refine sched_one rfl rfl (fun K hK => ?_)
  go_simp
  refine hK _ _ (fun h => absurd h (by decide)) ?_
  clear hK K
  try simp only [Act.put, List.setIfInBounds_toArray, List.set_cons_zero, List.set_cons_succ]
  refine sched_nil ?_
  have a0' := (hb1.cells _ 0 hlx).trans a0; have a1' := (hb1.cells _ 1 hlx).trans a1; have b0' := (hb1.cells _ 0 hly).trans b0; have b1' := (hb1.cells _ 1 hly).trans b1
  clear hS
  go_wp2
  refine wp_region_sched (fun W => W.cell? ⟨y, 1, none⟩ = some (.slice Bv (dg nb).length cb) ∧ W.cell? ⟨x, 1, none⟩ = some (.slice A (dg na).length ca)) 11 [(0, true), (1, true), (2, true), (3, true), (4, true), (5, true), (6, true), (7, true), (8, true), (9, true), (10, false), (11, false), (12, false)] (by kernel_rfl) (by kernel_rfl) ⟨b1', a1'⟩ ?_
  intro hS
  repeat
    apply sched_firm rfl rfl hS
    · intro wq hq
      have hq0 := hq.1; have hq1 := hq.2
      clear hq
      go_simp
      first | rfl | (trace_state; fail)
    try simp only [Act.put, List.setIfInBounds_toArray, List.set_cons_zero, List.set_cons_succ]
  refine sched_one rfl rfl (fun K hK => ?_)
  go_simp
  refine (Bminus nb na Bv A cb ca (by omega) (by omega) w1.drew (RowAt.drew (HRB.out.of hb1)) (RowAt.drew (HRA.out.of hb1))).mono ?_
  rintro e2 w2 ⟨A', c', rfl, hc', hr', hb'⟩
  have hb2 : Within w w2 := hb1.drew.trans hb'
  have hlA : (dg (nb - na)).length ≤ 1500000 := by first | exact Nat.le_trans (dg_len_mono (Nat.sub_le _ _)) (by omega) | exact dg_add_le ha hb
  refine hK _ _ (fun h => ⟨(hb2.cells _ _ hly).trans b1, (hb2.cells _ _ hlx).trans a1⟩) ?_
  clear hK K
  try simp only [Act.put, List.setIfInBounds_toArray, List.set_cons_zero, List.set_cons_succ]
  refine sched_one rfl rfl (fun K hK => ?_)
  go_simp
  refine (Bput z true (dg (nb - na)) A' c' (words_dg _) hc' (by omega) w2 hr' (HZ.out.of hb2)).mono ?_
  rintro e3 w3 ⟨rfl, hI, hG⟩
  refine hK _ _ (fun h => absurd h (by decide)) ?_
  clear hK K
  try simp only [Act.put, List.setIfInBounds_toArray, List.set_cons_zero, List.set_cons_succ]
  refine sched_one rfl rfl (fun K hK => ?_)
  go_simp
  refine hK _ _ (fun h => absurd h (by decide)) ?_
  clear hK K
  try simp only [Act.put, List.setIfInBounds_toArray, List.set_cons_zero, List.set_cons_succ]
  refine sched_nil ?_
  go_wp2
  go_ret
  rw [wval_dg] at hI
  exact ⟨rfl, hI, grown_trans (grown_within z hb2) hG⟩
set_option maxRecDepth 100000 in
set_option maxHeartbeats 600000 in
theorem Bsum_same011 (z x y : Nat) (na nb : Nat) (A Bv : Option Addr) (ca cb : Nat) (ha : (dg na).length ≤ 1000000) (hb : (dg nb).length ≤ 1000000) (w : World) (hz : IntTy w z) (a0 : w.cell? ⟨x, 0, none⟩ = some (.bool false)) (a1 : w.cell? ⟨x, 1, none⟩ = some (.slice A (dg na).length ca)) (hra : RowAt w A (dg na)) (b0 : w.cell? ⟨y, 0, none⟩ = some (.bool true)) (b1 : w.cell? ⟨y, 1, none⟩ = some (.slice Bv (dg nb).length cb)) (hrb : RowAt w Bv (dg nb)) : Calls Tryz.prog 105 #[.pointer (some ⟨z, 0, none⟩), .pointer (some ⟨x, 0, none⟩), .pointer (some ⟨y, 0, none⟩), .bool true] w (PutI w z (sgv false (na + nb))) := by
  have HZ := Lib.hid hz; have HRA := Lib.hid hra; have HRB := Lib.hid hrb; clear hz hra hrb
  have hlx := World.block_lt_of_cell? w _ a0
  have hly := World.block_lt_of_cell? w _ b0
  go_enter Tryz.func105, Tryz.ntmps105
  go_wp2
  refine wp_region_sched (fun W => W.cell? ⟨x, 1, none⟩ = some (.slice A (dg na).length ca) ∧ W.cell? ⟨y, 1, none⟩ = some (.slice Bv (dg nb).length cb)) 11 [(0, true), (1, true), (2, true), (3, true), (4, true), (5, true), (6, true), (7, true), (8, true), (9, true), (10, false), (11, false), (12, false)] (by kernel_rfl) (by kernel_rfl) ⟨a1, b1⟩ ?_
  intro hS
  repeat
    apply sched_firm rfl rfl hS
    · intro wq hq
      have hq0 := hq.1; have hq1 := hq.2
      clear hq
      go_simp
      first | rfl | (trace_state; fail)
    try simp only [Act.put, List.setIfInBounds_toArray, List.set_cons_zero, List.set_cons_succ]
  refine sched_one rfl rfl (fun K hK => ?_)
  go_simp
  refine (Bplus na nb A Bv ca cb (by omega) (by omega) w.drew (RowAt.drew HRA.out) (RowAt.drew HRB.out)).mono ?_
  rintro e2 w2 ⟨A', c', rfl, hc', hr', hb'⟩
  have hb2 : Within w w2 := (Within.refl w).drew.trans hb'
  have hlA : (dg (na + nb)).length ≤ 1500000 := by first | exact Nat.le_trans (dg_len_mono (Nat.sub_le _ _)) (by omega) | exact dg_add_le ha hb
  refine hK _ _ (fun h => ⟨(hb2.cells _ _ hlx).trans a1, (hb2.cells _ _ hly).trans b1⟩) ?_
  clear hK K
  try simp only [Act.put, List.setIfInBounds_toArray, List.set_cons_zero, List.set_cons_succ]
  refine sched_one rfl rfl (fun K hK => ?_)
  go_simp
  refine (Bput z false (dg (na + nb)) A' c' (words_dg _) hc' (by omega) w2 hr' (HZ.out.of hb2)).mono ?_
  rintro e3 w3 ⟨rfl, hI, hG⟩
  refine hK _ _ (fun h => absurd h (by decide)) ?_
  clear hK K
  try simp only [Act.put, List.setIfInBounds_toArray, List.set_cons_zero, List.set_cons_succ]
  refine sched_one rfl rfl (fun K hK => ?_)
  go_simp
  refine hK _ _ (fun h => absurd h (by decide)) ?_
  clear hK K
  try simp only [Act.put, List.setIfInBounds_toArray, List.set_cons_zero, List.set_cons_succ]
  refine sched_nil ?_
  go_wp2
  go_ret
  rw [wval_dg] at hI
  exact ⟨rfl, hI, grown_trans (grown_within z hb2) hG⟩
set_option maxRecDepth 100000 in
set_option maxHeartbeats 600000 in
theorem Bsum_ge100 (z x y : Nat) (na nb : Nat) (A Bv : Option Addr) (ca cb : Nat) (ha : (dg na).length ≤ 1000000) (hb : (dg nb).length ≤ 1000000) (w : World) (hz : IntTy w z) (a0 : w.cell? ⟨x, 0, none⟩ = some (.bool true)) (a1 : w.cell? ⟨x, 1, none⟩ = some (.slice A (dg na).length ca)) (hra : RowAt w A (dg na)) (b0 : w.cell? ⟨y, 0, none⟩ = some (.bool false)) (b1 : w.cell? ⟨y, 1, none⟩ = some (.slice Bv (dg nb).length cb)) (hrb : RowAt w Bv (dg nb)) (hge : nb ≤ na) : Calls Tryz.prog 105 #[.pointer (some ⟨z, 0, none⟩), .pointer (some ⟨x, 0, none⟩), .pointer (some ⟨y, 0, none⟩), .bool false] w (PutI w z (sgv true (na - nb))) := by
  have HZ := Lib.hid hz; have HRA := Lib.hid hra; have HRB := Lib.hid hrb; clear hz hra hrb
  have hlx := World.block_lt_of_cell? w _ a0
  have hly := World.block_lt_of_cell? w _ b0
  have hc : decide (cmpN na nb ≥ 0) = true := by unfold cmpN; rw [if_neg (by omega)]; split <;> rfl
  obtain ⟨cm, hcm⟩ : ∃ cm, cm = cmpN na nb := ⟨_, rfl⟩
  rw [← hcm] at hc
  have HC := Lib.hid hcm; clear hcm
  go_enter Tryz.func105, Tryz.ntmps105
  go_wp2
  refine wp_region_sched (fun W => W.cell? ⟨x, 1, none⟩ = some (.slice A (dg na).length ca) ∧ W.cell? ⟨y, 1, none⟩ = some (.slice Bv (dg nb).length cb)) 8 [(0, true), (1, true), (2, true), (3, true), (4, true), (5, true), (6, true), (7, true), (8, false), (9, false)] (by kernel_rfl) (by kernel_rfl) ⟨a1, b1⟩ ?_
  intro hS
  repeat
    apply sched_firm rfl rfl hS
    · intro wq hq
      have hq0 := hq.1; have hq1 := hq.2
      clear hq
      go_simp
      first | rfl | (trace_state; fail)
    try simp only [Act.put, List.setIfInBounds_toArray, List.set_cons_zero, List.set_cons_succ]
  refine sched_one rfl rfl (fun K hK => ?_)
  go_simp
  refine (Bcompare na nb A Bv ca cb (by omega) (by omega) w.drew (RowAt.drew HRA.out) (RowAt.drew HRB.out)).mono ?_
  rintro e1 w1 ⟨rfl, hb1'⟩
  rw [← HC.out]
  have hb1 : Within w w1 := (Within.refl w).drew.trans hb1'
  refine hK _ _ (fun h => absurd h (by decide)) ?_
  clear hK K
  try simp only [Act.put, List.setIfInBounds_toArray, List.set_cons_zero, List.set_cons_succ]
  refine sched_one rfl rfl (fun K hK => ?_)
  go_simp
  refine hK _ _ (fun h => absurd h (by decide)) ?_
  clear hK K
  try simp only [Act.put, List.setIfInBounds_toArray, List.set_cons_zero, List.set_cons_succ]
  refine sched_nil ?_
  have a0' := (hb1.cells _ 0 hlx).trans a0; have a1' := (hb1.cells _ 1 hlx).trans a1; have b0' := (hb1.cells _ 0 hly).trans b0; have b1' := (hb1.cells _ 1 hly).trans b1
  clear hS
  go_wp2
  refine wp_region_sched (fun W => W.cell? ⟨x, 0, none⟩ = some (.bool true) ∧ W.cell? ⟨x, 1, none⟩ = some (.slice A (dg na).length ca) ∧ W.cell? ⟨y, 1, none⟩ = some (.slice Bv (dg nb).length cb)) 14 [(0, true), (1, true), (2, true), (3, true), (4, true), (5, true), (6, true), (7, true), (8, true), (9, true), (10, true), (11, true), (12, true), (13, false), (14, false), (15, false)] (by kernel_rfl) (by kernel_rfl) ⟨a0', a1', b1'⟩ ?_
  intro hS
  repeat
    apply sched_firm rfl rfl hS
    · intro wq hq
      have hq0 := hq.1; have hq1 := hq.2.1; have hq2 := hq.2.2
      clear hq
      go_simp
      first | rfl | (trace_state; fail)
    try simp only [Act.put, List.setIfInBounds_toArray, List.set_cons_zero, List.set_cons_succ]
  refine sched_one rfl rfl (fun K hK => ?_)
  go_simp
  refine (Bminus na nb A Bv ca cb (by omega) hge w1.drew (RowAt.drew (HRA.out.of hb1)) (RowAt.drew (HRB.out.of hb1))).mono ?_
  rintro e2 w2 ⟨A', c', rfl, hc', hr', hb'⟩
  have hb2 : Within w w2 := hb1.drew.trans hb'
  have hlA : (dg (na - nb)).length ≤ 1500000 := by first | exact Nat.le_trans (dg_len_mono (Nat.sub_le _ _)) (by omega) | exact dg_add_le ha hb
  refine hK _ _ (fun h => ⟨(hb2.cells _ _ hlx).trans a0, (hb2.cells _ _ hlx).trans a1, (hb2.cells _ _ hly).trans b1⟩) ?_
  clear hK K
  try simp only [Act.put, List.setIfInBounds_toArray, List.set_cons_zero, List.set_cons_succ]
  refine sched_one rfl rfl (fun K hK => ?_)
  go_simp
  refine (Bput z true (dg (na - nb)) A' c' (words_dg _) hc' (by omega) w2 hr' (HZ.out.of hb2)).mono ?_
  rintro e3 w3 ⟨rfl, hI, hG⟩
  refine hK _ _ (fun h => absurd h (by decide)) ?_
  clear hK K
  try simp only [Act.put, List.setIfInBounds_toArray, List.set_cons_zero, List.set_cons_succ]
  refine sched_one rfl rfl (fun K hK => ?_)
  go_simp
  refine hK _ _ (fun h => absurd h (by decide)) ?_
  clear hK K
  try simp only [Act.put, List.setIfInBounds_toArray, List.set_cons_zero, List.set_cons_succ]
  refine sched_nil ?_
  go_wp2
  go_ret
  rw [wval_dg] at hI
  exact ⟨rfl, hI, grown_trans (grown_within z hb2) hG⟩
set_option maxRecDepth 100000 in
set_option maxHeartbeats 600000 in
theorem Bsum_lt100 (z x y : Nat) (na nb : Nat) (A Bv : Option Addr) (ca cb : Nat) (ha : (dg na).length ≤ 1000000) (hb : (dg nb).length ≤ 1000000) (w : World) (hz : IntTy w z) (a0 : w.cell? ⟨x, 0, none⟩ = some (.bool true)) (a1 : w.cell? ⟨x, 1, none⟩ = some (.slice A (dg na).length ca)) (hra : RowAt w A (dg na)) (b0 : w.cell? ⟨y, 0, none⟩ = some (.bool false)) (b1 : w.cell? ⟨y, 1, none⟩ = some (.slice Bv (dg nb).length cb)) (hrb : RowAt w Bv (dg nb)) (hge : na < nb) : Calls Tryz.prog 105 #[.pointer (some ⟨z, 0, none⟩), .pointer (some ⟨x, 0, none⟩), .pointer (some ⟨y, 0, none⟩), .bool false] w (PutI w z (sgv false (nb - na))) := by
  have HZ := Lib.hid hz; have HRA := Lib.hid hra; have HRB := Lib.hid hrb; clear hz hra hrb
  have hlx := World.block_lt_of_cell? w _ a0
  have hly := World.block_lt_of_cell? w _ b0
  have hc : decide (cmpN na nb ≥ 0) = false := by unfold cmpN; rw [if_pos hge]; rfl
  obtain ⟨cm, hcm⟩ : ∃ cm, cm = cmpN na nb := ⟨_, rfl⟩
  rw [← hcm] at hc
  have HC := Lib.hid hcm; clear hcm
  go_enter Tryz.func105, Tryz.ntmps105
  go_wp2
  refine wp_region_sched (fun W => W.cell? ⟨x, 1, none⟩ = some (.slice A (dg na).length ca) ∧ W.cell? ⟨y, 1, none⟩ = some (.slice Bv (dg nb).length cb)) 8 [(0, true), (1, true), (2, true), (3, true), (4, true), (5, true), (6, true), (7, true), (8, false), (9, false)] (by kernel_rfl) (by kernel_rfl) ⟨a1, b1⟩ ?_
  intro hS
  repeat
    apply sched_firm rfl rfl hS
    · intro wq hq
      have hq0 := hq.1; have hq1 := hq.2
      clear hq
      go_simp
      first | rfl | (trace_state; fail)
    try simp only [Act.put, List.setIfInBounds_toArray, List.set_cons_zero, List.set_cons_succ]
  refine sched_one rfl rfl (fun K hK => ?_)
  go_simp
  refine (Bcompare na nb A Bv ca cb (by omega) (by omega) w.drew (RowAt.drew HRA.out) (RowAt.drew HRB.out)).mono ?_
  rintro e1 w1 ⟨rfl, hb1'⟩
  rw [← HC.out]
  have hb1 : Within w w1 := (Within.refl w).drew.trans hb1'
  refine hK _ _ (fun h => absurd h (by decide)) ?_
  clear hK K
  try simp only [Act.put, List.setIfInBounds_toArray, List.set_cons_zero, List.set_cons_succ]
  refine sched_one rfl rfl (fun K hK => ?_)
  go_simp
  refine hK _ _ (fun h => absurd h (by decide)) ?_
  clear hK K
  try simp only [Act.put, List.setIfInBounds_toArray, List.set_cons_zero, List.set_cons_succ]
  refine sched_nil ?_
  have a0' := (hb1.cells _ 0 hlx).trans a0; have a1' := (hb1.cells _ 1 hlx).trans a1; have b0' := (hb1.cells _ 0 hly).trans b0; have b1' := (hb1.cells _ 1 hly).trans b1
  clear hS
  go_wp2
  refine wp_region_sched (fun W => W.cell? ⟨y, 1, none⟩ = some (.slice Bv (dg nb).length cb) ∧ W.cell? ⟨x, 1, none⟩ = some (.slice A (dg na).length ca)) 11 [(0, true), (1, true), (2, true), (3, true), (4, true), (5, true), (6, true), (7, true), (8, true), (9, true), (10, false), (11, false), (12, false)] (by kernel_rfl) (by kernel_rfl) ⟨b1', a1'⟩ ?_
  intro hS
  repeat
    apply sched_firm rfl rfl hS
    · intro wq hq
      have hq0 := hq.1; have hq1 := hq.2
      clear hq
      go_simp
      first | rfl | (trace_state; fail)
    try simp only [Act.put, List.setIfInBounds_toArray, List.set_cons_zero, List.set_cons_succ]
  refine sched_one rfl rfl (fun K hK => ?_)
  go_simp
  refine (Bminus nb na Bv A cb ca (by omega) (by omega) w1.drew (RowAt.drew (HRB.out.of hb1)) (RowAt.drew (HRA.out.of hb1))).mono ?_
  rintro e2 w2 ⟨A', c', rfl, hc', hr', hb'⟩
  have hb2 : Within w w2 := hb1.drew.trans hb'
  have hlA : (dg (nb - na)).length ≤ 1500000 := by first | exact Nat.le_trans (dg_len_mono (Nat.sub_le _ _)) (by omega) | exact dg_add_le ha hb
  refine hK _ _ (fun h => ⟨(hb2.cells _ _ hly).trans b1, (hb2.cells _ _ hlx).trans a1⟩) ?_
  clear hK K
  try simp only [Act.put, List.setIfInBounds_toArray, List.set_cons_zero, List.set_cons_succ]
  refine sched_one rfl rfl (fun K hK => ?_)
  go_simp
  refine (Bput z false (dg (nb - na)) A' c' (words_dg _) hc' (by omega) w2 hr' (HZ.out.of hb2)).mono ?_
  rintro e3 w3 ⟨rfl, hI, hG⟩
  refine hK _ _ (fun h => absurd h (by decide)) ?_
  clear hK K
  try simp only [Act.put, List.setIfInBounds_toArray, List.set_cons_zero, List.set_cons_succ]
  refine sched_one rfl rfl (fun K hK => ?_)
  go_simp
  refine hK _ _ (fun h => absurd h (by decide)) ?_
  clear hK K
  try simp only [Act.put, List.setIfInBounds_toArray, List.set_cons_zero, List.set_cons_succ]
  refine sched_nil ?_
  go_wp2
  go_ret
  rw [wval_dg] at hI
  exact ⟨rfl, hI, grown_trans (grown_within z hb2) hG⟩
set_option maxRecDepth 100000 in
set_option maxHeartbeats 600000 in
theorem Bsum_same101 (z x y : Nat) (na nb : Nat) (A Bv : Option Addr) (ca cb : Nat) (ha : (dg na).length ≤ 1000000) (hb : (dg nb).length ≤ 1000000) (w : World) (hz : IntTy w z) (a0 : w.cell? ⟨x, 0, none⟩ = some (.bool true)) (a1 : w.cell? ⟨x, 1, none⟩ = some (.slice A (dg na).length ca)) (hra : RowAt w A (dg na)) (b0 : w.cell? ⟨y, 0, none⟩ = some (.bool false)) (b1 : w.cell? ⟨y, 1, none⟩ = some (.slice Bv (dg nb).length cb)) (hrb : RowAt w Bv (dg nb)) : Calls Tryz.prog 105 #[.pointer (some ⟨z, 0, none⟩), .pointer (some ⟨x, 0, none⟩), .pointer (some ⟨y, 0, none⟩), .bool true] w (PutI w z (sgv true (na + nb))) := by
  have HZ := Lib.hid hz; have HRA := Lib.hid hra; have HRB := Lib.hid hrb; clear hz hra hrb
  have hlx := World.block_lt_of_cell? w _ a0
  have hly := World.block_lt_of_cell? w _ b0
  go_enter Tryz.func105, Tryz.ntmps105
  go_wp2
  refine wp_region_sched (fun W => W.cell? ⟨x, 1, none⟩ = some (.slice A (dg na).length ca) ∧ W.cell? ⟨y, 1, none⟩ = some (.slice Bv (dg nb).length cb)) 11 [(0, true), (1, true), (2, true), (3, true), (4, true), (5, true), (6, true), (7, true), (8, true), (9, true), (10, false), (11, false), (12, false)] (by kernel_rfl) (by kernel_rfl) ⟨a1, b1⟩ ?_
  intro hS
  repeat
    apply sched_firm rfl rfl hS
    · intro wq hq
      have hq0 := hq.1; have hq1 := hq.2
      clear hq
      go_simp
      first | rfl | (trace_state; fail)
    try simp only [Act.put, List.setIfInBounds_toArray, List.set_cons_zero, List.set_cons_succ]
  refine sched_one rfl rfl (fun K hK => ?_)
  go_simp
  refine (Bplus na nb A Bv ca cb (by omega) (by omega) w.drew (RowAt.drew HRA.out) (RowAt.drew HRB.out)).mono ?_
  rintro e2 w2 ⟨A', c', rfl, hc', hr', hb'⟩
  have hb2 : Within w w2 := (Within.refl w).drew.trans hb'
  have hlA : (dg (na + nb)).length ≤ 1500000 := by first | exact Nat.le_trans (dg_len_mono (Nat.sub_le _ _)) (by omega) | exact dg_add_le ha hb
  refine hK _ _ (fun h => ⟨(hb2.cells _ _ hlx).trans a1, (hb2.cells _ _ hly).trans b1⟩) ?_
  clear hK K
  try simp only [Act.put, List.setIfInBounds_toArray, List.set_cons_zero, List.set_cons_succ]
  refine sched_one rfl rfl (fun K hK => ?_)
  go_simp
  refine (Bput z true (dg (na + nb)) A' c' (words_dg _) hc' (by omega) w2 hr' (HZ.out.of hb2)).mono ?_
  rintro e3 w3 ⟨rfl, hI, hG⟩
  refine hK _ _ (fun h => absurd h (by decide)) ?_
  clear hK K
  try simp only [Act.put, List.setIfInBounds_toArray, List.set_cons_zero, List.set_cons_succ]
  refine sched_one rfl rfl (fun K hK => ?_)
  go_simp
  refine hK _ _ (fun h => absurd h (by decide)) ?_
  clear hK K
  try simp only [Act.put, List.setIfInBounds_toArray, List.set_cons_zero, List.set_cons_succ]
  refine sched_nil ?_
  go_wp2
  go_ret
  rw [wval_dg] at hI
  exact ⟨rfl, hI, grown_trans (grown_within z hb2) hG⟩
set_option maxRecDepth 100000 in
set_option maxHeartbeats 600000 in
theorem Bsum_same110 (z x y : Nat) (na nb : Nat) (A Bv : Option Addr) (ca cb : Nat) (ha : (dg na).length ≤ 1000000) (hb : (dg nb).length ≤ 1000000) (w : World) (hz : IntTy w z) (a0 : w.cell? ⟨x, 0, none⟩ = some (.bool true)) (a1 : w.cell? ⟨x, 1, none⟩ = some (.slice A (dg na).length ca)) (hra : RowAt w A (dg na)) (b0 : w.cell? ⟨y, 0, none⟩ = some (.bool true)) (b1 : w.cell? ⟨y, 1, none⟩ = some (.slice Bv (dg nb).length cb)) (hrb : RowAt w Bv (dg nb)) : Calls Tryz.prog 105 #[.pointer (some ⟨z, 0, none⟩), .pointer (some ⟨x, 0, none⟩), .pointer (some ⟨y, 0, none⟩), .bool false] w (PutI w z (sgv true (na + nb))) := by
  have HZ := Lib.hid hz; have HRA := Lib.hid hra; have HRB := Lib.hid hrb; clear hz hra hrb
  have hlx := World.block_lt_of_cell? w _ a0
  have hly := World.block_lt_of_cell? w _ b0
  go_enter Tryz.func105, Tryz.ntmps105
  go_wp2
  refine wp_region_sched (fun W => W.cell? ⟨x, 1, none⟩ = some (.slice A (dg na).length ca) ∧ W.cell? ⟨y, 1, none⟩ = some (.slice Bv (dg nb).length cb)) 11 [(0, true), (1, true), (2, true), (3, true), (4, true), (5, true), (6, true), (7, true), (8, true), (9, true), (10, false), (11, false), (12, false)] (by kernel_rfl) (by kernel_rfl) ⟨a1, b1⟩ ?_
  intro hS
  repeat
    apply sched_firm rfl rfl hS
    · intro wq hq
      have hq0 := hq.1; have hq1 := hq.2
      clear hq
      go_simp
      first | rfl | (trace_state; fail)
    try simp only [Act.put, List.setIfInBounds_toArray, List.set_cons_zero, List.set_cons_succ]
  refine sched_one rfl rfl (fun K hK => ?_)
  go_simp
  refine (Bplus na nb A Bv ca cb (by omega) (by omega) w.drew (RowAt.drew HRA.out) (RowAt.drew HRB.out)).mono ?_
  rintro e2 w2 ⟨A', c', rfl, hc', hr', hb'⟩
  have hb2 : Within w w2 := (Within.refl w).drew.trans hb'
  have hlA : (dg (na + nb)).length ≤ 1500000 := by first | exact Nat.le_trans (dg_len_mono (Nat.sub_le _ _)) (by omega) | exact dg_add_le ha hb
  refine hK _ _ (fun h => ⟨(hb2.cells _ _ hlx).trans a1, (hb2.cells _ _ hly).trans b1⟩) ?_
  clear hK K
  try simp only [Act.put, List.setIfInBounds_toArray, List.set_cons_zero, List.set_cons_succ]
  refine sched_one rfl rfl (fun K hK => ?_)
  go_simp
  refine (Bput z true (dg (na + nb)) A' c' (words_dg _) hc' (by omega) w2 hr' (HZ.out.of hb2)).mono ?_
  rintro e3 w3 ⟨rfl, hI, hG⟩
  refine hK _ _ (fun h => absurd h (by decide)) ?_
  clear hK K
  try simp only [Act.put, List.setIfInBounds_toArray, List.set_cons_zero, List.set_cons_succ]
  refine sched_one rfl rfl (fun K hK => ?_)
  go_simp
  refine hK _ _ (fun h => absurd h (by decide)) ?_
  clear hK K
  try simp only [Act.put, List.setIfInBounds_toArray, List.set_cons_zero, List.set_cons_succ]
  refine sched_nil ?_
  go_wp2
  go_ret
  rw [wval_dg] at hI
  exact ⟨rfl, hI, grown_trans (grown_within z hb2) hG⟩
set_option maxRecDepth 100000 in
set_option maxHeartbeats 600000 in
theorem Bsum_ge111 (z x y : Nat) (na nb : Nat) (A Bv : Option Addr) (ca cb : Nat) (ha : (dg na).length ≤ 1000000) (hb : (dg nb).length ≤ 1000000) (w : World) (hz : IntTy w z) (a0 : w.cell? ⟨x, 0, none⟩ = some (.bool true)) (a1 : w.cell? ⟨x, 1, none⟩ = some (.slice A (dg na).length ca)) (hra : RowAt w A (dg na)) (b0 : w.cell? ⟨y, 0, none⟩ = some (.bool true)) (b1 : w.cell? ⟨y, 1, none⟩ = some (.slice Bv (dg nb).length cb)) (hrb : RowAt w Bv (dg nb)) (hge : nb ≤ na) : Calls Tryz.prog 105 #[.pointer (some ⟨z, 0, none⟩), .pointer (some ⟨x, 0, none⟩), .pointer (some ⟨y, 0, none⟩), .bool true] w (PutI w z (sgv true (na - nb))) := by
  have HZ := Lib.hid hz; have HRA := Lib.hid hra; have HRB := Lib.hid hrb; clear hz hra hrb
  have hlx := World.block_lt_of_cell? w _ a0
  have hly := World.block_lt_of_cell? w _ b0
  have hc : decide (cmpN na nb ≥ 0) = true := by unfold cmpN; rw [if_neg (by omega)]; split <;> rfl
  obtain ⟨cm, hcm⟩ : ∃ cm, cm = cmpN na nb := ⟨_, rfl⟩
  rw [← hcm] at hc
  have HC := Lib.hid hcm; clear hcm
  go_enter Tryz.func105, Tryz.ntmps105
  go_wp2
  refine wp_region_sched (fun W => W.cell? ⟨x, 1, none⟩ = some (.slice A (dg na).length ca) ∧ W.cell? ⟨y, 1, none⟩ = some (.slice Bv (dg nb).length cb)) 8 [(0, true), (1, true), (2, true), (3, true), (4, true), (5, true), (6, true), (7, true), (8, false), (9, false)] (by kernel_rfl) (by kernel_rfl) ⟨a1, b1⟩ ?_
  intro hS
  repeat
    apply sched_firm rfl rfl hS
    · intro wq hq
      have hq0 := hq.1; have hq1 := hq.2
      clear hq
      go_simp
      first | rfl | (trace_state; fail)
    try simp only [Act.put, List.setIfInBounds_toArray, List.set_cons_zero, List.set_cons_succ]
  refine sched_one rfl rfl (fun K hK => ?_)
  go_simp
  refine (Bcompare na nb A Bv ca cb (by omega) (by omega) w.drew (RowAt.drew HRA.out) (RowAt.drew HRB.out)).mono ?_
  rintro e1 w1 ⟨rfl, hb1'⟩
  rw [← HC.out]
  have hb1 : Within w w1 := (Within.refl w).drew.trans hb1'
  refine hK _ _ (fun h => absurd h (by decide)) ?_
  clear hK K
  try simp only [Act.put, List.setIfInBounds_toArray, List.set_cons_zero, List.set_cons_succ]
  refine sched_one rfl rfl (fun K hK => ?_)
  go_simp
  refine hK _ _ (fun h => absurd h (by decide)) ?_
  clear hK K
  try simp only [Act.put, List.setIfInBounds_toArray, List.set_cons_zero, List.set_cons_succ]
  refine sched_nil ?_
  have a0' := (hb1.cells _ 0 hlx).trans a0; have a1' := (hb1.cells _ 1 hlx).trans a1; have b0' := (hb1.cells _ 0 hly).trans b0; have b1' := (hb1.cells _ 1 hly).trans b1
  clear hS
  go_wp2
  refine wp_region_sched (fun W => W.cell? ⟨x, 0, none⟩ = some (.bool true) ∧ W.cell? ⟨x, 1, none⟩ = some (.slice A (dg na).length ca) ∧ W.cell? ⟨y, 1, none⟩ = some (.slice Bv (dg nb).length cb)) 14 [(0, true), (1, true), (2, true), (3, true), (4, true), (5, true), (6, true), (7, true), (8, true), (9, true), (10, true), (11, true), (12, true), (13, false), (14, false), (15, false)] (by kernel_rfl) (by kernel_rfl) ⟨a0', a1', b1'⟩ ?_
  intro hS
  repeat
    apply sched_firm rfl rfl hS
    · intro wq hq
      have hq0 := hq.1; have hq1 := hq.2.1; have hq2 := hq.2.2
      clear hq
      go_simp
      first | rfl | (trace_state; fail)
    try simp only [Act.put, List.setIfInBounds_toArray, List.set_cons_zero, List.set_cons_succ]
  refine sched_one rfl rfl (fun K hK => ?_)
  go_simp
  refine (Bminus na nb A Bv ca cb (by omega) hge w1.drew (RowAt.drew (HRA.out.of hb1)) (RowAt.drew (HRB.out.of hb1))).mono ?_
  rintro e2 w2 ⟨A', c', rfl, hc', hr', hb'⟩
  have hb2 : Within w w2 := hb1.drew.trans hb'
  have hlA : (dg (na - nb)).length ≤ 1500000 := by first | exact Nat.le_trans (dg_len_mono (Nat.sub_le _ _)) (by omega) | exact dg_add_le ha hb
  refine hK _ _ (fun h => ⟨(hb2.cells _ _ hlx).trans a0, (hb2.cells _ _ hlx).trans a1, (hb2.cells _ _ hly).trans b1⟩) ?_
  clear hK K
  try simp only [Act.put, List.setIfInBounds_toArray, List.set_cons_zero, List.set_cons_succ]
  refine sched_one rfl rfl (fun K hK => ?_)
  go_simp
  refine (Bput z true (dg (na - nb)) A' c' (words_dg _) hc' (by omega) w2 hr' (HZ.out.of hb2)).mono ?_
  rintro e3 w3 ⟨rfl, hI, hG⟩
  refine hK _ _ (fun h => absurd h (by decide)) ?_
  clear hK K
  try simp only [Act.put, List.setIfInBounds_toArray, List.set_cons_zero, List.set_cons_succ]
  refine sched_one rfl rfl (fun K hK => ?_)
  go_simp
  refine hK _ _ (fun h => absurd h (by decide)) ?_
  clear hK K
  try simp only [Act.put, List.setIfInBounds_toArray, List.set_cons_zero, List.set_cons_succ]
  refine sched_nil ?_
  go_wp2
  go_ret
  rw [wval_dg] at hI
  exact ⟨rfl, hI, grown_trans (grown_within z hb2) hG⟩
set_option maxRecDepth 100000 in
set_option maxHeartbeats 600000 in
theorem Bsum_lt111 (z x y : Nat) (na nb : Nat) (A Bv : Option Addr) (ca cb : Nat) (ha : (dg na).length ≤ 1000000) (hb : (dg nb).length ≤ 1000000) (w : World) (hz : IntTy w z) (a0 : w.cell? ⟨x, 0, none⟩ = some (.bool true)) (a1 : w.cell? ⟨x, 1, none⟩ = some (.slice A (dg na).length ca)) (hra : RowAt w A (dg na)) (b0 : w.cell? ⟨y, 0, none⟩ = some (.bool true)) (b1 : w.cell? ⟨y, 1, none⟩ = some (.slice Bv (dg nb).length cb)) (hrb : RowAt w Bv (dg nb)) (hge : na < nb) : Calls Tryz.prog 105 #[.pointer (some ⟨z, 0, none⟩), .pointer (some ⟨x, 0, none⟩), .pointer (some ⟨y, 0, none⟩), .bool true] w (PutI w z (sgv false (nb - na))) := by
  have HZ := Lib.hid hz; have HRA := Lib.hid hra; have HRB := Lib.hid hrb; clear hz hra hrb
  have hlx := World.block_lt_of_cell? w _ a0
  have hly := World.block_lt_of_cell? w _ b0
  have hc : decide (cmpN na nb ≥ 0) = false := by unfold cmpN; rw [if_pos hge]; rfl
  obtain ⟨cm, hcm⟩ : ∃ cm, cm = cmpN na nb := ⟨_, rfl⟩
  rw [← hcm] at hc
  have HC := Lib.hid hcm; clear hcm
  go_enter Tryz.func105, Tryz.ntmps105
  go_wp2
  refine wp_region_sched (fun W => W.cell? ⟨x, 1, none⟩ = some (.slice A (dg na).length ca) ∧ W.cell? ⟨y, 1, none⟩ = some (.slice Bv (dg nb).length cb)) 8 [(0, true), (1, true), (2, true), (3, true), (4, true), (5, true), (6, true), (7, true), (8, false), (9, false)] (by kernel_rfl) (by kernel_rfl) ⟨a1, b1⟩ ?_
  intro hS
  repeat
    apply sched_firm rfl rfl hS
    · intro wq hq
      have hq0 := hq.1; have hq1 := hq.2
      clear hq
      go_simp
      first | rfl | (trace_state; fail)
    try simp only [Act.put, List.setIfInBounds_toArray, List.set_cons_zero, List.set_cons_succ]
  refine sched_one rfl rfl (fun K hK => ?_)
  go_simp
  refine (Bcompare na nb A Bv ca cb (by omega) (by omega) w.drew (RowAt.drew HRA.out) (RowAt.drew HRB.out)).mono ?_
  rintro e1 w1 ⟨rfl, hb1'⟩
  rw [← HC.out]
  have hb1 : Within w w1 := (Within.refl w).drew.trans hb1'
  refine hK _ _ (fun h => absurd h (by decide)) ?_
  clear hK K
  try simp only [Act.put, List.setIfInBounds_toArray, List.set_cons_zero, List.set_cons_succ]
  refine sched_one rfl rfl (fun K hK => ?_)
  go_simp
  refine hK _ _ (fun h => absurd h (by decide)) ?_
  clear hK K
  try simp only [Act.put, List.setIfInBounds_toArray, List.set_cons_zero, List.set_cons_succ]
  refine sched_nil ?_
  have a0' := (hb1.cells _ 0 hlx).trans a0; have a1' := (hb1.cells _ 1 hlx).trans a1; have b0' := (hb1.cells _ 0 hly).trans b0; have b1' := (hb1.cells _ 1 hly).trans b1
  clear hS
  go_wp2
  refine wp_region_sched (fun W => W.cell? ⟨y, 1, none⟩ = some (.slice Bv (dg nb).length cb) ∧ W.cell? ⟨x, 1, none⟩ = some (.slice A (dg na).length ca)) 11 [(0, true), (1, true), (2, true), (3, true), (4, true), (5, true), (6, true), (7, true), (8, true), (9, true), (10, false), (11, false), (12, false)] (by kernel_rfl) (by kernel_rfl) ⟨b1', a1'⟩ ?_
  intro hS
  repeat
    apply sched_firm rfl rfl hS
    · intro wq hq
      have hq0 := hq.1; have hq1 := hq.2
      clear hq
      go_simp
      first | rfl | (trace_state; fail)
    try simp only [Act.put, List.setIfInBounds_toArray, List.set_cons_zero, List.set_cons_succ]
  refine sched_one rfl rfl (fun K hK => ?_)
  go_simp
  refine (Bminus nb na Bv A cb ca (by omega) (by omega) w1.drew (RowAt.drew (HRB.out.of hb1)) (RowAt.drew (HRA.out.of hb1))).mono ?_
  rintro e2 w2 ⟨A', c', rfl, hc', hr', hb'⟩
  have hb2 : Within w w2 := hb1.drew.trans hb'
  have hlA : (dg (nb - na)).length ≤ 1500000 := by first | exact Nat.le_trans (dg_len_mono (Nat.sub_le _ _)) (by omega) | exact dg_add_le ha hb
  refine hK _ _ (fun h => ⟨(hb2.cells _ _ hly).trans b1, (hb2.cells _ _ hlx).trans a1⟩) ?_
  clear hK K
  try simp only [Act.put, List.setIfInBounds_toArray, List.set_cons_zero, List.set_cons_succ]
  refine sched_one rfl rfl (fun K hK => ?_)
  go_simp
  refine (Bput z false (dg (nb - na)) A' c' (words_dg _) hc' (by omega) w2 hr' (HZ.out.of hb2)).mono ?_
  rintro e3 w3 ⟨rfl, hI, hG⟩
  refine hK _ _ (fun h => absurd h (by decide)) ?_
  clear hK K
  try simp only [Act.put, List.setIfInBounds_toArray, List.set_cons_zero, List.set_cons_succ]
  refine sched_one rfl rfl (fun K hK => ?_)
  go_simp
  refine hK _ _ (fun h => absurd h (by decide)) ?_
  clear hK K
  try simp only [Act.put, List.setIfInBounds_toArray, List.set_cons_zero, List.set_cons_succ]
  refine sched_nil ?_
  go_wp2
  go_ret
  rw [wval_dg] at hI
  exact ⟨rfl, hI, grown_trans (grown_within z hb2) hG⟩
theorem PutI_eq {W w' : World} {z : Nat} {v v' : Int} {e : Ending} (h : PutI W z v e w') (k : v = v') : PutI W z v' e w' := k ▸ h
theorem Bsum (z x y : Nat) (a b : Int) (turn : Bool) (ha : (dg a.natAbs).length ≤ 1000000) (hb : (dg b.natAbs).length ≤ 1000000) (w : World) (hz : IntTy w z) (hx : IntB w x a) (hy : IntB w y b) : Calls Tryz.prog 105 #[.pointer (some ⟨z, 0, none⟩), .pointer (some ⟨x, 0, none⟩), .pointer (some ⟨y, 0, none⟩), .bool turn] w (PutI w z (a + (if turn then -b else b))) := by
  obtain ⟨A, ca, a0, a1, hra⟩ := hx.rd
  obtain ⟨Bv, cb, b0, b1, hrb⟩ := hy.rd
  by_cases ha0 : a < 0 <;> by_cases hb0 : b < 0 <;> cases turn
  · have q1 : decide (a < 0) = true := decide_eq_true (by omega)
    have q2 : decide (b < 0) = true := decide_eq_true (by omega)
    rw [q1] at a0; rw [q2] at b0
    exact Calls.mono (Bsum_same110 z x y _ _ A Bv ca cb ha hb w hz a0 a1 hra b0 b1 hrb) (fun _ _ h => PutI_eq h (by unfold sgv; simp; omega))
  · have q1 : decide (a < 0) = true := decide_eq_true (by omega)
    have q2 : decide (b < 0) = true := decide_eq_true (by omega)
    rw [q1] at a0; rw [q2] at b0
    rcases Nat.lt_or_ge a.natAbs b.natAbs with h | h
    · exact Calls.mono (Bsum_lt111 z x y _ _ A Bv ca cb ha hb w hz a0 a1 hra b0 b1 hrb h) (fun _ _ h => PutI_eq h (by unfold sgv; simp; omega))
    · exact Calls.mono (Bsum_ge111 z x y _ _ A Bv ca cb ha hb w hz a0 a1 hra b0 b1 hrb h) (fun _ _ h => PutI_eq h (by unfold sgv; simp; omega))
  · have q1 : decide (a < 0) = true := decide_eq_true (by omega)
    have q2 : decide (b < 0) = false := decide_eq_false (by omega)
    rw [q1] at a0; rw [q2] at b0
    rcases Nat.lt_or_ge a.natAbs b.natAbs with h | h
    · exact Calls.mono (Bsum_lt100 z x y _ _ A Bv ca cb ha hb w hz a0 a1 hra b0 b1 hrb h) (fun _ _ h => PutI_eq h (by unfold sgv; simp; omega))
    · exact Calls.mono (Bsum_ge100 z x y _ _ A Bv ca cb ha hb w hz a0 a1 hra b0 b1 hrb h) (fun _ _ h => PutI_eq h (by unfold sgv; simp; omega))
  · have q1 : decide (a < 0) = true := decide_eq_true (by omega)
    have q2 : decide (b < 0) = false := decide_eq_false (by omega)
    rw [q1] at a0; rw [q2] at b0
    exact Calls.mono (Bsum_same101 z x y _ _ A Bv ca cb ha hb w hz a0 a1 hra b0 b1 hrb) (fun _ _ h => PutI_eq h (by unfold sgv; simp; omega))
  · have q1 : decide (a < 0) = false := decide_eq_false (by omega)
    have q2 : decide (b < 0) = true := decide_eq_true (by omega)
    rw [q1] at a0; rw [q2] at b0
    rcases Nat.lt_or_ge a.natAbs b.natAbs with h | h
    · exact Calls.mono (Bsum_lt010 z x y _ _ A Bv ca cb ha hb w hz a0 a1 hra b0 b1 hrb h) (fun _ _ h => PutI_eq h (by unfold sgv; simp; omega))
    · exact Calls.mono (Bsum_ge010 z x y _ _ A Bv ca cb ha hb w hz a0 a1 hra b0 b1 hrb h) (fun _ _ h => PutI_eq h (by unfold sgv; simp; omega))
  · have q1 : decide (a < 0) = false := decide_eq_false (by omega)
    have q2 : decide (b < 0) = true := decide_eq_true (by omega)
    rw [q1] at a0; rw [q2] at b0
    exact Calls.mono (Bsum_same011 z x y _ _ A Bv ca cb ha hb w hz a0 a1 hra b0 b1 hrb) (fun _ _ h => PutI_eq h (by unfold sgv; simp; omega))
  · have q1 : decide (a < 0) = false := decide_eq_false (by omega)
    have q2 : decide (b < 0) = false := decide_eq_false (by omega)
    rw [q1] at a0; rw [q2] at b0
    exact Calls.mono (Bsum_same000 z x y _ _ A Bv ca cb ha hb w hz a0 a1 hra b0 b1 hrb) (fun _ _ h => PutI_eq h (by unfold sgv; simp; omega))
  · have q1 : decide (a < 0) = false := decide_eq_false (by omega)
    have q2 : decide (b < 0) = false := decide_eq_false (by omega)
    rw [q1] at a0; rw [q2] at b0
    rcases Nat.lt_or_ge a.natAbs b.natAbs with h | h
    · exact Calls.mono (Bsum_lt001 z x y _ _ A Bv ca cb ha hb w hz a0 a1 hra b0 b1 hrb h) (fun _ _ h => PutI_eq h (by unfold sgv; simp; omega))
    · exact Calls.mono (Bsum_ge001 z x y _ _ A Bv ca cb ha hb w hz a0 a1 hra b0 b1 hrb h) (fun _ _ h => PutI_eq h (by unfold sgv; simp; omega))
set_option maxRecDepth 100000 in
set_option maxHeartbeats 600000 in
theorem BAdd (z x y : Nat) (a b : Int) (ha : (dg a.natAbs).length ≤ 1000000) (hb : (dg b.natAbs).length ≤ 1000000) (w : World) (hz : IntTy w z) (hx : IntB w x a) (hy : IntB w y b) : Calls Tryz.prog 93 #[.pointer (some ⟨z, 0, none⟩), .pointer (some ⟨x, 0, none⟩), .pointer (some ⟨y, 0, none⟩)] w (PutI w z (a + b)) := by
  have HS := Lib.hid (Bsum z x y a b false ha hb w hz hx hy)
  clear ha hb hz hx hy
  go_enter Tryz.func93, Tryz.ntmps93
  go_wp2_with fail
  refine HS.out.mono ?_; rintro e1 w1 ⟨rfl, hI, hG⟩
  go_wp2
  go_ret
  exact ⟨rfl, by simpa using hI, hG⟩
set_option maxRecDepth 100000 in
set_option maxHeartbeats 600000 in
theorem BSub (z x y : Nat) (a b : Int) (ha : (dg a.natAbs).length ≤ 1000000) (hb : (dg b.natAbs).length ≤ 1000000) (w : World) (hz : IntTy w z) (hx : IntB w x a) (hy : IntB w y b) : Calls Tryz.prog 64 #[.pointer (some ⟨z, 0, none⟩), .pointer (some ⟨x, 0, none⟩), .pointer (some ⟨y, 0, none⟩)] w (PutI w z (a - b)) := by
  have HS := Lib.hid (Bsum z x y a b true ha hb w hz hx hy)
  clear ha hb hz hx hy
  go_enter Tryz.func64, Tryz.ntmps64
  go_wp2_with fail
  refine HS.out.mono ?_; rintro e1 w1 ⟨rfl, hI, hG⟩
  go_wp2
  go_ret
  exact ⟨rfl, by simpa [Int.sub_eq_add_neg] using hI, hG⟩
end Go.Proofs.YtifgngmebnjfkaaGreatDoor
end

section
namespace Go.Proofs.YtifgngmebnjfkaaGreatDoor
open Go.RowKit
theorem repl_getD (n j : Nat) : (List.replicate n 0).getD j 0 = 0 := by
  rw [List.getD_eq_getElem?_getD, List.getElem?_replicate]
  by_cases h : j < n
  · rw [if_pos h]; rfl
  · rw [if_neg h]; rfl
def LeftRel (W : World) (g : Nat) (la : List Nat) (W0 S0 : Nat) (iv : Value) (wr : World) : Prop :=
  ∃ (k : Nat) (o : List Nat), k ≤ la.length ∧ iv = .int .i64 (k : Int) ∧ o.length = W0 + la.length + 1 ∧ Words o ∧ OwnW wr g o ∧ lo o (W0 + k + 1) = lo la k * 2 ^ S0 * 4294967296 ^ W0 ∧ o.getD (W0 + k) 0 < 2 ^ S0 ∧ (∀ j, W0 + k < j → o.getD j 0 = 0) ∧ Within W wr
theorem low_lt {x S0 z : Nat} (hS : S0 < 32) (hz : z < 2 ^ S0) : z + x * 2 ^ S0 % 4294967296 < 4294967296 := by
  rw [left_low hS]
  have h1 : x % 2 ^ (32 - S0) < 2 ^ (32 - S0) := Nat.mod_lt _ (Nat.two_pow_pos _)
  have h2 : (x % 2 ^ (32 - S0) + 1) * 2 ^ S0 ≤ 2 ^ (32 - S0) * 2 ^ S0 := Nat.mul_le_mul_right _ h1
  rw [← Nat.pow_add, show 32 - S0 + S0 = 32 by omega, Nat.add_mul] at h2
  omega
theorem low_or {x S0 z : Nat} (hS : S0 < 32) (hz : z < 2 ^ S0) : bits .or .u32 (z : Int) ((x * 2 ^ S0 % 4294967296 : Nat) : Int) = ((z + x * 2 ^ S0 % 4294967296 : Nat) : Int) := by
  have h1 := low_lt (x := x) hS hz
  rw [u32_or_nat _ _ (by omega) (by omega), Nat.or_comm, nat_join S0 _ _ (by rw [left_low hS, Nat.mul_mod_left]) hz, Nat.add_comm]
theorem LeftRel.step {W wr : World} {g : Nat} {la o : List Nat} {W0 S0 k x z : Nat} (u v q : Int) (hk : k < la.length) (hS : S0 < 32) (ho : o.length = W0 + la.length + 1) (hwo : Words o) (hown : OwnW wr g o)
    (hval : lo o (W0 + k + 1) = lo la k * 2 ^ S0 * 4294967296 ^ W0) (hlow : z < 2 ^ S0) (hzero : ∀ j, W0 + k < j → o.getD j 0 = 0) (hin : Within W wr)
    (hx : x = la.getD k 0) (hz : z = o.getD (W0 + k) 0) (hx2 : x < 4294967296) (hg : W.heap.size ≤ g) (hu : u = ((z + x * 2 ^ S0 % 4294967296 : Nat) : Int)) (hv : v = ((x * 2 ^ S0 / 4294967296 : Nat) : Int)) (hq : q = ((k + 1 : Nat) : Int)) :
    LeftRel W g la W0 S0 (.int .i64 q) ((wr.setCell ⟨g, W0 + k, none⟩ (.int .u32 u)).setCell ⟨g, W0 + k + 1, none⟩ (.int .u32 v)) := by
  subst hu hv hq
  have hh := left_high (m := x) (s := S0) hx2
  have h32 : 2 ^ S0 ≤ 4294967296 := by rw [show (4294967296 : Nat) = 2 ^ 32 from rfl]; exact Nat.pow_le_pow_right (by decide) (by omega)
  have hl := low_lt (x := x) hS hlow
  generalize hL : x * 2 ^ S0 % 4294967296 = L at *
  generalize hH : x * 2 ^ S0 / 4294967296 = H at *
  have ho1 : (o.set (W0 + k) (z + L)).length = W0 + la.length + 1 := by rw [List.length_set]; exact ho
  refine ⟨k + 1, (o.set (W0 + k) (z + L)).set (W0 + k + 1) H, by omega, rfl, by rw [List.length_set]; exact ho1, (hwo.set _ _ hl).set _ _ (by omega), (hown.set _ _ (by omega)).set _ _ (by omega), ?_, ?_, ?_, (hin.setCell hg _).setCell hg _⟩
  · rw [show W0 + (k + 1) + 1 = W0 + k + 1 + 1 by omega, lo_set_succ _ _ _ (by omega), lo_set_succ _ _ _ (by omega), lo_succ la, ← hx]
    rw [lo_succ, ← hz] at hval
    have := left_step (P := 4294967296 ^ (W0 + k)) (t := x * 2 ^ S0) hval
    rw [hL, hH] at this
    rw [Nat.pow_succ, this, Nat.add_mul, Nat.add_mul, Nat.pow_add]
    congr 1
    rw [Nat.mul_comm (4294967296 ^ W0), Nat.mul_assoc, Nat.mul_assoc, Nat.mul_assoc, Nat.mul_comm (4294967296 ^ W0), Nat.mul_assoc]
  · rw [show W0 + (k + 1) = W0 + k + 1 by omega, getD_set_eq _ _ _ (by omega)]; exact hh
  · intro j hj
    rw [lset_ne _ _ _ _ (by omega), lset_ne _ _ _ _ (by omega)]
    exact hzero j (by omega)
set_option maxRecDepth 100000 in
set_option maxHeartbeats 600000 in
theorem Bleft_pos (la : List Nat) (A : Option Addr) (ca n W0 S0 : Nat) (hwa : Words la) (hla : la.length ≤ 500000) (h0 : 0 < la.length) (hn : n = 32 * W0 + S0) (hS : S0 < 32) (hW : W0 ≤ 500000) (w : World) (hra : RowAt w A la) :
    Calls Tryz.prog 102 #[.slice A la.length ca, .int .u64 (n : Int)] w (RetW w (wval la * 2 ^ n)) := by
  have hmk := run_make_row' (P := Tryz.prog) 89 22 (.int .u32 0) 4 (by kernel_rfl) Tryz.infoU32 rfl .i64 .i64 (W0 + la.length + 1) (by omega) (by omega)
  rw [show ((W0 + la.length + 1 : Nat) : Int) = (W0 : Int) + (la.length : Int) + 1 by omega] at hmk
  have HWA := Lib.hid hwa; have HRA := Lib.hid hra; clear hwa hra
  have hq : (n : Int) / 32 = (W0 : Int) := by omega
  have hr : (n : Int) % 32 = (S0 : Int) := by omega
  have d0 : ((la.length : Int) == 0) = false := beq_eq_false_iff_ne.2 (by omega)
  have HN := Lib.hid hn; clear hn
  have HM := OwnW.made w (W0 + la.length + 1)
  go_enter Tryz.func102, Tryz.ntmps102
  go_wp2
  go_loopw [8] (fun iv wr => LeftRel w w.heap.size la W0 S0 iv wr) (fun iv _ => la.length - (intOf iv).toNat)
  case atStart => exact ⟨0, _, Nat.zero_le _, rfl, by simp, Words.zeros _, HM, by
    rw [lo_zero, lo]
    rw [show (List.replicate (W0 + la.length + 1) 0).take (W0 + 0 + 1) = List.replicate (W0 + 0 + 1) 0 by rw [List.take_replicate]; congr 1; omega, wval_zeros]; simp, by
    rw [repl_getD]; exact Nat.two_pow_pos _, fun j _ => repl_getD _ _, (Within.refl w).alloc _⟩
  case round =>
    obtain ⟨k, o, hk, rfl, ho, hwo, hown, hval, hlow, hzero, hin⟩ := hrel
    have HV := Lib.hid hval; have HO := Lib.hid ho; have HWO := Lib.hid hwo; have HZ := Lib.hid hzero; clear hval ho hwo hzero
    rcases Nat.lt_or_ge k la.length with hlt | hlt
    · obtain ⟨ga, rfl, hga, hca⟩ := (HRA.out.of hin).cell hlt
      obtain ⟨x, hxe⟩ : ∃ x, x = la.getD k 0 := ⟨_, rfl⟩
      have hx : x < 4294967296 := by rw [hxe]; exact HWA.out.getD k
      rw [← hxe] at hca
      have HXE := Lib.hid hxe; clear hxe
      obtain ⟨z, hze⟩ : ∃ z, z = o.getD (W0 + k) 0 := ⟨_, rfl⟩
      have hco := hown.cell (i := W0 + k) (by rw [HO.out]; omega)
      have hfo := hown.frozen (W0 + k)
      have hco1 := hown.cell (i := W0 + k + 1) (by rw [HO.out]; omega)
      have hfo1 := hown.frozen (W0 + k + 1)
      rw [← hze] at hco hlow
      have HZE := Lib.hid hze; clear hze
      have gsh : IntKind.u64.wrap ((x : Int) * 2 ^ S0) = ((x * 2 ^ S0 : Nat) : Int) := by
        have e : (x : Int) * 2 ^ S0 = ((x * 2 ^ S0 : Nat) : Int) := by simp
        have := left_high (m := x) (s := S0) hx
        have h32 : 2 ^ S0 ≤ 4294967296 := by rw [show (4294967296 : Nat) = 2 ^ 32 from rfl]; exact Nat.pow_le_pow_right (by decide) (by omega)
        rw [e, IntKind.wrap_u64]; omega
      have gor := low_or (x := x) hS hlow
      have hH : x * 2 ^ S0 / 4294967296 < 4294967296 := by
        have := left_high (m := x) (s := S0) hx
        have h32 : 2 ^ S0 ≤ 4294967296 := by rw [show (4294967296 : Nat) = 2 ^ 32 from rfl]; exact Nat.pow_le_pow_right (by decide) (by omega)
        omega
      have hstep := fun (u v q : Int) => LeftRel.step (S0 := S0) (x := x) (z := z) u v q hlt hS HO.out HWO.out hown HV.out hlow HZ.out hin HXE.out HZE.out hx (Nat.le_refl _)
      have HST := Lib.hid hstep; clear hstep
      obtain ⟨t, ht⟩ : ∃ t, t = x * 2 ^ S0 := ⟨_, rfl⟩
      rw [← ht] at gsh gor hH
      rw [Int.natCast_emod] at gor
      have HT := Lib.hid ht; clear ht
      have g3 : (t : Int) / 4294967296 % 4294967296 = ((t / 4294967296 : Nat) : Int) := by omega
      go_wp2
      go_roundw
      case rel => exact HST.out _ _ _ (by rw [← HT.out]; first | rfl | exact gor) (by rw [← HT.out]; first | rfl | exact g3) (by omega)
      case measure => simp [intOf]; omega
    · obtain rfl : k = la.length := by omega
      have CT := Lib.hid (Bcut o (some ⟨w.heap.size, 0, none⟩) (W0 + la.length + 1) HWO.out (by rw [HO.out]; exact Nat.le_refl _) (by rw [HO.out]; omega) _ hown.at)
      rw [HO.out] at CT
      go_wp2_with fail
      refine (CT.out).mono ?_; rintro e1 w1 ⟨rfl, rfl⟩
      go_wp2
      go_ret
      refine retW_cut hown.at HWO.out (by rw [HO.out]; exact Nat.le_refl _) hin ?_
      rw [← lo_all o (Nat.le_of_eq HO.out), HV.out, lo_all _ (Nat.le_refl _), HN.out, Nat.mul_assoc, show (4294967296 : Nat) = 2 ^ 32 from rfl, ← Nat.pow_mul, ← Nat.pow_add, Nat.add_comm S0]
set_option maxRecDepth 100000 in
set_option maxHeartbeats 600000 in
theorem Bleft_nil (A : Option Addr) (ca n : Nat) (w : World) : Calls Tryz.prog 102 #[.slice A 0 ca, .int .u64 (n : Int)] w (RetW w 0) := by
  go_enter Tryz.func102, Tryz.ntmps102
  go_wp2
  go_ret
  exact ⟨none, 0, by rw [dg_zero]; rfl, by rw [dg_zero]; exact Nat.le_refl _, by rw [dg_zero]; exact RowAt.nil, Within.refl _⟩
theorem Bleft (a : Nat) (A : Option Addr) (ca n : Nat) (ha : (dg a).length ≤ 500000) (hn : n ≤ 16000000) (w : World) (hra : RowAt w A (dg a)) :
    Calls Tryz.prog 102 #[.slice A (dg a).length ca, .int .u64 (n : Int)] w (RetW w (a * 2 ^ n)) := by
  by_cases h : a = 0
  · subst h
    rw [dg_zero, Nat.zero_mul]
    exact Bleft_nil A ca n w
  · have := Bleft_pos (dg a) A ca n (n / 32) (n % 32) (words_dg a) ha (dg_len_pos h) (by omega) (by omega) (by omega) w hra
    rw [wval_dg] at this
    exact this
end Go.Proofs.YtifgngmebnjfkaaGreatDoor
end

section
namespace Go.Proofs.YtifgngmebnjfkaaGreatDoor
open Go.RowKit
def RightRel (W : World) (g : Nat) (D : List Nat) (S0 : Nat) (iv : Value) (wr : World) : Prop :=
  ∃ (k : Nat) (o : List Nat), k ≤ D.length ∧ iv = .int .i64 (k : Int) ∧ o.length = D.length ∧ Words o ∧ OwnW wr g o ∧ lo o k = wval D / 2 ^ S0 % 4294967296 ^ k ∧ Within W wr
theorem RightRel.step {W wr : World} {g : Nat} {D o : List Nat} {S0 k x y : Nat} (u q : Int) (hk : k < D.length) (hS : S0 < 32) (hD : Words D) (ho : o.length = D.length) (hwo : Words o) (hown : OwnW wr g o)
    (hval : lo o k = wval D / 2 ^ S0 % 4294967296 ^ k) (hin : Within W wr) (hx : x = D.getD k 0) (hy : y = D.getD (k + 1) 0) (hg : W.heap.size ≤ g)
    (hu : u = (((x + 4294967296 * y) / 2 ^ S0 % 4294967296 : Nat) : Int)) (hq : q = ((k + 1 : Nat) : Int)) :
    RightRel W g D S0 (.int .i64 q) (wr.setCell ⟨g, k, none⟩ (.int .u32 u)) := by
  subst hu hq
  refine ⟨k + 1, o.set k ((x + 4294967296 * y) / 2 ^ S0 % 4294967296), by omega, rfl, by rw [List.length_set]; exact ho, hwo.set _ _ (by omega), hown.set _ _ (by omega), ?_, hin.setCell hg _⟩
  rw [lo_set_succ _ _ _ (by omega), mod_succ, hval, right_digit _ S0 k D rfl hD hS, ← hx, ← hy]
theorem drop_getD (l : List Nat) (i k : Nat) : (l.drop i).getD k 0 = l.getD (i + k) 0 := by
  simp [List.getD_eq_getElem?_getD, List.getElem?_drop]
theorem or_high {x y : Nat} (hx : x < 4294967296) (hy : y < 4294967296) : bits .or .u64 (x : Int) ((y * 4294967296 : Nat) : Int) = ((x + 4294967296 * y : Nat) : Int) := by
  rw [u64_or_nat _ _ (by omega) (by omega), Nat.or_comm, nat_join 32 _ _ (by rw [show (2 : Nat) ^ 32 = 4294967296 from rfl]; omega) hx]
  congr 1; omega
set_option maxRecDepth 100000 in
set_option maxHeartbeats 600000 in
theorem Bright_pos (la : List Nat) (A : Option Addr) (ca n W0 S0 : Nat) (hwa : Words la) (hla : la.length ≤ 1500000) (h0 : W0 < la.length) (hn : n = 32 * W0 + S0) (hS : S0 < 32) (w : World) (hra : RowAt w A la) :
    Calls Tryz.prog 124 #[.slice A la.length ca, .int .u64 (n : Int)] w (RetW w (wval la / 2 ^ n)) := by
  obtain ⟨N, hN⟩ : ∃ N, la.length = W0 + N := ⟨la.length - W0, by omega⟩
  have hDl : (la.drop W0).length = N := by rw [List.length_drop]; omega
  have hmk := run_make_row' (P := Tryz.prog) 89 22 (.int .u32 0) 4 (by kernel_rfl) Tryz.infoU32 rfl .i64 .i64 N (by omega) (by omega)
  have hgt : (la.length : Int) - (W0 : Int) = (N : Int) := by omega
  have HWA := Lib.hid hwa; have HRA := Lib.hid hra; have HDL := Lib.hid hDl; clear hwa hra hDl
  have hq : (n : Int) / 32 = (W0 : Int) := by omega
  have hr : (n : Int) % 32 = (S0 : Int) := by omega
  have d0 : decide ((W0 : Int) ≥ la.length) = false := decide_eq_false (by omega)
  have HNN := Lib.hid hN; have HN := Lib.hid hn; clear hn hN
  have HM := OwnW.made w N
  go_enter Tryz.func124, Tryz.ntmps124
  go_wp2
  go_loopw [8] (fun iv wr => RightRel w w.heap.size (la.drop W0) S0 iv wr) (fun iv _ => N - (intOf iv).toNat)
  case atStart => exact ⟨0, _, Nat.zero_le _, rfl, by rw [HDL.out]; simp, Words.zeros _, HM, by rw [lo_zero]; simp [Nat.mod_one], (Within.refl w).alloc _⟩
  case round =>
    obtain ⟨k, o, hk, rfl, ho, hwo, hown, hval, hin⟩ := hrel
    rw [HDL.out] at hk ho
    have HV := Lib.hid hval; have HO := Lib.hid ho; have HWO := Lib.hid hwo; clear hval ho hwo
    rcases Nat.lt_or_ge k N with hlt | hlt
    · obtain ⟨ga, rfl, hga, hca⟩ := (HRA.out.of hin).cell (i := W0 + k) (by rw [HNN.out]; omega)
      obtain ⟨x, hxe⟩ : ∃ x, x = la.getD (W0 + k) 0 := ⟨_, rfl⟩
      have hx : x < 4294967296 := by rw [hxe]; exact HWA.out.getD _
      rw [← hxe] at hca
      have HXE := Lib.hid hxe; clear hxe
      have hco := hown.cell (i := k) (by rw [HO.out]; omega)
      have hfo := hown.frozen k
      have hstep := fun (y : Nat) (u q : Int) => RightRel.step (S0 := S0) (x := x) (y := y) u q (by rw [HDL.out]; exact hlt) hS (HWA.out.drop W0) (by rw [HDL.out]; exact HO.out) HWO.out hown HV.out hin (by rw [drop_getD]; exact HXE.out)
      have HST := Lib.hid hstep; clear hstep
      rcases Nat.lt_or_ge (k + 1) N with hlb | hlb
      · obtain ⟨gb, hgb1, hgb, hcb⟩ := (HRA.out.of hin).cell (i := W0 + k + 1) (by rw [HNN.out]; omega)
        injection hgb1 with hgb1; injection hgb1 with hgb1; subst hgb1
        obtain ⟨y, hye⟩ : ∃ y, y = la.getD (W0 + k + 1) 0 := ⟨_, rfl⟩
        have hy : y < 4294967296 := by rw [hye]; exact HWA.out.getD _
        rw [← hye] at hcb
        have HYE := Lib.hid hye; clear hye
        have gsh : IntKind.u64.wrap ((y : Int) * 4294967296) = ((y * 4294967296 : Nat) : Int) := by rw [IntKind.wrap_u64]; omega
        have gor := or_high hx hy
        have GU := Lib.hid (show bits .or .u64 (x : Int) ((y : Int) * 4294967296) / 2 ^ S0 % 4294967296 = (((x + 4294967296 * y) / 2 ^ S0 % 4294967296 : Nat) : Int) by
          rw [show (y : Int) * 4294967296 = ((y * 4294967296 : Nat) : Int) by omega, gor]; simp)
        clear gor
        have dlt : decide ((W0 : Int) + k + 1 < la.length) = true := decide_eq_true (by have := HNN.out; omega)
        go_wp2
        go_roundw
        case rel => exact HST.out y _ _ (by rw [drop_getD, ← Nat.add_assoc]; exact HYE.out) (Nat.le_refl _) GU.out (by omega)
        case measure => simp [intOf]; omega
      · have dlt : decide ((W0 : Int) + k + 1 < la.length) = false := decide_eq_false (by have := HNN.out; omega)
        go_wp2
        go_roundw
        case rel => exact HST.out 0 _ _ (by rw [drop_getD]; simp [List.getD_eq_getElem?_getD, HNN.out]; rw [List.getElem?_eq_none (by have := HNN.out; omega)]; rfl) (Nat.le_refl _) (by simp) (by omega)
        case measure => simp [intOf]; omega
    · obtain rfl : k = N := by omega
      have CT := Lib.hid (Bcut o (some ⟨w.heap.size, 0, none⟩) k HWO.out (by rw [HO.out]; exact Nat.le_refl _) (by rw [HO.out]; omega) _ hown.at)
      rw [HO.out] at CT
      go_wp2_with fail
      refine (CT.out).mono ?_; rintro e1 w1 ⟨rfl, rfl⟩
      go_wp2
      go_ret
      refine retW_cut hown.at HWO.out (by rw [HO.out]; exact Nat.le_refl _) hin ?_
      have hs := wval_split la W0
      have h1 := lo_lt la HWA.out W0
      have h2 := wval_lt _ (HWA.out.drop W0)
      rw [HDL.out] at h2
      have e : wval (la.drop W0) = wval la / 4294967296 ^ W0 := by
        rw [hs, Nat.add_mul_div_left _ _ (Nat.pow_pos (by decide)), Nat.div_eq_of_lt h1, Nat.zero_add]
      rw [← lo_all o (Nat.le_of_eq HO.out), HV.out, Nat.mod_eq_of_lt (Nat.lt_of_le_of_lt (Nat.div_le_self _ _) h2), e, Nat.div_div_eq_div_mul, HN.out, show (4294967296 : Nat) = 2 ^ 32 from rfl, ← Nat.pow_mul, ← Nat.pow_add]
set_option maxRecDepth 100000 in
set_option maxHeartbeats 600000 in
theorem Bright_nil (m : Nat) (A : Option Addr) (ca n W0 : Nat) (hW : n / 32 = W0) (h : m ≤ W0) (hn : n ≤ 40000000) (w : World) : Calls Tryz.prog 124 #[.slice A m ca, .int .u64 (n : Int)] w (RetW w 0) := by
  have hq : (n : Int) / 32 = (W0 : Int) := by omega
  have hr : (n : Int) % 32 = ((n % 32 : Nat) : Int) := by omega
  have d0 : decide ((W0 : Int) ≥ m) = true := decide_eq_true (by omega)
  clear hW
  go_enter Tryz.func124, Tryz.ntmps124
  go_wp2
  go_ret
  exact ⟨none, 0, by rw [dg_zero]; rfl, by rw [dg_zero]; exact Nat.le_refl _, by rw [dg_zero]; exact RowAt.nil, Within.refl _⟩
theorem Bright (a : Nat) (A : Option Addr) (ca n : Nat) (ha : (dg a).length ≤ 1500000) (hn : n ≤ 40000000) (w : World) (hra : RowAt w A (dg a)) :
    Calls Tryz.prog 124 #[.slice A (dg a).length ca, .int .u64 (n : Int)] w (RetW w (a / 2 ^ n)) := by
  rcases Nat.lt_or_ge (n / 32) (dg a).length with h | h
  · have := Bright_pos (dg a) A ca n (n / 32) (n % 32) (words_dg a) ha h (by omega) (by omega) w hra
    rw [wval_dg] at this
    exact this
  · have e : a / 2 ^ n = 0 := by
      apply Nat.div_eq_of_lt
      have h1 := lt_of_dg a
      have h2 : 4294967296 ^ (dg a).length ≤ 2 ^ n := by
        rw [show (4294967296 : Nat) = 2 ^ 32 from rfl, ← Nat.pow_mul]; exact Nat.pow_le_pow_right (by decide) (by omega)
      omega
    rw [e]
    exact Bright_nil _ A ca n (n / 32) rfl h hn w
end Go.Proofs.YtifgngmebnjfkaaGreatDoor
end

section
namespace Go.Proofs.YtifgngmebnjfkaaGreatDoor
open Go.RowKit
def TimesIn (W : World) (g : Nat) (lb o0 : List Nat) (x i : Nat) (cv kv : Value) (wr : World) : Prop :=
  ∃ (k c : Nat) (o : List Nat), k ≤ lb.length ∧ c < 4294967296 ∧ cv = .int .u64 (c : Int) ∧ kv = .int .i64 (k : Int) ∧ o.length = o0.length ∧ Words o ∧ OwnW wr g o ∧ lo o (i + k) + 4294967296 ^ (i + k) * c = lo o0 (i + k) + 4294967296 ^ i * (x * lo lb k) ∧ (∀ j, i + k ≤ j → o.getD j 0 = o0.getD j 0) ∧ Within W wr
theorem TimesIn.step {W wr : World} {g : Nat} {lb o0 o : List Nat} {x i k c y z n : Nat} (u v q : Int) (hn : i + k < o.length) (hk : k < lb.length) (hc : c < 4294967296) (ho : o.length = o0.length) (hwo : Words o) (hown : OwnW wr g o)
    (hval : lo o (i + k) + 4294967296 ^ (i + k) * c = lo o0 (i + k) + 4294967296 ^ i * (x * lo lb k)) (hrest : ∀ j, i + k ≤ j → o.getD j 0 = o0.getD j 0) (hin : Within W wr) (hg : W.heap.size ≤ g)
    (hx : x < 4294967296) (hy : y = lb.getD k 0) (hy2 : y < 4294967296) (hz : z = o.getD (i + k) 0) (hz2 : z < 4294967296) (n' : Nat)
    (hu : u = (((x * y + z + c) / 4294967296 : Nat) : Int)) (hv : v = (((x * y + z + c) % 4294967296 : Nat) : Int)) (hq : q = ((k + 1 : Nat) : Int)) :
    TimesIn W g lb o0 x i (.int .u64 u) (.int .i64 q) ((wr.drewN n).setCell ⟨g, i + k, none⟩ (.int .u32 v)) := by
  subst hu hv hq
  have hm := word_mul hx hy2
  refine ⟨k + 1, (x * y + z + c) / 4294967296, o.set (i + k) ((x * y + z + c) % 4294967296), by omega, by omega, rfl, rfl, by rw [List.length_set]; exact ho, hwo.set _ _ (by omega), OwnW.set (w := wr.drewN n) hown _ _ hn, ?_, ?_, (hin.drewN n).setCell hg _⟩
  · rw [show i + (k + 1) = i + k + 1 by omega, lo_set_succ _ _ _ hn, lo_succ o0, lo_succ lb, ← hy, ← hrest (i + k) (Nat.le_refl _), ← hz, Nat.pow_succ]
    have := times_step (P := 4294967296 ^ (i + k)) (Q := 4294967296 ^ i * (x * (4294967296 ^ k * y))) (x := x) (y := y) (z := z) hval _ rfl (by rw [Nat.pow_add, Nat.mul_assoc]; congr 1; rw [Nat.mul_left_comm])
    rw [Nat.mul_add x, Nat.mul_add]
    exact this
  · intro j hj
    rw [lset_ne _ _ _ _ (by omega)]
    exact hrest j (by omega)
end Go.Proofs.YtifgngmebnjfkaaGreatDoor
end

section
namespace Go.Proofs.YtifgngmebnjfkaaGreatDoor
open Go.RowKit
theorem dg_shl_len {a n k : Nat} (ha : (dg a).length ≤ n) : (dg (a * 2 ^ (32 * k))).length ≤ n + k := by
  refine dg_len_le ?_
  have h1 := Nat.lt_of_lt_of_le (lt_of_dg a) (Nat.pow_le_pow_right (by decide) ha)
  rw [Nat.pow_add, Nat.pow_mul]
  exact Nat.mul_lt_mul_of_pos_right h1 (Nat.pow_pos (by decide))
theorem dg_shl_le {a n j k : Nat} (ha : (dg a).length ≤ n) (hj : j ≤ 32 * k) : (dg (a * 2 ^ j)).length ≤ n + k :=
  Nat.le_trans (dg_len_mono (Nat.mul_le_mul_left _ (Nat.pow_le_pow_right (by decide) hj))) (dg_shl_len ha)
set_option maxRecDepth 100000 in
set_option maxHeartbeats 600000 in
theorem Blsh0 (z x n : Nat) (sa : Bool) (na : Nat) (A : Option Addr) (ca : Nat) (ha : (dg na).length ≤ 400000) (hn : n ≤ 16000000) (w : World) (hz : IntTy w z) (a0 : w.cell? ⟨x, 0, none⟩ = some (.bool sa)) (a1 : w.cell? ⟨x, 1, none⟩ = some (.slice A (dg na).length ca)) (hra : RowAt w A (dg na)) : Calls Tryz.prog 60 #[.pointer (some ⟨z, 0, none⟩), .pointer (some ⟨x, 0, none⟩), .int .u64 (n : Int)] w (PutI w z (sgv sa (na * 2 ^ n))) := by
  have HZ := Lib.hid hz; have HRA := Lib.hid hra; clear hz hra
  have hlx := World.block_lt_of_cell? w _ a0
  go_enter Tryz.func60, Tryz.ntmps60
  go_wp2
  refine wp_region_sched (fun W => W.cell? ⟨x, 0, none⟩ = some (.bool sa) ∧ W.cell? ⟨x, 1, none⟩ = some (.slice A (dg na).length ca)) 11 [(0, true), (1, true), (2, true), (3, true), (4, true), (5, true), (6, true), (7, true), (8, true), (9, true), (10, false), (11, false), (12, false)] (by kernel_rfl) (by kernel_rfl) ⟨a0, a1⟩ ?_
  intro hS
  repeat
    apply sched_firm rfl rfl hS
    · intro wq hq
      have hq0 := hq.1; have hq1 := hq.2
      clear hq
      go_simp
      first | rfl | (trace_state; fail)
    try simp only [Act.put, List.setIfInBounds_toArray, List.set_cons_zero, List.set_cons_succ]
  refine sched_one rfl rfl (fun K hK => ?_)
  go_simp
  refine (Bleft na A ca n (by omega) hn w.drew (RowAt.drew HRA.out)).mono ?_
  rintro e2 w2 ⟨A', c', rfl, hc', hr', hb'⟩
  have hb2 : Within w w2 := (Within.refl w).drew.trans hb'
  refine hK _ _ (fun h => ⟨(hb2.cells _ _ hlx).trans a0, (hb2.cells _ _ hlx).trans a1⟩) ?_
  clear hK K
  try simp only [Act.put, List.setIfInBounds_toArray, List.set_cons_zero, List.set_cons_succ]
  refine sched_one rfl rfl (fun K hK => ?_)
  go_simp
  refine (Bput z _ (dg (na * 2 ^ n)) A' c' (words_dg _) hc' (Nat.le_trans (dg_shl_le (k := 500000) ha (by omega)) (by decide)) w2 hr' (HZ.out.of hb2)).mono ?_
  rintro e3 w3 ⟨rfl, hI, hG⟩
  refine hK _ _ (fun h => absurd h (by decide)) ?_
  clear hK K
  try simp only [Act.put, List.setIfInBounds_toArray, List.set_cons_zero, List.set_cons_succ]
  refine sched_one rfl rfl (fun K hK => ?_)
  go_simp
  refine hK _ _ (fun h => absurd h (by decide)) ?_
  clear hK K
  try simp only [Act.put, List.setIfInBounds_toArray, List.set_cons_zero, List.set_cons_succ]
  refine sched_nil ?_
  go_wp2
  go_ret
  rw [wval_dg] at hI
  exact ⟨rfl, hI, grown_trans (grown_within z hb2) hG⟩
theorem Blsh (z x n : Nat) (a : Int) (ha : (dg a.natAbs).length ≤ 400000) (hn : n ≤ 16000000) (w : World) (hz : IntTy w z) (hx : IntB w x a) : Calls Tryz.prog 60 #[.pointer (some ⟨z, 0, none⟩), .pointer (some ⟨x, 0, none⟩), .int .u64 (n : Int)] w (PutI w z (a * 2 ^ n)) := by
  obtain ⟨A, ca, a0, a1, hra⟩ := hx.rd
  refine Calls.mono (Blsh0 z x n _ _ A ca ha hn w hz a0 a1 hra) (fun _ _ h => PutI_eq h ?_)
  have e : ((a.natAbs * 2 ^ n : Nat) : Int) = (a.natAbs : Int) * 2 ^ n := by simp
  unfold sgv
  by_cases ha0 : a < 0
  · rw [if_pos (decide_eq_true ha0), e, ← Int.neg_mul]; congr 1; omega
  · rw [decide_eq_false ha0, if_neg (by decide), e]; congr 1; omega
set_option maxRecDepth 100000 in
set_option maxHeartbeats 600000 in
theorem Brsh0 (z x n : Nat) (na : Nat) (A : Option Addr) (ca : Nat) (ha : (dg na).length ≤ 1500000) (hn : n ≤ 40000000) (w : World) (hz : IntTy w z) (a0 : w.cell? ⟨x, 0, none⟩ = some (.bool false)) (a1 : w.cell? ⟨x, 1, none⟩ = some (.slice A (dg na).length ca)) (hra : RowAt w A (dg na)) : Calls Tryz.prog 97 #[.pointer (some ⟨z, 0, none⟩), .pointer (some ⟨x, 0, none⟩), .int .u64 (n : Int)] w (PutI w z ((na / 2 ^ n : Nat) : Int)) := by
  have HZ := Lib.hid hz; have HRA := Lib.hid hra; clear hz hra
  go_enter Tryz.func97, Tryz.ntmps97
  go_wp2_with fail
  refine (Bright na A ca n ha hn w HRA.out).mono ?_; rintro e2 w2 ⟨A', c', rfl, hc', hr', hb2⟩
  go_wp2_with fail
  refine (Bput z false (dg (na / 2 ^ n)) A' c' (words_dg _) hc' (Nat.le_trans (dg_len_mono (Nat.div_le_self _ _)) (by omega)) w2 hr' (HZ.out.of hb2)).mono ?_
  rintro e3 w3 ⟨rfl, hI, hG⟩
  go_wp2
  go_ret
  rw [wval_dg, sgv_no] at hI
  exact ⟨rfl, hI, grown_trans (grown_within z hb2) hG⟩
theorem Brsh (z x n : Nat) (a : Nat) (ha : (dg a).length ≤ 1500000) (hn : n ≤ 40000000) (w : World) (hz : IntTy w z) (hx : IntB w x a) : Calls Tryz.prog 97 #[.pointer (some ⟨z, 0, none⟩), .pointer (some ⟨x, 0, none⟩), .int .u64 (n : Int)] w (PutI w z ((a / 2 ^ n : Nat) : Int)) := by
  obtain ⟨A, ca, a0, a1, hra⟩ := hx.rd
  rw [decide_eq_false (by omega)] at a0
  exact Brsh0 z x n a A ca ha hn w hz a0 a1 hra
end Go.Proofs.YtifgngmebnjfkaaGreatDoor
end

section
namespace Go.Proofs.YtifgngmebnjfkaaGreatDoor
open Go.RowKit
set_option maxRecDepth 100000 in
set_option maxHeartbeats 600000 in
theorem Bsign_zero (x : Nat) (v : Int) (h : v = 0) (w : World) (hx : IntB w x v) : Calls Tryz.prog 53 #[.pointer (some ⟨x, 0, none⟩)] w (fun e w' => e = .returned (.int .i64 (0)) ∧ w = w') := by
  obtain ⟨A, c, c0, c1, _⟩ := hx.rd
  subst h
  rw [show (dg (0 : Int).natAbs) = [] from dg_zero] at c1
  have d : (((List.length ([] : List Nat) : Nat) : Int) == 0) = true := rfl
  clear hx
  go_enter Tryz.func53, Tryz.ntmps53
  go_wp2
  go_ret
  exact ⟨rfl, rfl⟩
set_option maxRecDepth 100000 in
set_option maxHeartbeats 600000 in
theorem Bsign_neg (x : Nat) (v : Int) (h : v < 0) (w : World) (hx : IntB w x v) : Calls Tryz.prog 53 #[.pointer (some ⟨x, 0, none⟩)] w (fun e w' => e = .returned (.int .i64 (-1)) ∧ w = w') := by
  obtain ⟨A, c, c0, c1, _⟩ := hx.rd
  have hp := dg_len_pos (n := v.natAbs) (by omega)
  rw [decide_eq_true (by omega)] at c0
  obtain ⟨k, hk⟩ : ∃ k, k = (dg v.natAbs).length := ⟨_, rfl⟩
  rw [← hk] at c1 hp
  clear hk
  have d : ((k : Int) == 0) = false := beq_eq_false_iff_ne.2 (by omega)
  clear hx h
  go_enter Tryz.func53, Tryz.ntmps53
  go_wp2
  go_ret
  exact ⟨rfl, rfl⟩
set_option maxRecDepth 100000 in
set_option maxHeartbeats 600000 in
theorem Bsign_pos (x : Nat) (v : Int) (h : 0 < v) (w : World) (hx : IntB w x v) : Calls Tryz.prog 53 #[.pointer (some ⟨x, 0, none⟩)] w (fun e w' => e = .returned (.int .i64 (1)) ∧ w = w') := by
  obtain ⟨A, c, c0, c1, _⟩ := hx.rd
  have hp := dg_len_pos (n := v.natAbs) (by omega)
  rw [decide_eq_false (by omega)] at c0
  obtain ⟨k, hk⟩ : ∃ k, k = (dg v.natAbs).length := ⟨_, rfl⟩
  rw [← hk] at c1 hp
  clear hk
  have d : ((k : Int) == 0) = false := beq_eq_false_iff_ne.2 (by omega)
  clear hx h
  go_enter Tryz.func53, Tryz.ntmps53
  go_wp2
  go_ret
  exact ⟨rfl, rfl⟩
theorem Bsign (x : Nat) (v : Int) (w : World) (hx : IntB w x v) : Calls Tryz.prog 53 #[.pointer (some ⟨x, 0, none⟩)] w (fun e w' => e = .returned (.int .i64 v.sign) ∧ w = w') := by
  rcases Int.lt_trichotomy v 0 with h | h | h
  · rw [Int.sign_eq_neg_one_of_neg h]; exact Bsign_neg x v h w hx
  · subst h; exact Bsign_zero x 0 rfl w hx
  · rw [Int.sign_eq_one_of_pos h]; exact Bsign_pos x v h w hx
def cmpI (a b : Int) : Int := if a < b then -1 else if b < a then 1 else 0
theorem cmpN_range (a b : Nat) : -1 ≤ cmpN a b ∧ cmpN a b ≤ 1 := by unfold cmpN; split <;> (try split) <;> omega
set_option maxRecDepth 100000 in
set_option maxHeartbeats 600000 in
theorem Bcmp_00 (x y : Nat) (na nb : Nat) (A Bv : Option Addr) (ca cb : Nat) (ha : (dg na).length ≤ 1000000) (hb : (dg nb).length ≤ 1000000) (w : World) (a0 : w.cell? ⟨x, 0, none⟩ = some (.bool false)) (a1 : w.cell? ⟨x, 1, none⟩ = some (.slice A (dg na).length ca)) (hra : RowAt w A (dg na)) (b0 : w.cell? ⟨y, 0, none⟩ = some (.bool false)) (b1 : w.cell? ⟨y, 1, none⟩ = some (.slice Bv (dg nb).length cb)) (hrb : RowAt w Bv (dg nb)) : Calls Tryz.prog 104 #[.pointer (some ⟨x, 0, none⟩), .pointer (some ⟨y, 0, none⟩)] w (fun e w' => e = .returned (.int .i64 (cmpN na nb)) ∧ Within w w') := by
  have HRA := Lib.hid hra; have HRB := Lib.hid hrb; clear hra hrb
  have hlx := World.block_lt_of_cell? w _ a0; have hly := World.block_lt_of_cell? w _ b0
  go_enter Tryz.func104, Tryz.ntmps104
  go_wp2
  go_quiet (fail)
  go_wp2
  obtain ⟨w1, hw1⟩ : ∃ w1, w1 = w.drewN nq := ⟨_, rfl⟩
  rw [← hw1]
  have hb1 : Within w w1 := by rw [hw1]; exact (Within.refl w).drewN _
  have a0' := (hb1.cells _ 0 hlx).trans a0; have a1' := (hb1.cells _ 1 hlx).trans a1; have b1' := (hb1.cells _ 1 hly).trans b1
  clear hw1
  refine wp_region_sched (fun W => W.cell? ⟨x, 1, none⟩ = some (.slice A (dg na).length ca) ∧ W.cell? ⟨y, 1, none⟩ = some (.slice Bv (dg nb).length cb)) 8 [(0, true), (1, true), (2, true), (3, true), (4, true), (5, true), (6, true), (7, true), (8, false), (9, false)] (by kernel_rfl) (by kernel_rfl) ⟨a1', b1'⟩ ?_
  intro hS
  repeat
    apply sched_firm rfl rfl hS
    · intro wq hq
      have hq0 := hq.1; have hq1 := hq.2
      clear hq
      go_simp
      first | rfl | (trace_state; fail)
    try simp only [Act.put, List.setIfInBounds_toArray, List.set_cons_zero, List.set_cons_succ]
  refine sched_one rfl rfl (fun K hK => ?_)
  go_simp
  refine (Bcompare na nb A Bv ca cb (by omega) (by omega) w1.drew (RowAt.drew (HRA.out.of hb1)) (RowAt.drew (HRB.out.of hb1))).mono ?_
  rintro e1 w2 ⟨rfl, hb2'⟩
  obtain ⟨cm, hcm⟩ : ∃ cm, cm = cmpN na nb := ⟨_, rfl⟩
  have hr := cmpN_range na nb
  rw [← hcm] at hr ⊢
  have HCM := Lib.hid hcm; clear hcm
  have hb2 : Within w w2 := hb1.drew.trans hb2'
  refine hK _ _ (fun h => absurd h (by decide)) ?_
  clear hK K
  try simp only [Act.put, List.setIfInBounds_toArray, List.set_cons_zero, List.set_cons_succ]
  refine sched_one rfl rfl (fun K hK => ?_)
  go_simp
  refine hK _ _ (fun h => absurd h (by decide)) ?_
  clear hK K
  try simp only [Act.put, List.setIfInBounds_toArray, List.set_cons_zero, List.set_cons_succ]
  refine sched_nil ?_
  have a0'' := (hb2.cells _ 0 hlx).trans a0
  go_wp2
  go_ret
  exact ⟨ret_int (by rw [HCM.out]), hb2⟩
set_option maxRecDepth 100000 in
set_option maxHeartbeats 600000 in
theorem Bcmp_01 (x y : Nat) (na nb : Nat) (A Bv : Option Addr) (ca cb : Nat) (ha : (dg na).length ≤ 1000000) (hb : (dg nb).length ≤ 1000000) (w : World) (a0 : w.cell? ⟨x, 0, none⟩ = some (.bool false)) (a1 : w.cell? ⟨x, 1, none⟩ = some (.slice A (dg na).length ca)) (hra : RowAt w A (dg na)) (b0 : w.cell? ⟨y, 0, none⟩ = some (.bool true)) (b1 : w.cell? ⟨y, 1, none⟩ = some (.slice Bv (dg nb).length cb)) (hrb : RowAt w Bv (dg nb)) : Calls Tryz.prog 104 #[.pointer (some ⟨x, 0, none⟩), .pointer (some ⟨y, 0, none⟩)] w (fun e w' => e = .returned (.int .i64 (1)) ∧ Within w w') := by
  clear hra hrb ha hb
  go_enter Tryz.func104, Tryz.ntmps104
  go_wp2
  go_quiet (fail)
  go_wp2
  go_ret
  exact ⟨rfl, (Within.refl w).drewN _⟩
set_option maxRecDepth 100000 in
set_option maxHeartbeats 600000 in
theorem Bcmp_10 (x y : Nat) (na nb : Nat) (A Bv : Option Addr) (ca cb : Nat) (ha : (dg na).length ≤ 1000000) (hb : (dg nb).length ≤ 1000000) (w : World) (a0 : w.cell? ⟨x, 0, none⟩ = some (.bool true)) (a1 : w.cell? ⟨x, 1, none⟩ = some (.slice A (dg na).length ca)) (hra : RowAt w A (dg na)) (b0 : w.cell? ⟨y, 0, none⟩ = some (.bool false)) (b1 : w.cell? ⟨y, 1, none⟩ = some (.slice Bv (dg nb).length cb)) (hrb : RowAt w Bv (dg nb)) : Calls Tryz.prog 104 #[.pointer (some ⟨x, 0, none⟩), .pointer (some ⟨y, 0, none⟩)] w (fun e w' => e = .returned (.int .i64 (-1)) ∧ Within w w') := by
  clear hra hrb ha hb
  go_enter Tryz.func104, Tryz.ntmps104
  go_wp2
  go_quiet (fail)
  go_wp2
  go_ret
  exact ⟨rfl, (Within.refl w).drewN _⟩
set_option maxRecDepth 100000 in
set_option maxHeartbeats 600000 in
theorem Bcmp_11 (x y : Nat) (na nb : Nat) (A Bv : Option Addr) (ca cb : Nat) (ha : (dg na).length ≤ 1000000) (hb : (dg nb).length ≤ 1000000) (w : World) (a0 : w.cell? ⟨x, 0, none⟩ = some (.bool true)) (a1 : w.cell? ⟨x, 1, none⟩ = some (.slice A (dg na).length ca)) (hra : RowAt w A (dg na)) (b0 : w.cell? ⟨y, 0, none⟩ = some (.bool true)) (b1 : w.cell? ⟨y, 1, none⟩ = some (.slice Bv (dg nb).length cb)) (hrb : RowAt w Bv (dg nb)) : Calls Tryz.prog 104 #[.pointer (some ⟨x, 0, none⟩), .pointer (some ⟨y, 0, none⟩)] w (fun e w' => e = .returned (.int .i64 (-cmpN na nb)) ∧ Within w w') := by
  have HRA := Lib.hid hra; have HRB := Lib.hid hrb; clear hra hrb
  have hlx := World.block_lt_of_cell? w _ a0; have hly := World.block_lt_of_cell? w _ b0
  go_enter Tryz.func104, Tryz.ntmps104
  go_wp2
  go_quiet (fail)
  go_wp2
  obtain ⟨w1, hw1⟩ : ∃ w1, w1 = w.drewN nq := ⟨_, rfl⟩
  rw [← hw1]
  have hb1 : Within w w1 := by rw [hw1]; exact (Within.refl w).drewN _
  have a0' := (hb1.cells _ 0 hlx).trans a0; have a1' := (hb1.cells _ 1 hlx).trans a1; have b1' := (hb1.cells _ 1 hly).trans b1
  clear hw1
  refine wp_region_sched (fun W => W.cell? ⟨x, 1, none⟩ = some (.slice A (dg na).length ca) ∧ W.cell? ⟨y, 1, none⟩ = some (.slice Bv (dg nb).length cb)) 8 [(0, true), (1, true), (2, true), (3, true), (4, true), (5, true), (6, true), (7, true), (8, false), (9, false)] (by kernel_rfl) (by kernel_rfl) ⟨a1', b1'⟩ ?_
  intro hS
  repeat
    apply sched_firm rfl rfl hS
    · intro wq hq
      have hq0 := hq.1; have hq1 := hq.2
      clear hq
      go_simp
      first | rfl | (trace_state; fail)
    try simp only [Act.put, List.setIfInBounds_toArray, List.set_cons_zero, List.set_cons_succ]
  refine sched_one rfl rfl (fun K hK => ?_)
  go_simp
  refine (Bcompare na nb A Bv ca cb (by omega) (by omega) w1.drew (RowAt.drew (HRA.out.of hb1)) (RowAt.drew (HRB.out.of hb1))).mono ?_
  rintro e1 w2 ⟨rfl, hb2'⟩
  obtain ⟨cm, hcm⟩ : ∃ cm, cm = cmpN na nb := ⟨_, rfl⟩
  have hr := cmpN_range na nb
  rw [← hcm] at hr ⊢
  have HCM := Lib.hid hcm; clear hcm
  have hb2 : Within w w2 := hb1.drew.trans hb2'
  refine hK _ _ (fun h => absurd h (by decide)) ?_
  clear hK K
  try simp only [Act.put, List.setIfInBounds_toArray, List.set_cons_zero, List.set_cons_succ]
  refine sched_one rfl rfl (fun K hK => ?_)
  go_simp
  refine hK _ _ (fun h => absurd h (by decide)) ?_
  clear hK K
  try simp only [Act.put, List.setIfInBounds_toArray, List.set_cons_zero, List.set_cons_succ]
  refine sched_nil ?_
  have a0'' := (hb2.cells _ 0 hlx).trans a0
  have g1 : IntKind.i64.wrap (-cm) = -cm := by rw [IntKind.wrap_i64]; omega
  go_wp2
  go_ret
  exact ⟨ret_int (by rw [HCM.out]), hb2⟩
theorem Bcmp (x y : Nat) (a b : Int) (ha : (dg a.natAbs).length ≤ 1000000) (hb : (dg b.natAbs).length ≤ 1000000) (w : World) (hx : IntB w x a) (hy : IntB w y b) : Calls Tryz.prog 104 #[.pointer (some ⟨x, 0, none⟩), .pointer (some ⟨y, 0, none⟩)] w (fun e w' => e = .returned (.int .i64 (cmpI a b)) ∧ Within w w') := by
  obtain ⟨A, ca, a0, a1, hra⟩ := hx.rd
  obtain ⟨Bv, cb, b0, b1, hrb⟩ := hy.rd
  by_cases ha0 : a < 0 <;> by_cases hb0 : b < 0
  · rw [decide_eq_true ha0] at a0; rw [decide_eq_true hb0] at b0
    refine (Bcmp_11 x y _ _ A Bv ca cb ha hb w a0 a1 hra b0 b1 hrb).mono fun e w' h => ⟨h.1.trans (ret_int ?_), h.2⟩
    unfold cmpI cmpN; repeat' split
    all_goals omega
  · rw [decide_eq_true ha0] at a0; rw [decide_eq_false hb0] at b0
    refine (Bcmp_10 x y _ _ A Bv ca cb ha hb w a0 a1 hra b0 b1 hrb).mono fun e w' h => ⟨h.1.trans (ret_int ?_), h.2⟩
    unfold cmpI; rw [if_pos (by omega)]
  · rw [decide_eq_false ha0] at a0; rw [decide_eq_true hb0] at b0
    refine (Bcmp_01 x y _ _ A Bv ca cb ha hb w a0 a1 hra b0 b1 hrb).mono fun e w' h => ⟨h.1.trans (ret_int ?_), h.2⟩
    unfold cmpI; rw [if_neg (by omega), if_pos (by omega)]
  · rw [decide_eq_false ha0] at a0; rw [decide_eq_false hb0] at b0
    refine (Bcmp_00 x y _ _ A Bv ca cb ha hb w a0 a1 hra b0 b1 hrb).mono fun e w' h => ⟨h.1.trans (ret_int ?_), h.2⟩
    unfold cmpI cmpN; repeat' split
    all_goals omega
def blen (n : Nat) : Nat := if n = 0 then 0 else n.log2 + 1
theorem blen_zero : blen 0 = 0 := rfl
theorem blen_pos {n : Nat} (h : n ≠ 0) : blen n = n.log2 + 1 := if_neg h
theorem blen_top {n k : Nat} (hk : (dg n).length = k + 1) : blen n = 32 * k + Lib.bitLen ((dg n).getD k 0) ∧ (dg n).getD k 0 ≠ 0 ∧ (dg n).getD k 0 < 4294967296 := by
  have h0 : n ≠ 0 := fun h => by rw [h, dg_zero] at hk; simp at hk
  have ht := dg_last h0
  rw [hk, Nat.add_sub_cancel] at ht
  have hw := (words_dg n).getD k
  refine ⟨?_, ht, hw⟩
  have hs := lo_succ (dg n) k
  rw [lo_all _ (Nat.le_of_eq hk), wval_dg] at hs
  have hl := lo_lt (dg n) (words_dg n) k
  rw [blen_pos h0, bitLen_log2 _ ht (by omega)]
  generalize (dg n).getD k 0 = t at *
  have e : (4294967296 : Nat) ^ k = 2 ^ (32 * k) := by rw [show (4294967296 : Nat) = 2 ^ 32 from rfl, ← Nat.pow_mul]
  rw [e] at hs hl
  have h1 : n / 2 ^ (32 * k) = t := by
    rw [hs, Nat.add_mul_div_left _ _ (Nat.two_pow_pos _), Nat.div_eq_of_lt hl, Nat.zero_add]
  have h2 : n.log2 = 32 * k + t.log2 := by
    rw [Nat.log2_eq_iff h0]
    have a1 := Nat.log2_self_le ht
    have a2 := Nat.lt_log2_self (n := t)
    constructor
    · rw [Nat.pow_add]
      calc 2 ^ (32 * k) * 2 ^ t.log2 ≤ 2 ^ (32 * k) * t := Nat.mul_le_mul_left _ a1
        _ ≤ n := by rw [← h1]; exact Nat.mul_div_le _ _
    · rw [Nat.add_assoc, Nat.pow_add]
      have : n < 2 ^ (32 * k) * (t + 1) := by rw [← h1]; exact Nat.lt_mul_div_succ _ (Nat.two_pow_pos _)
      exact Nat.lt_of_lt_of_le this (Nat.mul_le_mul_left _ a2)
  omega
set_option maxRecDepth 100000 in
set_option maxHeartbeats 600000 in
theorem bits_len32' (x : Int) (w : World) (h0 : 0 ≤ x) (h1 : x ≤ 4294967295) : Calls Tryz.prog 123 #[.int .u32 x] w (fun e w' => e = .returned (.int .i64 (Lib.bitLen x.toNat)) ∧ w = w') := by
  have hsz := len8_size
  go_enter Tryz.func123, Tryz.ntmps123
  go_wp2
  all_goals (go_ret; refine ⟨ret_int ?_, rfl⟩)
  all_goals simp only [len8_at]
  · rw [← len_e24 x.toNat (by omega) (by omega), show (x / 65536 / 256).toNat = x.toNat / 16777216 by omega]
  · rw [← len_e16 x.toNat (by omega) (by omega), show (x / 65536).toNat = x.toNat / 65536 by omega]
  · rw [← len_e8 x.toNat (by omega) (by omega), show (x / 256).toNat = x.toNat / 256 by omega]
  · have := len_e0 x.toNat (by omega); simpa using this
theorem bits_len32 (x : Nat) (hx : x < 4294967296) (w : World) : Calls Tryz.prog 123 #[.int .u32 (x : Int)] w (fun e w' => e = .returned (.int .i64 (Lib.bitLen x)) ∧ w = w') := by
  have := bits_len32' (x : Int) w (by omega) (by omega)
  rwa [Int.toNat_natCast] at this
set_option maxRecDepth 100000 in
set_option maxHeartbeats 600000 in
theorem Bbitlen_zero (x : Nat) (w : World) (hx : IntB w x 0) : Calls Tryz.prog 95 #[.pointer (some ⟨x, 0, none⟩)] w (fun e w' => e = .returned (.int .i64 0) ∧ Within w w') := by
  obtain ⟨A, c, c0, c1, _⟩ := hx.rd
  rw [show (dg (0 : Int).natAbs) = [] from dg_zero] at c1
  clear hx
  go_enter Tryz.func95, Tryz.ntmps95
  go_wp2
  go_ret
  exact ⟨rfl, Within.refl _⟩
set_option maxRecDepth 100000 in
set_option maxHeartbeats 600000 in
theorem Bbitlen_pos (x k t gm c L : Nat) (hk : k ≤ 1000000) (hL : L ≤ 32) (w : World) (c1 : w.cell? ⟨x, 1, none⟩ = some (.slice (some ⟨gm, 0, none⟩) (k + 1) c)) (ct : w.cell? ⟨gm, k, none⟩ = some (.int .u32 (t : Int))) (LN : Hid (∀ w, Calls Tryz.prog 123 #[.int .u32 (t : Int)] w (fun e w' => e = .returned (.int .i64 (L : Int)) ∧ w = w'))) : Calls Tryz.prog 95 #[.pointer (some ⟨x, 0, none⟩)] w (fun e w' => e = .returned (.int .i64 (32 * (k : Int) + (L : Int))) ∧ Within w w') := by
  have e1 : IntKind.i64.wrap (k : Int) = (k : Int) := by rw [IntKind.wrap_i64]; omega
  have e2 : IntKind.i64.wrap (32 * (k : Int)) = 32 * (k : Int) := by rw [IntKind.wrap_i64]; omega
  have e3 : IntKind.i64.wrap (32 * (k : Int) + (L : Int)) = 32 * (k : Int) + (L : Int) := by rw [IntKind.wrap_i64]; omega
  have e4 : (k : Int) < (k : Int) + 1 := by omega
  go_enter Tryz.func95, Tryz.ntmps95
  go_wp2
  refine wp_region_sched (fun W => W.cell? ⟨x, 1, none⟩ = some (.slice (some ⟨gm, 0, none⟩) (k + 1) c) ∧ W.cell? ⟨gm, k, none⟩ = some (.int .u32 (t : Int))) 20 [(0, true), (1, true), (2, true), (3, true), (4, true), (5, true), (6, true), (7, true), (8, true), (9, true), (10, true), (11, true), (12, true), (13, true), (14, true), (15, true), (16, true), (17, true), (18, true), (19, false), (20, false), (21, false)] (by kernel_rfl) (by kernel_rfl) ⟨c1, ct⟩ ?_
  intro hS
  repeat
    apply sched_firm rfl rfl hS
    · intro wq hq
      have hq0 := hq.1; have hq1 := hq.2
      clear hq
      go_simp
      first | rfl | (trace_state; fail)
    try simp only [Act.put, List.setIfInBounds_toArray, List.set_cons_zero, List.set_cons_succ]
  refine sched_one rfl rfl (fun K hK => ?_)
  go_simp
  refine (LN.out w.drew).mono ?_
  rintro e1 w2 ⟨rfl, rfl⟩
  refine hK _ _ (fun h => ⟨c1, ct⟩) ?_
  clear hK K
  try simp only [Act.put, List.setIfInBounds_toArray, List.set_cons_zero, List.set_cons_succ]
  refine sched_one rfl rfl (fun K hK => ?_)
  go_simp
  refine hK _ _ (fun h => absurd h (by decide)) ?_
  clear hK K
  try simp only [Act.put, List.setIfInBounds_toArray, List.set_cons_zero, List.set_cons_succ]
  refine sched_one rfl rfl (fun K hK => ?_)
  go_simp
  refine hK _ _ (fun h => absurd h (by decide)) ?_
  clear hK K
  try simp only [Act.put, List.setIfInBounds_toArray, List.set_cons_zero, List.set_cons_succ]
  refine sched_nil ?_
  go_wp2
  go_ret
  exact ⟨rfl, (Within.refl w).drew⟩
theorem Bbitlen (x : Nat) (v : Int) (hv : (dg v.natAbs).length ≤ 1000000) (w : World) (hx : IntB w x v) : Calls Tryz.prog 95 #[.pointer (some ⟨x, 0, none⟩)] w (fun e w' => e = .returned (.int .i64 (blen v.natAbs : Nat)) ∧ Within w w') := by
  by_cases h : v = 0
  · subst h; exact Bbitlen_zero x w hx
  · obtain ⟨A, c, c0, c1, hr⟩ := hx.rd
    obtain ⟨k, hk⟩ : ∃ k, (dg v.natAbs).length = k + 1 := ⟨_, (Nat.succ_pred_eq_of_pos (dg_len_pos (by omega))).symm⟩
    obtain ⟨g, rfl, _, ct⟩ := hr.cell (i := k) (by omega)
    obtain ⟨hb, h0, hlt⟩ := blen_top hk
    have hL : Lib.bitLen ((dg v.natAbs).getD k 0) ≤ 32 := by
      rw [bitLen_log2 _ h0 (by omega)]
      have := (Nat.log2_lt h0 (k := 32)).2 hlt
      omega
    rw [hk] at c1
    refine (Bbitlen_pos x k _ g c _ (by omega) hL w c1 ct (Lib.hid fun w => bits_len32 _ hlt w)).mono fun e w' h => ⟨h.1.trans (ret_int ?_), h.2⟩
    rw [hb]; omega
end Go.Proofs.YtifgngmebnjfkaaGreatDoor
end

section
namespace Go.Proofs.YtifgngmebnjfkaaGreatDoor
open Go.RowKit
theorem IntB.drewN {w : World} {g : Nat} {v : Int} (h : IntB w g v) (n : Nat) : IntB (w.drewN n) g v := h.of ((Within.refl _).drewN _)
theorem dg_small {n k : Nat} (h : n < 2 ^ (32 * k)) : (dg n).length ≤ k := dg_len_le (by rw [show (4294967296 : Nat) = 2 ^ 32 from rfl, ← Nat.pow_mul]; exact h)
theorem dg_pow_le {s k : Nat} (h : s < 32 * k) : (dg (2 ^ s)).length ≤ k := dg_small (Nat.pow_lt_pow_right (by decide) h)
theorem IntB.drew {w : World} {g : Nat} {v : Int} (h : IntB w g v) : IntB w.drew g v := h.of (Within.refl _).drew
def tK (top fr fd : Nat) : Int := if fd = top then (if fr = 0 then 1 else 2) else 0
def tN (top fr fd : Nat) (ng : Bool) : Bool := if fd = top ∧ fr ≠ 0 then false else ng
def tM (top hid fr fd : Nat) : Nat := if fd = top then 0 else if fd = 0 then fr else fr + hid
def tE (top : Nat) (lo : Int) (fr fd : Nat) : Int := if fd = top then (if fr = 0 then lo else 0) else if fd = 0 then lo else (fd : Int) - 1 + lo
def kD (b : Nat) : Int := tK 2047 (b % 4503599627370496) (b / 4503599627370496 % 2048)
def nD (b : Nat) : Bool := tN 2047 (b % 4503599627370496) (b / 4503599627370496 % 2048) (decide (9223372036854775808 ≤ b))
def mD (b : Nat) : Nat := tM 2047 4503599627370496 (b % 4503599627370496) (b / 4503599627370496 % 2048)
def eD (b : Nat) : Int := tE 2047 (-1074) (b % 4503599627370496) (b / 4503599627370496 % 2048)
theorem mD_lt (b : Nat) : mD b < 9007199254740992 := by unfold mD tM; split <;> (try split) <;> omega
theorem eD_range (b : Nat) : -1100 ≤ eD b ∧ eD b ≤ 1000 := by unfold eD tE; split <;> (try split) <;> omega
theorem RtakeXD (b : Nat) (hb : b < 18446744073709551616) (w : World) : Calls Tryz.prog 49 #[fmD, .int .u64 (b : Int)] w (fun e w' => ∃ g, e = .returned (.agg #[.int .i64 (kD b), .bool (nD b), .pointer (some ⟨g, 0, none⟩), .int .i64 (eD b)]) ∧ IntB w' g (mD b : Int) ∧ w.heap.size ≤ g ∧ Within w w') := RtakeD b hb w
set_option maxRecDepth 100000 in
set_option maxHeartbeats 600000 in
theorem RDouble (w : World) : Calls Tryz.prog 48 #[] w (fun e w' => e = .returned fmD ∧ Within w w') := by
  go_enter Tryz.func48, Tryz.ntmps48
  go_wp2
  first | (go_ret; exact ⟨rfl, (by repeat (first | with_reducible exact Within.refl _ | with_reducible assumption | with_reducible refine Within.alloc ?_ _ | with_reducible refine Within.drew ?_ | with_reducible refine Within.drewN ?_ _ | with_reducible refine Within.setCell ?_ (by first | (simp; done) | (simp; omega)) _ | with_reducible refine Within.trans ?_ (by assumption)))⟩) | (refine bodyPost_ret (v := fmD) (by simp [results, Tryz.results48, go_sem]) rfl ⟨rfl, (by repeat (first | with_reducible exact Within.refl _ | with_reducible assumption | with_reducible refine Within.alloc ?_ _ | with_reducible refine Within.drew ?_ | with_reducible refine Within.drewN ?_ _ | with_reducible refine Within.setCell ?_ (by first | (simp; done) | (simp; omega)) _ | with_reducible refine Within.trans ?_ (by assumption)))⟩)
theorem mD_mag {x : Nat} (hf : x % 9223372036854775808 < 9218868437227405312) : magD x = mD x * 2 ^ (eD x + 1074).toNat ∧ kD x = 0 ∧ nD x = ngD x ∧ (mD x = 0 ↔ x % 9223372036854775808 = 0) := by
  have hfd : ¬ x / 4503599627370496 % 2048 = 2047 := by omega
  refine ⟨?_, by unfold kD tK; rw [if_neg hfd], by unfold nD tN ngD; rw [if_neg (fun h => hfd h.1)], ?_⟩
  · unfold magD Fp.mag
    rw [Fp.dB]
    unfold mD eD tM tE
    rw [if_neg hfd, if_neg hfd]
    by_cases h0 : x / 4503599627370496 % 2048 = 0
    · rw [if_pos h0, if_pos h0, if_pos (by omega), show ((-1074 : Int) + 1074).toNat = 0 from rfl, Nat.pow_zero, Nat.mul_one]; omega
    · rw [if_neg h0, if_neg h0, if_neg (by omega)]
      congr 1
      · omega
      · congr 1; omega
  · unfold mD tM
    rw [if_neg hfd]
    by_cases h0 : x / 4503599627370496 % 2048 = 0
    · rw [if_pos h0]; omega
    · rw [if_neg h0]; omega
theorem eD_lo (x : Nat) (h : kD x = 0) : -1074 ≤ eD x := by
  unfold kD tK at h
  unfold eD tE
  split at h
  · split at h <;> omega
  · rename_i h1; rw [if_neg h1]; split <;> omega
def PtrI (W : World) (v : Int) (s : Value) (wx : World) : Prop := ∃ g, s = .pointer (some ⟨g, 0, none⟩) ∧ IntB wx g v ∧ W.heap.size ≤ g
end Go.Proofs.YtifgngmebnjfkaaGreatDoor
end

section
namespace Go.Proofs.YtifgngmebnjfkaaGreatDoor
open Go.RowKit
def topR (ng : Bool) (mode : Int) : Bool := decide (mode = 2) || (decide (mode = 3) && ng) || (decide (mode = 4) && !ng)
set_option maxRecDepth 100000 in
set_option maxHeartbeats 600000 in
theorem Riszero_no (kind e v : Int) (ng : Bool) (g : Nat) (hk : (kind == 0) = false) (w : World) (hI : IntB w g v) : Calls Tryz.prog 50 #[.agg #[.int .i64 kind, .bool ng, .pointer (some ⟨g, 0, none⟩), .int .i64 e]] w (fun e' w' => e' = .returned (.bool false) ∧ Within w w') := by
  have hb := Lib.hid (hI.alloc (.cells #[.int .i64 kind, .bool ng, .pointer (some ⟨g, 0, none⟩), .int .i64 e] 65))
  clear hI
  go_enter Tryz.func50, Tryz.ntmps50
  go_wp2
  go_ret
  exact ⟨rfl, (Within.refl w).alloc _⟩
set_option maxRecDepth 100000 in
set_option maxHeartbeats 600000 in
theorem Riszero_zero (kind e v : Int) (ng : Bool) (g : Nat) (hk : kind = 0) (hv : v = 0) (w : World) (hI : IntB w g v) : Calls Tryz.prog 50 #[.agg #[.int .i64 kind, .bool ng, .pointer (some ⟨g, 0, none⟩), .int .i64 e]] w (fun e' w' => e' = .returned (.bool true) ∧ Within w w') := by
  subst hk
  have hb := Lib.hid (hI.alloc (.cells #[.int .i64 0, .bool ng, .pointer (some ⟨g, 0, none⟩), .int .i64 e] 65))
  clear hI
  have d : (v.sign == 0) = true := by subst hv; rfl
  have HV := Lib.hid hv; clear hv
  go_enter Tryz.func50, Tryz.ntmps50
  go_wp2_with fail
  refine (Bsign g v _ hb.out).mono ?_; rintro e1 w1 ⟨rfl, rfl⟩
  go_wp2
  go_ret
  exact ⟨rfl, (Within.refl w).alloc _⟩
set_option maxRecDepth 100000 in
set_option maxHeartbeats 600000 in
theorem Riszero_some (kind e v : Int) (ng : Bool) (g : Nat) (hk : kind = 0) (hv : v ≠ 0) (w : World) (hI : IntB w g v) : Calls Tryz.prog 50 #[.agg #[.int .i64 kind, .bool ng, .pointer (some ⟨g, 0, none⟩), .int .i64 e]] w (fun e' w' => e' = .returned (.bool false) ∧ Within w w') := by
  subst hk
  have hb := Lib.hid (hI.alloc (.cells #[.int .i64 0, .bool ng, .pointer (some ⟨g, 0, none⟩), .int .i64 e] 65))
  clear hI
  have d : (v.sign == 0) = false := beq_eq_false_iff_ne.2 (fun h => hv (Int.sign_eq_zero_iff_zero.1 h))
  have HV := Lib.hid hv; clear hv
  go_enter Tryz.func50, Tryz.ntmps50
  go_wp2_with fail
  refine (Bsign g v _ hb.out).mono ?_; rintro e1 w1 ⟨rfl, rfl⟩
  go_wp2
  go_ret
  exact ⟨rfl, (Within.refl w).alloc _⟩
theorem Riszero (kind e v : Int) (ng : Bool) (g : Nat) (w : World) (hI : IntB w g v) : Calls Tryz.prog 50 #[.agg #[.int .i64 kind, .bool ng, .pointer (some ⟨g, 0, none⟩), .int .i64 e]] w (fun e' w' => e' = .returned (.bool (decide (kind = 0 ∧ v = 0))) ∧ Within w w') := by
  by_cases hk : kind = 0
  · by_cases hv : v = 0
    · rw [decide_eq_true ⟨hk, hv⟩]; exact Riszero_zero kind e v ng g hk hv w hI
    · rw [decide_eq_false (fun h => hv h.2)]; exact Riszero_some kind e v ng g hk hv w hI
  · rw [decide_eq_false (fun h => hk h.1)]; exact Riszero_no kind e v ng g (beq_eq_false_iff_ne.2 hk) w hI
set_option maxRecDepth 100000 in
set_option maxHeartbeats 600000 in
theorem RputD_0 (fd fr : Nat) (hfd : fd < 2048) (hfr : fr < 4503599627370496) (w : World) : Calls Tryz.prog 94 #[fmD, .bool false, .int .i64 (fd : Int), .int .u64 (fr : Int)] w (fun e w' => e = .returned (.int .u64 ((fd * 4503599627370496 + fr : Nat) : Int)) ∧ Within w w') := by
  have HH := Lib.hid (And.intro hfd hfr)
  have j1 : bits .or .u64 ((fd : Int) * 4503599627370496) (fr : Int) = ((fd * 4503599627370496 + fr : Nat) : Int) := by rw [show (fd : Int) * 4503599627370496 = ((fd * 4503599627370496 : Nat) : Int) by simp]; exact u64_join 52 _ _ (by omega) (by omega) (by rw [show (2 : Nat) ^ 52 = 4503599627370496 from rfl]; omega) (by rw [show (2 : Nat) ^ 52 = 4503599627370496 from rfl]; omega)
  have j2 : bits .or .u64 ((fd * 4503599627370496 + fr : Nat) : Int) 9223372036854775808 = ((fd * 4503599627370496 + fr + 9223372036854775808 : Nat) : Int) := by rw [show (9223372036854775808 : Int) = ((9223372036854775808 : Nat) : Int) from rfl, u64_or_nat _ _ (by omega) (by decide), Nat.or_comm, nat_join 63 _ _ (by decide) (by rw [show (2 : Nat) ^ 63 = 9223372036854775808 from rfl]; omega), Nat.add_comm]
  have g1 : IntKind.u64.wrap ((fd : Int) * 4503599627370496) = (fd : Int) * 4503599627370496 := by rw [IntKind.wrap_u64]; omega
  obtain ⟨a, ha⟩ : ∃ a : Nat, a = fd * 4503599627370496 + fr := ⟨_, rfl⟩
  rw [← ha] at j1 j2 ⊢
  have HA := Lib.hid ha; clear ha hfr
  go_enter Tryz.func94, Tryz.ntmps94
  go_wp2
  go_ret
  exact ⟨rfl, (by repeat (first | with_reducible exact Within.refl _ | with_reducible assumption | with_reducible refine Within.alloc ?_ _ | with_reducible refine Within.drew ?_ | with_reducible refine Within.drewN ?_ _ | with_reducible refine Within.setCell ?_ (by first | (simp; done) | (simp; omega)) _ | with_reducible refine Within.trans ?_ (by assumption)))⟩
set_option maxRecDepth 100000 in
set_option maxHeartbeats 600000 in
theorem RputD_1 (fd fr : Nat) (hfd : fd < 2048) (hfr : fr < 4503599627370496) (w : World) : Calls Tryz.prog 94 #[fmD, .bool true, .int .i64 (fd : Int), .int .u64 (fr : Int)] w (fun e w' => e = .returned (.int .u64 ((fd * 4503599627370496 + fr + 9223372036854775808 : Nat) : Int)) ∧ Within w w') := by
  have HH := Lib.hid (And.intro hfd hfr)
  have j1 : bits .or .u64 ((fd : Int) * 4503599627370496) (fr : Int) = ((fd * 4503599627370496 + fr : Nat) : Int) := by rw [show (fd : Int) * 4503599627370496 = ((fd * 4503599627370496 : Nat) : Int) by simp]; exact u64_join 52 _ _ (by omega) (by omega) (by rw [show (2 : Nat) ^ 52 = 4503599627370496 from rfl]; omega) (by rw [show (2 : Nat) ^ 52 = 4503599627370496 from rfl]; omega)
  have j2 : bits .or .u64 ((fd * 4503599627370496 + fr : Nat) : Int) 9223372036854775808 = ((fd * 4503599627370496 + fr + 9223372036854775808 : Nat) : Int) := by rw [show (9223372036854775808 : Int) = ((9223372036854775808 : Nat) : Int) from rfl, u64_or_nat _ _ (by omega) (by decide), Nat.or_comm, nat_join 63 _ _ (by decide) (by rw [show (2 : Nat) ^ 63 = 9223372036854775808 from rfl]; omega), Nat.add_comm]
  have g1 : IntKind.u64.wrap ((fd : Int) * 4503599627370496) = (fd : Int) * 4503599627370496 := by rw [IntKind.wrap_u64]; omega
  obtain ⟨a, ha⟩ : ∃ a : Nat, a = fd * 4503599627370496 + fr := ⟨_, rfl⟩
  rw [← ha] at j1 j2 ⊢
  have HA := Lib.hid ha; clear ha hfr
  go_enter Tryz.func94, Tryz.ntmps94
  go_wp2
  go_ret
  exact ⟨rfl, (by repeat (first | with_reducible exact Within.refl _ | with_reducible assumption | with_reducible refine Within.alloc ?_ _ | with_reducible refine Within.drew ?_ | with_reducible refine Within.drewN ?_ _ | with_reducible refine Within.setCell ?_ (by first | (simp; done) | (simp; omega)) _ | with_reducible refine Within.trans ?_ (by assumption)))⟩
theorem RputD (ng : Bool) (fd fr : Nat) (hfd : fd < 2048) (hfr : fr < 4503599627370496) (w : World) : Calls Tryz.prog 94 #[fmD, .bool ng, .int .i64 (fd : Int), .int .u64 (fr : Int)] w (fun e w' => e = .returned (.int .u64 ((fd * 4503599627370496 + fr + (if ng then 9223372036854775808 else 0) : Nat) : Int)) ∧ Within w w') := by
  cases ng
  · rw [if_neg Bool.false_ne_true, Nat.add_zero]; exact RputD_0 fd fr hfd hfr w
  · rw [if_pos rfl]; exact RputD_1 fd fr hfd hfr w
set_option maxRecDepth 100000 in
set_option maxHeartbeats 600000 in
theorem RnoughtD_0 (w : World) : Calls Tryz.prog 54 #[fmD, .bool false] w (fun e w' => e = .returned (.int .u64 0) ∧ Within w w') := by
  have hp := fun (w' : World) => RputD_0 0 0 (by decide) (by decide) w'
  have HP := Lib.hid hp; clear hp
  go_enter Tryz.func54, Tryz.ntmps54
  go_wp2_with fail
  refine (HP.out _).mono ?_; rintro e1 w1 ⟨rfl, hb1⟩
  go_wp2
  go_ret
  exact ⟨ret_int (by rfl), (by repeat (first | with_reducible exact Within.refl _ | with_reducible assumption | with_reducible refine Within.alloc ?_ _ | with_reducible refine Within.drew ?_ | with_reducible refine Within.drewN ?_ _ | with_reducible refine Within.setCell ?_ (by first | (simp; done) | (simp; omega)) _ | with_reducible refine Within.trans ?_ (by assumption)))⟩
set_option maxRecDepth 100000 in
set_option maxHeartbeats 600000 in
theorem RnoughtD_1 (w : World) : Calls Tryz.prog 54 #[fmD, .bool true] w (fun e w' => e = .returned (.int .u64 9223372036854775808) ∧ Within w w') := by
  have hp := fun (w' : World) => RputD_1 0 0 (by decide) (by decide) w'
  have HP := Lib.hid hp; clear hp
  go_enter Tryz.func54, Tryz.ntmps54
  go_wp2_with fail
  refine (HP.out _).mono ?_; rintro e1 w1 ⟨rfl, hb1⟩
  go_wp2
  go_ret
  exact ⟨ret_int (by rfl), (by repeat (first | with_reducible exact Within.refl _ | with_reducible assumption | with_reducible refine Within.alloc ?_ _ | with_reducible refine Within.drew ?_ | with_reducible refine Within.drewN ?_ _ | with_reducible refine Within.setCell ?_ (by first | (simp; done) | (simp; omega)) _ | with_reducible refine Within.trans ?_ (by assumption)))⟩
set_option maxRecDepth 100000 in
set_option maxHeartbeats 600000 in
theorem RinfinityD_0 (w : World) : Calls Tryz.prog 90 #[fmD, .bool false] w (fun e w' => e = .returned (.int .u64 9218868437227405312) ∧ Within w w') := by
  have hp := fun (w' : World) => RputD_0 2047 0 (by decide) (by decide) w'
  have HP := Lib.hid hp; clear hp
  go_enter Tryz.func90, Tryz.ntmps90
  go_wp2_with fail
  refine (HP.out _).mono ?_; rintro e1 w1 ⟨rfl, hb1⟩
  go_wp2
  go_ret
  exact ⟨ret_int (by rfl), (by repeat (first | with_reducible exact Within.refl _ | with_reducible assumption | with_reducible refine Within.alloc ?_ _ | with_reducible refine Within.drew ?_ | with_reducible refine Within.drewN ?_ _ | with_reducible refine Within.setCell ?_ (by first | (simp; done) | (simp; omega)) _ | with_reducible refine Within.trans ?_ (by assumption)))⟩
set_option maxRecDepth 100000 in
set_option maxHeartbeats 600000 in
theorem RinfinityD_1 (w : World) : Calls Tryz.prog 90 #[fmD, .bool true] w (fun e w' => e = .returned (.int .u64 18442240474082181120) ∧ Within w w') := by
  have hp := fun (w' : World) => RputD_1 2047 0 (by decide) (by decide) w'
  have HP := Lib.hid hp; clear hp
  go_enter Tryz.func90, Tryz.ntmps90
  go_wp2_with fail
  refine (HP.out _).mono ?_; rintro e1 w1 ⟨rfl, hb1⟩
  go_wp2
  go_ret
  exact ⟨ret_int (by rfl), (by repeat (first | with_reducible exact Within.refl _ | with_reducible assumption | with_reducible refine Within.alloc ?_ _ | with_reducible refine Within.drew ?_ | with_reducible refine Within.drewN ?_ _ | with_reducible refine Within.setCell ?_ (by first | (simp; done) | (simp; omega)) _ | with_reducible refine Within.trans ?_ (by assumption)))⟩
set_option maxRecDepth 100000 in
set_option maxHeartbeats 600000 in
theorem RgreatestD_0 (w : World) : Calls Tryz.prog 127 #[fmD, .bool false] w (fun e w' => e = .returned (.int .u64 9218868437227405311) ∧ Within w w') := by
  have hp := fun (w' : World) => RputD_0 2046 4503599627370495 (by decide) (by decide) w'
  have HP := Lib.hid hp; clear hp
  go_enter Tryz.func127, Tryz.ntmps127
  go_wp2_with fail
  refine (HP.out _).mono ?_; rintro e1 w1 ⟨rfl, hb1⟩
  go_wp2
  go_ret
  exact ⟨ret_int (by rfl), (by repeat (first | with_reducible exact Within.refl _ | with_reducible assumption | with_reducible refine Within.alloc ?_ _ | with_reducible refine Within.drew ?_ | with_reducible refine Within.drewN ?_ _ | with_reducible refine Within.setCell ?_ (by first | (simp; done) | (simp; omega)) _ | with_reducible refine Within.trans ?_ (by assumption)))⟩
set_option maxRecDepth 100000 in
set_option maxHeartbeats 600000 in
theorem RgreatestD_1 (w : World) : Calls Tryz.prog 127 #[fmD, .bool true] w (fun e w' => e = .returned (.int .u64 18442240474082181119) ∧ Within w w') := by
  have hp := fun (w' : World) => RputD_1 2046 4503599627370495 (by decide) (by decide) w'
  have HP := Lib.hid hp; clear hp
  go_enter Tryz.func127, Tryz.ntmps127
  go_wp2_with fail
  refine (HP.out _).mono ?_; rintro e1 w1 ⟨rfl, hb1⟩
  go_wp2
  go_ret
  exact ⟨ret_int (by rfl), (by repeat (first | with_reducible exact Within.refl _ | with_reducible assumption | with_reducible refine Within.alloc ?_ _ | with_reducible refine Within.drew ?_ | with_reducible refine Within.drewN ?_ _ | with_reducible refine Within.setCell ?_ (by first | (simp; done) | (simp; omega)) _ | with_reducible refine Within.trans ?_ (by assumption)))⟩
set_option maxRecDepth 100000 in
set_option maxHeartbeats 600000 in
theorem RnoneD (w : World) : Calls Tryz.prog 80 #[fmD] w (fun e w' => e = .returned (.int .u64 9221120237041090561) ∧ Within w w') := by
  go_enter Tryz.func80, Tryz.ntmps80
  go_wp2
  go_ret
  exact ⟨rfl, (by repeat (first | with_reducible exact Within.refl _ | with_reducible assumption | with_reducible refine Within.alloc ?_ _ | with_reducible refine Within.drew ?_ | with_reducible refine Within.drewN ?_ _ | with_reducible refine Within.setCell ?_ (by first | (simp; done) | (simp; omega)) _ | with_reducible refine Within.trans ?_ (by assumption)))⟩
set_option maxRecDepth 100000 in
set_option maxHeartbeats 600000 in
theorem RoverD_0z (mode : Int) (hm : mode = 2) (w : World) : Calls Tryz.prog 98 #[fmD, .bool false, .int .i64 mode] w (fun e w' => e = .returned (.int .u64 9218868437227405311) ∧ Within w w') := by
  subst hm
  go_enter Tryz.func98, Tryz.ntmps98
  go_wp2_with fail
  refine (RgreatestD_0 _).mono ?_; rintro e1 w1 ⟨rfl, hb1⟩
  go_wp2
  go_ret
  exact ⟨rfl, (by repeat (first | with_reducible exact Within.refl _ | with_reducible assumption | with_reducible refine Within.alloc ?_ _ | with_reducible refine Within.drew ?_ | with_reducible refine Within.drewN ?_ _ | with_reducible refine Within.setCell ?_ (by first | (simp; done) | (simp; omega)) _ | with_reducible refine Within.trans ?_ (by assumption)))⟩
set_option maxRecDepth 100000 in
set_option maxHeartbeats 600000 in
theorem RoverD_0u (mode : Int) (hm : mode = 3) (w : World) : Calls Tryz.prog 98 #[fmD, .bool false, .int .i64 mode] w (fun e w' => e = .returned (.int .u64 9218868437227405312) ∧ Within w w') := by
  subst hm
  go_enter Tryz.func98, Tryz.ntmps98
  go_wp2_with fail
  refine (RinfinityD_0 _).mono ?_; rintro e1 w1 ⟨rfl, hb1⟩
  go_wp2
  go_ret
  exact ⟨rfl, (by repeat (first | with_reducible exact Within.refl _ | with_reducible assumption | with_reducible refine Within.alloc ?_ _ | with_reducible refine Within.drew ?_ | with_reducible refine Within.drewN ?_ _ | with_reducible refine Within.setCell ?_ (by first | (simp; done) | (simp; omega)) _ | with_reducible refine Within.trans ?_ (by assumption)))⟩
set_option maxRecDepth 100000 in
set_option maxHeartbeats 600000 in
theorem RoverD_0d (mode : Int) (hm : mode = 4) (w : World) : Calls Tryz.prog 98 #[fmD, .bool false, .int .i64 mode] w (fun e w' => e = .returned (.int .u64 9218868437227405311) ∧ Within w w') := by
  subst hm
  go_enter Tryz.func98, Tryz.ntmps98
  go_wp2_with fail
  refine (RgreatestD_0 _).mono ?_; rintro e1 w1 ⟨rfl, hb1⟩
  go_wp2
  go_ret
  exact ⟨rfl, (by repeat (first | with_reducible exact Within.refl _ | with_reducible assumption | with_reducible refine Within.alloc ?_ _ | with_reducible refine Within.drew ?_ | with_reducible refine Within.drewN ?_ _ | with_reducible refine Within.setCell ?_ (by first | (simp; done) | (simp; omega)) _ | with_reducible refine Within.trans ?_ (by assumption)))⟩
set_option maxRecDepth 100000 in
set_option maxHeartbeats 600000 in
theorem RoverD_0o (mode : Int) (h2 : (mode == 2) = false) (h3 : (mode == 3) = false) (h4 : (mode == 4) = false) (w : World) : Calls Tryz.prog 98 #[fmD, .bool false, .int .i64 mode] w (fun e w' => e = .returned (.int .u64 9218868437227405312) ∧ Within w w') := by
  go_enter Tryz.func98, Tryz.ntmps98
  go_wp2_with fail
  refine (RinfinityD_0 _).mono ?_; rintro e1 w1 ⟨rfl, hb1⟩
  go_wp2
  go_ret
  exact ⟨rfl, (by repeat (first | with_reducible exact Within.refl _ | with_reducible assumption | with_reducible refine Within.alloc ?_ _ | with_reducible refine Within.drew ?_ | with_reducible refine Within.drewN ?_ _ | with_reducible refine Within.setCell ?_ (by first | (simp; done) | (simp; omega)) _ | with_reducible refine Within.trans ?_ (by assumption)))⟩
set_option maxRecDepth 100000 in
set_option maxHeartbeats 600000 in
theorem RoverD_1z (mode : Int) (hm : mode = 2) (w : World) : Calls Tryz.prog 98 #[fmD, .bool true, .int .i64 mode] w (fun e w' => e = .returned (.int .u64 18442240474082181119) ∧ Within w w') := by
  subst hm
  go_enter Tryz.func98, Tryz.ntmps98
  go_wp2_with fail
  refine (RgreatestD_1 _).mono ?_; rintro e1 w1 ⟨rfl, hb1⟩
  go_wp2
  go_ret
  exact ⟨rfl, (by repeat (first | with_reducible exact Within.refl _ | with_reducible assumption | with_reducible refine Within.alloc ?_ _ | with_reducible refine Within.drew ?_ | with_reducible refine Within.drewN ?_ _ | with_reducible refine Within.setCell ?_ (by first | (simp; done) | (simp; omega)) _ | with_reducible refine Within.trans ?_ (by assumption)))⟩
set_option maxRecDepth 100000 in
set_option maxHeartbeats 600000 in
theorem RoverD_1u (mode : Int) (hm : mode = 3) (w : World) : Calls Tryz.prog 98 #[fmD, .bool true, .int .i64 mode] w (fun e w' => e = .returned (.int .u64 18442240474082181119) ∧ Within w w') := by
  subst hm
  go_enter Tryz.func98, Tryz.ntmps98
  go_wp2_with fail
  refine (RgreatestD_1 _).mono ?_; rintro e1 w1 ⟨rfl, hb1⟩
  go_wp2
  go_ret
  exact ⟨rfl, (by repeat (first | with_reducible exact Within.refl _ | with_reducible assumption | with_reducible refine Within.alloc ?_ _ | with_reducible refine Within.drew ?_ | with_reducible refine Within.drewN ?_ _ | with_reducible refine Within.setCell ?_ (by first | (simp; done) | (simp; omega)) _ | with_reducible refine Within.trans ?_ (by assumption)))⟩
set_option maxRecDepth 100000 in
set_option maxHeartbeats 600000 in
theorem RoverD_1d (mode : Int) (hm : mode = 4) (w : World) : Calls Tryz.prog 98 #[fmD, .bool true, .int .i64 mode] w (fun e w' => e = .returned (.int .u64 18442240474082181120) ∧ Within w w') := by
  subst hm
  go_enter Tryz.func98, Tryz.ntmps98
  go_wp2_with fail
  refine (RinfinityD_1 _).mono ?_; rintro e1 w1 ⟨rfl, hb1⟩
  go_wp2
  go_ret
  exact ⟨rfl, (by repeat (first | with_reducible exact Within.refl _ | with_reducible assumption | with_reducible refine Within.alloc ?_ _ | with_reducible refine Within.drew ?_ | with_reducible refine Within.drewN ?_ _ | with_reducible refine Within.setCell ?_ (by first | (simp; done) | (simp; omega)) _ | with_reducible refine Within.trans ?_ (by assumption)))⟩
set_option maxRecDepth 100000 in
set_option maxHeartbeats 600000 in
theorem RoverD_1o (mode : Int) (h2 : (mode == 2) = false) (h3 : (mode == 3) = false) (h4 : (mode == 4) = false) (w : World) : Calls Tryz.prog 98 #[fmD, .bool true, .int .i64 mode] w (fun e w' => e = .returned (.int .u64 18442240474082181120) ∧ Within w w') := by
  go_enter Tryz.func98, Tryz.ntmps98
  go_wp2_with fail
  refine (RinfinityD_1 _).mono ?_; rintro e1 w1 ⟨rfl, hb1⟩
  go_wp2
  go_ret
  exact ⟨rfl, (by repeat (first | with_reducible exact Within.refl _ | with_reducible assumption | with_reducible refine Within.alloc ?_ _ | with_reducible refine Within.drew ?_ | with_reducible refine Within.drewN ?_ _ | with_reducible refine Within.setCell ?_ (by first | (simp; done) | (simp; omega)) _ | with_reducible refine Within.trans ?_ (by assumption)))⟩
theorem RoverD (ng : Bool) (mode : Int) (w : World) : Calls Tryz.prog 98 #[fmD, .bool ng, .int .i64 mode] w (fun e w' => e = .returned (.int .u64 (((if topR ng mode then 9218868437227405311 else 9218868437227405312) + (if ng then 9223372036854775808 else 0) : Nat) : Int)) ∧ Within w w') := by
  by_cases h2 : mode = 2
  · subst h2; cases ng
    · exact RoverD_0z 2 rfl w
    · exact RoverD_1z 2 rfl w
  by_cases h3 : mode = 3
  · subst h3; cases ng
    · exact RoverD_0u 3 rfl w
    · exact RoverD_1u 3 rfl w
  by_cases h4 : mode = 4
  · subst h4; cases ng
    · exact RoverD_0d 4 rfl w
    · exact RoverD_1d 4 rfl w
  have e : topR ng mode = false := by unfold topR; simp [h2, h3, h4]
  rw [e]
  cases ng
  · exact RoverD_0o mode (beq_eq_false_iff_ne.2 h2) (beq_eq_false_iff_ne.2 h3) (beq_eq_false_iff_ne.2 h4) w
  · exact RoverD_1o mode (beq_eq_false_iff_ne.2 h2) (beq_eq_false_iff_ne.2 h3) (beq_eq_false_iff_ne.2 h4) w
set_option maxRecDepth 100000 in
set_option maxHeartbeats 600000 in
theorem Rknown_yes (mode : Int) (h : 0 ≤ mode ∧ mode ≤ 4) (w : World) : Calls Tryz.prog 47 #[.int .i64 mode] w (fun e w' => e = .returned (.bool true) ∧ w = w') := by
  have d1 : decide (mode ≥ 0) = true := decide_eq_true h.1
  have d2 : decide (mode ≤ 4) = true := decide_eq_true h.2
  clear h
  go_enter Tryz.func47, Tryz.ntmps47
  go_wp2
  go_ret
  exact ⟨rfl, rfl⟩
set_option maxRecDepth 100000 in
set_option maxHeartbeats 600000 in
theorem Rknown_low (mode : Int) (h : mode < 0) (w : World) : Calls Tryz.prog 47 #[.int .i64 mode] w (fun e w' => e = .returned (.bool false) ∧ w = w') := by
  have d1 : decide (mode ≥ 0) = false := decide_eq_false (by omega)
  clear h
  go_enter Tryz.func47, Tryz.ntmps47
  go_wp2
  go_ret
  exact ⟨rfl, rfl⟩
set_option maxRecDepth 100000 in
set_option maxHeartbeats 600000 in
theorem Rknown_high (mode : Int) (h : 4 < mode) (w : World) : Calls Tryz.prog 47 #[.int .i64 mode] w (fun e w' => e = .returned (.bool false) ∧ w = w') := by
  have d1 : decide (mode ≥ 0) = true := decide_eq_true (by omega)
  have d2 : decide (mode ≤ 4) = false := decide_eq_false (by omega)
  clear h
  go_enter Tryz.func47, Tryz.ntmps47
  go_wp2
  go_ret
  exact ⟨rfl, rfl⟩
theorem Rknown (mode : Int) (w : World) : Calls Tryz.prog 47 #[.int .i64 mode] w (fun e w' => e = .returned (.bool (decide (0 ≤ mode ∧ mode ≤ 4))) ∧ w = w') := by
  by_cases h : 0 ≤ mode ∧ mode ≤ 4
  · rw [decide_eq_true h]; exact Rknown_yes mode h w
  · rw [decide_eq_false h]
    by_cases h1 : mode < 0
    · exact Rknown_low mode h1 w
    · exact Rknown_high mode (by omega) w
end Go.Proofs.YtifgngmebnjfkaaGreatDoor
end

section
namespace Go.Proofs.YtifgngmebnjfkaaGreatDoor
open Go.RowKit
theorem dg_at0 (n : Nat) : (dg n).getD 0 0 = n % 4294967296 := by
  by_cases h : n = 0
  · subst h; rw [dg_zero]; rfl
  · rw [dg_pos h]; rfl
theorem dg_at1 (n : Nat) : (dg n).getD 1 0 = n / 4294967296 % 4294967296 := by
  by_cases h : n = 0
  · subst h; rw [dg_zero]; rfl
  · rw [dg_pos h]
    show (dg (n / 4294967296)).getD 0 0 = _
    rw [dg_at0]
theorem dg_len1 {n : Nat} (h : (dg n).length ≤ 1) : n < 4294967296 := by
  have := lt_of_dg n
  have h2 : 4294967296 ^ (dg n).length ≤ 4294967296 ^ 1 := Nat.pow_le_pow_right (by decide) h
  omega
theorem u32_and1 (x : Nat) (h : x < 4294967296) : bits .and .u32 (x : Int) 1 = ((x % 2 : Nat) : Int) := by
  have := u32_and_nat x 1 h (by decide)
  rw [show (2 : Nat) = 2 ^ 1 from rfl, ← Nat.and_two_pow_sub_one_eq_mod]
  exact this
set_option maxRecDepth 100000 in
set_option maxHeartbeats 600000 in
theorem Bbit_zero (x : Nat) (w : World) (hx : IntB w x 0) : Calls Tryz.prog 122 #[.pointer (some ⟨x, 0, none⟩), .int .i64 0] w (fun e w' => e = .returned (.int .u64 0) ∧ w = w') := by
  obtain ⟨A, c, c0, c1, _⟩ := hx.rd
  rw [show (dg (0 : Int).natAbs) = [] from dg_zero] at c1
  rw [show decide ((0 : Int) < 0) = false from rfl] at c0
  clear hx
  go_enter Tryz.func122, Tryz.ntmps122
  go_wp2
  go_ret
  exact ⟨rfl, rfl⟩
set_option maxRecDepth 100000 in
set_option maxHeartbeats 600000 in
theorem Bbit_pos (x k t gm c : Nat) (ht : t < 4294967296) (hk : k ≤ 1000000) (w : World) (c0 : w.cell? ⟨x, 0, none⟩ = some (.bool false)) (c1 : w.cell? ⟨x, 1, none⟩ = some (.slice (some ⟨gm, 0, none⟩) (k + 1) c)) (ct : w.cell? ⟨gm, 0, none⟩ = some (.int .u32 (t : Int))) : Calls Tryz.prog 122 #[.pointer (some ⟨x, 0, none⟩), .int .i64 0] w (fun e w' => e = .returned (.int .u64 ((t % 2 : Nat) : Int)) ∧ w = w') := by
  have ga := u32_and1 t ht
  rw [Int.natCast_emod] at ga
  clear ht
  go_enter Tryz.func122, Tryz.ntmps122
  go_wp2
  go_ret
  exact ⟨ret_int (by first | rfl | exact ga | omega), rfl⟩
theorem Bbit (x n : Nat) (hn : (dg n).length ≤ 1000000) (w : World) (hx : IntB w x (n : Int)) : Calls Tryz.prog 122 #[.pointer (some ⟨x, 0, none⟩), .int .i64 0] w (fun e w' => e = .returned (.int .u64 ((n % 2 : Nat) : Int)) ∧ w = w') := by
  by_cases h : n = 0
  · subst h; exact Bbit_zero x w hx
  · obtain ⟨A, c, c0, c1, hr⟩ := hx.rd
    rw [decide_eq_false (by omega)] at c0
    rw [Int.natAbs_natCast] at c1 hr
    obtain ⟨k, hk⟩ : ∃ k, (dg n).length = k + 1 := ⟨_, (Nat.succ_pred_eq_of_pos (dg_len_pos h)).symm⟩
    obtain ⟨g, rfl, _, ct⟩ := hr.cell (i := 0) (by omega)
    rw [hk] at c1
    rw [dg_at0] at ct
    refine (Bbit_pos x k _ g c (by omega) (by omega) w c0 c1 ct).mono fun e w' h => ⟨h.1.trans (ret_int ?_), h.2⟩
    omega
set_option maxRecDepth 100000 in
set_option maxHeartbeats 600000 in
theorem Buint64_zero (x : Nat) (A : Option Addr) (c : Nat) (w : World) (c1 : w.cell? ⟨x, 1, none⟩ = some (.slice A 0 c)) : Calls Tryz.prog 66 #[.pointer (some ⟨x, 0, none⟩)] w (fun e w' => e = .returned (.int .u64 0) ∧ w = w') := by
  go_enter Tryz.func66, Tryz.ntmps66
  go_wp2
  go_ret
  exact ⟨rfl, rfl⟩
set_option maxRecDepth 100000 in
set_option maxHeartbeats 600000 in
theorem Buint64_one (x gm c t : Nat) (ht : t < 4294967296) (w : World) (c1 : w.cell? ⟨x, 1, none⟩ = some (.slice (some ⟨gm, 0, none⟩) 1 c)) (ct : w.cell? ⟨gm, 0, none⟩ = some (.int .u32 (t : Int))) : Calls Tryz.prog 66 #[.pointer (some ⟨x, 0, none⟩)] w (fun e w' => e = .returned (.int .u64 (t : Int)) ∧ w = w') := by
  go_enter Tryz.func66, Tryz.ntmps66
  go_wp2
  go_ret
  exact ⟨rfl, rfl⟩
set_option maxRecDepth 100000 in
set_option maxHeartbeats 600000 in
theorem Buint64_more (x gm c t u k : Nat) (ht : t < 4294967296) (hu : u < 4294967296) (hk : k ≤ 1000000) (w : World) (c1 : w.cell? ⟨x, 1, none⟩ = some (.slice (some ⟨gm, 0, none⟩) (k + 2) c)) (ct : w.cell? ⟨gm, 0, none⟩ = some (.int .u32 (t : Int))) (cu : w.cell? ⟨gm, 1, none⟩ = some (.int .u32 (u : Int))) : Calls Tryz.prog 66 #[.pointer (some ⟨x, 0, none⟩)] w (fun e w' => e = .returned (.int .u64 ((t + 4294967296 * u : Nat) : Int)) ∧ w = w') := by
  have gor := Lib.hid (or_high ht hu)
  have d : (0 : Int) < (k : Int) + 2 := by omega
  have d2 : (1 : Int) < (k : Int) + 2 := by omega
  have HT := Lib.hid ht
  go_enter Tryz.func66, Tryz.ntmps66
  go_wp2
  go_ret
  exact ⟨ret_int (by first | exact gor.out | (rw [← gor.out]; simp)), rfl⟩
theorem Buint64 (x : Nat) (v : Int) (hn : (dg v.natAbs).length ≤ 1000000) (w : World) (hx : IntB w x v) : Calls Tryz.prog 66 #[.pointer (some ⟨x, 0, none⟩)] w (fun e w' => e = .returned (.int .u64 ((v.natAbs % 18446744073709551616 : Nat) : Int)) ∧ w = w') := by
  obtain ⟨A, c, c0, c1, hr⟩ := hx.rd
  clear hx c0
  generalize v.natAbs = n at *
  rcases hk : (dg n).length with _ | _ | k
  · have h0 : n = 0 := dg_eq_nil (List.eq_nil_of_length_eq_zero hk)
    rw [hk] at c1
    refine (Buint64_zero x A c w c1).mono fun e w' h => ⟨h.1.trans (ret_int ?_), h.2⟩
    omega
  · obtain ⟨g, rfl, _, ct⟩ := hr.cell (i := 0) (by omega)
    have h1 := dg_len1 (n := n) (by omega)
    rw [hk] at c1
    rw [dg_at0] at ct
    refine (Buint64_one x g c _ (by omega) w c1 ct).mono fun e w' h => ⟨h.1.trans (ret_int ?_), h.2⟩
    omega
  · obtain ⟨g, rfl, _, ct⟩ := hr.cell (i := 0) (by omega)
    obtain ⟨g', e, _, cu⟩ := hr.cell (i := 1) (by omega)
    have e' := Option.some.inj e
    injection e' with e'
    subst e'
    rw [hk] at c1
    rw [dg_at0] at ct
    rw [dg_at1] at cu
    refine (Buint64_more x g c _ _ k (by omega) (by omega) (by omega) w c1 ct cu).mono fun e w' h => ⟨h.1.trans (ret_int ?_), h.2⟩
    omega
end Go.Proofs.YtifgngmebnjfkaaGreatDoor
end

section
namespace Go.Proofs.YtifgngmebnjfkaaGreatDoor
open Go.RowKit
def cutC (M s : Nat) (more : Bool) : Int :=
  if M % 2 ^ s = 0 ∧ more = false then -2 else if cmpN (M % 2 ^ s) (2 ^ (s - 1)) = 0 ∧ more = true then 1 else cmpN (M % 2 ^ s) (2 ^ (s - 1))
def CutI (W : World) (q : Nat) (c : Int) (e : Ending) (w' : World) : Prop := ∃ g, e = .returned (.tuple #[.pointer (some ⟨g, 0, none⟩), .int .i64 c]) ∧ IntB w' g (q : Int) ∧ W.heap.size ≤ g ∧ Within W w'
theorem cmpI_nat (a b : Nat) : cmpI (a : Int) (b : Int) = cmpN a b := by
  unfold cmpI cmpN
  repeat' split
  all_goals omega
theorem alloc2_ty {w w' : World} {b : Bool} {v : Value} {o : Obj} {z : Nat} (h : ((w.alloc (.cells #[.bool b, v] 91)).alloc o).grownBy w' (some z)) (hz : w.heap.size ≠ z) : IntTy w' w.heap.size := by
  refine ⟨b, v, ?_⟩
  rw [h.block w.heap.size (by simp; omega) (fun e => hz (by injection e))]
  exact hp_alloc (hp_new _ _ _ rfl) _
set_option maxRecDepth 100000 in
set_option maxHeartbeats 600000 in
theorem Rcut_exact (g M s : Nat) (more : Bool) (hs1 : 1 ≤ s) (hs2 : s ≤ 60000) (hM : (dg M).length ≤ 1000) (hc : M % 2 ^ s = 0) (hm : more = false) (w : World) (hI : IntB w g (M : Int)) : Calls Tryz.prog 91 #[.pointer (some ⟨g, 0, none⟩), .int .i64 (s : Int), .bool more] w (CutI w (M / 2 ^ s) (-2)) := by
  have HI0 := Lib.hid hI; have hlg := hI.lt
  obtain ⟨q, hq⟩ : ∃ q, q = M / 2 ^ s := ⟨_, rfl⟩
  obtain ⟨r, hr⟩ : ∃ r, r = M % 2 ^ s := ⟨_, rfl⟩
  obtain ⟨hf, hh⟩ : ∃ hf, hf = 2 ^ (s - 1) := ⟨_, rfl⟩
  try rw [← hr] at hc
  try rw [← hh] at hc
  have HQ := Lib.hid hq; have HR := Lib.hid hr; have HH := Lib.hid hh
  have hqM : (q : Int) * 2 ^ s = ((q * 2 ^ s : Nat) : Int) := by simp
  have hsub : (M : Int) - ((q * 2 ^ s : Nat) : Int) = (r : Int) := by have := Nat.div_add_mod M (2 ^ s); rw [← hq, ← hr, Nat.mul_comm] at this; omega
  have LM : (dg M).length ≤ 1000 := hM
  have LQ : (dg q).length ≤ 1000 := by rw [hq]; exact Nat.le_trans (dg_len_mono (Nat.div_le_self _ _)) hM
  have LQ2 : (dg (q * 2 ^ s)).length ≤ 1000 := by rw [hq]; exact Nat.le_trans (dg_len_mono (Nat.div_mul_le_self _ _)) hM
  have LR : (dg r).length ≤ 1000 := by rw [hr]; exact Nat.le_trans (dg_len_mono (Nat.mod_le _ _)) hM
  have LH : (dg hf).length ≤ 2000 := by rw [hh]; exact dg_pow_le (by omega)
  have HS := Lib.hid hs1; have HL := Lib.hid (And.intro LM (And.intro LQ (And.intro LQ2 (And.intro LR LH))))
  have ds : ((s : Int) == 0) = false := beq_eq_false_iff_ne.2 (by omega)
  have gs : IntKind.u64.wrap (s : Int) = s := by rw [IntKind.wrap_u64]; omega
  have gs1 : IntKind.i64.wrap ((s : Int) - 1) = ((s - 1 : Nat) : Int) := by rw [IntKind.wrap_i64]; omega
  have gs2 : IntKind.u64.wrap ((s - 1 : Nat) : Int) = ((s - 1 : Nat) : Int) := by rw [IntKind.wrap_u64]; omega
  clear hq hr hh hs1 LM LQ LQ2 LR LH hM
  have hd : ((r : Int).sign == 0) = true := by rw [hc]; rfl
  subst hm
  have HC := Lib.hid hc; clear hc
  go_enter Tryz.func91, Tryz.ntmps91
  go_wp2_with fail
  refine (Brsh w.heap.size g s M (Nat.le_trans HL.out.1 (by decide)) (by omega) _ (by repeat (first | with_reducible assumption | with_reducible exact ty_new _ _ _ _ (by simp; done) | with_reducible refine ty_drew ?_ | with_reducible refine ty_alloc ?_ _)) (by repeat (first | with_reducible assumption | with_reducible exact ib_new _ _ (by simp; done) | with_reducible refine IntB.alloc ?_ _ | with_reducible refine IntB.drewN ?_ _))).mono ?_; rintro e1 w1 ⟨rfl, hI1, hG1⟩
  have hb1 : Within w w1 := Within.grown (by repeat (first | with_reducible exact Within.refl _ | with_reducible assumption | with_reducible refine Within.alloc ?_ _ | with_reducible refine Within.drew ?_ | with_reducible refine Within.drewN ?_ _ | with_reducible refine Within.setCell ?_ (by first | (simp; done) | (simp; omega)) _ | with_reducible refine Within.trans ?_ (by assumption))) hG1 (by simp)
  have hI := hI.of hb1
  clear hG1
  rw [← HQ.out] at hI1; have hl1 := hI1.lt
  go_wp2_with fail
  refine (Blsh (w1.heap.size + 1) w.heap.size s q (by rw [Int.natAbs_natCast]; exact Nat.le_trans HL.out.2.1 (by decide)) (by omega) _ (by repeat (first | with_reducible assumption | with_reducible exact ty_new _ _ _ _ (by simp; done) | with_reducible refine ty_drew ?_ | with_reducible refine ty_alloc ?_ _)) (by repeat (first | with_reducible assumption | with_reducible exact ib_new _ _ (by simp; done) | with_reducible refine IntB.alloc ?_ _ | with_reducible refine IntB.drewN ?_ _))).mono ?_; rintro e2 w2 ⟨rfl, hI2, hG2⟩
  have hb2 : Within w1 w2 := Within.grown (by repeat (first | with_reducible exact Within.refl _ | with_reducible assumption | with_reducible refine Within.alloc ?_ _ | with_reducible refine Within.drew ?_ | with_reducible refine Within.drewN ?_ _ | with_reducible refine Within.setCell ?_ (by first | (simp; done) | (simp; omega)) _ | with_reducible refine Within.trans ?_ (by assumption))) hG2 (by simp)
  have t2 := alloc2_ty hG2 (by simp)
  have hI := hI.of hb2; have hI1 := hI1.of hb2
  rw [hqM] at hI2
  clear hG2
  go_wp2_with fail
  refine (BSub w1.heap.size g (w1.heap.size + 1) M (q * 2 ^ s : Nat) (by rw [Int.natAbs_natCast]; exact Nat.le_trans HL.out.1 (by decide)) (by rw [Int.natAbs_natCast]; exact Nat.le_trans HL.out.2.2.1 (by decide)) w2 t2 hI hI2).mono ?_; rintro e3 w3 ⟨rfl, hI3, hG3⟩
  have hb3 : Within w1 w3 := Within.grown hb2 hG3 (Nat.le_refl _)
  have hlt1 := hI1.lt
  have hI1 := hI1.grown t2 (Nat.ne_of_lt hl1) hG3
  rw [hsub] at hI3
  clear hG3
  go_wp2_with fail
  refine (Bsign w1.heap.size r w3 hI3).mono ?_; rintro e4 w4 ⟨rfl, rfl⟩
  go_wp2
  go_ret2
  exact ⟨w.heap.size, rfl, (by rw [← HQ.out]; exact hI1), Nat.le_refl _, hb1.trans hb3⟩
set_option maxRecDepth 100000 in
set_option maxHeartbeats 600000 in
theorem Rcut_none (g M s : Nat) (more : Bool) (hs1 : 1 ≤ s) (hs2 : s ≤ 60000) (hM : (dg M).length ≤ 1000) (hc : M % 2 ^ s = 0 ∧ 0 < 2 ^ (s - 1)) (hm : more = true) (w : World) (hI : IntB w g (M : Int)) : Calls Tryz.prog 91 #[.pointer (some ⟨g, 0, none⟩), .int .i64 (s : Int), .bool more] w (CutI w (M / 2 ^ s) (-1)) := by
  have HI0 := Lib.hid hI; have hlg := hI.lt
  obtain ⟨q, hq⟩ : ∃ q, q = M / 2 ^ s := ⟨_, rfl⟩
  obtain ⟨r, hr⟩ : ∃ r, r = M % 2 ^ s := ⟨_, rfl⟩
  obtain ⟨hf, hh⟩ : ∃ hf, hf = 2 ^ (s - 1) := ⟨_, rfl⟩
  try rw [← hr] at hc
  try rw [← hh] at hc
  have HQ := Lib.hid hq; have HR := Lib.hid hr; have HH := Lib.hid hh
  have hqM : (q : Int) * 2 ^ s = ((q * 2 ^ s : Nat) : Int) := by simp
  have hsub : (M : Int) - ((q * 2 ^ s : Nat) : Int) = (r : Int) := by have := Nat.div_add_mod M (2 ^ s); rw [← hq, ← hr, Nat.mul_comm] at this; omega
  have LM : (dg M).length ≤ 1000 := hM
  have LQ : (dg q).length ≤ 1000 := by rw [hq]; exact Nat.le_trans (dg_len_mono (Nat.div_le_self _ _)) hM
  have LQ2 : (dg (q * 2 ^ s)).length ≤ 1000 := by rw [hq]; exact Nat.le_trans (dg_len_mono (Nat.div_mul_le_self _ _)) hM
  have LR : (dg r).length ≤ 1000 := by rw [hr]; exact Nat.le_trans (dg_len_mono (Nat.mod_le _ _)) hM
  have LH : (dg hf).length ≤ 2000 := by rw [hh]; exact dg_pow_le (by omega)
  have HS := Lib.hid hs1; have HL := Lib.hid (And.intro LM (And.intro LQ (And.intro LQ2 (And.intro LR LH))))
  have ds : ((s : Int) == 0) = false := beq_eq_false_iff_ne.2 (by omega)
  have gs : IntKind.u64.wrap (s : Int) = s := by rw [IntKind.wrap_u64]; omega
  have gs1 : IntKind.i64.wrap ((s : Int) - 1) = ((s - 1 : Nat) : Int) := by rw [IntKind.wrap_i64]; omega
  have gs2 : IntKind.u64.wrap ((s - 1 : Nat) : Int) = ((s - 1 : Nat) : Int) := by rw [IntKind.wrap_u64]; omega
  clear hq hr hh hs1 LM LQ LQ2 LR LH hM
  have hd : ((r : Int).sign == 0) = true := by rw [hc.1]; rfl
  have hcc : cmpI (r : Int) (hf : Int) = -1 := by rw [cmpI_nat, hc.1]; exact cmpN_lt hc.2
  subst hm
  have HC := Lib.hid hc; clear hc
  go_enter Tryz.func91, Tryz.ntmps91
  go_wp2_with fail
  refine (Brsh w.heap.size g s M (Nat.le_trans HL.out.1 (by decide)) (by omega) _ (by repeat (first | with_reducible assumption | with_reducible exact ty_new _ _ _ _ (by simp; done) | with_reducible refine ty_drew ?_ | with_reducible refine ty_alloc ?_ _)) (by repeat (first | with_reducible assumption | with_reducible exact ib_new _ _ (by simp; done) | with_reducible refine IntB.alloc ?_ _ | with_reducible refine IntB.drewN ?_ _))).mono ?_; rintro e1 w1 ⟨rfl, hI1, hG1⟩
  have hb1 : Within w w1 := Within.grown (by repeat (first | with_reducible exact Within.refl _ | with_reducible assumption | with_reducible refine Within.alloc ?_ _ | with_reducible refine Within.drew ?_ | with_reducible refine Within.drewN ?_ _ | with_reducible refine Within.setCell ?_ (by first | (simp; done) | (simp; omega)) _ | with_reducible refine Within.trans ?_ (by assumption))) hG1 (by simp)
  have hI := hI.of hb1
  clear hG1
  rw [← HQ.out] at hI1; have hl1 := hI1.lt
  go_wp2_with fail
  refine (Blsh (w1.heap.size + 1) w.heap.size s q (by rw [Int.natAbs_natCast]; exact Nat.le_trans HL.out.2.1 (by decide)) (by omega) _ (by repeat (first | with_reducible assumption | with_reducible exact ty_new _ _ _ _ (by simp; done) | with_reducible refine ty_drew ?_ | with_reducible refine ty_alloc ?_ _)) (by repeat (first | with_reducible assumption | with_reducible exact ib_new _ _ (by simp; done) | with_reducible refine IntB.alloc ?_ _ | with_reducible refine IntB.drewN ?_ _))).mono ?_; rintro e2 w2 ⟨rfl, hI2, hG2⟩
  have hb2 : Within w1 w2 := Within.grown (by repeat (first | with_reducible exact Within.refl _ | with_reducible assumption | with_reducible refine Within.alloc ?_ _ | with_reducible refine Within.drew ?_ | with_reducible refine Within.drewN ?_ _ | with_reducible refine Within.setCell ?_ (by first | (simp; done) | (simp; omega)) _ | with_reducible refine Within.trans ?_ (by assumption))) hG2 (by simp)
  have t2 := alloc2_ty hG2 (by simp)
  have hI := hI.of hb2; have hI1 := hI1.of hb2
  rw [hqM] at hI2
  clear hG2
  go_wp2_with fail
  refine (BSub w1.heap.size g (w1.heap.size + 1) M (q * 2 ^ s : Nat) (by rw [Int.natAbs_natCast]; exact Nat.le_trans HL.out.1 (by decide)) (by rw [Int.natAbs_natCast]; exact Nat.le_trans HL.out.2.2.1 (by decide)) w2 t2 hI hI2).mono ?_; rintro e3 w3 ⟨rfl, hI3, hG3⟩
  have hb3 : Within w1 w3 := Within.grown hb2 hG3 (Nat.le_refl _)
  have hlt1 := hI1.lt
  have hI1 := hI1.grown t2 (Nat.ne_of_lt hl1) hG3
  have hlt3 : w1.heap.size < w3.heap.size := hI3.lt
  rw [hsub] at hI3
  clear hG3
  go_wp2_with fail
  refine (Bsign w1.heap.size r w3 hI3).mono ?_; rintro e4 w4 ⟨rfl, rfl⟩
  go_wp2_with fail
  refine (BnewInt 1 (by decide) (by decide) _).mono ?_; rintro e5 w5 ⟨g5, rfl, hI5, hg5, hb5'⟩
  have hb5 : Within w3 w5 := ((Within.refl w3).alloc _).trans hb5'
  have t5 : IntTy w5 w3.heap.size := (ty_new w3 _ _ _ rfl).of hb5'
  have hI1 := hI1.of hb5; have hI3 := hI3.of hb5
  have hg5' : w3.heap.size < g5 := by simp at hg5; omega
  go_wp2_with fail
  refine (Blsh w3.heap.size g5 (s - 1) 1 (by decide +kernel) (by omega) w5 t5 hI5).mono ?_; rintro e6 w6 ⟨rfl, hI6, hG6⟩
  have hb6 : Within w3 w6 := Within.grown hb5 hG6 (Nat.le_refl _)
  have hl3 := hI3.lt
  have hne1 : w.heap.size ≠ w3.heap.size := by have := hb3.sizes; omega
  have hne3 : w1.heap.size ≠ w3.heap.size := Nat.ne_of_lt hlt3
  have hI1 := hI1.grown t5 hne1 hG6; have hI3 := hI3.grown t5 hne3 hG6
  rw [show (1 : Int) * 2 ^ (s - 1) = (hf : Int) by rw [HH.out]; simp] at hI6
  clear hG6
  go_wp2_with fail
  refine (Bcmp w1.heap.size w3.heap.size r hf (by rw [Int.natAbs_natCast]; exact Nat.le_trans HL.out.2.2.2.1 (by decide)) (by rw [Int.natAbs_natCast]; exact Nat.le_trans HL.out.2.2.2.2 (by decide)) w6 hI3 hI6).mono ?_; rintro e7 w7 ⟨rfl, hb7⟩
  have hI1 := hI1.of hb7
  go_wp2
  go_ret2
  exact ⟨w.heap.size, rfl, (by rw [← HQ.out]; exact hI1), Nat.le_refl _, (hb1.trans hb3).trans (hb6.trans hb7)⟩
set_option maxRecDepth 100000 in
set_option maxHeartbeats 600000 in
theorem Rcut_less (g M s : Nat) (more : Bool) (hs1 : 1 ≤ s) (hs2 : s ≤ 60000) (hM : (dg M).length ≤ 1000) (hc : M % 2 ^ s ≠ 0 ∧ M % 2 ^ s < 2 ^ (s - 1)) (w : World) (hI : IntB w g (M : Int)) : Calls Tryz.prog 91 #[.pointer (some ⟨g, 0, none⟩), .int .i64 (s : Int), .bool more] w (CutI w (M / 2 ^ s) (-1)) := by
  have HI0 := Lib.hid hI; have hlg := hI.lt
  obtain ⟨q, hq⟩ : ∃ q, q = M / 2 ^ s := ⟨_, rfl⟩
  obtain ⟨r, hr⟩ : ∃ r, r = M % 2 ^ s := ⟨_, rfl⟩
  obtain ⟨hf, hh⟩ : ∃ hf, hf = 2 ^ (s - 1) := ⟨_, rfl⟩
  try rw [← hr] at hc
  try rw [← hh] at hc
  have HQ := Lib.hid hq; have HR := Lib.hid hr; have HH := Lib.hid hh
  have hqM : (q : Int) * 2 ^ s = ((q * 2 ^ s : Nat) : Int) := by simp
  have hsub : (M : Int) - ((q * 2 ^ s : Nat) : Int) = (r : Int) := by have := Nat.div_add_mod M (2 ^ s); rw [← hq, ← hr, Nat.mul_comm] at this; omega
  have LM : (dg M).length ≤ 1000 := hM
  have LQ : (dg q).length ≤ 1000 := by rw [hq]; exact Nat.le_trans (dg_len_mono (Nat.div_le_self _ _)) hM
  have LQ2 : (dg (q * 2 ^ s)).length ≤ 1000 := by rw [hq]; exact Nat.le_trans (dg_len_mono (Nat.div_mul_le_self _ _)) hM
  have LR : (dg r).length ≤ 1000 := by rw [hr]; exact Nat.le_trans (dg_len_mono (Nat.mod_le _ _)) hM
  have LH : (dg hf).length ≤ 2000 := by rw [hh]; exact dg_pow_le (by omega)
  have HS := Lib.hid hs1; have HL := Lib.hid (And.intro LM (And.intro LQ (And.intro LQ2 (And.intro LR LH))))
  have ds : ((s : Int) == 0) = false := beq_eq_false_iff_ne.2 (by omega)
  have gs : IntKind.u64.wrap (s : Int) = s := by rw [IntKind.wrap_u64]; omega
  have gs1 : IntKind.i64.wrap ((s : Int) - 1) = ((s - 1 : Nat) : Int) := by rw [IntKind.wrap_i64]; omega
  have gs2 : IntKind.u64.wrap ((s - 1 : Nat) : Int) = ((s - 1 : Nat) : Int) := by rw [IntKind.wrap_u64]; omega
  clear hq hr hh hs1 LM LQ LQ2 LR LH hM
  have hd : ((r : Int).sign == 0) = false := beq_eq_false_iff_ne.2 (fun h => hc.1 (by have := Int.sign_eq_zero_iff_zero.1 h; omega))
  have hcc : cmpI (r : Int) (hf : Int) = -1 := by rw [cmpI_nat]; exact cmpN_lt hc.2
  have HC := Lib.hid hc; clear hc
  go_enter Tryz.func91, Tryz.ntmps91
  go_wp2_with fail
  refine (Brsh w.heap.size g s M (Nat.le_trans HL.out.1 (by decide)) (by omega) _ (by repeat (first | with_reducible assumption | with_reducible exact ty_new _ _ _ _ (by simp; done) | with_reducible refine ty_drew ?_ | with_reducible refine ty_alloc ?_ _)) (by repeat (first | with_reducible assumption | with_reducible exact ib_new _ _ (by simp; done) | with_reducible refine IntB.alloc ?_ _ | with_reducible refine IntB.drewN ?_ _))).mono ?_; rintro e1 w1 ⟨rfl, hI1, hG1⟩
  have hb1 : Within w w1 := Within.grown (by repeat (first | with_reducible exact Within.refl _ | with_reducible assumption | with_reducible refine Within.alloc ?_ _ | with_reducible refine Within.drew ?_ | with_reducible refine Within.drewN ?_ _ | with_reducible refine Within.setCell ?_ (by first | (simp; done) | (simp; omega)) _ | with_reducible refine Within.trans ?_ (by assumption))) hG1 (by simp)
  have hI := hI.of hb1
  clear hG1
  rw [← HQ.out] at hI1; have hl1 := hI1.lt
  go_wp2_with fail
  refine (Blsh (w1.heap.size + 1) w.heap.size s q (by rw [Int.natAbs_natCast]; exact Nat.le_trans HL.out.2.1 (by decide)) (by omega) _ (by repeat (first | with_reducible assumption | with_reducible exact ty_new _ _ _ _ (by simp; done) | with_reducible refine ty_drew ?_ | with_reducible refine ty_alloc ?_ _)) (by repeat (first | with_reducible assumption | with_reducible exact ib_new _ _ (by simp; done) | with_reducible refine IntB.alloc ?_ _ | with_reducible refine IntB.drewN ?_ _))).mono ?_; rintro e2 w2 ⟨rfl, hI2, hG2⟩
  have hb2 : Within w1 w2 := Within.grown (by repeat (first | with_reducible exact Within.refl _ | with_reducible assumption | with_reducible refine Within.alloc ?_ _ | with_reducible refine Within.drew ?_ | with_reducible refine Within.drewN ?_ _ | with_reducible refine Within.setCell ?_ (by first | (simp; done) | (simp; omega)) _ | with_reducible refine Within.trans ?_ (by assumption))) hG2 (by simp)
  have t2 := alloc2_ty hG2 (by simp)
  have hI := hI.of hb2; have hI1 := hI1.of hb2
  rw [hqM] at hI2
  clear hG2
  go_wp2_with fail
  refine (BSub w1.heap.size g (w1.heap.size + 1) M (q * 2 ^ s : Nat) (by rw [Int.natAbs_natCast]; exact Nat.le_trans HL.out.1 (by decide)) (by rw [Int.natAbs_natCast]; exact Nat.le_trans HL.out.2.2.1 (by decide)) w2 t2 hI hI2).mono ?_; rintro e3 w3 ⟨rfl, hI3, hG3⟩
  have hb3 : Within w1 w3 := Within.grown hb2 hG3 (Nat.le_refl _)
  have hlt1 := hI1.lt
  have hI1 := hI1.grown t2 (Nat.ne_of_lt hl1) hG3
  have hlt3 : w1.heap.size < w3.heap.size := hI3.lt
  rw [hsub] at hI3
  clear hG3
  go_wp2_with fail
  refine (Bsign w1.heap.size r w3 hI3).mono ?_; rintro e4 w4 ⟨rfl, rfl⟩
  go_wp2_with fail
  refine (BnewInt 1 (by decide) (by decide) _).mono ?_; rintro e5 w5 ⟨g5, rfl, hI5, hg5, hb5'⟩
  have hb5 : Within w3 w5 := ((Within.refl w3).alloc _).trans hb5'
  have t5 : IntTy w5 w3.heap.size := (ty_new w3 _ _ _ rfl).of hb5'
  have hI1 := hI1.of hb5; have hI3 := hI3.of hb5
  have hg5' : w3.heap.size < g5 := by simp at hg5; omega
  go_wp2_with fail
  refine (Blsh w3.heap.size g5 (s - 1) 1 (by decide +kernel) (by omega) w5 t5 hI5).mono ?_; rintro e6 w6 ⟨rfl, hI6, hG6⟩
  have hb6 : Within w3 w6 := Within.grown hb5 hG6 (Nat.le_refl _)
  have hl3 := hI3.lt
  have hne1 : w.heap.size ≠ w3.heap.size := by have := hb3.sizes; omega
  have hne3 : w1.heap.size ≠ w3.heap.size := Nat.ne_of_lt hlt3
  have hI1 := hI1.grown t5 hne1 hG6; have hI3 := hI3.grown t5 hne3 hG6
  rw [show (1 : Int) * 2 ^ (s - 1) = (hf : Int) by rw [HH.out]; simp] at hI6
  clear hG6
  go_wp2_with fail
  refine (Bcmp w1.heap.size w3.heap.size r hf (by rw [Int.natAbs_natCast]; exact Nat.le_trans HL.out.2.2.2.1 (by decide)) (by rw [Int.natAbs_natCast]; exact Nat.le_trans HL.out.2.2.2.2 (by decide)) w6 hI3 hI6).mono ?_; rintro e7 w7 ⟨rfl, hb7⟩
  have hI1 := hI1.of hb7
  go_wp2
  go_ret2
  exact ⟨w.heap.size, rfl, (by rw [← HQ.out]; exact hI1), Nat.le_refl _, (hb1.trans hb3).trans (hb6.trans hb7)⟩
set_option maxRecDepth 100000 in
set_option maxHeartbeats 600000 in
theorem Rcut_more (g M s : Nat) (more : Bool) (hs1 : 1 ≤ s) (hs2 : s ≤ 60000) (hM : (dg M).length ≤ 1000) (hc : M % 2 ^ s ≠ 0 ∧ 2 ^ (s - 1) < M % 2 ^ s) (w : World) (hI : IntB w g (M : Int)) : Calls Tryz.prog 91 #[.pointer (some ⟨g, 0, none⟩), .int .i64 (s : Int), .bool more] w (CutI w (M / 2 ^ s) 1) := by
  have HI0 := Lib.hid hI; have hlg := hI.lt
  obtain ⟨q, hq⟩ : ∃ q, q = M / 2 ^ s := ⟨_, rfl⟩
  obtain ⟨r, hr⟩ : ∃ r, r = M % 2 ^ s := ⟨_, rfl⟩
  obtain ⟨hf, hh⟩ : ∃ hf, hf = 2 ^ (s - 1) := ⟨_, rfl⟩
  try rw [← hr] at hc
  try rw [← hh] at hc
  have HQ := Lib.hid hq; have HR := Lib.hid hr; have HH := Lib.hid hh
  have hqM : (q : Int) * 2 ^ s = ((q * 2 ^ s : Nat) : Int) := by simp
  have hsub : (M : Int) - ((q * 2 ^ s : Nat) : Int) = (r : Int) := by have := Nat.div_add_mod M (2 ^ s); rw [← hq, ← hr, Nat.mul_comm] at this; omega
  have LM : (dg M).length ≤ 1000 := hM
  have LQ : (dg q).length ≤ 1000 := by rw [hq]; exact Nat.le_trans (dg_len_mono (Nat.div_le_self _ _)) hM
  have LQ2 : (dg (q * 2 ^ s)).length ≤ 1000 := by rw [hq]; exact Nat.le_trans (dg_len_mono (Nat.div_mul_le_self _ _)) hM
  have LR : (dg r).length ≤ 1000 := by rw [hr]; exact Nat.le_trans (dg_len_mono (Nat.mod_le _ _)) hM
  have LH : (dg hf).length ≤ 2000 := by rw [hh]; exact dg_pow_le (by omega)
  have HS := Lib.hid hs1; have HL := Lib.hid (And.intro LM (And.intro LQ (And.intro LQ2 (And.intro LR LH))))
  have ds : ((s : Int) == 0) = false := beq_eq_false_iff_ne.2 (by omega)
  have gs : IntKind.u64.wrap (s : Int) = s := by rw [IntKind.wrap_u64]; omega
  have gs1 : IntKind.i64.wrap ((s : Int) - 1) = ((s - 1 : Nat) : Int) := by rw [IntKind.wrap_i64]; omega
  have gs2 : IntKind.u64.wrap ((s - 1 : Nat) : Int) = ((s - 1 : Nat) : Int) := by rw [IntKind.wrap_u64]; omega
  clear hq hr hh hs1 LM LQ LQ2 LR LH hM
  have hd : ((r : Int).sign == 0) = false := beq_eq_false_iff_ne.2 (fun h => hc.1 (by have := Int.sign_eq_zero_iff_zero.1 h; omega))
  have hcc : cmpI (r : Int) (hf : Int) = 1 := by rw [cmpI_nat]; exact cmpN_gt hc.2
  have HC := Lib.hid hc; clear hc
  go_enter Tryz.func91, Tryz.ntmps91
  go_wp2_with fail
  refine (Brsh w.heap.size g s M (Nat.le_trans HL.out.1 (by decide)) (by omega) _ (by repeat (first | with_reducible assumption | with_reducible exact ty_new _ _ _ _ (by simp; done) | with_reducible refine ty_drew ?_ | with_reducible refine ty_alloc ?_ _)) (by repeat (first | with_reducible assumption | with_reducible exact ib_new _ _ (by simp; done) | with_reducible refine IntB.alloc ?_ _ | with_reducible refine IntB.drewN ?_ _))).mono ?_; rintro e1 w1 ⟨rfl, hI1, hG1⟩
  have hb1 : Within w w1 := Within.grown (by repeat (first | with_reducible exact Within.refl _ | with_reducible assumption | with_reducible refine Within.alloc ?_ _ | with_reducible refine Within.drew ?_ | with_reducible refine Within.drewN ?_ _ | with_reducible refine Within.setCell ?_ (by first | (simp; done) | (simp; omega)) _ | with_reducible refine Within.trans ?_ (by assumption))) hG1 (by simp)
  have hI := hI.of hb1
  clear hG1
  rw [← HQ.out] at hI1; have hl1 := hI1.lt
  go_wp2_with fail
  refine (Blsh (w1.heap.size + 1) w.heap.size s q (by rw [Int.natAbs_natCast]; exact Nat.le_trans HL.out.2.1 (by decide)) (by omega) _ (by repeat (first | with_reducible assumption | with_reducible exact ty_new _ _ _ _ (by simp; done) | with_reducible refine ty_drew ?_ | with_reducible refine ty_alloc ?_ _)) (by repeat (first | with_reducible assumption | with_reducible exact ib_new _ _ (by simp; done) | with_reducible refine IntB.alloc ?_ _ | with_reducible refine IntB.drewN ?_ _))).mono ?_; rintro e2 w2 ⟨rfl, hI2, hG2⟩
  have hb2 : Within w1 w2 := Within.grown (by repeat (first | with_reducible exact Within.refl _ | with_reducible assumption | with_reducible refine Within.alloc ?_ _ | with_reducible refine Within.drew ?_ | with_reducible refine Within.drewN ?_ _ | with_reducible refine Within.setCell ?_ (by first | (simp; done) | (simp; omega)) _ | with_reducible refine Within.trans ?_ (by assumption))) hG2 (by simp)
  have t2 := alloc2_ty hG2 (by simp)
  have hI := hI.of hb2; have hI1 := hI1.of hb2
  rw [hqM] at hI2
  clear hG2
  go_wp2_with fail
  refine (BSub w1.heap.size g (w1.heap.size + 1) M (q * 2 ^ s : Nat) (by rw [Int.natAbs_natCast]; exact Nat.le_trans HL.out.1 (by decide)) (by rw [Int.natAbs_natCast]; exact Nat.le_trans HL.out.2.2.1 (by decide)) w2 t2 hI hI2).mono ?_; rintro e3 w3 ⟨rfl, hI3, hG3⟩
  have hb3 : Within w1 w3 := Within.grown hb2 hG3 (Nat.le_refl _)
  have hlt1 := hI1.lt
  have hI1 := hI1.grown t2 (Nat.ne_of_lt hl1) hG3
  have hlt3 : w1.heap.size < w3.heap.size := hI3.lt
  rw [hsub] at hI3
  clear hG3
  go_wp2_with fail
  refine (Bsign w1.heap.size r w3 hI3).mono ?_; rintro e4 w4 ⟨rfl, rfl⟩
  go_wp2_with fail
  refine (BnewInt 1 (by decide) (by decide) _).mono ?_; rintro e5 w5 ⟨g5, rfl, hI5, hg5, hb5'⟩
  have hb5 : Within w3 w5 := ((Within.refl w3).alloc _).trans hb5'
  have t5 : IntTy w5 w3.heap.size := (ty_new w3 _ _ _ rfl).of hb5'
  have hI1 := hI1.of hb5; have hI3 := hI3.of hb5
  have hg5' : w3.heap.size < g5 := by simp at hg5; omega
  go_wp2_with fail
  refine (Blsh w3.heap.size g5 (s - 1) 1 (by decide +kernel) (by omega) w5 t5 hI5).mono ?_; rintro e6 w6 ⟨rfl, hI6, hG6⟩
  have hb6 : Within w3 w6 := Within.grown hb5 hG6 (Nat.le_refl _)
  have hl3 := hI3.lt
  have hne1 : w.heap.size ≠ w3.heap.size := by have := hb3.sizes; omega
  have hne3 : w1.heap.size ≠ w3.heap.size := Nat.ne_of_lt hlt3
  have hI1 := hI1.grown t5 hne1 hG6; have hI3 := hI3.grown t5 hne3 hG6
  rw [show (1 : Int) * 2 ^ (s - 1) = (hf : Int) by rw [HH.out]; simp] at hI6
  clear hG6
  go_wp2_with fail
  refine (Bcmp w1.heap.size w3.heap.size r hf (by rw [Int.natAbs_natCast]; exact Nat.le_trans HL.out.2.2.2.1 (by decide)) (by rw [Int.natAbs_natCast]; exact Nat.le_trans HL.out.2.2.2.2 (by decide)) w6 hI3 hI6).mono ?_; rintro e7 w7 ⟨rfl, hb7⟩
  have hI1 := hI1.of hb7
  go_wp2
  go_ret2
  exact ⟨w.heap.size, rfl, (by rw [← HQ.out]; exact hI1), Nat.le_refl _, (hb1.trans hb3).trans (hb6.trans hb7)⟩
set_option maxRecDepth 100000 in
set_option maxHeartbeats 600000 in
theorem Rcut_half0 (g M s : Nat) (more : Bool) (hs1 : 1 ≤ s) (hs2 : s ≤ 60000) (hM : (dg M).length ≤ 1000) (hc : M % 2 ^ s ≠ 0 ∧ M % 2 ^ s = 2 ^ (s - 1)) (hm : more = false) (w : World) (hI : IntB w g (M : Int)) : Calls Tryz.prog 91 #[.pointer (some ⟨g, 0, none⟩), .int .i64 (s : Int), .bool more] w (CutI w (M / 2 ^ s) 0) := by
  have HI0 := Lib.hid hI; have hlg := hI.lt
  obtain ⟨q, hq⟩ : ∃ q, q = M / 2 ^ s := ⟨_, rfl⟩
  obtain ⟨r, hr⟩ : ∃ r, r = M % 2 ^ s := ⟨_, rfl⟩
  obtain ⟨hf, hh⟩ : ∃ hf, hf = 2 ^ (s - 1) := ⟨_, rfl⟩
  try rw [← hr] at hc
  try rw [← hh] at hc
  have HQ := Lib.hid hq; have HR := Lib.hid hr; have HH := Lib.hid hh
  have hqM : (q : Int) * 2 ^ s = ((q * 2 ^ s : Nat) : Int) := by simp
  have hsub : (M : Int) - ((q * 2 ^ s : Nat) : Int) = (r : Int) := by have := Nat.div_add_mod M (2 ^ s); rw [← hq, ← hr, Nat.mul_comm] at this; omega
  have LM : (dg M).length ≤ 1000 := hM
  have LQ : (dg q).length ≤ 1000 := by rw [hq]; exact Nat.le_trans (dg_len_mono (Nat.div_le_self _ _)) hM
  have LQ2 : (dg (q * 2 ^ s)).length ≤ 1000 := by rw [hq]; exact Nat.le_trans (dg_len_mono (Nat.div_mul_le_self _ _)) hM
  have LR : (dg r).length ≤ 1000 := by rw [hr]; exact Nat.le_trans (dg_len_mono (Nat.mod_le _ _)) hM
  have LH : (dg hf).length ≤ 2000 := by rw [hh]; exact dg_pow_le (by omega)
  have HS := Lib.hid hs1; have HL := Lib.hid (And.intro LM (And.intro LQ (And.intro LQ2 (And.intro LR LH))))
  have ds : ((s : Int) == 0) = false := beq_eq_false_iff_ne.2 (by omega)
  have gs : IntKind.u64.wrap (s : Int) = s := by rw [IntKind.wrap_u64]; omega
  have gs1 : IntKind.i64.wrap ((s : Int) - 1) = ((s - 1 : Nat) : Int) := by rw [IntKind.wrap_i64]; omega
  have gs2 : IntKind.u64.wrap ((s - 1 : Nat) : Int) = ((s - 1 : Nat) : Int) := by rw [IntKind.wrap_u64]; omega
  clear hq hr hh hs1 LM LQ LQ2 LR LH hM
  have hd : ((r : Int).sign == 0) = false := beq_eq_false_iff_ne.2 (fun h => hc.1 (by have := Int.sign_eq_zero_iff_zero.1 h; omega))
  have hcc : cmpI (r : Int) (hf : Int) = 0 := by rw [cmpI_nat, hc.2]; exact cmpN_eq _
  subst hm
  have HC := Lib.hid hc; clear hc
  go_enter Tryz.func91, Tryz.ntmps91
  go_wp2_with fail
  refine (Brsh w.heap.size g s M (Nat.le_trans HL.out.1 (by decide)) (by omega) _ (by repeat (first | with_reducible assumption | with_reducible exact ty_new _ _ _ _ (by simp; done) | with_reducible refine ty_drew ?_ | with_reducible refine ty_alloc ?_ _)) (by repeat (first | with_reducible assumption | with_reducible exact ib_new _ _ (by simp; done) | with_reducible refine IntB.alloc ?_ _ | with_reducible refine IntB.drewN ?_ _))).mono ?_; rintro e1 w1 ⟨rfl, hI1, hG1⟩
  have hb1 : Within w w1 := Within.grown (by repeat (first | with_reducible exact Within.refl _ | with_reducible assumption | with_reducible refine Within.alloc ?_ _ | with_reducible refine Within.drew ?_ | with_reducible refine Within.drewN ?_ _ | with_reducible refine Within.setCell ?_ (by first | (simp; done) | (simp; omega)) _ | with_reducible refine Within.trans ?_ (by assumption))) hG1 (by simp)
  have hI := hI.of hb1
  clear hG1
  rw [← HQ.out] at hI1; have hl1 := hI1.lt
  go_wp2_with fail
  refine (Blsh (w1.heap.size + 1) w.heap.size s q (by rw [Int.natAbs_natCast]; exact Nat.le_trans HL.out.2.1 (by decide)) (by omega) _ (by repeat (first | with_reducible assumption | with_reducible exact ty_new _ _ _ _ (by simp; done) | with_reducible refine ty_drew ?_ | with_reducible refine ty_alloc ?_ _)) (by repeat (first | with_reducible assumption | with_reducible exact ib_new _ _ (by simp; done) | with_reducible refine IntB.alloc ?_ _ | with_reducible refine IntB.drewN ?_ _))).mono ?_; rintro e2 w2 ⟨rfl, hI2, hG2⟩
  have hb2 : Within w1 w2 := Within.grown (by repeat (first | with_reducible exact Within.refl _ | with_reducible assumption | with_reducible refine Within.alloc ?_ _ | with_reducible refine Within.drew ?_ | with_reducible refine Within.drewN ?_ _ | with_reducible refine Within.setCell ?_ (by first | (simp; done) | (simp; omega)) _ | with_reducible refine Within.trans ?_ (by assumption))) hG2 (by simp)
  have t2 := alloc2_ty hG2 (by simp)
  have hI := hI.of hb2; have hI1 := hI1.of hb2
  rw [hqM] at hI2
  clear hG2
  go_wp2_with fail
  refine (BSub w1.heap.size g (w1.heap.size + 1) M (q * 2 ^ s : Nat) (by rw [Int.natAbs_natCast]; exact Nat.le_trans HL.out.1 (by decide)) (by rw [Int.natAbs_natCast]; exact Nat.le_trans HL.out.2.2.1 (by decide)) w2 t2 hI hI2).mono ?_; rintro e3 w3 ⟨rfl, hI3, hG3⟩
  have hb3 : Within w1 w3 := Within.grown hb2 hG3 (Nat.le_refl _)
  have hlt1 := hI1.lt
  have hI1 := hI1.grown t2 (Nat.ne_of_lt hl1) hG3
  have hlt3 : w1.heap.size < w3.heap.size := hI3.lt
  rw [hsub] at hI3
  clear hG3
  go_wp2_with fail
  refine (Bsign w1.heap.size r w3 hI3).mono ?_; rintro e4 w4 ⟨rfl, rfl⟩
  go_wp2_with fail
  refine (BnewInt 1 (by decide) (by decide) _).mono ?_; rintro e5 w5 ⟨g5, rfl, hI5, hg5, hb5'⟩
  have hb5 : Within w3 w5 := ((Within.refl w3).alloc _).trans hb5'
  have t5 : IntTy w5 w3.heap.size := (ty_new w3 _ _ _ rfl).of hb5'
  have hI1 := hI1.of hb5; have hI3 := hI3.of hb5
  have hg5' : w3.heap.size < g5 := by simp at hg5; omega
  go_wp2_with fail
  refine (Blsh w3.heap.size g5 (s - 1) 1 (by decide +kernel) (by omega) w5 t5 hI5).mono ?_; rintro e6 w6 ⟨rfl, hI6, hG6⟩
  have hb6 : Within w3 w6 := Within.grown hb5 hG6 (Nat.le_refl _)
  have hl3 := hI3.lt
  have hne1 : w.heap.size ≠ w3.heap.size := by have := hb3.sizes; omega
  have hne3 : w1.heap.size ≠ w3.heap.size := Nat.ne_of_lt hlt3
  have hI1 := hI1.grown t5 hne1 hG6; have hI3 := hI3.grown t5 hne3 hG6
  rw [show (1 : Int) * 2 ^ (s - 1) = (hf : Int) by rw [HH.out]; simp] at hI6
  clear hG6
  go_wp2_with fail
  refine (Bcmp w1.heap.size w3.heap.size r hf (by rw [Int.natAbs_natCast]; exact Nat.le_trans HL.out.2.2.2.1 (by decide)) (by rw [Int.natAbs_natCast]; exact Nat.le_trans HL.out.2.2.2.2 (by decide)) w6 hI3 hI6).mono ?_; rintro e7 w7 ⟨rfl, hb7⟩
  have hI1 := hI1.of hb7
  go_wp2
  go_ret2
  exact ⟨w.heap.size, rfl, (by rw [← HQ.out]; exact hI1), Nat.le_refl _, (hb1.trans hb3).trans (hb6.trans hb7)⟩
set_option maxRecDepth 100000 in
set_option maxHeartbeats 600000 in
theorem Rcut_half1 (g M s : Nat) (more : Bool) (hs1 : 1 ≤ s) (hs2 : s ≤ 60000) (hM : (dg M).length ≤ 1000) (hc : M % 2 ^ s ≠ 0 ∧ M % 2 ^ s = 2 ^ (s - 1)) (hm : more = true) (w : World) (hI : IntB w g (M : Int)) : Calls Tryz.prog 91 #[.pointer (some ⟨g, 0, none⟩), .int .i64 (s : Int), .bool more] w (CutI w (M / 2 ^ s) 1) := by
  have HI0 := Lib.hid hI; have hlg := hI.lt
  obtain ⟨q, hq⟩ : ∃ q, q = M / 2 ^ s := ⟨_, rfl⟩
  obtain ⟨r, hr⟩ : ∃ r, r = M % 2 ^ s := ⟨_, rfl⟩
  obtain ⟨hf, hh⟩ : ∃ hf, hf = 2 ^ (s - 1) := ⟨_, rfl⟩
  try rw [← hr] at hc
  try rw [← hh] at hc
  have HQ := Lib.hid hq; have HR := Lib.hid hr; have HH := Lib.hid hh
  have hqM : (q : Int) * 2 ^ s = ((q * 2 ^ s : Nat) : Int) := by simp
  have hsub : (M : Int) - ((q * 2 ^ s : Nat) : Int) = (r : Int) := by have := Nat.div_add_mod M (2 ^ s); rw [← hq, ← hr, Nat.mul_comm] at this; omega
  have LM : (dg M).length ≤ 1000 := hM
  have LQ : (dg q).length ≤ 1000 := by rw [hq]; exact Nat.le_trans (dg_len_mono (Nat.div_le_self _ _)) hM
  have LQ2 : (dg (q * 2 ^ s)).length ≤ 1000 := by rw [hq]; exact Nat.le_trans (dg_len_mono (Nat.div_mul_le_self _ _)) hM
  have LR : (dg r).length ≤ 1000 := by rw [hr]; exact Nat.le_trans (dg_len_mono (Nat.mod_le _ _)) hM
  have LH : (dg hf).length ≤ 2000 := by rw [hh]; exact dg_pow_le (by omega)
  have HS := Lib.hid hs1; have HL := Lib.hid (And.intro LM (And.intro LQ (And.intro LQ2 (And.intro LR LH))))
  have ds : ((s : Int) == 0) = false := beq_eq_false_iff_ne.2 (by omega)
  have gs : IntKind.u64.wrap (s : Int) = s := by rw [IntKind.wrap_u64]; omega
  have gs1 : IntKind.i64.wrap ((s : Int) - 1) = ((s - 1 : Nat) : Int) := by rw [IntKind.wrap_i64]; omega
  have gs2 : IntKind.u64.wrap ((s - 1 : Nat) : Int) = ((s - 1 : Nat) : Int) := by rw [IntKind.wrap_u64]; omega
  clear hq hr hh hs1 LM LQ LQ2 LR LH hM
  have hd : ((r : Int).sign == 0) = false := beq_eq_false_iff_ne.2 (fun h => hc.1 (by have := Int.sign_eq_zero_iff_zero.1 h; omega))
  have hcc : cmpI (r : Int) (hf : Int) = 0 := by rw [cmpI_nat, hc.2]; exact cmpN_eq _
  subst hm
  have HC := Lib.hid hc; clear hc
  go_enter Tryz.func91, Tryz.ntmps91
  go_wp2_with fail
  refine (Brsh w.heap.size g s M (Nat.le_trans HL.out.1 (by decide)) (by omega) _ (by repeat (first | with_reducible assumption | with_reducible exact ty_new _ _ _ _ (by simp; done) | with_reducible refine ty_drew ?_ | with_reducible refine ty_alloc ?_ _)) (by repeat (first | with_reducible assumption | with_reducible exact ib_new _ _ (by simp; done) | with_reducible refine IntB.alloc ?_ _ | with_reducible refine IntB.drewN ?_ _))).mono ?_; rintro e1 w1 ⟨rfl, hI1, hG1⟩
  have hb1 : Within w w1 := Within.grown (by repeat (first | with_reducible exact Within.refl _ | with_reducible assumption | with_reducible refine Within.alloc ?_ _ | with_reducible refine Within.drew ?_ | with_reducible refine Within.drewN ?_ _ | with_reducible refine Within.setCell ?_ (by first | (simp; done) | (simp; omega)) _ | with_reducible refine Within.trans ?_ (by assumption))) hG1 (by simp)
  have hI := hI.of hb1
  clear hG1
  rw [← HQ.out] at hI1; have hl1 := hI1.lt
  go_wp2_with fail
  refine (Blsh (w1.heap.size + 1) w.heap.size s q (by rw [Int.natAbs_natCast]; exact Nat.le_trans HL.out.2.1 (by decide)) (by omega) _ (by repeat (first | with_reducible assumption | with_reducible exact ty_new _ _ _ _ (by simp; done) | with_reducible refine ty_drew ?_ | with_reducible refine ty_alloc ?_ _)) (by repeat (first | with_reducible assumption | with_reducible exact ib_new _ _ (by simp; done) | with_reducible refine IntB.alloc ?_ _ | with_reducible refine IntB.drewN ?_ _))).mono ?_; rintro e2 w2 ⟨rfl, hI2, hG2⟩
  have hb2 : Within w1 w2 := Within.grown (by repeat (first | with_reducible exact Within.refl _ | with_reducible assumption | with_reducible refine Within.alloc ?_ _ | with_reducible refine Within.drew ?_ | with_reducible refine Within.drewN ?_ _ | with_reducible refine Within.setCell ?_ (by first | (simp; done) | (simp; omega)) _ | with_reducible refine Within.trans ?_ (by assumption))) hG2 (by simp)
  have t2 := alloc2_ty hG2 (by simp)
  have hI := hI.of hb2; have hI1 := hI1.of hb2
  rw [hqM] at hI2
  clear hG2
  go_wp2_with fail
  refine (BSub w1.heap.size g (w1.heap.size + 1) M (q * 2 ^ s : Nat) (by rw [Int.natAbs_natCast]; exact Nat.le_trans HL.out.1 (by decide)) (by rw [Int.natAbs_natCast]; exact Nat.le_trans HL.out.2.2.1 (by decide)) w2 t2 hI hI2).mono ?_; rintro e3 w3 ⟨rfl, hI3, hG3⟩
  have hb3 : Within w1 w3 := Within.grown hb2 hG3 (Nat.le_refl _)
  have hlt1 := hI1.lt
  have hI1 := hI1.grown t2 (Nat.ne_of_lt hl1) hG3
  have hlt3 : w1.heap.size < w3.heap.size := hI3.lt
  rw [hsub] at hI3
  clear hG3
  go_wp2_with fail
  refine (Bsign w1.heap.size r w3 hI3).mono ?_; rintro e4 w4 ⟨rfl, rfl⟩
  go_wp2_with fail
  refine (BnewInt 1 (by decide) (by decide) _).mono ?_; rintro e5 w5 ⟨g5, rfl, hI5, hg5, hb5'⟩
  have hb5 : Within w3 w5 := ((Within.refl w3).alloc _).trans hb5'
  have t5 : IntTy w5 w3.heap.size := (ty_new w3 _ _ _ rfl).of hb5'
  have hI1 := hI1.of hb5; have hI3 := hI3.of hb5
  have hg5' : w3.heap.size < g5 := by simp at hg5; omega
  go_wp2_with fail
  refine (Blsh w3.heap.size g5 (s - 1) 1 (by decide +kernel) (by omega) w5 t5 hI5).mono ?_; rintro e6 w6 ⟨rfl, hI6, hG6⟩
  have hb6 : Within w3 w6 := Within.grown hb5 hG6 (Nat.le_refl _)
  have hl3 := hI3.lt
  have hne1 : w.heap.size ≠ w3.heap.size := by have := hb3.sizes; omega
  have hne3 : w1.heap.size ≠ w3.heap.size := Nat.ne_of_lt hlt3
  have hI1 := hI1.grown t5 hne1 hG6; have hI3 := hI3.grown t5 hne3 hG6
  rw [show (1 : Int) * 2 ^ (s - 1) = (hf : Int) by rw [HH.out]; simp] at hI6
  clear hG6
  go_wp2_with fail
  refine (Bcmp w1.heap.size w3.heap.size r hf (by rw [Int.natAbs_natCast]; exact Nat.le_trans HL.out.2.2.2.1 (by decide)) (by rw [Int.natAbs_natCast]; exact Nat.le_trans HL.out.2.2.2.2 (by decide)) w6 hI3 hI6).mono ?_; rintro e7 w7 ⟨rfl, hb7⟩
  have hI1 := hI1.of hb7
  go_wp2
  go_ret2
  exact ⟨w.heap.size, rfl, (by rw [← HQ.out]; exact hI1), Nat.le_refl _, (hb1.trans hb3).trans (hb6.trans hb7)⟩
theorem Rcut (g M s : Nat) (more : Bool) (hs1 : 1 ≤ s) (hs2 : s ≤ 60000) (hM : (dg M).length ≤ 1000) (w : World) (hI : IntB w g (M : Int)) : Calls Tryz.prog 91 #[.pointer (some ⟨g, 0, none⟩), .int .i64 (s : Int), .bool more] w (CutI w (M / 2 ^ s) (cutC M s more)) := by
  unfold cutC
  by_cases h0 : M % 2 ^ s = 0
  · cases more
    · rw [if_pos ⟨h0, rfl⟩]; exact Rcut_exact g M s false hs1 hs2 hM h0 rfl w hI
    · rw [if_neg (fun h => by simp at h), h0, cmpN_lt (Nat.two_pow_pos _), if_neg (fun h => by simp at h)]; exact Rcut_none g M s true hs1 hs2 hM ⟨h0, Nat.two_pow_pos _⟩ rfl w hI
  · rw [if_neg (fun h => h0 h.1)]
    rcases Nat.lt_trichotomy (M % 2 ^ s) (2 ^ (s - 1)) with h | h | h
    · rw [cmpN_lt h, if_neg (fun h => by simp at h)]; exact Rcut_less g M s more hs1 hs2 hM ⟨h0, h⟩ w hI
    · cases more
      · have := Rcut_half0 g M s false hs1 hs2 hM ⟨h0, h⟩ rfl w hI
        rw [h, cmpN_eq, if_neg (fun h => by simp at h)]; exact this
      · have := Rcut_half1 g M s true hs1 hs2 hM ⟨h0, h⟩ rfl w hI
        rw [h, cmpN_eq, if_pos ⟨rfl, rfl⟩]; exact this
    · rw [cmpN_gt h, if_neg (fun h => by simp at h)]; exact Rcut_more g M s more hs1 hs2 hM ⟨h0, h⟩ w hI
end Go.Proofs.YtifgngmebnjfkaaGreatDoor
end

section
namespace Go.Proofs.YtifgngmebnjfkaaGreatDoor
open Go.RowKit
def upB (ng : Bool) (q : Nat) (c mode : Int) : Bool :=
  if mode = 0 then decide (0 < c) || (decide (c = 0) && decide (q % 2 = 1))
  else if mode = 1 then decide (0 ≤ c)
  else if mode = 3 then !ng && decide (-2 < c)
  else if mode = 4 then ng && decide (-2 < c)
  else false
set_option maxRecDepth 100000 in
set_option maxHeartbeats 600000 in
theorem Rgoes_o (ng : Bool) (g q : Nat) (c mode : Int) (h0 : (mode == 0) = false) (h1 : (mode == 1) = false) (h3 : (mode == 3) = false) (h4 : (mode == 4) = false) (w : World) : Calls Tryz.prog 92 #[.bool ng, .pointer (some ⟨g, 0, none⟩), .int .i64 c, .int .i64 mode] w (fun e w' => e = .returned (.bool (upB ng q c mode)) ∧ Within w w') := by
  have e : upB ng q c mode = false := by unfold upB; rw [if_neg (beq_eq_false_iff_ne.1 h0), if_neg (beq_eq_false_iff_ne.1 h1), if_neg (beq_eq_false_iff_ne.1 h3), if_neg (beq_eq_false_iff_ne.1 h4)]
  rw [e]
  go_enter Tryz.func92, Tryz.ntmps92
  go_wp2
  go_ret
  exact ⟨rfl, Within.refl _⟩
set_option maxRecDepth 100000 in
set_option maxHeartbeats 600000 in
theorem Rgoes_0_0 (ng : Bool) (g q : Nat) (w : World) : Calls Tryz.prog 92 #[.bool ng, .pointer (some ⟨g, 0, none⟩), .int .i64 (-2), .int .i64 0] w (fun e w' => e = .returned (.bool (upB ng q (-2) 0)) ∧ Within w w') := by
  go_enter Tryz.func92, Tryz.ntmps92
  go_wp2
  go_ret
  exact ⟨ret_bool (by simp [upB]), Within.refl _⟩
set_option maxRecDepth 100000 in
set_option maxHeartbeats 600000 in
theorem Rgoes_1_0 (ng : Bool) (g q : Nat) (w : World) : Calls Tryz.prog 92 #[.bool ng, .pointer (some ⟨g, 0, none⟩), .int .i64 (-2), .int .i64 1] w (fun e w' => e = .returned (.bool (upB ng q (-2) 1)) ∧ Within w w') := by
  go_enter Tryz.func92, Tryz.ntmps92
  go_wp2
  go_ret
  exact ⟨ret_bool (by simp [upB]), Within.refl _⟩
set_option maxRecDepth 100000 in
set_option maxHeartbeats 600000 in
theorem Rgoes_3_0_0 (g q : Nat) (w : World) : Calls Tryz.prog 92 #[.bool false, .pointer (some ⟨g, 0, none⟩), .int .i64 (-2), .int .i64 3] w (fun e w' => e = .returned (.bool (upB false q (-2) 3)) ∧ Within w w') := by
  go_enter Tryz.func92, Tryz.ntmps92
  go_wp2
  go_ret
  exact ⟨ret_bool (by simp [upB]), Within.refl _⟩
set_option maxRecDepth 100000 in
set_option maxHeartbeats 600000 in
theorem Rgoes_4_0_0 (g q : Nat) (w : World) : Calls Tryz.prog 92 #[.bool false, .pointer (some ⟨g, 0, none⟩), .int .i64 (-2), .int .i64 4] w (fun e w' => e = .returned (.bool (upB false q (-2) 4)) ∧ Within w w') := by
  go_enter Tryz.func92, Tryz.ntmps92
  go_wp2
  go_ret
  exact ⟨ret_bool (by simp [upB]), Within.refl _⟩
set_option maxRecDepth 100000 in
set_option maxHeartbeats 600000 in
theorem Rgoes_3_0_1 (g q : Nat) (w : World) : Calls Tryz.prog 92 #[.bool true, .pointer (some ⟨g, 0, none⟩), .int .i64 (-2), .int .i64 3] w (fun e w' => e = .returned (.bool (upB true q (-2) 3)) ∧ Within w w') := by
  go_enter Tryz.func92, Tryz.ntmps92
  go_wp2
  go_ret
  exact ⟨ret_bool (by simp [upB]), Within.refl _⟩
set_option maxRecDepth 100000 in
set_option maxHeartbeats 600000 in
theorem Rgoes_4_0_1 (g q : Nat) (w : World) : Calls Tryz.prog 92 #[.bool true, .pointer (some ⟨g, 0, none⟩), .int .i64 (-2), .int .i64 4] w (fun e w' => e = .returned (.bool (upB true q (-2) 4)) ∧ Within w w') := by
  go_enter Tryz.func92, Tryz.ntmps92
  go_wp2
  go_ret
  exact ⟨ret_bool (by simp [upB]), Within.refl _⟩
set_option maxRecDepth 100000 in
set_option maxHeartbeats 600000 in
theorem Rgoes_0_1 (ng : Bool) (g q : Nat) (w : World) : Calls Tryz.prog 92 #[.bool ng, .pointer (some ⟨g, 0, none⟩), .int .i64 (-1), .int .i64 0] w (fun e w' => e = .returned (.bool (upB ng q (-1) 0)) ∧ Within w w') := by
  go_enter Tryz.func92, Tryz.ntmps92
  go_wp2
  go_ret
  exact ⟨ret_bool (by simp [upB]), Within.refl _⟩
set_option maxRecDepth 100000 in
set_option maxHeartbeats 600000 in
theorem Rgoes_1_1 (ng : Bool) (g q : Nat) (w : World) : Calls Tryz.prog 92 #[.bool ng, .pointer (some ⟨g, 0, none⟩), .int .i64 (-1), .int .i64 1] w (fun e w' => e = .returned (.bool (upB ng q (-1) 1)) ∧ Within w w') := by
  go_enter Tryz.func92, Tryz.ntmps92
  go_wp2
  go_ret
  exact ⟨ret_bool (by simp [upB]), Within.refl _⟩
set_option maxRecDepth 100000 in
set_option maxHeartbeats 600000 in
theorem Rgoes_3_1_0 (g q : Nat) (w : World) : Calls Tryz.prog 92 #[.bool false, .pointer (some ⟨g, 0, none⟩), .int .i64 (-1), .int .i64 3] w (fun e w' => e = .returned (.bool (upB false q (-1) 3)) ∧ Within w w') := by
  go_enter Tryz.func92, Tryz.ntmps92
  go_wp2
  go_ret
  exact ⟨ret_bool (by simp [upB]), Within.refl _⟩
set_option maxRecDepth 100000 in
set_option maxHeartbeats 600000 in
theorem Rgoes_4_1_0 (g q : Nat) (w : World) : Calls Tryz.prog 92 #[.bool false, .pointer (some ⟨g, 0, none⟩), .int .i64 (-1), .int .i64 4] w (fun e w' => e = .returned (.bool (upB false q (-1) 4)) ∧ Within w w') := by
  go_enter Tryz.func92, Tryz.ntmps92
  go_wp2
  go_ret
  exact ⟨ret_bool (by simp [upB]), Within.refl _⟩
set_option maxRecDepth 100000 in
set_option maxHeartbeats 600000 in
theorem Rgoes_3_1_1 (g q : Nat) (w : World) : Calls Tryz.prog 92 #[.bool true, .pointer (some ⟨g, 0, none⟩), .int .i64 (-1), .int .i64 3] w (fun e w' => e = .returned (.bool (upB true q (-1) 3)) ∧ Within w w') := by
  go_enter Tryz.func92, Tryz.ntmps92
  go_wp2
  go_ret
  exact ⟨ret_bool (by simp [upB]), Within.refl _⟩
set_option maxRecDepth 100000 in
set_option maxHeartbeats 600000 in
theorem Rgoes_4_1_1 (g q : Nat) (w : World) : Calls Tryz.prog 92 #[.bool true, .pointer (some ⟨g, 0, none⟩), .int .i64 (-1), .int .i64 4] w (fun e w' => e = .returned (.bool (upB true q (-1) 4)) ∧ Within w w') := by
  go_enter Tryz.func92, Tryz.ntmps92
  go_wp2
  go_ret
  exact ⟨ret_bool (by simp [upB]), Within.refl _⟩
set_option maxRecDepth 100000 in
set_option maxHeartbeats 600000 in
theorem Rgoes_1_2 (ng : Bool) (g q : Nat) (w : World) : Calls Tryz.prog 92 #[.bool ng, .pointer (some ⟨g, 0, none⟩), .int .i64 0, .int .i64 1] w (fun e w' => e = .returned (.bool (upB ng q 0 1)) ∧ Within w w') := by
  go_enter Tryz.func92, Tryz.ntmps92
  go_wp2
  go_ret
  exact ⟨ret_bool (by simp [upB]), Within.refl _⟩
set_option maxRecDepth 100000 in
set_option maxHeartbeats 600000 in
theorem Rgoes_3_2_0 (g q : Nat) (w : World) : Calls Tryz.prog 92 #[.bool false, .pointer (some ⟨g, 0, none⟩), .int .i64 0, .int .i64 3] w (fun e w' => e = .returned (.bool (upB false q 0 3)) ∧ Within w w') := by
  go_enter Tryz.func92, Tryz.ntmps92
  go_wp2
  go_ret
  exact ⟨ret_bool (by simp [upB]), Within.refl _⟩
set_option maxRecDepth 100000 in
set_option maxHeartbeats 600000 in
theorem Rgoes_4_2_0 (g q : Nat) (w : World) : Calls Tryz.prog 92 #[.bool false, .pointer (some ⟨g, 0, none⟩), .int .i64 0, .int .i64 4] w (fun e w' => e = .returned (.bool (upB false q 0 4)) ∧ Within w w') := by
  go_enter Tryz.func92, Tryz.ntmps92
  go_wp2
  go_ret
  exact ⟨ret_bool (by simp [upB]), Within.refl _⟩
set_option maxRecDepth 100000 in
set_option maxHeartbeats 600000 in
theorem Rgoes_3_2_1 (g q : Nat) (w : World) : Calls Tryz.prog 92 #[.bool true, .pointer (some ⟨g, 0, none⟩), .int .i64 0, .int .i64 3] w (fun e w' => e = .returned (.bool (upB true q 0 3)) ∧ Within w w') := by
  go_enter Tryz.func92, Tryz.ntmps92
  go_wp2
  go_ret
  exact ⟨ret_bool (by simp [upB]), Within.refl _⟩
set_option maxRecDepth 100000 in
set_option maxHeartbeats 600000 in
theorem Rgoes_4_2_1 (g q : Nat) (w : World) : Calls Tryz.prog 92 #[.bool true, .pointer (some ⟨g, 0, none⟩), .int .i64 0, .int .i64 4] w (fun e w' => e = .returned (.bool (upB true q 0 4)) ∧ Within w w') := by
  go_enter Tryz.func92, Tryz.ntmps92
  go_wp2
  go_ret
  exact ⟨ret_bool (by simp [upB]), Within.refl _⟩
set_option maxRecDepth 100000 in
set_option maxHeartbeats 600000 in
theorem Rgoes_0_3 (ng : Bool) (g q : Nat) (w : World) : Calls Tryz.prog 92 #[.bool ng, .pointer (some ⟨g, 0, none⟩), .int .i64 1, .int .i64 0] w (fun e w' => e = .returned (.bool (upB ng q 1 0)) ∧ Within w w') := by
  go_enter Tryz.func92, Tryz.ntmps92
  go_wp2
  go_ret
  exact ⟨ret_bool (by simp [upB]), Within.refl _⟩
set_option maxRecDepth 100000 in
set_option maxHeartbeats 600000 in
theorem Rgoes_1_3 (ng : Bool) (g q : Nat) (w : World) : Calls Tryz.prog 92 #[.bool ng, .pointer (some ⟨g, 0, none⟩), .int .i64 1, .int .i64 1] w (fun e w' => e = .returned (.bool (upB ng q 1 1)) ∧ Within w w') := by
  go_enter Tryz.func92, Tryz.ntmps92
  go_wp2
  go_ret
  exact ⟨ret_bool (by simp [upB]), Within.refl _⟩
set_option maxRecDepth 100000 in
set_option maxHeartbeats 600000 in
theorem Rgoes_3_3_0 (g q : Nat) (w : World) : Calls Tryz.prog 92 #[.bool false, .pointer (some ⟨g, 0, none⟩), .int .i64 1, .int .i64 3] w (fun e w' => e = .returned (.bool (upB false q 1 3)) ∧ Within w w') := by
  go_enter Tryz.func92, Tryz.ntmps92
  go_wp2
  go_ret
  exact ⟨ret_bool (by simp [upB]), Within.refl _⟩
set_option maxRecDepth 100000 in
set_option maxHeartbeats 600000 in
theorem Rgoes_4_3_0 (g q : Nat) (w : World) : Calls Tryz.prog 92 #[.bool false, .pointer (some ⟨g, 0, none⟩), .int .i64 1, .int .i64 4] w (fun e w' => e = .returned (.bool (upB false q 1 4)) ∧ Within w w') := by
  go_enter Tryz.func92, Tryz.ntmps92
  go_wp2
  go_ret
  exact ⟨ret_bool (by simp [upB]), Within.refl _⟩
set_option maxRecDepth 100000 in
set_option maxHeartbeats 600000 in
theorem Rgoes_3_3_1 (g q : Nat) (w : World) : Calls Tryz.prog 92 #[.bool true, .pointer (some ⟨g, 0, none⟩), .int .i64 1, .int .i64 3] w (fun e w' => e = .returned (.bool (upB true q 1 3)) ∧ Within w w') := by
  go_enter Tryz.func92, Tryz.ntmps92
  go_wp2
  go_ret
  exact ⟨ret_bool (by simp [upB]), Within.refl _⟩
set_option maxRecDepth 100000 in
set_option maxHeartbeats 600000 in
theorem Rgoes_4_3_1 (g q : Nat) (w : World) : Calls Tryz.prog 92 #[.bool true, .pointer (some ⟨g, 0, none⟩), .int .i64 1, .int .i64 4] w (fun e w' => e = .returned (.bool (upB true q 1 4)) ∧ Within w w') := by
  go_enter Tryz.func92, Tryz.ntmps92
  go_wp2
  go_ret
  exact ⟨ret_bool (by simp [upB]), Within.refl _⟩
set_option maxRecDepth 100000 in
set_option maxHeartbeats 600000 in
theorem Rgoes_0_2a (ng : Bool) (g q : Nat) (hq : (dg q).length ≤ 1000000) (hb : q % 2 = 0) (w : World) (hI : IntB w g (q : Int)) : Calls Tryz.prog 92 #[.bool ng, .pointer (some ⟨g, 0, none⟩), .int .i64 0, .int .i64 0] w (fun e w' => e = .returned (.bool (upB ng q 0 0)) ∧ Within w w') := by
  have BB := Lib.hid (Bbit g q hq w hI)
  rw [hb] at BB
  have HB := Lib.hid hb; clear hb hI hq
  go_enter Tryz.func92, Tryz.ntmps92
  go_wp2_with fail
  refine BB.out.mono ?_; rintro e1 w1 ⟨rfl, rfl⟩
  go_wp2
  go_ret
  exact ⟨ret_bool (by simp [upB, HB.out]), Within.refl _⟩
set_option maxRecDepth 100000 in
set_option maxHeartbeats 600000 in
theorem Rgoes_0_2b (ng : Bool) (g q : Nat) (hq : (dg q).length ≤ 1000000) (hb : q % 2 = 1) (w : World) (hI : IntB w g (q : Int)) : Calls Tryz.prog 92 #[.bool ng, .pointer (some ⟨g, 0, none⟩), .int .i64 0, .int .i64 0] w (fun e w' => e = .returned (.bool (upB ng q 0 0)) ∧ Within w w') := by
  have BB := Lib.hid (Bbit g q hq w hI)
  rw [hb] at BB
  have HB := Lib.hid hb; clear hb hI hq
  go_enter Tryz.func92, Tryz.ntmps92
  go_wp2_with fail
  refine BB.out.mono ?_; rintro e1 w1 ⟨rfl, rfl⟩
  go_wp2
  go_ret
  exact ⟨ret_bool (by simp [upB, HB.out]), Within.refl _⟩
theorem Rgoes (ng : Bool) (g q : Nat) (c mode : Int) (hc : c = -2 ∨ c = -1 ∨ c = 0 ∨ c = 1) (hq : (dg q).length ≤ 1000000) (w : World) (hI : IntB w g (q : Int)) : Calls Tryz.prog 92 #[.bool ng, .pointer (some ⟨g, 0, none⟩), .int .i64 c, .int .i64 mode] w (fun e w' => e = .returned (.bool (upB ng q c mode)) ∧ Within w w') := by
  by_cases h0 : mode = 0
  · subst h0
    rcases hc with rfl | rfl | rfl | rfl
    · exact Rgoes_0_0 ng g q w
    · exact Rgoes_0_1 ng g q w
    · rcases Nat.mod_two_eq_zero_or_one q with hb | hb
      · exact Rgoes_0_2a ng g q hq hb w hI
      · exact Rgoes_0_2b ng g q hq hb w hI
    · exact Rgoes_0_3 ng g q w
  by_cases h1 : mode = 1
  · subst h1
    rcases hc with rfl | rfl | rfl | rfl
    · exact Rgoes_1_0 ng g q w
    · exact Rgoes_1_1 ng g q w
    · exact Rgoes_1_2 ng g q w
    · exact Rgoes_1_3 ng g q w
  by_cases h3 : mode = 3
  · subst h3
    cases ng
    · rcases hc with rfl | rfl | rfl | rfl
      · exact Rgoes_3_0_0 g q w
      · exact Rgoes_3_1_0 g q w
      · exact Rgoes_3_2_0 g q w
      · exact Rgoes_3_3_0 g q w
    · rcases hc with rfl | rfl | rfl | rfl
      · exact Rgoes_3_0_1 g q w
      · exact Rgoes_3_1_1 g q w
      · exact Rgoes_3_2_1 g q w
      · exact Rgoes_3_3_1 g q w
  by_cases h4 : mode = 4
  · subst h4
    cases ng
    · rcases hc with rfl | rfl | rfl | rfl
      · exact Rgoes_4_0_0 g q w
      · exact Rgoes_4_1_0 g q w
      · exact Rgoes_4_2_0 g q w
      · exact Rgoes_4_3_0 g q w
    · rcases hc with rfl | rfl | rfl | rfl
      · exact Rgoes_4_0_1 g q w
      · exact Rgoes_4_1_1 g q w
      · exact Rgoes_4_2_1 g q w
      · exact Rgoes_4_3_1 g q w
  exact Rgoes_o ng g q c mode (beq_eq_false_iff_ne.2 h0) (beq_eq_false_iff_ne.2 h1) (beq_eq_false_iff_ne.2 h3) (beq_eq_false_iff_ne.2 h4) w
theorem cutC_range (M s : Nat) (more : Bool) : cutC M s more = -2 ∨ cutC M s more = -1 ∨ cutC M s more = 0 ∨ cutC M s more = 1 := by
  unfold cutC cmpN
  repeat' split
  all_goals omega
end Go.Proofs.YtifgngmebnjfkaaGreatDoor
end

section
namespace Go.Proofs.YtifgngmebnjfkaaGreatDoor
open Go.RowKit
def gK (D lo : Int) (M : Nat) (e : Int) : Int := max (e + (blen M : Nat) - D) lo
def gq (D lo : Int) (M : Nat) (e : Int) : Nat := if gK D lo M e ≤ e then M * 2 ^ (e - gK D lo M e).toNat else M / 2 ^ (gK D lo M e - e).toNat
def gc (D lo : Int) (M : Nat) (e : Int) (more : Bool) : Int := if gK D lo M e ≤ e then (if more then -1 else -2) else cutC M (gK D lo M e - e).toNat more
def gQ (D lo : Int) (ng : Bool) (M : Nat) (e : Int) (more : Bool) (mode : Int) : Nat := gq D lo M e + (upB ng (gq D lo M e) (gc D lo M e more) mode).toNat
def gFl (D lo : Int) (M : Nat) (e : Int) (more : Bool) : Int := if -2 < gc D lo M e more then (if e + (blen M : Nat) - 1 < lo + D - 1 then 3 else 1) else 0
def gOver (D lo most : Int) (ng : Bool) (M : Nat) (e : Int) (more : Bool) (mode : Int) : Bool := decide (most + 1 < gK D lo M e + (blen (gQ D lo ng M e more mode) : Nat))
theorem gc_range (D lo : Int) (M : Nat) (e : Int) (more : Bool) : gc D lo M e more = -2 ∨ gc D lo M e more = -1 ∨ gc D lo M e more = 0 ∨ gc D lo M e more = 1 := by
  unfold gc
  split
  · split <;> omega
  · exact cutC_range _ _ _
theorem blen_lt (n : Nat) : n < 2 ^ blen n := by
  by_cases h : n = 0
  · subst h; exact Nat.two_pow_pos _
  · rw [blen_pos h]; exact Nat.lt_log2_self
theorem blen_le {n k : Nat} (h : n < 2 ^ k) : blen n ≤ k := by
  by_cases h0 : n = 0
  · subst h0; exact Nat.zero_le _
  · rw [blen_pos h0]; exact (Nat.log2_lt h0).2 h
theorem le_of_blen {n : Nat} (h : n ≠ 0) : 2 ^ (blen n - 1) ≤ n := by rw [blen_pos h, Nat.add_sub_cancel]; exact Nat.log2_self_le h
theorem gq_lt (D : Nat) (lo : Int) (M : Nat) (e : Int) : gq D lo M e < 2 ^ D := by
  have hb := blen_lt M
  have hK : gK D lo M e = max (e + (blen M : Nat) - D) lo := rfl
  unfold gq
  split
  · rename_i h
    obtain ⟨k, hk⟩ : ∃ k : Nat, e - gK D lo M e = k := ⟨(e - gK D lo M e).toNat, by omega⟩
    rw [hk, Int.toNat_natCast]
    have : M * 2 ^ k < 2 ^ (blen M) * 2 ^ k := Nat.mul_lt_mul_of_pos_right hb (Nat.two_pow_pos k)
    rw [← Nat.pow_add] at this
    exact Nat.lt_of_lt_of_le this (Nat.pow_le_pow_right (by decide) (by omega))
  · rename_i h
    obtain ⟨k, hk⟩ : ∃ k : Nat, gK D lo M e - e = k := ⟨(gK D lo M e - e).toNat, by omega⟩
    rw [hk, Int.toNat_natCast, Nat.div_lt_iff_lt_mul (Nat.two_pow_pos k), ← Nat.pow_add]
    exact Nat.lt_of_lt_of_le hb (Nat.pow_le_pow_right (by decide) (by omega))
theorem gQ_le (D : Nat) (lo : Int) (ng : Bool) (M : Nat) (e : Int) (more : Bool) (mode : Int) : gQ D lo ng M e more mode ≤ 2 ^ D := by
  have h1 := gq_lt D lo M e
  unfold gQ
  have h2 : ∀ b : Bool, b.toNat ≤ 1 := by decide
  have := h2 (upB ng (gq D lo M e) (gc D lo M e more) mode)
  omega
theorem gQ_full {D : Nat} {lo : Int} (ng : Bool) {M : Nat} {e : Int} (more : Bool) (mode : Int) (hM : M ≠ 0) (hD : 1 ≤ D) (h : lo < gK D lo M e) : 2 ^ (D - 1) ≤ gQ D lo ng M e more mode := by
  have hb := le_of_blen hM
  have hb1 : 1 ≤ blen M := by rw [blen_pos hM]; omega
  have hK : gK D lo M e = max (e + (blen M : Nat) - D) lo := rfl
  refine Nat.le_trans ?_ (Nat.le_add_right _ _)
  unfold gq
  split
  · rename_i h
    obtain ⟨k, hk⟩ : ∃ k : Nat, e - gK D lo M e = k := ⟨(e - gK D lo M e).toNat, by omega⟩
    rw [hk, Int.toNat_natCast]
    have : 2 ^ (blen M - 1) * 2 ^ k ≤ M * 2 ^ k := Nat.mul_le_mul_right _ hb
    rw [← Nat.pow_add] at this
    exact Nat.le_trans (Nat.pow_le_pow_right (by decide) (by omega)) this
  · rename_i h
    obtain ⟨k, hk⟩ : ∃ k : Nat, gK D lo M e - e = k := ⟨(gK D lo M e - e).toNat, by omega⟩
    rw [hk, Int.toNat_natCast, Nat.le_div_iff_mul_le (Nat.two_pow_pos k), ← Nat.pow_add]
    exact Nat.le_trans (Nat.pow_le_pow_right (by decide) (by omega)) hb
def gK2 (D lo : Int) (ng : Bool) (M : Nat) (e : Int) (more : Bool) (mode : Int) : Int := if D < (blen (gQ D lo ng M e more mode) : Nat) then gK D lo M e + 1 else gK D lo M e
def gQ2 (D lo : Int) (ng : Bool) (M : Nat) (e : Int) (more : Bool) (mode : Int) : Nat := if D < (blen (gQ D lo ng M e more mode) : Nat) then gQ D lo ng M e more mode / 2 else gQ D lo ng M e more mode
theorem blen_pow (k : Nat) : blen (2 ^ k) = k + 1 := by rw [blen_pos (Nat.ne_of_gt (Nat.two_pow_pos k)), Nat.log2_two_pow]
theorem g_ends_aux {D Q : Nat} {K lo : Int} (hQ : Q ≤ 2 ^ D) (hfull : lo < K → 2 ^ (D - 1) ≤ Q) (hK : lo ≤ K) (hD : 1 ≤ D) (Q2 : Nat) (K2 : Int) (h2 : Q2 = if (D : Int) < (blen Q : Nat) then Q / 2 else Q) (k2 : K2 = if (D : Int) < (blen Q : Nat) then K + 1 else K) :
    blen Q2 ≤ D ∧ K2 + (blen Q2 : Nat) = K + (blen Q : Nat) ∧ (blen Q2 < D → Q2 = Q ∧ K = lo ∧ K2 = lo) ∧
    (blen Q2 = D → 2 ^ (D - 1) ≤ Q2 ∧ Q2 < 2 ^ D ∧ (K2 - lo).toNat * 2 ^ (D - 1) + Q2 = (K - lo).toNat * 2 ^ (D - 1) + Q) ∧ lo ≤ K2 := by
  have hpow : 2 ^ D = 2 * 2 ^ (D - 1) := by
    obtain ⟨t, rfl⟩ : ∃ t, D = t + 1 := ⟨D - 1, by omega⟩
    rw [Nat.pow_succ, Nat.add_sub_cancel, Nat.mul_comm]
  by_cases h : (D : Int) < (blen Q : Nat)
  · rw [if_pos h] at h2 k2
    have hQe : Q = 2 ^ D := by
      rcases Nat.lt_or_ge Q (2 ^ D) with h1 | h1
      · have := blen_le h1; omega
      · omega
    have hb : blen Q = D + 1 := by rw [hQe, blen_pow]
    have hq2 : Q2 = 2 ^ (D - 1) := by rw [h2, hQe, hpow]; omega
    have hb2 : blen Q2 = D := by rw [hq2, blen_pow]; omega
    refine ⟨by omega, by omega, fun h => by omega, fun _ => ⟨by omega, by have := Nat.two_pow_pos (D - 1); omega, ?_⟩, by omega⟩
    rw [k2, hq2, hQe, hpow, show (K + 1 - lo).toNat = (K - lo).toNat + 1 by omega, Nat.add_mul]
    omega
  · rw [if_neg h] at h2 k2
    subst h2 k2
    refine ⟨by omega, rfl, fun h1 => ?_, fun h1 => ⟨?_, ?_, rfl⟩, hK⟩
    · have hl := blen_lt Q2
      have : 2 ^ blen Q2 ≤ 2 ^ (D - 1) := Nat.pow_le_pow_right (by decide) (by omega)
      have : ¬ lo < K2 := fun h2 => by have := hfull h2; omega
      exact ⟨rfl, by omega, by omega⟩
    · have h0 : Q2 ≠ 0 := fun h0 => by rw [h0, blen_zero] at h1; omega
      have := le_of_blen h0
      rwa [h1] at this
    · have := blen_lt Q2
      rwa [h1] at this
theorem g_ends {D : Nat} {lo : Int} {ng : Bool} {M : Nat} {e : Int} {more : Bool} {mode : Int} (hM : M ≠ 0) (hD : 1 ≤ D) :
    blen (gQ2 D lo ng M e more mode) ≤ D ∧ gK2 D lo ng M e more mode + (blen (gQ2 D lo ng M e more mode) : Nat) = gK D lo M e + (blen (gQ D lo ng M e more mode) : Nat) ∧
    (blen (gQ2 D lo ng M e more mode) < D → gQ2 D lo ng M e more mode = gQ D lo ng M e more mode ∧ gK D lo M e = lo ∧ gK2 D lo ng M e more mode = lo) ∧
    (blen (gQ2 D lo ng M e more mode) = D → 2 ^ (D - 1) ≤ gQ2 D lo ng M e more mode ∧ gQ2 D lo ng M e more mode < 2 ^ D ∧
      (gK2 D lo ng M e more mode - lo).toNat * 2 ^ (D - 1) + gQ2 D lo ng M e more mode = (gK D lo M e - lo).toNat * 2 ^ (D - 1) + gQ D lo ng M e more mode) ∧ lo ≤ gK2 D lo ng M e more mode :=
  g_ends_aux (gQ_le D lo ng M e more mode) (gQ_full ng more mode hM hD) (Int.le_max_right _ _) hD _ _ rfl rfl
theorem blen_of_dg {n k : Nat} (h : (dg n).length ≤ k) : blen n ≤ 32 * k :=
  blen_le (Nat.lt_of_lt_of_le (lt_of_dg n) (by rw [show (4294967296 : Nat) = 2 ^ 32 from rfl, ← Nat.pow_mul]; exact Nat.pow_le_pow_right (by decide) (Nat.mul_le_mul_left _ h)))
theorem fld_join (fd Q F : Nat) (h : 1 ≤ fd) (h2 : F ≤ Q) : fd * F + (Q - F) = (fd - 1) * F + Q := by
  obtain ⟨j, rfl⟩ : ∃ j, fd = j + 1 := ⟨fd - 1, by omega⟩
  rw [Nat.add_sub_cancel, Nat.add_mul]; omega
def gWord (D lo most : Int) (top inf FR SG : Nat) (ng : Bool) (M : Nat) (e : Int) (more : Bool) (mode : Int) : Nat :=
  (if gOver D lo most ng M e more mode then (if topR ng mode then top else inf) else (gK D lo M e - lo).toNat * FR + gQ D lo ng M e more mode) + (if ng then SG else 0)
def gFlags (D lo most : Int) (ng : Bool) (M : Nat) (e : Int) (more : Bool) (mode : Int) : Int := if gOver D lo most ng M e more mode then 5 else gFl D lo M e more
set_option maxRecDepth 100000 in
set_option maxHeartbeats 600000 in
theorem Round0D (ng more : Bool) (g M b : Nat) (e mode K : Int) (hb : b = blen M) (hb2 : b ≤ 30000) (he : -50000 ≤ e ∧ e ≤ 50000) (hM : (dg M).length ≤ 1000) (hK : K = max (e + (b : Int) - 53) (-1074)) (hM0 : M ≠ 0) (WD : Nat) (FLG : Int) (hWD : WD = (if gOver 53 (-1074) 1023 ng M e more mode then (if topR ng mode then 9218868437227405311 else 9218868437227405312) else (gK 53 (-1074) M e - -1074).toNat * 4503599627370496 + gQ 53 (-1074) ng M e more mode) + (if ng then 9223372036854775808 else 0)) (hFL : FLG = if gOver 53 (-1074) 1023 ng M e more mode then 5 else gFl 53 (-1074) M e more) (w : World) (hI : IntB w g (M : Int)) : Calls Tryz.prog 55 #[fmD, .bool ng, .pointer (some ⟨g, 0, none⟩), .int .i64 e, .bool more, .int .i64 mode] w (fun e w' => e = .returned (.tuple #[.int .u64 (WD : Int), .int .i64 FLG]) ∧ Within w w') := by
  have HWD := Lib.hid hWD; have HFL := Lib.hid hFL; clear hWD hFL
  have HB := Lib.hid hb; have HK := Lib.hid hK; have HM0 := Lib.hid hM0; clear hb hK hM0
  have he1 := he.1; have he2 := he.2; clear he
  have BL := Lib.hid (fun (w' : World) (h : IntB w' g (M : Int)) => Bbitlen g M (by rw [Int.natAbs_natCast]; exact Nat.le_trans hM (by decide)) w' h)
  have HM := Lib.hid hM; clear hM
  have hK1 : -60000 ≤ K := by have := HK.out; omega
  have hK2 : K ≤ 100000 := by have := HK.out; omega
  have hGK : gK 53 (-1074) M e = K := by unfold gK; rw [← HB.out]; exact HK.out.symm
  have HGK := Lib.hid hGK; clear hGK
  obtain ⟨qq, hqq⟩ : ∃ qq, qq = gq 53 (-1074) M e := ⟨_, rfl⟩
  obtain ⟨cc, hcc⟩ : ∃ cc, cc = gc 53 (-1074) M e more := ⟨_, rfl⟩
  obtain ⟨QQ, hQQ⟩ : ∃ QQ, QQ = gQ 53 (-1074) ng M e more mode := ⟨_, rfl⟩
  have hql : gq 53 (-1074) M e < 2 ^ 53 := gq_lt 53 (-1074) M e
  rw [← hqq] at hql
  have HQL := Lib.hid hql; clear hql
  have hQl : gQ 53 (-1074) ng M e more mode ≤ 2 ^ 53 := gQ_le 53 (-1074) ng M e more mode
  rw [← hQQ] at hQl
  have HQ2 := Lib.hid hQl; clear hQl
  have hQu : QQ = qq + (upB ng qq cc mode).toNat := by rw [hQQ, hqq, hcc]; rfl
  have HQU := Lib.hid hQu; clear hQu
  have HQQ := Lib.hid hqq; have HCC := Lib.hid hcc; have HQX := Lib.hid hQQ; clear hqq hcc hQQ
  go_enter Tryz.func55, Tryz.ntmps55
  go_wp2_with fail
  refine (BL.out _ (by repeat (first | with_reducible assumption | with_reducible exact ib_new _ _ (by simp; done) | with_reducible refine IntB.alloc ?_ _ | with_reducible refine IntB.drewN ?_ _))).mono ?_; rintro e1 w1 ⟨rfl, hb1⟩
  have hI1 : IntB w1 g (M : Int) := (hI.alloc _).of hb1
  have x0 : w1.cell? ⟨w.heap.size, 0, none⟩ = some (.int .i64 (53)) := (hb1.cells _ _ (by simp)).trans (by go_simp)
  have x1 : w1.cell? ⟨w.heap.size, 1, none⟩ = some (.int .i64 (-1022)) := (hb1.cells _ _ (by simp)).trans (by go_simp)
  have x2 : w1.cell? ⟨w.heap.size, 2, none⟩ = some (.int .i64 (1023)) := (hb1.cells _ _ (by simp)).trans (by go_simp)
  have x3 : w1.cell? ⟨w.heap.size, 3, none⟩ = some (.int .i64 (11)) := (hb1.cells _ _ (by simp)).trans (by go_simp)
  rw [Int.natAbs_natCast, ← HB.out]
  have gm : max (e + (b : Int) - 1 - 53 + 1) (-1074) = K := by have := HK.out; omega
  go_wp2_with fail
  refine (Bset w1.heap.size g M (by rw [Int.natAbs_natCast]; exact Nat.le_trans HM.out (by decide)) _ (by repeat (first | with_reducible assumption | with_reducible exact ty_new _ _ _ _ (by simp; done) | with_reducible refine ty_drew ?_ | with_reducible refine ty_alloc ?_ _)) (by repeat (first | with_reducible assumption | with_reducible exact ib_new _ _ (by simp; done) | with_reducible refine IntB.alloc ?_ _ | with_reducible refine IntB.drewN ?_ _))).mono ?_; rintro e2 w2 ⟨rfl, hI2, hG2⟩
  have hb2 : Within w1 w2 := Within.grown (by repeat (first | with_reducible exact Within.refl _ | with_reducible assumption | with_reducible refine Within.alloc ?_ _ | with_reducible refine Within.drew ?_ | with_reducible refine Within.drewN ?_ _ | with_reducible refine Within.setCell ?_ (by first | (simp; done) | (simp; omega)) _ | with_reducible refine Within.trans ?_ (by assumption))) hG2 (by simp)
  have t2 := hI2.ty
  have hI := hI1.of hb2
  clear hG2
  have hb20 : Within (w.alloc (.cells #[.int .i64 53, .int .i64 (-1022), .int .i64 1023, .int .i64 11] 60)) w2 := hb1.trans hb2
  clear x0 x1 x2 x3
  have x0 : w2.cell? ⟨w.heap.size, 0, none⟩ = some (.int .i64 (53)) := (hb20.cells _ _ (by simp)).trans (by go_simp)
  have x1 : w2.cell? ⟨w.heap.size, 1, none⟩ = some (.int .i64 (-1022)) := (hb20.cells _ _ (by simp)).trans (by go_simp)
  have x2 : w2.cell? ⟨w.heap.size, 2, none⟩ = some (.int .i64 (1023)) := (hb20.cells _ _ (by simp)).trans (by go_simp)
  have x3 : w2.cell? ⟨w.heap.size, 3, none⟩ = some (.int .i64 (11)) := (hb20.cells _ _ (by simp)).trans (by go_simp)
  go_upto_if 42 with fail
  go_cut [16, 17] (fun sq sc wx => PtrI (w.alloc (.cells #[.int .i64 53, .int .i64 (-1022), .int .i64 1023, .int .i64 11] 60)) (qq : Int) sq wx ∧ sc = .int .i64 cc ∧ Within (w.alloc (.cells #[.int .i64 53, .int .i64 (-1022), .int .i64 1023, .int .i64 11] 60)) wx)
  case first =>
    by_cases hle : K ≤ e
    · skip
      obtain ⟨k, hk⟩ : ∃ k : Nat, e - K = (k : Int) := ⟨(e - K).toNat, by omega⟩
      have hkb : k ≤ 150000 := by omega
      have hv : (M : Int) * 2 ^ k = (qq : Int) := by have h1 := HGK.out; rw [HQQ.out]; unfold gq; rw [h1, if_pos hle, hk, Int.toNat_natCast]; simp
      have hcv : cc = if more then -1 else -2 := by have h1 := HGK.out; rw [HCC.out]; unfold gc; rw [h1, if_pos hle]
      have HCV := Lib.hid hcv; clear hcv
      have d : decide (e ≥ K) = true := decide_eq_true hle
      have HLE := Lib.hid hle; clear hle
      go_wp2_with fail
      refine (Blsh w1.heap.size w1.heap.size k M (by rw [Int.natAbs_natCast]; exact Nat.le_trans HM.out (by decide)) (by omega) w2 t2 hI2).mono ?_; rintro e3 w3 ⟨rfl, hI3, hG3⟩
      have hb3 : Within (w.alloc (.cells #[.int .i64 53, .int .i64 (-1022), .int .i64 1023, .int .i64 11] 60)) w3 := Within.grown hb20 hG3 (by have := hb1.sizes; exact this)
      rw [hv] at hI3
      have hs1 := hb1.sizes
      cases more
      · have hcm : (-2 : Int) = cc := by rw [HCV.out]; rfl
        clear HCV
        go_wp2_with fail
        go_meet
        exact ⟨⟨_, rfl, hI3, hs1⟩, by first | rfl | rw [hcm], hb3⟩
      · have hcm : (-1 : Int) = cc := by rw [HCV.out]; rfl
        clear HCV
        go_wp2_with fail
        go_meet
        exact ⟨⟨_, rfl, hI3, hs1⟩, by first | rfl | rw [hcm], hb3⟩
    · skip
      obtain ⟨k, hk⟩ : ∃ k : Nat, K - e = (k : Int) := ⟨(K - e).toNat, by omega⟩
      have hkb : 1 ≤ k ∧ k ≤ 60000 := by have := HK.out; omega
      have hv : M / 2 ^ k = qq := by have h1 := HGK.out; rw [HQQ.out]; unfold gq; rw [h1, if_neg hle, hk, Int.toNat_natCast]
      have hcv : cutC M k more = cc := by have h1 := HGK.out; rw [HCC.out]; unfold gc; rw [h1, if_neg hle, hk, Int.toNat_natCast]
      have CT := Lib.hid (Rcut g M k more hkb.1 hkb.2 HM.out w2 hI)
      rw [hv, hcv] at CT
      clear hv hcv
      have d : decide (e ≥ K) = false := decide_eq_false (by omega)
      have HLE := Lib.hid hle; clear hle
      go_wp2_with fail
      refine CT.out.mono ?_; rintro e3 w3 ⟨g3, rfl, hI3, hg3, hb3'⟩
      have hb3 := hb20.trans hb3'
      have hs1 := Nat.le_trans hb20.sizes hg3
      go_wp2_with fail
      go_meet
      exact ⟨⟨_, rfl, hI3, hs1⟩, rfl, hb3⟩
  case rest =>
    obtain ⟨⟨gQ', rfl, hIq, hgq⟩, rfl, hw⟩ := hcut
    have x0 : wc.cell? ⟨w.heap.size, 0, none⟩ = some (.int .i64 (53)) := (hw.cells _ _ (by simp)).trans (by go_simp)
    have x1 : wc.cell? ⟨w.heap.size, 1, none⟩ = some (.int .i64 (-1022)) := (hw.cells _ _ (by simp)).trans (by go_simp)
    have x2 : wc.cell? ⟨w.heap.size, 2, none⟩ = some (.int .i64 (1023)) := (hw.cells _ _ (by simp)).trans (by go_simp)
    have x3 : wc.cell? ⟨w.heap.size, 3, none⟩ = some (.int .i64 (11)) := (hw.cells _ _ (by simp)).trans (by go_simp)
    have GO := Lib.hid (Rgoes ng gQ' qq cc mode (HCC.out ▸ gc_range _ _ _ _ _) (Nat.le_trans (dg_small (k := 2) (Nat.lt_of_lt_of_le HQL.out (by decide))) (by decide)) wc hIq)
    go_wp2_with fail
    refine GO.out.mono ?_; rintro e4 w4 ⟨rfl, hb4⟩
    obtain ⟨u, hu⟩ : ∃ u, u = upB ng qq cc mode := ⟨_, rfl⟩
    rw [← hu]
    have HU := HQU.out; rw [← hu] at HU
    have HQ3 := Lib.hid HU; clear HU hu GO
    have hIq := hIq.of hb4
    have hw4 := hw.trans hb4
    clear x0 x1 x2 x3
    have x0 : w4.cell? ⟨w.heap.size, 0, none⟩ = some (.int .i64 (53)) := (hw4.cells _ _ (by simp)).trans (by go_simp)
    have x1 : w4.cell? ⟨w.heap.size, 1, none⟩ = some (.int .i64 (-1022)) := (hw4.cells _ _ (by simp)).trans (by go_simp)
    have x2 : w4.cell? ⟨w.heap.size, 2, none⟩ = some (.int .i64 (1023)) := (hw4.cells _ _ (by simp)).trans (by go_simp)
    have x3 : w4.cell? ⟨w.heap.size, 3, none⟩ = some (.int .i64 (11)) := (hw4.cells _ _ (by simp)).trans (by go_simp)
    go_upto_if 64 with fail
    go_cut [16] (fun sq wx => PtrI (w.alloc (.cells #[.int .i64 53, .int .i64 (-1022), .int .i64 1023, .int .i64 11] 60)) (QQ : Int) sq wx ∧ Within (w.alloc (.cells #[.int .i64 53, .int .i64 (-1022), .int .i64 1023, .int .i64 11] 60)) wx)
    case first =>
      cases u
      · have hq : (qq : Int) = (QQ : Int) := by rw [HQ3.out]; rfl
        rw [hq] at hIq; clear HQ3 hq
        go_wp2_with fail
        go_meet
        exact ⟨⟨_, rfl, hIq, hgq⟩, hw4⟩
      · have hq : (qq : Int) + 1 = (QQ : Int) := by rw [HQ3.out]; rfl
        have HQ4 := Lib.hid hq; clear HQ3 hq
        have hlq := hIq.lt
        go_wp2_with fail
        refine (BnewInt 1 (by decide) (by decide) w4).mono ?_; rintro e5 w5 ⟨g5, rfl, hI5, hg5, hb5⟩
        have hIq := hIq.of hb5
        go_wp2_with fail
        refine (BAdd gQ' gQ' g5 qq 1 (by rw [Int.natAbs_natCast]; exact Nat.le_trans (dg_small (k := 2) (Nat.lt_of_lt_of_le HQL.out (by decide))) (by decide)) (by decide +kernel) w5 hIq.ty hIq hI5).mono ?_; rintro e6 w6 ⟨rfl, hI6, hG6⟩
        rw [HQ4.out] at hI6
        have hb6 : Within (w.alloc (.cells #[.int .i64 53, .int .i64 (-1022), .int .i64 1023, .int .i64 11] 60)) w6 := Within.grown (hw4.trans hb5) hG6 hgq
        go_wp2_with fail
        go_meet
        exact ⟨⟨_, rfl, hI6, hgq⟩, hb6⟩
    case rest =>
      obtain ⟨⟨gR, rfl, hIr, hgr⟩, hw'⟩ := hcut
      have x0 : wc.cell? ⟨w.heap.size, 0, none⟩ = some (.int .i64 (53)) := (hw'.cells _ _ (by simp)).trans (by go_simp)
      have x1 : wc.cell? ⟨w.heap.size, 1, none⟩ = some (.int .i64 (-1022)) := (hw'.cells _ _ (by simp)).trans (by go_simp)
      have x2 : wc.cell? ⟨w.heap.size, 2, none⟩ = some (.int .i64 (1023)) := (hw'.cells _ _ (by simp)).trans (by go_simp)
      have x3 : wc.cell? ⟨w.heap.size, 3, none⟩ = some (.int .i64 (11)) := (hw'.cells _ _ (by simp)).trans (by go_simp)
      obtain ⟨FF, hFF⟩ : ∃ FF, FF = gFl 53 (-1074) M e more := ⟨_, rfl⟩
      have hFF2 : FF = if -2 < cc then (if e + (b : Int) - 1 < -1022 then 3 else 1) else 0 := by rw [hFF]; unfold gFl; rw [← HCC.out, ← HB.out]; rfl
      have HFF := Lib.hid hFF; have HF2 := Lib.hid hFF2; clear hFF hFF2
      have go2 : bits .or .i64 1 2 = 3 := by decide
      go_upto_if 70 with fail
      go_cut [18] (fun sf wx => sf = .int .i64 FF ∧ wx = wc)
      case first =>
        by_cases hc2 : -2 < cc
        · have d : decide (-2 < cc) = true := decide_eq_true hc2
          by_cases ht : e + (b : Int) - 1 < -1022
          · have dt : decide (e + (b : Int) - 1 < -1022) = true := decide_eq_true ht
            have hv : (3 : Int) = FF := by rw [HF2.out, if_pos hc2, if_pos ht]
            have HV := Lib.hid hv; clear hv d dt
            go_wp2_with fail
            go_meet
            exact ⟨by rw [← HV.out], rfl⟩
          · have dt : decide (e + (b : Int) - 1 < -1022) = false := decide_eq_false ht
            have hv : (1 : Int) = FF := by rw [HF2.out, if_pos hc2, if_neg ht]
            have HV := Lib.hid hv; clear hv d dt
            go_wp2_with fail
            go_meet
            exact ⟨by rw [← HV.out], rfl⟩
        · have d : decide (-2 < cc) = false := decide_eq_false hc2
          have hv : (0 : Int) = FF := by rw [HF2.out, if_neg hc2]
          have hc3 : cc ≤ -2 := by omega
          have HV := Lib.hid hv; clear hv d hc2
          go_wp2_with fail
          go_meet
          exact ⟨by rw [← HV.out], rfl⟩
      case rest =>
        obtain ⟨rfl, rfl⟩ := hcut
        obtain ⟨NB, hNB⟩ : ∃ NB, NB = blen QQ := ⟨_, rfl⟩
        obtain ⟨K2, hK2'⟩ : ∃ K2, K2 = gK2 53 (-1074) ng M e more mode := ⟨_, rfl⟩
        obtain ⟨Q2, hQ2'⟩ : ∃ Q2, Q2 = gQ2 53 (-1074) ng M e more mode := ⟨_, rfl⟩
        obtain ⟨N2, hN2'⟩ : ∃ N2, N2 = blen Q2 := ⟨_, rfl⟩
        have hK2e : K2 = if 53 < (NB : Int) then K + 1 else K := by rw [hK2', hNB, HQX.out]; unfold gK2; rw [HGK.out]; all_goals rfl
        have hQ2e : Q2 = if 53 < (NB : Int) then QQ / 2 else QQ := by rw [hQ2', hNB, HQX.out]; unfold gQ2; all_goals rfl
        have hE := g_ends (D := 53) (lo := -1074) (ng := ng) (M := M) (e := e) (more := more) (mode := mode) HM0.out (by decide)
        rw [show ((53 : Nat) : Int) = 53 from rfl, ← hQ2', ← hK2', ← HQX.out, HGK.out, ← hN2', ← hNB] at hE
        have HNB := Lib.hid hNB; have HK2 := Lib.hid hK2e; have HQ2' := Lib.hid hQ2e; have HN2 := Lib.hid hN2'; have HE := Lib.hid hE; clear hNB hK2' hQ2' hN2' hK2e hQ2e hE
        have hNBb : NB ≤ 54 := by rw [HNB.out]; exact blen_le (Nat.lt_of_le_of_lt HQ2.out (by decide))
        have hN2b : N2 ≤ 53 := HE.out.1
        have hQs : (dg QQ).length ≤ 1000000 := Nat.le_trans (dg_small (k := 2) (Nat.lt_of_le_of_lt HQ2.out (by decide))) (by decide)
        have hQs2 : (dg Q2).length ≤ 1000000 := by have h1 := HQ2'.out; refine Nat.le_trans (dg_len_mono ?_) hQs; rw [h1]; split; exact Nat.div_le_self _ _; exact Nat.le_refl _
        have HQs := Lib.hid hQs; have HQs2 := Lib.hid hQs2; clear hQs hQs2
        have hK2b : -60000 ≤ K2 ∧ K2 ≤ 100001 := by have := HK2.out; rw [this]; split <;> omega
        have hK21 := hK2b.1; have hK22 := hK2b.2; clear hK2b
        go_upto_region 16 with fail
        refine wp_region_schG (fun W => W.cell? ⟨w.heap.size, 0, none⟩ = some (.int .i64 (53)) ∧ W.cell? ⟨w.heap.size, 1, none⟩ = some (.int .i64 (-1022)) ∧ W.cell? ⟨w.heap.size, 2, none⟩ = some (.int .i64 (1023)) ∧ W.cell? ⟨w.heap.size, 3, none⟩ = some (.int .i64 (11)) ∧ IntB W gR (QQ : Int) ∧ Within (w.alloc (.cells #[.int .i64 53, .int .i64 (-1022), .int .i64 1023, .int .i64 11] 60)) W) 4 (.firm 0 (.firm 2 (.firm 3 (.one 1 (.one 4 .nil))))) (by kernel_rfl) (by kernel_rfl) ⟨x0, x1, x2, x3, hIr, hw'⟩ ?_
        rintro w0 ⟨y0, y1, y2, y3, hJ, hw0⟩
        try simp only [Act.put, List.setIfInBounds_toArray, List.set_cons_zero, List.set_cons_succ]
        have hs0 : w.heap.size < w0.heap.size := by have := hw0.sizes; simp at this; omega
        repeat
          apply sch_firm rfl rfl (by repeat (first | with_reducible exact Within.refl _ | with_reducible assumption | with_reducible refine Within.alloc ?_ _ | with_reducible refine Within.drew ?_ | with_reducible refine Within.drewN ?_ _ | with_reducible refine Within.setCell ?_ (by first | (simp; done) | (simp; omega)) _ | with_reducible refine Within.trans ?_ (by assumption)))
          · intro wq hq
            have hcq := hq.cells
            clear hq
            go_simp
            first | rfl | (trace_state; fail)
          try simp only [Act.put, List.setIfInBounds_toArray, List.set_cons_zero, List.set_cons_succ]
        refine sch_one rfl rfl (fun K hK => ?_)
        go_simp
        refine (Bbitlen gR QQ (by rw [Int.natAbs_natCast]; exact HQs.out) _ (hJ.of (Within.refl _).drew)).mono ?_; rintro e7 w7 ⟨rfl, hb7⟩
        rw [Int.natAbs_natCast, ← HNB.out]
        have hv7 : Within w0 w7 := (Within.refl w0).drew.trans hb7
        refine hK _ _ (fun _ => (by repeat (first | with_reducible exact Within.refl _ | with_reducible assumption | with_reducible refine Within.alloc ?_ _ | with_reducible refine Within.drew ?_ | with_reducible refine Within.drewN ?_ _ | with_reducible refine Within.setCell ?_ (by first | (simp; done) | (simp; omega)) _ | with_reducible refine Within.trans ?_ (by assumption)))) ?_
        clear hK K
        try simp only [Act.put, List.setIfInBounds_toArray, List.set_cons_zero, List.set_cons_succ]
        refine sch_one rfl rfl (fun K hK => ?_)
        go_simp
        refine hK _ _ (fun h => absurd h (by decide)) ?_
        clear hK K
        try simp only [Act.put, List.setIfInBounds_toArray, List.set_cons_zero, List.set_cons_succ]
        refine sch_nil ?_
        have hw7 := hw0.trans hv7
        have hJ := hJ.of hv7
        clear x0 x1 x2 x3 y0 y1 y2 y3
        have x0 : w7.cell? ⟨w.heap.size, 0, none⟩ = some (.int .i64 (53)) := (hw7.cells _ _ (by simp)).trans (by go_simp)
        have x1 : w7.cell? ⟨w.heap.size, 1, none⟩ = some (.int .i64 (-1022)) := (hw7.cells _ _ (by simp)).trans (by go_simp)
        have x2 : w7.cell? ⟨w.heap.size, 2, none⟩ = some (.int .i64 (1023)) := (hw7.cells _ _ (by simp)).trans (by go_simp)
        have x3 : w7.cell? ⟨w.heap.size, 3, none⟩ = some (.int .i64 (11)) := (hw7.cells _ _ (by simp)).trans (by go_simp)
        go_upto_if 81 with fail
        go_cut [15, 16] (fun sk sq wx => sk = .int .i64 K2 ∧ PtrI (w.alloc (.cells #[.int .i64 53, .int .i64 (-1022), .int .i64 1023, .int .i64 11] 60)) (Q2 : Int) sq wx ∧ Within (w.alloc (.cells #[.int .i64 53, .int .i64 (-1022), .int .i64 1023, .int .i64 11] 60)) wx)
        case first =>
          by_cases hN : 53 < (NB : Int)
          · have hv : QQ / 2 ^ 1 = Q2 := by have h1 := HQ2'.out; rw [h1, if_pos hN]
            have hk : K + 1 = K2 := by have h1 := HK2.out; rw [h1, if_pos hN]
            have HV := Lib.hid hv; have HKK := Lib.hid hk; clear hv hk
            have hN' : 53 < NB := by omega
            go_wp2_with fail
            refine (Brsh gR gR 1 QQ (Nat.le_trans HQs.out (by decide)) (by decide) w7 hJ.ty hJ).mono ?_; rintro e8 w8 ⟨rfl, hI8, hG8⟩
            rw [HV.out] at hI8
            have hb8 : Within (w.alloc (.cells #[.int .i64 53, .int .i64 (-1022), .int .i64 1023, .int .i64 11] 60)) w8 := Within.grown hw7 hG8 hgr
            go_wp2_with fail
            go_meet
            exact ⟨by rw [HKK.out], ⟨_, rfl, hI8, hgr⟩, hb8⟩
          · have hv : QQ = Q2 := by have h1 := HQ2'.out; rw [h1, if_neg hN]
            have hk : K = K2 := by have h1 := HK2.out; rw [h1, if_neg hN]
            rw [hv] at hJ
            have HKK := Lib.hid hk; clear hv hk
            have hN' : NB ≤ 53 := by omega
            go_wp2_with fail
            go_meet
            exact ⟨by rw [HKK.out], ⟨_, rfl, hJ, hgr⟩, hw7⟩
        case rest =>
          obtain ⟨rfl, ⟨gT, rfl, hIt, hgt⟩, hw''⟩ := hcut
          have x0 : wc.cell? ⟨w.heap.size, 0, none⟩ = some (.int .i64 (53)) := (hw''.cells _ _ (by simp)).trans (by go_simp)
          have x1 : wc.cell? ⟨w.heap.size, 1, none⟩ = some (.int .i64 (-1022)) := (hw''.cells _ _ (by simp)).trans (by go_simp)
          have x2 : wc.cell? ⟨w.heap.size, 2, none⟩ = some (.int .i64 (1023)) := (hw''.cells _ _ (by simp)).trans (by go_simp)
          have x3 : wc.cell? ⟨w.heap.size, 3, none⟩ = some (.int .i64 (11)) := (hw''.cells _ _ (by simp)).trans (by go_simp)
          have s1 : IntKind.i64.wrap (K2 + (N2 : Int)) = K2 + (N2 : Int) := by rw [IntKind.wrap_i64]; omega
          have s2 : IntKind.i64.wrap (K2 + (N2 : Int) - 1) = K2 + (N2 : Int) - 1 := by rw [IntKind.wrap_i64]; omega
          go_upto_region 19 with fail
          refine wp_region_schG (fun W => W.cell? ⟨w.heap.size, 0, none⟩ = some (.int .i64 (53)) ∧ W.cell? ⟨w.heap.size, 1, none⟩ = some (.int .i64 (-1022)) ∧ W.cell? ⟨w.heap.size, 2, none⟩ = some (.int .i64 (1023)) ∧ W.cell? ⟨w.heap.size, 3, none⟩ = some (.int .i64 (11)) ∧ IntB W gT (Q2 : Int) ∧ Within (w.alloc (.cells #[.int .i64 53, .int .i64 (-1022), .int .i64 1023, .int .i64 11] 60)) W) 7 (.firm 0 (.firm 1 (.firm 5 (.firm 6 (.one 2 (.one 3 (.one 4 (.one 7 .nil)))))))) (by kernel_rfl) (by kernel_rfl) ⟨x0, x1, x2, x3, hIt, hw''⟩ ?_
          rintro w0 ⟨y0, y1, y2, y3, hJ, hw0⟩
          try simp only [Act.put, List.setIfInBounds_toArray, List.set_cons_zero, List.set_cons_succ]
          have hs0 : w.heap.size < w0.heap.size := by have := hw0.sizes; simp at this; omega
          repeat
            apply sch_firm rfl rfl (by repeat (first | with_reducible exact Within.refl _ | with_reducible assumption | with_reducible refine Within.alloc ?_ _ | with_reducible refine Within.drew ?_ | with_reducible refine Within.drewN ?_ _ | with_reducible refine Within.setCell ?_ (by first | (simp; done) | (simp; omega)) _ | with_reducible refine Within.trans ?_ (by assumption)))
            · intro wq hq
              have hcq := hq.cells
              clear hq
              go_simp
              first | rfl | (trace_state; fail)
            try simp only [Act.put, List.setIfInBounds_toArray, List.set_cons_zero, List.set_cons_succ]
          refine sch_one rfl rfl (fun K hK => ?_)
          go_simp
          refine (Bbitlen gT Q2 (by rw [Int.natAbs_natCast]; exact HQs2.out) _ (hJ.of (Within.refl _).drew)).mono ?_; rintro e9 w9 ⟨rfl, hb9⟩
          rw [Int.natAbs_natCast, ← HN2.out]
          have hv9 : Within w0 w9 := (Within.refl w0).drew.trans hb9
          refine hK _ _ (fun _ => (by repeat (first | with_reducible exact Within.refl _ | with_reducible assumption | with_reducible refine Within.alloc ?_ _ | with_reducible refine Within.drew ?_ | with_reducible refine Within.drewN ?_ _ | with_reducible refine Within.setCell ?_ (by first | (simp; done) | (simp; omega)) _ | with_reducible refine Within.trans ?_ (by assumption)))) ?_
          clear hK K
          try simp only [Act.put, List.setIfInBounds_toArray, List.set_cons_zero, List.set_cons_succ]
          refine sch_one rfl rfl (fun K hK => ?_)
          go_simp
          refine hK _ _ (fun _ => (by repeat (first | with_reducible exact Within.refl _ | with_reducible assumption | with_reducible refine Within.alloc ?_ _ | with_reducible refine Within.drew ?_ | with_reducible refine Within.drewN ?_ _ | with_reducible refine Within.setCell ?_ (by first | (simp; done) | (simp; omega)) _ | with_reducible refine Within.trans ?_ (by assumption)))) ?_
          clear hK K
          try simp only [Act.put, List.setIfInBounds_toArray, List.set_cons_zero, List.set_cons_succ]
          refine sch_one rfl rfl (fun K hK => ?_)
          go_simp
          refine hK _ _ (fun _ => (by repeat (first | with_reducible exact Within.refl _ | with_reducible assumption | with_reducible refine Within.alloc ?_ _ | with_reducible refine Within.drew ?_ | with_reducible refine Within.drewN ?_ _ | with_reducible refine Within.setCell ?_ (by first | (simp; done) | (simp; omega)) _ | with_reducible refine Within.trans ?_ (by assumption)))) ?_
          clear hK K
          try simp only [Act.put, List.setIfInBounds_toArray, List.set_cons_zero, List.set_cons_succ]
          refine sch_one rfl rfl (fun K hK => ?_)
          go_simp
          refine hK _ _ (fun h => absurd h (by decide)) ?_
          clear hK K
          try simp only [Act.put, List.setIfInBounds_toArray, List.set_cons_zero, List.set_cons_succ]
          refine sch_nil ?_
          have hw9 := hw0.trans hv9
          have hJ := hJ.of hv9
          clear x0 x1 x2 x3 y0 y1 y2 y3
          have x0 : w9.cell? ⟨w.heap.size, 0, none⟩ = some (.int .i64 (53)) := (hw9.cells _ _ (by simp)).trans (by go_simp)
          have x1 : w9.cell? ⟨w.heap.size, 1, none⟩ = some (.int .i64 (-1022)) := (hw9.cells _ _ (by simp)).trans (by go_simp)
          have x2 : w9.cell? ⟨w.heap.size, 2, none⟩ = some (.int .i64 (1023)) := (hw9.cells _ _ (by simp)).trans (by go_simp)
          have x3 : w9.cell? ⟨w.heap.size, 3, none⟩ = some (.int .i64 (11)) := (hw9.cells _ _ (by simp)).trans (by go_simp)
          by_cases hov : 1023 < K2 + (N2 : Int) - 1
          · have hO : gOver 53 (-1074) 1023 ng M e more mode = true := by unfold gOver; rw [HGK.out, ← HQX.out, ← HNB.out]; exact decide_eq_true (by have := HE.out.2.1; omega)
            have hV := HWD.out; rw [hO, if_pos rfl] at hV
            have hF := HFL.out; rw [hO, if_pos rfl] at hF
            have RO := fun (w' : World) => RoverD ng mode w'
            rw [← hV] at RO
            have HRO := Lib.hid RO; have HFF5 := Lib.hid hF; clear RO hV hF hO
            go_wp2_with fail
            refine (HRO.out _).mono ?_; rintro e10 w10 ⟨rfl, hb10⟩
            go_wp2
            go_ret2
            exact ⟨ret2 rfl (v_int HFF5.out.symm), ((Within.refl w).alloc _).trans (hw9.trans hb10)⟩
          · have hov' : K2 + (N2 : Int) - 1 ≤ 1023 := by omega
            have hO : gOver 53 (-1074) 1023 ng M e more mode = false := by unfold gOver; rw [HGK.out, ← HQX.out, ← HNB.out]; exact decide_eq_false (by have := HE.out.2.1; omega)
            have hV := HWD.out; rw [hO, if_neg Bool.false_ne_true, HGK.out, ← HQX.out] at hV
            have hF := HFL.out; rw [hO, if_neg Bool.false_ne_true, ← HFF.out] at hF
            have HVV := Lib.hid hV; have HFF5 := Lib.hid hF; clear hV hF hO
            go_upto_region 21 with fail
            refine wp_region_schG (fun W => W.cell? ⟨w.heap.size, 0, none⟩ = some (.int .i64 (53)) ∧ W.cell? ⟨w.heap.size, 1, none⟩ = some (.int .i64 (-1022)) ∧ W.cell? ⟨w.heap.size, 2, none⟩ = some (.int .i64 (1023)) ∧ W.cell? ⟨w.heap.size, 3, none⟩ = some (.int .i64 (11)) ∧ IntB W gT (Q2 : Int) ∧ Within (w.alloc (.cells #[.int .i64 53, .int .i64 (-1022), .int .i64 1023, .int .i64 11] 60)) W) 4 (.firm 0 (.firm 2 (.firm 3 (.one 1 (.one 4 .nil))))) (by kernel_rfl) (by kernel_rfl) ⟨x0, x1, x2, x3, hJ, hw9⟩ ?_
            rintro w0 ⟨y0, y1, y2, y3, hJ, hw0⟩
            try simp only [Act.put, List.setIfInBounds_toArray, List.set_cons_zero, List.set_cons_succ]
            have hs0 : w.heap.size < w0.heap.size := by have := hw0.sizes; simp at this; omega
            repeat
              apply sch_firm rfl rfl (by repeat (first | with_reducible exact Within.refl _ | with_reducible assumption | with_reducible refine Within.alloc ?_ _ | with_reducible refine Within.drew ?_ | with_reducible refine Within.drewN ?_ _ | with_reducible refine Within.setCell ?_ (by first | (simp; done) | (simp; omega)) _ | with_reducible refine Within.trans ?_ (by assumption)))
              · intro wq hq
                have hcq := hq.cells
                clear hq
                go_simp
                first | rfl | (trace_state; fail)
              try simp only [Act.put, List.setIfInBounds_toArray, List.set_cons_zero, List.set_cons_succ]
            refine sch_one rfl rfl (fun K hK => ?_)
            go_simp
            refine (Bbitlen gT Q2 (by rw [Int.natAbs_natCast]; exact HQs2.out) _ (hJ.of (Within.refl _).drew)).mono ?_; rintro e11 w11 ⟨rfl, hb11⟩
            rw [Int.natAbs_natCast, ← HN2.out]
            have hv11 : Within w0 w11 := (Within.refl w0).drew.trans hb11
            refine hK _ _ (fun _ => (by repeat (first | with_reducible exact Within.refl _ | with_reducible assumption | with_reducible refine Within.alloc ?_ _ | with_reducible refine Within.drew ?_ | with_reducible refine Within.drewN ?_ _ | with_reducible refine Within.setCell ?_ (by first | (simp; done) | (simp; omega)) _ | with_reducible refine Within.trans ?_ (by assumption)))) ?_
            clear hK K
            try simp only [Act.put, List.setIfInBounds_toArray, List.set_cons_zero, List.set_cons_succ]
            refine sch_one rfl rfl (fun K hK => ?_)
            go_simp
            refine hK _ _ (fun h => absurd h (by decide)) ?_
            clear hK K
            try simp only [Act.put, List.setIfInBounds_toArray, List.set_cons_zero, List.set_cons_succ]
            refine sch_nil ?_
            have hw11 := hw0.trans hv11
            have hJ := hJ.of hv11
            clear x0 x1 x2 x3 y0 y1 y2 y3
            have x0 : w11.cell? ⟨w.heap.size, 0, none⟩ = some (.int .i64 (53)) := (hw11.cells _ _ (by simp)).trans (by go_simp)
            have x1 : w11.cell? ⟨w.heap.size, 1, none⟩ = some (.int .i64 (-1022)) := (hw11.cells _ _ (by simp)).trans (by go_simp)
            have x2 : w11.cell? ⟨w.heap.size, 2, none⟩ = some (.int .i64 (1023)) := (hw11.cells _ _ (by simp)).trans (by go_simp)
            have x3 : w11.cell? ⟨w.heap.size, 3, none⟩ = some (.int .i64 (11)) := (hw11.cells _ _ (by simp)).trans (by go_simp)
            by_cases hn : N2 < 53
            · have hn' : (N2 : Int) < 53 := by omega
              obtain ⟨q1, q2, q3⟩ := HE.out.2.2.1 hn
              have hql2 : Q2 < 4503599627370496 := Nat.lt_of_lt_of_le (blen_lt Q2) (by rw [← HN2.out]; exact Nat.pow_le_pow_right (by decide) (show N2 ≤ 52 by omega))
              have RP := fun (w' : World) => RputD ng 0 Q2 (by decide) hql2 w'
              have hvv : 0 * 4503599627370496 + Q2 + (if ng then 9223372036854775808 else 0) = WD := by rw [HVV.out, q2, q1]; simp
              rw [hvv] at RP
              have HRP := Lib.hid RP; clear RP hvv q1 q2 q3
              have RU := Lib.hid (fun (w' : World) (h : IntB w' gT (Q2 : Int)) => Buint64 gT Q2 (by rw [Int.natAbs_natCast]; exact HQs2.out) w' h)
              have hmod : (Q2 : Int).natAbs % 18446744073709551616 = Q2 := by rw [Int.natAbs_natCast]; omega
              rw [hmod] at RU
              have HQL2 := Lib.hid hql2; clear hmod hql2
              go_upto_region 22 with fail
              refine wp_region_schG (fun W => W.cell? ⟨w.heap.size, 0, none⟩ = some (.int .i64 (53)) ∧ W.cell? ⟨w.heap.size, 1, none⟩ = some (.int .i64 (-1022)) ∧ W.cell? ⟨w.heap.size, 2, none⟩ = some (.int .i64 (1023)) ∧ W.cell? ⟨w.heap.size, 3, none⟩ = some (.int .i64 (11)) ∧ IntB W gT (Q2 : Int) ∧ Within (w.alloc (.cells #[.int .i64 53, .int .i64 (-1022), .int .i64 1023, .int .i64 11] 60)) W) 7 (.firm 0 (.firm 1 (.firm 2 (.firm 5 (.one 3 (.one 4 (.one 6 (.one 7 .nil)))))))) (by kernel_rfl) (by kernel_rfl) ⟨x0, x1, x2, x3, hJ, hw11⟩ ?_
              rintro w0 ⟨y0, y1, y2, y3, hJ, hw0⟩
              try simp only [Act.put, List.setIfInBounds_toArray, List.set_cons_zero, List.set_cons_succ]
              have hs0 : w.heap.size < w0.heap.size := by have := hw0.sizes; simp at this; omega
              repeat
                apply sch_firm rfl rfl (by repeat (first | with_reducible exact Within.refl _ | with_reducible assumption | with_reducible refine Within.alloc ?_ _ | with_reducible refine Within.drew ?_ | with_reducible refine Within.drewN ?_ _ | with_reducible refine Within.setCell ?_ (by first | (simp; done) | (simp; omega)) _ | with_reducible refine Within.trans ?_ (by assumption)))
                · intro wq hq
                  have hcq := hq.cells
                  clear hq
                  go_simp
                  first | rfl | (trace_state; fail)
                try simp only [Act.put, List.setIfInBounds_toArray, List.set_cons_zero, List.set_cons_succ]
              refine sch_one rfl rfl (fun K hK => ?_)
              go_simp
              refine (RU.out _ (hJ.of (Within.refl _).drew)).mono ?_; rintro e12 w12 ⟨rfl, rfl⟩
              refine hK _ _ (fun _ => (by repeat (first | with_reducible exact Within.refl _ | with_reducible assumption | with_reducible refine Within.alloc ?_ _ | with_reducible refine Within.drew ?_ | with_reducible refine Within.drewN ?_ _ | with_reducible refine Within.setCell ?_ (by first | (simp; done) | (simp; omega)) _ | with_reducible refine Within.trans ?_ (by assumption)))) ?_
              clear hK K
              try simp only [Act.put, List.setIfInBounds_toArray, List.set_cons_zero, List.set_cons_succ]
              refine sch_one rfl rfl (fun K hK => ?_)
              go_simp
              refine (HRP.out _).mono ?_; rintro e13 w13 ⟨rfl, hb13⟩
              have hv13 : Within w0 w13 := (Within.refl w0).drew.trans hb13
              refine hK _ _ (fun _ => (by repeat (first | with_reducible exact Within.refl _ | with_reducible assumption | with_reducible refine Within.alloc ?_ _ | with_reducible refine Within.drew ?_ | with_reducible refine Within.drewN ?_ _ | with_reducible refine Within.setCell ?_ (by first | (simp; done) | (simp; omega)) _ | with_reducible refine Within.trans ?_ (by assumption)))) ?_
              clear hK K
              try simp only [Act.put, List.setIfInBounds_toArray, List.set_cons_zero, List.set_cons_succ]
              refine sch_one rfl rfl (fun K hK => ?_)
              go_simp
              refine hK _ _ (fun _ => (by repeat (first | with_reducible exact Within.refl _ | with_reducible assumption | with_reducible refine Within.alloc ?_ _ | with_reducible refine Within.drew ?_ | with_reducible refine Within.drewN ?_ _ | with_reducible refine Within.setCell ?_ (by first | (simp; done) | (simp; omega)) _ | with_reducible refine Within.trans ?_ (by assumption)))) ?_
              clear hK K
              try simp only [Act.put, List.setIfInBounds_toArray, List.set_cons_zero, List.set_cons_succ]
              refine sch_one rfl rfl (fun K hK => ?_)
              go_simp
              refine hK _ _ (fun h => absurd h (by decide)) ?_
              clear hK K
              try simp only [Act.put, List.setIfInBounds_toArray, List.set_cons_zero, List.set_cons_succ]
              refine sch_nil ?_
              go_wp2
              go_ret2
              exact ⟨ret2 rfl (v_int HFF5.out.symm), ((Within.refl w).alloc _).trans (hw0.trans hv13)⟩
            · have hn' : 53 ≤ (N2 : Int) := by omega
              obtain ⟨q1, q2, q3⟩ := HE.out.2.2.2.1 (by omega)
              have q4 := HE.out.2.2.2.2
              rw [show (2 : Nat) ^ (53 - 1) = 4503599627370496 from rfl] at q1 q3
              rw [show (2 : Nat) ^ 53 = 9007199254740992 from rfl] at q2
              obtain ⟨fd, hfd⟩ : ∃ fd : Nat, K2 + 1074 + 1 = (fd : Int) := ⟨(K2 + 1074 + 1).toNat, by omega⟩
              have hfl : fd < 2048 := by omega
              have RP := fun (w' : World) => RputD ng fd (Q2 - 4503599627370496) hfl (by omega) w'
              have hvv : fd * 4503599627370496 + (Q2 - 4503599627370496) + (if ng then 9223372036854775808 else 0) = WD := by rw [HVV.out, ← q3, show (K2 - -1074).toNat = fd - 1 by omega, fld_join fd Q2 4503599627370496 (by omega) q1]
              rw [hvv] at RP
              have HRP := Lib.hid RP; clear RP hvv q3
              have RU := Lib.hid (fun (w' : World) (h : IntB w' gT (Q2 : Int)) => Buint64 gT Q2 (by rw [Int.natAbs_natCast]; exact HQs2.out) w' h)
              have hmod : (Q2 : Int).natAbs % 18446744073709551616 = Q2 := by rw [Int.natAbs_natCast]; omega
              have e9 : Q2 % 4503599627370496 = Q2 - 4503599627370496 := by omega
              have ga := u64_mask 52 (by decide) Q2 (by omega)
              rw [show (2 ^ 52 - 1 : Nat) = 4503599627370495 from rfl, show (2 ^ 52 : Nat) = 4503599627370496 from rfl, e9, show ((4503599627370495 : Nat) : Int) = 4503599627370495 from rfl] at ga
              clear e9
              rw [hmod] at RU
              have HQL2 := Lib.hid (And.intro q1 q2); clear hmod q1 q2
              have k0 : IntKind.i64.wrap 52 = 52 := by decide
              have k1 : IntKind.u64.wrap 52 = 52 := by decide
              have k2 : IntKind.u64.wrap 4503599627370496 = 4503599627370496 := by decide
              have k3 : IntKind.u64.wrap 4503599627370495 = 4503599627370495 := by decide
              have k9 : (2 : Int) ^ min (Int.toNat 52) 64 = 4503599627370496 := by decide
              go_upto_region 24 with fail
              refine wp_region_schG (fun W => W.cell? ⟨w.heap.size, 0, none⟩ = some (.int .i64 (53)) ∧ W.cell? ⟨w.heap.size, 1, none⟩ = some (.int .i64 (-1022)) ∧ W.cell? ⟨w.heap.size, 2, none⟩ = some (.int .i64 (1023)) ∧ W.cell? ⟨w.heap.size, 3, none⟩ = some (.int .i64 (11)) ∧ IntB W gT (Q2 : Int) ∧ Within (w.alloc (.cells #[.int .i64 53, .int .i64 (-1022), .int .i64 1023, .int .i64 11] 60)) W) 15 (.firm 0 (.firm 1 (.firm 2 (.firm 3 (.firm 5 (.firm 6 (.firm 7 (.firm 8 (.firm 9 (.firm 10 (.firm 13 (.one 4 (.one 11 (.one 12 (.one 14 (.one 15 .nil)))))))))))))))) (by kernel_rfl) (by kernel_rfl) ⟨x0, x1, x2, x3, hJ, hw11⟩ ?_
              rintro w0 ⟨y0, y1, y2, y3, hJ, hw0⟩
              try simp only [Act.put, List.setIfInBounds_toArray, List.set_cons_zero, List.set_cons_succ]
              have hs0 : w.heap.size < w0.heap.size := by have := hw0.sizes; simp at this; omega
              repeat
                apply sch_firm rfl rfl (by repeat (first | with_reducible exact Within.refl _ | with_reducible assumption | with_reducible refine Within.alloc ?_ _ | with_reducible refine Within.drew ?_ | with_reducible refine Within.drewN ?_ _ | with_reducible refine Within.setCell ?_ (by first | (simp; done) | (simp; omega)) _ | with_reducible refine Within.trans ?_ (by assumption)))
                · intro wq hq
                  have hcq := hq.cells
                  clear hq
                  go_simp
                  first | rfl | (trace_state; fail)
                try simp only [Act.put, List.setIfInBounds_toArray, List.set_cons_zero, List.set_cons_succ]
              refine sch_one rfl rfl (fun K hK => ?_)
              go_simp
              refine (RU.out _ (hJ.of (Within.refl _).drew)).mono ?_; rintro e12 w12 ⟨rfl, rfl⟩
              refine hK _ _ (fun _ => (by repeat (first | with_reducible exact Within.refl _ | with_reducible assumption | with_reducible refine Within.alloc ?_ _ | with_reducible refine Within.drew ?_ | with_reducible refine Within.drewN ?_ _ | with_reducible refine Within.setCell ?_ (by first | (simp; done) | (simp; omega)) _ | with_reducible refine Within.trans ?_ (by assumption)))) ?_
              clear hK K
              try simp only [Act.put, List.setIfInBounds_toArray, List.set_cons_zero, List.set_cons_succ]
              refine sch_one rfl rfl (fun K hK => ?_)
              go_simp
              refine hK _ _ (fun _ => (by repeat (first | with_reducible exact Within.refl _ | with_reducible assumption | with_reducible refine Within.alloc ?_ _ | with_reducible refine Within.drew ?_ | with_reducible refine Within.drewN ?_ _ | with_reducible refine Within.setCell ?_ (by first | (simp; done) | (simp; omega)) _ | with_reducible refine Within.trans ?_ (by assumption)))) ?_
              clear hK K
              try simp only [Act.put, List.setIfInBounds_toArray, List.set_cons_zero, List.set_cons_succ]
              refine sch_one rfl rfl (fun K hK => ?_)
              go_simp
              refine (HRP.out _).mono ?_; rintro e13 w13 ⟨rfl, hb13⟩
              have hv13 : Within w0 w13 := (Within.refl w0).drew.trans hb13
              refine hK _ _ (fun _ => (by repeat (first | with_reducible exact Within.refl _ | with_reducible assumption | with_reducible refine Within.alloc ?_ _ | with_reducible refine Within.drew ?_ | with_reducible refine Within.drewN ?_ _ | with_reducible refine Within.setCell ?_ (by first | (simp; done) | (simp; omega)) _ | with_reducible refine Within.trans ?_ (by assumption)))) ?_
              clear hK K
              try simp only [Act.put, List.setIfInBounds_toArray, List.set_cons_zero, List.set_cons_succ]
              refine sch_one rfl rfl (fun K hK => ?_)
              go_simp
              refine hK _ _ (fun _ => (by repeat (first | with_reducible exact Within.refl _ | with_reducible assumption | with_reducible refine Within.alloc ?_ _ | with_reducible refine Within.drew ?_ | with_reducible refine Within.drewN ?_ _ | with_reducible refine Within.setCell ?_ (by first | (simp; done) | (simp; omega)) _ | with_reducible refine Within.trans ?_ (by assumption)))) ?_
              clear hK K
              try simp only [Act.put, List.setIfInBounds_toArray, List.set_cons_zero, List.set_cons_succ]
              refine sch_one rfl rfl (fun K hK => ?_)
              go_simp
              refine hK _ _ (fun h => absurd h (by decide)) ?_
              clear hK K
              try simp only [Act.put, List.setIfInBounds_toArray, List.set_cons_zero, List.set_cons_succ]
              refine sch_nil ?_
              go_wp2
              go_ret2
              exact ⟨ret2 rfl (v_int HFF5.out.symm), ((Within.refl w).alloc _).trans (hw0.trans hv13)⟩
theorem RroundD (ng more : Bool) (g M : Nat) (e mode : Int) (he : -50000 ≤ e ∧ e ≤ 50000) (hM : (dg M).length ≤ 900) (hM0 : M ≠ 0) (w : World) (hI : IntB w g (M : Int)) : Calls Tryz.prog 55 #[fmD, .bool ng, .pointer (some ⟨g, 0, none⟩), .int .i64 e, .bool more, .int .i64 mode] w (fun e' w' => e' = .returned (.tuple #[.int .u64 (gWord 53 (-1074) 1023 9218868437227405311 9218868437227405312 4503599627370496 9223372036854775808 ng M e more mode : Int), .int .i64 (gFlags 53 (-1074) 1023 ng M e more mode)]) ∧ Within w w') :=
  Round0D ng more g M (blen M) e mode _ rfl (Nat.le_trans (blen_of_dg hM) (by decide)) he (Nat.le_trans hM (by decide)) rfl hM0 _ _ rfl rfl w hI
end Go.Proofs.YtifgngmebnjfkaaGreatDoor
end
