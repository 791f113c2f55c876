/- What the law's walk rests on, part 4: contracts of functions and plain facts. -/
import Derived.Test.YtifgngmebnjfkaaGreatDoorRows
import Ieee.Arith
import Derived.WalkKit
import Derived.WalkSpells
import Derived.WalkLawsBesides
import Derived.BigQuiet
import Derived.Lib.Hide
import Derived.Lib.TrailingZeros
import Derived.Lib.BitFns
import Derived.Lib.Strings
import Derived.Lib.Slices
import Derived.Lib.Small
import Derived.Lib.Walk
import Derived.Deep.OwnRows
import Derived.OwnWalk
import Derived.LoopTactic
import Derived.Outline
import Derived.IntWalk
import Derived.OrdersHeld
import Derived.StillTail
import Derived.Deep.RegionHeld3
import Derived.Maps.AppendAt
import Derived.Deep.DeepCutAuto
import Derived.Deep.QuietTactic
import Derived.ProofKit
import Derived.OpenShut
import Derived.ShutString
import Derived.ChangeOld
import Derived.Below
import Derived.Deep.DeepHandedRow
import Derived.Deep.Strs
import Derived.Lib.LaidTab
import Derived.Test.YtifgngmebnjfkaaGreatDoorZSum3
set_option linter.unusedVariables false
set_option linter.unusedSimpArgs false
section
namespace Go.Proofs.YtifgngmebnjfkaaGreatDoor
open Go.RowKit
set_option maxRecDepth 100000 in
set_option maxHeartbeats 600000 in
theorem Bsign_zero (x : Nat) (v : Int) (h : v = 0) (w : World) (hx : IntB w x v) : Calls Tryz.prog 53 #[.pointer (some ⟨x, 0, none⟩)] w (fun e w' => e = .returned (.int .i64 (0)) ∧ w = w') := by
  obtain ⟨A, c, c0, c1, _⟩ := hx.rd
  subst h
  rw [show (dg (0 : Int).natAbs) = [] from dg_zero] at c1
  have d : (((List.length ([] : List Nat) : Nat) : Int) == 0) = true := rfl
  clear hx
  go_enter Tryz.func53, Tryz.ntmps53
  go_wp2
  go_ret
  exact ⟨rfl, rfl⟩
set_option maxRecDepth 100000 in
set_option maxHeartbeats 600000 in
theorem Bsign_neg (x : Nat) (v : Int) (h : v < 0) (w : World) (hx : IntB w x v) : Calls Tryz.prog 53 #[.pointer (some ⟨x, 0, none⟩)] w (fun e w' => e = .returned (.int .i64 (-1)) ∧ w = w') := by
  obtain ⟨A, c, c0, c1, _⟩ := hx.rd
  have hp := dg_len_pos (n := v.natAbs) (by omega)
  rw [decide_eq_true (by omega)] at c0
  obtain ⟨k, hk⟩ : ∃ k, k = (dg v.natAbs).length := ⟨_, rfl⟩
  rw [← hk] at c1 hp
  clear hk
  have d : ((k : Int) == 0) = false := beq_eq_false_iff_ne.2 (by omega)
  clear hx h
  go_enter Tryz.func53, Tryz.ntmps53
  go_wp2
  go_ret
  exact ⟨rfl, rfl⟩
set_option maxRecDepth 100000 in
set_option maxHeartbeats 600000 in
theorem Bsign_pos (x : Nat) (v : Int) (h : 0 < v) (w : World) (hx : IntB w x v) : Calls Tryz.prog 53 #[.pointer (some ⟨x, 0, none⟩)] w (fun e w' => e = .returned (.int .i64 (1)) ∧ w = w') := by
  obtain ⟨A, c, c0, c1, _⟩ := hx.rd
  have hp := dg_len_pos (n := v.natAbs) (by omega)
  rw [decide_eq_false (by omega)] at c0
  obtain ⟨k, hk⟩ : ∃ k, k = (dg v.natAbs).length := ⟨_, rfl⟩
  rw [← hk] at c1 hp
  clear hk
  have d : ((k : Int) == 0) = false := beq_eq_false_iff_ne.2 (by omega)
  clear hx h
  go_enter Tryz.func53, Tryz.ntmps53
  go_wp2
  go_ret
  exact ⟨rfl, rfl⟩
theorem Bsign (x : Nat) (v : Int) (w : World) (hx : IntB w x v) : Calls Tryz.prog 53 #[.pointer (some ⟨x, 0, none⟩)] w (fun e w' => e = .returned (.int .i64 v.sign) ∧ w = w') := by
  rcases Int.lt_trichotomy v 0 with h | h | h
  · rw [Int.sign_eq_neg_one_of_neg h]; exact Bsign_neg x v h w hx
  · subst h; exact Bsign_zero x 0 rfl w hx
  · rw [Int.sign_eq_one_of_pos h]; exact Bsign_pos x v h w hx
def cmpI (a b : Int) : Int := if a < b then -1 else if b < a then 1 else 0
theorem cmpN_range (a b : Nat) : -1 ≤ cmpN a b ∧ cmpN a b ≤ 1 := by unfold cmpN; split <;> (try split) <;> omega
set_option maxRecDepth 100000 in
set_option maxHeartbeats 600000 in
theorem Bcmp_00 (x y : Nat) (na nb : Nat) (A Bv : Option Addr) (ca cb : Nat) (ha : (dg na).length ≤ 1000000) (hb : (dg nb).length ≤ 1000000) (w : World) (a0 : w.cell? ⟨x, 0, none⟩ = some (.bool false)) (a1 : w.cell? ⟨x, 1, none⟩ = some (.slice A (dg na).length ca)) (hra : RowAt w A (dg na)) (b0 : w.cell? ⟨y, 0, none⟩ = some (.bool false)) (b1 : w.cell? ⟨y, 1, none⟩ = some (.slice Bv (dg nb).length cb)) (hrb : RowAt w Bv (dg nb)) : Calls Tryz.prog 104 #[.pointer (some ⟨x, 0, none⟩), .pointer (some ⟨y, 0, none⟩)] w (fun e w' => e = .returned (.int .i64 (cmpN na nb)) ∧ Within w w') := by
  have HRA := Lib.hid hra; have HRB := Lib.hid hrb; clear hra hrb
  have hlx := World.block_lt_of_cell? w _ a0; have hly := World.block_lt_of_cell? w _ b0
  go_enter Tryz.func104, Tryz.ntmps104
  go_wp2
  go_quiet (fail)
  go_wp2
  obtain ⟨w1, hw1⟩ : ∃ w1, w1 = w.drewN nq := ⟨_, rfl⟩
  rw [← hw1]
  have hb1 : Within w w1 := by rw [hw1]; exact (Within.refl w).drewN _
  have a0' := (hb1.cells _ 0 hlx).trans a0; have a1' := (hb1.cells _ 1 hlx).trans a1; have b1' := (hb1.cells _ 1 hly).trans b1
  clear hw1
  refine wp_region_sched (fun W => W.cell? ⟨x, 1, none⟩ = some (.slice A (dg na).length ca) ∧ W.cell? ⟨y, 1, none⟩ = some (.slice Bv (dg nb).length cb)) 8 [(0, true), (1, true), (2, true), (3, true), (4, true), (5, true), (6, true), (7, true), (8, false), (9, false)] (by kernel_rfl) (by kernel_rfl) ⟨a1', b1'⟩ ?_
  intro hS
  repeat
    apply sched_firm rfl rfl hS
    · intro wq hq
      have hq0 := hq.1; have hq1 := hq.2
      clear hq
      go_simp
      first | rfl | (trace_state; fail)
    try simp only [Act.put, List.setIfInBounds_toArray, List.set_cons_zero, List.set_cons_succ]
  refine sched_one rfl rfl (fun K hK => ?_)
  go_simp
  refine (Bcompare na nb A Bv ca cb (by omega) (by omega) w1.drew (RowAt.drew (HRA.out.of hb1)) (RowAt.drew (HRB.out.of hb1))).mono ?_
  rintro e1 w2 ⟨rfl, hb2'⟩
  obtain ⟨cm, hcm⟩ : ∃ cm, cm = cmpN na nb := ⟨_, rfl⟩
  have hr := cmpN_range na nb
  rw [← hcm] at hr ⊢
  have HCM := Lib.hid hcm; clear hcm
  have hb2 : Within w w2 := hb1.drew.trans hb2'
  refine hK _ _ (fun h => absurd h (by decide)) ?_
  clear hK K
  try simp only [Act.put, List.setIfInBounds_toArray, List.set_cons_zero, List.set_cons_succ]
  refine sched_one rfl rfl (fun K hK => ?_)
  go_simp
  refine hK _ _ (fun h => absurd h (by decide)) ?_
  clear hK K
  try simp only [Act.put, List.setIfInBounds_toArray, List.set_cons_zero, List.set_cons_succ]
  refine sched_nil ?_
  have a0'' := (hb2.cells _ 0 hlx).trans a0
  go_wp2
  go_ret
  exact ⟨ret_int (by rw [HCM.out]), hb2⟩
set_option maxRecDepth 100000 in
set_option maxHeartbeats 600000 in
theorem Bcmp_01 (x y : Nat) (na nb : Nat) (A Bv : Option Addr) (ca cb : Nat) (ha : (dg na).length ≤ 1000000) (hb : (dg nb).length ≤ 1000000) (w : World) (a0 : w.cell? ⟨x, 0, none⟩ = some (.bool false)) (a1 : w.cell? ⟨x, 1, none⟩ = some (.slice A (dg na).length ca)) (hra : RowAt w A (dg na)) (b0 : w.cell? ⟨y, 0, none⟩ = some (.bool true)) (b1 : w.cell? ⟨y, 1, none⟩ = some (.slice Bv (dg nb).length cb)) (hrb : RowAt w Bv (dg nb)) : Calls Tryz.prog 104 #[.pointer (some ⟨x, 0, none⟩), .pointer (some ⟨y, 0, none⟩)] w (fun e w' => e = .returned (.int .i64 (1)) ∧ Within w w') := by
  clear hra hrb ha hb
  go_enter Tryz.func104, Tryz.ntmps104
  go_wp2
  go_quiet (fail)
  go_wp2
  go_ret
  exact ⟨rfl, (Within.refl w).drewN _⟩
set_option maxRecDepth 100000 in
set_option maxHeartbeats 600000 in
theorem Bcmp_10 (x y : Nat) (na nb : Nat) (A Bv : Option Addr) (ca cb : Nat) (ha : (dg na).length ≤ 1000000) (hb : (dg nb).length ≤ 1000000) (w : World) (a0 : w.cell? ⟨x, 0, none⟩ = some (.bool true)) (a1 : w.cell? ⟨x, 1, none⟩ = some (.slice A (dg na).length ca)) (hra : RowAt w A (dg na)) (b0 : w.cell? ⟨y, 0, none⟩ = some (.bool false)) (b1 : w.cell? ⟨y, 1, none⟩ = some (.slice Bv (dg nb).length cb)) (hrb : RowAt w Bv (dg nb)) : Calls Tryz.prog 104 #[.pointer (some ⟨x, 0, none⟩), .pointer (some ⟨y, 0, none⟩)] w (fun e w' => e = .returned (.int .i64 (-1)) ∧ Within w w') := by
  clear hra hrb ha hb
  go_enter Tryz.func104, Tryz.ntmps104
  go_wp2
  go_quiet (fail)
  go_wp2
  go_ret
  exact ⟨rfl, (Within.refl w).drewN _⟩
set_option maxRecDepth 100000 in
set_option maxHeartbeats 600000 in
theorem Bcmp_11 (x y : Nat) (na nb : Nat) (A Bv : Option Addr) (ca cb : Nat) (ha : (dg na).length ≤ 1000000) (hb : (dg nb).length ≤ 1000000) (w : World) (a0 : w.cell? ⟨x, 0, none⟩ = some (.bool true)) (a1 : w.cell? ⟨x, 1, none⟩ = some (.slice A (dg na).length ca)) (hra : RowAt w A (dg na)) (b0 : w.cell? ⟨y, 0, none⟩ = some (.bool true)) (b1 : w.cell? ⟨y, 1, none⟩ = some (.slice Bv (dg nb).length cb)) (hrb : RowAt w Bv (dg nb)) : Calls Tryz.prog 104 #[.pointer (some ⟨x, 0, none⟩), .pointer (some ⟨y, 0, none⟩)] w (fun e w' => e = .returned (.int .i64 (-cmpN na nb)) ∧ Within w w') := by
  have HRA := Lib.hid hra; have HRB := Lib.hid hrb; clear hra hrb
  have hlx := World.block_lt_of_cell? w _ a0; have hly := World.block_lt_of_cell? w _ b0
  go_enter Tryz.func104, Tryz.ntmps104
  go_wp2
  go_quiet (fail)
  go_wp2
  obtain ⟨w1, hw1⟩ : ∃ w1, w1 = w.drewN nq := ⟨_, rfl⟩
  rw [← hw1]
  have hb1 : Within w w1 := by rw [hw1]; exact (Within.refl w).drewN _
  have a0' := (hb1.cells _ 0 hlx).trans a0; have a1' := (hb1.cells _ 1 hlx).trans a1; have b1' := (hb1.cells _ 1 hly).trans b1
  clear hw1
  refine wp_region_sched (fun W => W.cell? ⟨x, 1, none⟩ = some (.slice A (dg na).length ca) ∧ W.cell? ⟨y, 1, none⟩ = some (.slice Bv (dg nb).length cb)) 8 [(0, true), (1, true), (2, true), (3, true), (4, true), (5, true), (6, true), (7, true), (8, false), (9, false)] (by kernel_rfl) (by kernel_rfl) ⟨a1', b1'⟩ ?_
  intro hS
  repeat
    apply sched_firm rfl rfl hS
    · intro wq hq
      have hq0 := hq.1; have hq1 := hq.2
      clear hq
      go_simp
      first | rfl | (trace_state; fail)
    try simp only [Act.put, List.setIfInBounds_toArray, List.set_cons_zero, List.set_cons_succ]
  refine sched_one rfl rfl (fun K hK => ?_)
  go_simp
  refine (Bcompare na nb A Bv ca cb (by omega) (by omega) w1.drew (RowAt.drew (HRA.out.of hb1)) (RowAt.drew (HRB.out.of hb1))).mono ?_
  rintro e1 w2 ⟨rfl, hb2'⟩
  obtain ⟨cm, hcm⟩ : ∃ cm, cm = cmpN na nb := ⟨_, rfl⟩
  have hr := cmpN_range na nb
  rw [← hcm] at hr ⊢
  have HCM := Lib.hid hcm; clear hcm
  have hb2 : Within w w2 := hb1.drew.trans hb2'
  refine hK _ _ (fun h => absurd h (by decide)) ?_
  clear hK K
  try simp only [Act.put, List.setIfInBounds_toArray, List.set_cons_zero, List.set_cons_succ]
  refine sched_one rfl rfl (fun K hK => ?_)
  go_simp
  refine hK _ _ (fun h => absurd h (by decide)) ?_
  clear hK K
  try simp only [Act.put, List.setIfInBounds_toArray, List.set_cons_zero, List.set_cons_succ]
  refine sched_nil ?_
  have a0'' := (hb2.cells _ 0 hlx).trans a0
  have g1 : IntKind.i64.wrap (-cm) = -cm := by rw [IntKind.wrap_i64]; omega
  go_wp2
  go_ret
  exact ⟨ret_int (by rw [HCM.out]), hb2⟩
theorem Bcmp (x y : Nat) (a b : Int) (ha : (dg a.natAbs).length ≤ 1000000) (hb : (dg b.natAbs).length ≤ 1000000) (w : World) (hx : IntB w x a) (hy : IntB w y b) : Calls Tryz.prog 104 #[.pointer (some ⟨x, 0, none⟩), .pointer (some ⟨y, 0, none⟩)] w (fun e w' => e = .returned (.int .i64 (cmpI a b)) ∧ Within w w') := by
  obtain ⟨A, ca, a0, a1, hra⟩ := hx.rd
  obtain ⟨Bv, cb, b0, b1, hrb⟩ := hy.rd
  by_cases ha0 : a < 0 <;> by_cases hb0 : b < 0
  · rw [decide_eq_true ha0] at a0; rw [decide_eq_true hb0] at b0
    refine (Bcmp_11 x y _ _ A Bv ca cb ha hb w a0 a1 hra b0 b1 hrb).mono fun e w' h => ⟨h.1.trans (ret_int ?_), h.2⟩
    unfold cmpI cmpN; repeat' split
    all_goals omega
  · rw [decide_eq_true ha0] at a0; rw [decide_eq_false hb0] at b0
    refine (Bcmp_10 x y _ _ A Bv ca cb ha hb w a0 a1 hra b0 b1 hrb).mono fun e w' h => ⟨h.1.trans (ret_int ?_), h.2⟩
    unfold cmpI; rw [if_pos (by omega)]
  · rw [decide_eq_false ha0] at a0; rw [decide_eq_true hb0] at b0
    refine (Bcmp_01 x y _ _ A Bv ca cb ha hb w a0 a1 hra b0 b1 hrb).mono fun e w' h => ⟨h.1.trans (ret_int ?_), h.2⟩
    unfold cmpI; rw [if_neg (by omega), if_pos (by omega)]
  · rw [decide_eq_false ha0] at a0; rw [decide_eq_false hb0] at b0
    refine (Bcmp_00 x y _ _ A Bv ca cb ha hb w a0 a1 hra b0 b1 hrb).mono fun e w' h => ⟨h.1.trans (ret_int ?_), h.2⟩
    unfold cmpI cmpN; repeat' split
    all_goals omega
def blen (n : Nat) : Nat := if n = 0 then 0 else n.log2 + 1
theorem blen_zero : blen 0 = 0 := rfl
theorem blen_pos {n : Nat} (h : n ≠ 0) : blen n = n.log2 + 1 := if_neg h
theorem blen_top {n k : Nat} (hk : (dg n).length = k + 1) : blen n = 32 * k + Lib.bitLen ((dg n).getD k 0) ∧ (dg n).getD k 0 ≠ 0 ∧ (dg n).getD k 0 < 4294967296 := by
  have h0 : n ≠ 0 := fun h => by rw [h, dg_zero] at hk; simp at hk
  have ht := dg_last h0
  rw [hk, Nat.add_sub_cancel] at ht
  have hw := (words_dg n).getD k
  refine ⟨?_, ht, hw⟩
  have hs := lo_succ (dg n) k
  rw [lo_all _ (Nat.le_of_eq hk), wval_dg] at hs
  have hl := lo_lt (dg n) (words_dg n) k
  rw [blen_pos h0, bitLen_log2 _ ht (by omega)]
  generalize (dg n).getD k 0 = t at *
  have e : (4294967296 : Nat) ^ k = 2 ^ (32 * k) := by rw [show (4294967296 : Nat) = 2 ^ 32 from rfl, ← Nat.pow_mul]
  rw [e] at hs hl
  have h1 : n / 2 ^ (32 * k) = t := by
    rw [hs, Nat.add_mul_div_left _ _ (Nat.two_pow_pos _), Nat.div_eq_of_lt hl, Nat.zero_add]
  have h2 : n.log2 = 32 * k + t.log2 := by
    rw [Nat.log2_eq_iff h0]
    have a1 := Nat.log2_self_le ht
    have a2 := Nat.lt_log2_self (n := t)
    constructor
    · rw [Nat.pow_add]
      calc 2 ^ (32 * k) * 2 ^ t.log2 ≤ 2 ^ (32 * k) * t := Nat.mul_le_mul_left _ a1
        _ ≤ n := by rw [← h1]; exact Nat.mul_div_le _ _
    · rw [Nat.add_assoc, Nat.pow_add]
      have : n < 2 ^ (32 * k) * (t + 1) := by rw [← h1]; exact Nat.lt_mul_div_succ _ (Nat.two_pow_pos _)
      exact Nat.lt_of_lt_of_le this (Nat.mul_le_mul_left _ a2)
  omega
set_option maxRecDepth 100000 in
set_option maxHeartbeats 600000 in
theorem bits_len32' (x : Int) (w : World) (h0 : 0 ≤ x) (h1 : x ≤ 4294967295) : Calls Tryz.prog 123 #[.int .u32 x] w (fun e w' => e = .returned (.int .i64 (Lib.bitLen x.toNat)) ∧ w = w') := by
  have hsz := len8_size
  go_enter Tryz.func123, Tryz.ntmps123
  go_wp2
  all_goals (go_ret; refine ⟨ret_int ?_, rfl⟩)
  all_goals simp only [len8_at]
  · rw [← len_e24 x.toNat (by omega) (by omega), show (x / 65536 / 256).toNat = x.toNat / 16777216 by omega]
  · rw [← len_e16 x.toNat (by omega) (by omega), show (x / 65536).toNat = x.toNat / 65536 by omega]
  · rw [← len_e8 x.toNat (by omega) (by omega), show (x / 256).toNat = x.toNat / 256 by omega]
  · have := len_e0 x.toNat (by omega); simpa using this
theorem bits_len32 (x : Nat) (hx : x < 4294967296) (w : World) : Calls Tryz.prog 123 #[.int .u32 (x : Int)] w (fun e w' => e = .returned (.int .i64 (Lib.bitLen x)) ∧ w = w') := by
  have := bits_len32' (x : Int) w (by omega) (by omega)
  rwa [Int.toNat_natCast] at this
set_option maxRecDepth 100000 in
set_option maxHeartbeats 600000 in
theorem Bbitlen_zero (x : Nat) (w : World) (hx : IntB w x 0) : Calls Tryz.prog 95 #[.pointer (some ⟨x, 0, none⟩)] w (fun e w' => e = .returned (.int .i64 0) ∧ Within w w') := by
  obtain ⟨A, c, c0, c1, _⟩ := hx.rd
  rw [show (dg (0 : Int).natAbs) = [] from dg_zero] at c1
  clear hx
  go_enter Tryz.func95, Tryz.ntmps95
  go_wp2
  go_ret
  exact ⟨rfl, Within.refl _⟩
set_option maxRecDepth 100000 in
set_option maxHeartbeats 600000 in
theorem Bbitlen_pos (x k t gm c L : Nat) (hk : k ≤ 1000000) (hL : L ≤ 32) (w : World) (c1 : w.cell? ⟨x, 1, none⟩ = some (.slice (some ⟨gm, 0, none⟩) (k + 1) c)) (ct : w.cell? ⟨gm, k, none⟩ = some (.int .u32 (t : Int))) (LN : Hid (∀ w, Calls Tryz.prog 123 #[.int .u32 (t : Int)] w (fun e w' => e = .returned (.int .i64 (L : Int)) ∧ w = w'))) : Calls Tryz.prog 95 #[.pointer (some ⟨x, 0, none⟩)] w (fun e w' => e = .returned (.int .i64 (32 * (k : Int) + (L : Int))) ∧ Within w w') := by
  have e1 : IntKind.i64.wrap (k : Int) = (k : Int) := by rw [IntKind.wrap_i64]; omega
  have e2 : IntKind.i64.wrap (32 * (k : Int)) = 32 * (k : Int) := by rw [IntKind.wrap_i64]; omega
  have e3 : IntKind.i64.wrap (32 * (k : Int) + (L : Int)) = 32 * (k : Int) + (L : Int) := by rw [IntKind.wrap_i64]; omega
  have e4 : (k : Int) < (k : Int) + 1 := by omega
  go_enter Tryz.func95, Tryz.ntmps95
  go_wp2
  refine wp_region_sched (fun W => W.cell? ⟨x, 1, none⟩ = some (.slice (some ⟨gm, 0, none⟩) (k + 1) c) ∧ W.cell? ⟨gm, k, none⟩ = some (.int .u32 (t : Int))) 20 [(0, true), (1, true), (2, true), (3, true), (4, true), (5, true), (6, true), (7, true), (8, true), (9, true), (10, true), (11, true), (12, true), (13, true), (14, true), (15, true), (16, true), (17, true), (18, true), (19, false), (20, false), (21, false)] (by kernel_rfl) (by kernel_rfl) ⟨c1, ct⟩ ?_
  intro hS
  repeat
    apply sched_firm rfl rfl hS
    · intro wq hq
      have hq0 := hq.1; have hq1 := hq.2
      clear hq
      go_simp
      first | rfl | (trace_state; fail)
    try simp only [Act.put, List.setIfInBounds_toArray, List.set_cons_zero, List.set_cons_succ]
  refine sched_one rfl rfl (fun K hK => ?_)
  go_simp
  refine (LN.out w.drew).mono ?_
  rintro e1 w2 ⟨rfl, rfl⟩
  refine hK _ _ (fun h => ⟨c1, ct⟩) ?_
  clear hK K
  try simp only [Act.put, List.setIfInBounds_toArray, List.set_cons_zero, List.set_cons_succ]
  refine sched_one rfl rfl (fun K hK => ?_)
  go_simp
  refine hK _ _ (fun h => absurd h (by decide)) ?_
  clear hK K
  try simp only [Act.put, List.setIfInBounds_toArray, List.set_cons_zero, List.set_cons_succ]
  refine sched_one rfl rfl (fun K hK => ?_)
  go_simp
  refine hK _ _ (fun h => absurd h (by decide)) ?_
  clear hK K
  try simp only [Act.put, List.setIfInBounds_toArray, List.set_cons_zero, List.set_cons_succ]
  refine sched_nil ?_
  go_wp2
  go_ret
  exact ⟨rfl, (Within.refl w).drew⟩
theorem Bbitlen (x : Nat) (v : Int) (hv : (dg v.natAbs).length ≤ 1000000) (w : World) (hx : IntB w x v) : Calls Tryz.prog 95 #[.pointer (some ⟨x, 0, none⟩)] w (fun e w' => e = .returned (.int .i64 (blen v.natAbs : Nat)) ∧ Within w w') := by
  by_cases h : v = 0
  · subst h; exact Bbitlen_zero x w hx
  · obtain ⟨A, c, c0, c1, hr⟩ := hx.rd
    obtain ⟨k, hk⟩ : ∃ k, (dg v.natAbs).length = k + 1 := ⟨_, (Nat.succ_pred_eq_of_pos (dg_len_pos (by omega))).symm⟩
    obtain ⟨g, rfl, _, ct⟩ := hr.cell (i := k) (by omega)
    obtain ⟨hb, h0, hlt⟩ := blen_top hk
    have hL : Lib.bitLen ((dg v.natAbs).getD k 0) ≤ 32 := by
      rw [bitLen_log2 _ h0 (by omega)]
      have := (Nat.log2_lt h0 (k := 32)).2 hlt
      omega
    rw [hk] at c1
    refine (Bbitlen_pos x k _ g c _ (by omega) hL w c1 ct (Lib.hid fun w => bits_len32 _ hlt w)).mono fun e w' h => ⟨h.1.trans (ret_int ?_), h.2⟩
    rw [hb]; omega
end Go.Proofs.YtifgngmebnjfkaaGreatDoor
end

section
namespace Go.Proofs.YtifgngmebnjfkaaGreatDoor
open Go.RowKit
theorem IntB.drewN {w : World} {g : Nat} {v : Int} (h : IntB w g v) (n : Nat) : IntB (w.drewN n) g v := h.of ((Within.refl _).drewN _)
theorem dg_small {n k : Nat} (h : n < 2 ^ (32 * k)) : (dg n).length ≤ k := dg_len_le (by rw [show (4294967296 : Nat) = 2 ^ 32 from rfl, ← Nat.pow_mul]; exact h)
theorem dg_pow_le {s k : Nat} (h : s < 32 * k) : (dg (2 ^ s)).length ≤ k := dg_small (Nat.pow_lt_pow_right (by decide) h)
theorem IntB.drew {w : World} {g : Nat} {v : Int} (h : IntB w g v) : IntB w.drew g v := h.of (Within.refl _).drew
theorem sign_lt (v : Int) : v.sign < 0 ↔ v < 0 := by
  rcases Int.lt_trichotomy v 0 with h | h | h
  · rw [Int.sign_eq_neg_one_of_neg h]; exact ⟨fun _ => h, fun _ => by decide⟩
  · subst h; simp
  · rw [Int.sign_eq_one_of_pos h]; constructor
    · intro h1; exact absurd h1 (by decide)
    · intro h1; omega
def tK (top fr fd : Nat) : Int := if fd = top then (if fr = 0 then 1 else 2) else 0
def tN (top fr fd : Nat) (ng : Bool) : Bool := if fd = top ∧ fr ≠ 0 then false else ng
def tM (top hid fr fd : Nat) : Nat := if fd = top then 0 else if fd = 0 then fr else fr + hid
def tE (top : Nat) (lo : Int) (fr fd : Nat) : Int := if fd = top then (if fr = 0 then lo else 0) else if fd = 0 then lo else (fd : Int) - 1 + lo
def kD (b : Nat) : Int := tK 2047 (b % 4503599627370496) (b / 4503599627370496 % 2048)
def nD (b : Nat) : Bool := tN 2047 (b % 4503599627370496) (b / 4503599627370496 % 2048) (decide (9223372036854775808 ≤ b))
def mD (b : Nat) : Nat := tM 2047 4503599627370496 (b % 4503599627370496) (b / 4503599627370496 % 2048)
def eD (b : Nat) : Int := tE 2047 (-1074) (b % 4503599627370496) (b / 4503599627370496 % 2048)
def kS (b : Nat) : Int := tK 255 (b % 8388608) (b / 8388608 % 256)
def nS (b : Nat) : Bool := tN 255 (b % 8388608) (b / 8388608 % 256) (decide (2147483648 ≤ b))
def mS (b : Nat) : Nat := tM 255 8388608 (b % 8388608) (b / 8388608 % 256)
def eS (b : Nat) : Int := tE 255 (-149) (b % 8388608) (b / 8388608 % 256)
theorem kS_range (b : Nat) : kS b = 0 ∨ kS b = 1 ∨ kS b = 2 := by unfold kS tK; split <;> (try split) <;> omega
theorem mS_lt (b : Nat) : mS b < 16777216 := by unfold mS tM; split <;> (try split) <;> omega
theorem eS_range (b : Nat) : -1100 ≤ eS b ∧ eS b ≤ 1000 := by unfold eS tE; split <;> (try split) <;> omega
theorem RtakeXS (b : Nat) (hb : b < 4294967296) (w : World) : Calls Tryz.prog 49 #[fmS, .int .u64 (b : Int)] w (fun e w' => ∃ g, e = .returned (.agg #[.int .i64 (kS b), .bool (nS b), .pointer (some ⟨g, 0, none⟩), .int .i64 (eS b)]) ∧ IntB w' g (mS b : Int) ∧ w.heap.size ≤ g ∧ Within w w') := RtakeS b hb w
set_option maxRecDepth 100000 in
set_option maxHeartbeats 600000 in
theorem RSingle (w : World) : Calls Tryz.prog 33 #[] w (fun e w' => e = .returned fmS ∧ Within w w') := by
  go_enter Tryz.func33, Tryz.ntmps33
  go_wp2
  first | (go_ret; exact ⟨rfl, (by repeat (with_reducible first | exact Within.refl _ | assumption | refine Within.alloc ?_ _ | refine Within.drew ?_ | refine Within.drewN ?_ _ | refine Within.setCell ?_ (by first | (simp; done) | (simp; omega)) _ | refine Within.trans ?_ (by assumption)))⟩) | (refine bodyPost_ret (v := fmS) (by simp [results, Tryz.results33, go_sem]) rfl ⟨rfl, (by repeat (with_reducible first | exact Within.refl _ | assumption | refine Within.alloc ?_ _ | refine Within.drew ?_ | refine Within.drewN ?_ _ | refine Within.setCell ?_ (by first | (simp; done) | (simp; omega)) _ | refine Within.trans ?_ (by assumption)))⟩)
theorem grid_of_num (f : Ieee.Format) (n : Nat) : Fp.num f false n = Fp.grid f n 0 := by
  unfold Fp.num Ieee.Format.word; simp
theorem mD_mag {x : Nat} (hf : x % 9223372036854775808 < 9218868437227405312) : magD x = mD x * 2 ^ (eD x + 1074).toNat ∧ kD x = 0 ∧ nD x = ngD x ∧ (mD x = 0 ↔ x % 9223372036854775808 = 0) := by
  have hfd : ¬ x / 4503599627370496 % 2048 = 2047 := by omega
  refine ⟨?_, by unfold kD tK; rw [if_neg hfd], by unfold nD tN ngD; rw [if_neg (fun h => hfd h.1)], ?_⟩
  · unfold magD Fp.mag
    rw [Fp.dB]
    unfold mD eD tM tE
    rw [if_neg hfd, if_neg hfd]
    by_cases h0 : x / 4503599627370496 % 2048 = 0
    · rw [if_pos h0, if_pos h0, if_pos (by omega), show ((-1074 : Int) + 1074).toNat = 0 from rfl, Nat.pow_zero, Nat.mul_one]; omega
    · rw [if_neg h0, if_neg h0, if_neg (by omega)]
      congr 1
      · omega
      · congr 1; omega
  · unfold mD tM
    rw [if_neg hfd]
    by_cases h0 : x / 4503599627370496 % 2048 = 0
    · rw [if_pos h0]; omega
    · rw [if_neg h0]; omega
theorem mS_mag {x : Nat} (hf : x % 2147483648 < 2139095040) : Fp.mag Ieee.single (x % 2147483648) = mS x * 2 ^ (eS x + 149).toNat ∧ kS x = 0 ∧ nS x = decide (2147483648 ≤ x) ∧ (mS x = 0 ↔ x % 2147483648 = 0) := by
  have hfd : ¬ x / 8388608 % 256 = 255 := by omega
  refine ⟨?_, by unfold kS tK; rw [if_neg hfd], by unfold nS tN; rw [if_neg (fun h => hfd h.1)], ?_⟩
  · unfold Fp.mag
    rw [Fp.sB]
    unfold mS eS tM tE
    rw [if_neg hfd, if_neg hfd]
    by_cases h0 : x / 8388608 % 256 = 0
    · rw [if_pos h0, if_pos h0, if_pos (by omega), show ((-149 : Int) + 149).toNat = 0 from rfl, Nat.pow_zero, Nat.mul_one]; omega
    · rw [if_neg h0, if_neg h0, if_neg (by omega)]
      congr 1
      · omega
      · congr 1; omega
  · unfold mS tM
    rw [if_neg hfd]
    by_cases h0 : x / 8388608 % 256 = 0
    · rw [if_pos h0]; omega
    · rw [if_neg h0]; omega
theorem eD_lo (x : Nat) (h : kD x = 0) : -1074 ≤ eD x := by
  unfold kD tK at h
  unfold eD tE
  split at h
  · split at h <;> omega
  · rename_i h1; rw [if_neg h1]; split <;> omega
theorem eS_lo (x : Nat) (h : kS x = 0) : -149 ≤ eS x := by
  unfold kS tK at h
  unfold eS tE
  split at h
  · split at h <;> omega
  · rename_i h1; rw [if_neg h1]; split <;> omega
def PtrI (W : World) (v : Int) (s : Value) (wx : World) : Prop := ∃ g, s = .pointer (some ⟨g, 0, none⟩) ∧ IntB wx g v ∧ W.heap.size ≤ g
end Go.Proofs.YtifgngmebnjfkaaGreatDoor
end

section
namespace Go.Proofs.YtifgngmebnjfkaaGreatDoor
open Go.RowKit
attribute [go_sem] firmAt firmUpon
section
variable {P : Program} {ops : Array Oper} {Q : Exit → Act → World → Prop} {S : World → Prop} {p k : Nat} {a : Act} {w : World} {t : Sch}
theorem sch_one_want {o : Oper} (ho : ops.toList[k]? = some o) (hg : Region.wanted o (yielded ops a.tmps) = true) (h : ∀ K : Act → World → Prop, (∀ a' w', (k < p → S w') → wpSch P ops (OnlyN Q) S p t a' w' → K a' w') → o.wp P a w K (OnlyN Q)) : wpSch P ops (OnlyN Q) S p (.one k t) a w := by
  show wpOp P ops (OnlyN Q) k _ a w
  unfold wpOp
  rw [Array.getElem?_toList] at ho
  simp only [ho]
  rw [if_pos hg]
  exact .inl (h _ fun a' w' hS hr => ⟨hS, hr⟩)
theorem sch_one_skip {o : Oper} (ho : ops.toList[k]? = some o) (hg : Region.wanted o (yielded ops a.tmps) = false) (hS : S w) (h2 : wpSch P ops (OnlyN Q) S p t (a.put o.dst undef) w) : wpSch P ops (OnlyN Q) S p (.one k t) a w := by
  show wpOp P ops (OnlyN Q) k _ a w
  unfold wpOp
  rw [Array.getElem?_toList] at ho
  simp only [ho]
  rw [if_neg (by rw [hg]; decide)]
  exact ⟨fun _ => hS, h2⟩
theorem wp_region_schB {Q : Exit → Act → World → Prop} {id : Nat} {a : Act} {w : World} (base : Nat) (F : World → Prop) (p : Nat) (t : Sch) (hm : P.follows .mixedOrders = true) (hB : t.okAll ops p = true) (hF : F w)
    (h : ∀ w0, F w0 → wpSch P ops (OnlyN Q) (Below base w0) p t a w0.drew) : (Code.region id ops true).wp P Q a w := wp_region_sch (Below base w) p t hm hB ((Below.refl base w).drew) fun _ => h w hF
end
end Go.Proofs.YtifgngmebnjfkaaGreatDoor
end

section
namespace Go.Proofs.YtifgngmebnjfkaaGreatDoor
open Go.RowKit
def sgI (b : Bool) (M d : Nat) : Int := if b then -((M : Int) * 2 ^ d) else (M : Int) * 2 ^ d
set_option maxRecDepth 100000 in
set_option maxHeartbeats 600000 in
theorem Rsigned_0 (k E e : Int) (g M d : Nat) (hd : E - e = (d : Int)) (hd2 : d ≤ 16000) (hM : (dg M).length ≤ 900) (w : World) (hI : IntB w g (M : Int)) : Calls Tryz.prog 106 #[.agg #[.int .i64 k, .bool false, .pointer (some ⟨g, 0, none⟩), .int .i64 E], .int .i64 e] w (fun en w' => ∃ h, en = .returned (.pointer (some ⟨h, 0, none⟩)) ∧ IntB w' h (((M : Int) * 2 ^ d)) ∧ w.heap.size ≤ h ∧ Within w w') := by
  have SH := Lib.hid (fun (z : Nat) (w' : World) (hz : IntTy w' z) (hx : IntB w' g (M : Int)) => Blsh z g d (M : Int) (Nat.le_trans hM (by decide)) (by omega) w' hz hx)
  obtain ⟨Q, hQ⟩ : ∃ Q : Nat, Q = M * 2 ^ d := ⟨_, rfl⟩
  have hQ2 : (M : Int) * 2 ^ d = (Q : Int) := by rw [hQ]; simp
  rw [hQ2] at SH
  rw [hQ2]
  have LQ := Lib.hid (show (dg Q).length ≤ 2000000 by rw [hQ]; exact Nat.le_trans (dg_shl_le (k := 500) hM (by omega)) (by omega))
  have hw : IntKind.i64.wrap (E - e) = E - e := by rw [hd]; exact IntWalk.i64_in _ ⟨by omega, by omega⟩
  have hwu : IntKind.u64.wrap (E - e) = (d : Int) := by rw [hd]; exact IntWalk.u64_in _ ⟨by omega, by omega⟩
  clear hQ hQ2 hd hd2 hM
  go_enter Tryz.func106, Tryz.ntmps106
  go_wp2_with fail
  refine (SH.out _ _ (by repeat (with_reducible first | assumption | exact ty_new _ _ _ _ (by simp; done) | refine ty_drew ?_ | refine ty_alloc ?_ _)) (by repeat (with_reducible first | assumption | exact ib_new _ _ (by simp; done) | refine IntB.alloc ?_ _ | refine IntB.drew ?_ | refine IntB.drewN ?_ _))).mono ?_; rintro e1 w1 ⟨rfl, hI1, hG1⟩
  have hb1 : Within w w1 := Within.grown (by repeat (with_reducible first | exact Within.refl _ | assumption | refine Within.alloc ?_ _ | refine Within.drew ?_ | refine Within.drewN ?_ _ | refine Within.setCell ?_ (by first | (simp; done) | (simp; omega)) _ | refine Within.trans ?_ (by assumption))) hG1 (by simp)
  have hcl := grown_cells hG1
  clear hG1
  have c1 : w1.cell? ⟨w.heap.size, 1, none⟩ = some (.bool false) := (hcl _ 1 (by simp; omega) (by simp)).trans (by go_simp)
  have hJ := hI1
  go_wp2
  go_ret
  exact ⟨_, rfl, hJ, by simp, hb1⟩
set_option maxRecDepth 100000 in
set_option maxHeartbeats 600000 in
theorem Rsigned_1 (k E e : Int) (g M d : Nat) (hd : E - e = (d : Int)) (hd2 : d ≤ 16000) (hM : (dg M).length ≤ 900) (w : World) (hI : IntB w g (M : Int)) : Calls Tryz.prog 106 #[.agg #[.int .i64 k, .bool true, .pointer (some ⟨g, 0, none⟩), .int .i64 E], .int .i64 e] w (fun en w' => ∃ h, en = .returned (.pointer (some ⟨h, 0, none⟩)) ∧ IntB w' h (-((M : Int) * 2 ^ d)) ∧ w.heap.size ≤ h ∧ Within w w') := by
  have SH := Lib.hid (fun (z : Nat) (w' : World) (hz : IntTy w' z) (hx : IntB w' g (M : Int)) => Blsh z g d (M : Int) (Nat.le_trans hM (by decide)) (by omega) w' hz hx)
  obtain ⟨Q, hQ⟩ : ∃ Q : Nat, Q = M * 2 ^ d := ⟨_, rfl⟩
  have hQ2 : (M : Int) * 2 ^ d = (Q : Int) := by rw [hQ]; simp
  rw [hQ2] at SH
  rw [hQ2]
  have LQ := Lib.hid (show (dg Q).length ≤ 2000000 by rw [hQ]; exact Nat.le_trans (dg_shl_le (k := 500) hM (by omega)) (by omega))
  have hw : IntKind.i64.wrap (E - e) = E - e := by rw [hd]; exact IntWalk.i64_in _ ⟨by omega, by omega⟩
  have hwu : IntKind.u64.wrap (E - e) = (d : Int) := by rw [hd]; exact IntWalk.u64_in _ ⟨by omega, by omega⟩
  clear hQ hQ2 hd hd2 hM
  go_enter Tryz.func106, Tryz.ntmps106
  go_wp2_with fail
  refine (SH.out _ _ (by repeat (with_reducible first | assumption | exact ty_new _ _ _ _ (by simp; done) | refine ty_drew ?_ | refine ty_alloc ?_ _)) (by repeat (with_reducible first | assumption | exact ib_new _ _ (by simp; done) | refine IntB.alloc ?_ _ | refine IntB.drew ?_ | refine IntB.drewN ?_ _))).mono ?_; rintro e1 w1 ⟨rfl, hI1, hG1⟩
  have hb1 : Within w w1 := Within.grown (by repeat (with_reducible first | exact Within.refl _ | assumption | refine Within.alloc ?_ _ | refine Within.drew ?_ | refine Within.drewN ?_ _ | refine Within.setCell ?_ (by first | (simp; done) | (simp; omega)) _ | refine Within.trans ?_ (by assumption))) hG1 (by simp)
  have hcl := grown_cells hG1
  clear hG1
  have hT1 := hI1.ty
  have c1 : w1.cell? ⟨w.heap.size, 1, none⟩ = some (.bool true) := (hcl _ 1 (by simp; omega) (by simp)).trans (by go_simp)
  go_wp2_with fail
  refine (Bneg _ _ (Q : Int) LQ.out _ hT1 hI1).mono ?_; rintro e2 w2 ⟨rfl, hI2, hG2⟩
  have hb2 : Within w w2 := Within.grown (by repeat (with_reducible first | exact Within.refl _ | assumption | refine Within.alloc ?_ _ | refine Within.drew ?_ | refine Within.drewN ?_ _ | refine Within.setCell ?_ (by first | (simp; done) | (simp; omega)) _ | refine Within.trans ?_ (by assumption))) hG2 (by simp)
  clear hG2
  have hJ := hI2
  go_wp2
  go_ret
  exact ⟨_, rfl, hJ, by simp, hb2⟩
set_option maxRecDepth 100000 in
set_option maxHeartbeats 600000 in
theorem Rsigned (k E e : Int) (b : Bool) (g M d : Nat) (hd : E - e = (d : Int)) (hd2 : d ≤ 16000) (hM : (dg M).length ≤ 900) (w : World) (hI : IntB w g (M : Int)) : Calls Tryz.prog 106 #[.agg #[.int .i64 k, .bool b, .pointer (some ⟨g, 0, none⟩), .int .i64 E], .int .i64 e] w (fun en w' => ∃ h, en = .returned (.pointer (some ⟨h, 0, none⟩)) ∧ IntB w' h (sgI b M d) ∧ w.heap.size ≤ h ∧ Within w w') := by
  unfold sgI
  cases b
  · exact Rsigned_0 k E e g M d hd hd2 hM w hI
  · exact Rsigned_1 k E e g M d hd hd2 hM w hI
theorem sgI_add (b : Bool) (M d c : Nat) : sgI b M (d + c) = sgI b M d * 2 ^ c := by
  unfold sgI
  rw [Int.pow_add]
  cases b
  · simp only [Bool.false_eq_true, if_false, Int.mul_assoc]
  · simp only [if_true, Int.neg_mul, Int.mul_assoc]
theorem sgI_min {J : Nat} {E e : Int} (b : Bool) (M : Nat) (h0 : 0 ≤ e + J) (h : e ≤ E) : sgI b M (E + J).toNat = sgI b M (E - e).toNat * 2 ^ (e + J).toNat := by
  rw [← sgI_add]; congr 1; omega
theorem dg_sum_len {a b : Int} {n : Nat} (ha : (dg a.natAbs).length ≤ n) (hb : (dg b.natAbs).length ≤ n) : (dg (a + b).natAbs).length ≤ n + 1 := by
  refine dg_len_le ?_
  have h1 := Nat.lt_of_lt_of_le (lt_of_dg a.natAbs) (Nat.pow_le_pow_right (by decide) ha)
  have h2 := Nat.lt_of_lt_of_le (lt_of_dg b.natAbs) (Nat.pow_le_pow_right (by decide) hb)
  have h3 : (a + b).natAbs ≤ a.natAbs + b.natAbs := Int.natAbs_add_le a b
  rw [Nat.pow_succ]
  generalize 4294967296 ^ n = Z at *
  omega
end Go.Proofs.YtifgngmebnjfkaaGreatDoor
end

section
namespace Go.Proofs.YtifgngmebnjfkaaGreatDoor
open Go.RowKit
def topR (ng : Bool) (mode : Int) : Bool := decide (mode = 2) || (decide (mode = 3) && ng) || (decide (mode = 4) && !ng)
set_option maxRecDepth 100000 in
set_option maxHeartbeats 600000 in
theorem Riszero_no (kind e v : Int) (ng : Bool) (g : Nat) (hk : (kind == 0) = false) (w : World) (hI : IntB w g v) : Calls Tryz.prog 50 #[.agg #[.int .i64 kind, .bool ng, .pointer (some ⟨g, 0, none⟩), .int .i64 e]] w (fun e' w' => e' = .returned (.bool false) ∧ Within w w') := by
  have hb := Lib.hid (hI.alloc (.cells #[.int .i64 kind, .bool ng, .pointer (some ⟨g, 0, none⟩), .int .i64 e] 65))
  clear hI
  go_enter Tryz.func50, Tryz.ntmps50
  go_wp2
  go_ret
  exact ⟨rfl, (Within.refl w).alloc _⟩
set_option maxRecDepth 100000 in
set_option maxHeartbeats 600000 in
theorem Riszero_zero (kind e v : Int) (ng : Bool) (g : Nat) (hk : kind = 0) (hv : v = 0) (w : World) (hI : IntB w g v) : Calls Tryz.prog 50 #[.agg #[.int .i64 kind, .bool ng, .pointer (some ⟨g, 0, none⟩), .int .i64 e]] w (fun e' w' => e' = .returned (.bool true) ∧ Within w w') := by
  subst hk
  have hb := Lib.hid (hI.alloc (.cells #[.int .i64 0, .bool ng, .pointer (some ⟨g, 0, none⟩), .int .i64 e] 65))
  clear hI
  have d : (v.sign == 0) = true := by subst hv; rfl
  have HV := Lib.hid hv; clear hv
  go_enter Tryz.func50, Tryz.ntmps50
  go_wp2_with fail
  refine (Bsign g v _ hb.out).mono ?_; rintro e1 w1 ⟨rfl, rfl⟩
  go_wp2
  go_ret
  exact ⟨rfl, (Within.refl w).alloc _⟩
set_option maxRecDepth 100000 in
set_option maxHeartbeats 600000 in
theorem Riszero_some (kind e v : Int) (ng : Bool) (g : Nat) (hk : kind = 0) (hv : v ≠ 0) (w : World) (hI : IntB w g v) : Calls Tryz.prog 50 #[.agg #[.int .i64 kind, .bool ng, .pointer (some ⟨g, 0, none⟩), .int .i64 e]] w (fun e' w' => e' = .returned (.bool false) ∧ Within w w') := by
  subst hk
  have hb := Lib.hid (hI.alloc (.cells #[.int .i64 0, .bool ng, .pointer (some ⟨g, 0, none⟩), .int .i64 e] 65))
  clear hI
  have d : (v.sign == 0) = false := beq_eq_false_iff_ne.2 (fun h => hv (Int.sign_eq_zero_iff_zero.1 h))
  have HV := Lib.hid hv; clear hv
  go_enter Tryz.func50, Tryz.ntmps50
  go_wp2_with fail
  refine (Bsign g v _ hb.out).mono ?_; rintro e1 w1 ⟨rfl, rfl⟩
  go_wp2
  go_ret
  exact ⟨rfl, (Within.refl w).alloc _⟩
theorem Riszero (kind e v : Int) (ng : Bool) (g : Nat) (w : World) (hI : IntB w g v) : Calls Tryz.prog 50 #[.agg #[.int .i64 kind, .bool ng, .pointer (some ⟨g, 0, none⟩), .int .i64 e]] w (fun e' w' => e' = .returned (.bool (decide (kind = 0 ∧ v = 0))) ∧ Within w w') := by
  by_cases hk : kind = 0
  · by_cases hv : v = 0
    · rw [decide_eq_true ⟨hk, hv⟩]; exact Riszero_zero kind e v ng g hk hv w hI
    · rw [decide_eq_false (fun h => hv h.2)]; exact Riszero_some kind e v ng g hk hv w hI
  · rw [decide_eq_false (fun h => hk h.1)]; exact Riszero_no kind e v ng g (beq_eq_false_iff_ne.2 hk) w hI
set_option maxRecDepth 100000 in
set_option maxHeartbeats 600000 in
theorem RputS_0 (fd fr : Nat) (hfd : fd < 256) (hfr : fr < 8388608) (w : World) : Calls Tryz.prog 94 #[fmS, .bool false, .int .i64 (fd : Int), .int .u64 (fr : Int)] w (fun e w' => e = .returned (.int .u64 ((fd * 8388608 + fr : Nat) : Int)) ∧ Within w w') := by
  have HH := Lib.hid (And.intro hfd hfr)
  have j1 : bits .or .u64 ((fd : Int) * 8388608) (fr : Int) = ((fd * 8388608 + fr : Nat) : Int) := by rw [show (fd : Int) * 8388608 = ((fd * 8388608 : Nat) : Int) by simp]; exact u64_join 23 _ _ (by omega) (by omega) (by rw [show (2 : Nat) ^ 23 = 8388608 from rfl]; omega) (by rw [show (2 : Nat) ^ 23 = 8388608 from rfl]; omega)
  have j2 : bits .or .u64 ((fd * 8388608 + fr : Nat) : Int) 2147483648 = ((fd * 8388608 + fr + 2147483648 : Nat) : Int) := by rw [show (2147483648 : Int) = ((2147483648 : Nat) : Int) from rfl, u64_or_nat _ _ (by omega) (by decide), Nat.or_comm, nat_join 31 _ _ (by decide) (by rw [show (2 : Nat) ^ 31 = 2147483648 from rfl]; omega), Nat.add_comm]
  have g1 : IntKind.u64.wrap ((fd : Int) * 8388608) = (fd : Int) * 8388608 := by rw [IntKind.wrap_u64]; omega
  obtain ⟨a, ha⟩ : ∃ a : Nat, a = fd * 8388608 + fr := ⟨_, rfl⟩
  rw [← ha] at j1 j2 ⊢
  have HA := Lib.hid ha; clear ha hfr
  go_enter Tryz.func94, Tryz.ntmps94
  go_wp2
  go_ret
  exact ⟨rfl, (by repeat (with_reducible first | exact Within.refl _ | assumption | refine Within.alloc ?_ _ | refine Within.drew ?_ | refine Within.drewN ?_ _ | refine Within.setCell ?_ (by first | (simp; done) | (simp; omega)) _ | refine Within.trans ?_ (by assumption)))⟩
set_option maxRecDepth 100000 in
set_option maxHeartbeats 600000 in
theorem RputS_1 (fd fr : Nat) (hfd : fd < 256) (hfr : fr < 8388608) (w : World) : Calls Tryz.prog 94 #[fmS, .bool true, .int .i64 (fd : Int), .int .u64 (fr : Int)] w (fun e w' => e = .returned (.int .u64 ((fd * 8388608 + fr + 2147483648 : Nat) : Int)) ∧ Within w w') := by
  have HH := Lib.hid (And.intro hfd hfr)
  have j1 : bits .or .u64 ((fd : Int) * 8388608) (fr : Int) = ((fd * 8388608 + fr : Nat) : Int) := by rw [show (fd : Int) * 8388608 = ((fd * 8388608 : Nat) : Int) by simp]; exact u64_join 23 _ _ (by omega) (by omega) (by rw [show (2 : Nat) ^ 23 = 8388608 from rfl]; omega) (by rw [show (2 : Nat) ^ 23 = 8388608 from rfl]; omega)
  have j2 : bits .or .u64 ((fd * 8388608 + fr : Nat) : Int) 2147483648 = ((fd * 8388608 + fr + 2147483648 : Nat) : Int) := by rw [show (2147483648 : Int) = ((2147483648 : Nat) : Int) from rfl, u64_or_nat _ _ (by omega) (by decide), Nat.or_comm, nat_join 31 _ _ (by decide) (by rw [show (2 : Nat) ^ 31 = 2147483648 from rfl]; omega), Nat.add_comm]
  have g1 : IntKind.u64.wrap ((fd : Int) * 8388608) = (fd : Int) * 8388608 := by rw [IntKind.wrap_u64]; omega
  obtain ⟨a, ha⟩ : ∃ a : Nat, a = fd * 8388608 + fr := ⟨_, rfl⟩
  rw [← ha] at j1 j2 ⊢
  have HA := Lib.hid ha; clear ha hfr
  go_enter Tryz.func94, Tryz.ntmps94
  go_wp2
  go_ret
  exact ⟨rfl, (by repeat (with_reducible first | exact Within.refl _ | assumption | refine Within.alloc ?_ _ | refine Within.drew ?_ | refine Within.drewN ?_ _ | refine Within.setCell ?_ (by first | (simp; done) | (simp; omega)) _ | refine Within.trans ?_ (by assumption)))⟩
theorem RputS (ng : Bool) (fd fr : Nat) (hfd : fd < 256) (hfr : fr < 8388608) (w : World) : Calls Tryz.prog 94 #[fmS, .bool ng, .int .i64 (fd : Int), .int .u64 (fr : Int)] w (fun e w' => e = .returned (.int .u64 ((fd * 8388608 + fr + (if ng then 2147483648 else 0) : Nat) : Int)) ∧ Within w w') := by
  cases ng
  · rw [if_neg Bool.false_ne_true, Nat.add_zero]; exact RputS_0 fd fr hfd hfr w
  · rw [if_pos rfl]; exact RputS_1 fd fr hfd hfr w
set_option maxRecDepth 100000 in
set_option maxHeartbeats 600000 in
theorem RnoughtS_0 (w : World) : Calls Tryz.prog 54 #[fmS, .bool false] w (fun e w' => e = .returned (.int .u64 0) ∧ Within w w') := by
  have hp := fun (w' : World) => RputS_0 0 0 (by decide) (by decide) w'
  have HP := Lib.hid hp; clear hp
  go_enter Tryz.func54, Tryz.ntmps54
  go_wp2_with fail
  refine (HP.out _).mono ?_; rintro e1 w1 ⟨rfl, hb1⟩
  go_wp2
  go_ret
  exact ⟨ret_int (by rfl), (by repeat (with_reducible first | exact Within.refl _ | assumption | refine Within.alloc ?_ _ | refine Within.drew ?_ | refine Within.drewN ?_ _ | refine Within.setCell ?_ (by first | (simp; done) | (simp; omega)) _ | refine Within.trans ?_ (by assumption)))⟩
set_option maxRecDepth 100000 in
set_option maxHeartbeats 600000 in
theorem RnoughtS_1 (w : World) : Calls Tryz.prog 54 #[fmS, .bool true] w (fun e w' => e = .returned (.int .u64 2147483648) ∧ Within w w') := by
  have hp := fun (w' : World) => RputS_1 0 0 (by decide) (by decide) w'
  have HP := Lib.hid hp; clear hp
  go_enter Tryz.func54, Tryz.ntmps54
  go_wp2_with fail
  refine (HP.out _).mono ?_; rintro e1 w1 ⟨rfl, hb1⟩
  go_wp2
  go_ret
  exact ⟨ret_int (by rfl), (by repeat (with_reducible first | exact Within.refl _ | assumption | refine Within.alloc ?_ _ | refine Within.drew ?_ | refine Within.drewN ?_ _ | refine Within.setCell ?_ (by first | (simp; done) | (simp; omega)) _ | refine Within.trans ?_ (by assumption)))⟩
set_option maxRecDepth 100000 in
set_option maxHeartbeats 600000 in
theorem RinfinityS_0 (w : World) : Calls Tryz.prog 90 #[fmS, .bool false] w (fun e w' => e = .returned (.int .u64 2139095040) ∧ Within w w') := by
  have hp := fun (w' : World) => RputS_0 255 0 (by decide) (by decide) w'
  have HP := Lib.hid hp; clear hp
  go_enter Tryz.func90, Tryz.ntmps90
  go_wp2_with fail
  refine (HP.out _).mono ?_; rintro e1 w1 ⟨rfl, hb1⟩
  go_wp2
  go_ret
  exact ⟨ret_int (by rfl), (by repeat (with_reducible first | exact Within.refl _ | assumption | refine Within.alloc ?_ _ | refine Within.drew ?_ | refine Within.drewN ?_ _ | refine Within.setCell ?_ (by first | (simp; done) | (simp; omega)) _ | refine Within.trans ?_ (by assumption)))⟩
set_option maxRecDepth 100000 in
set_option maxHeartbeats 600000 in
theorem RinfinityS_1 (w : World) : Calls Tryz.prog 90 #[fmS, .bool true] w (fun e w' => e = .returned (.int .u64 4286578688) ∧ Within w w') := by
  have hp := fun (w' : World) => RputS_1 255 0 (by decide) (by decide) w'
  have HP := Lib.hid hp; clear hp
  go_enter Tryz.func90, Tryz.ntmps90
  go_wp2_with fail
  refine (HP.out _).mono ?_; rintro e1 w1 ⟨rfl, hb1⟩
  go_wp2
  go_ret
  exact ⟨ret_int (by rfl), (by repeat (with_reducible first | exact Within.refl _ | assumption | refine Within.alloc ?_ _ | refine Within.drew ?_ | refine Within.drewN ?_ _ | refine Within.setCell ?_ (by first | (simp; done) | (simp; omega)) _ | refine Within.trans ?_ (by assumption)))⟩
set_option maxRecDepth 100000 in
set_option maxHeartbeats 600000 in
theorem RgreatestS_0 (w : World) : Calls Tryz.prog 127 #[fmS, .bool false] w (fun e w' => e = .returned (.int .u64 2139095039) ∧ Within w w') := by
  have hp := fun (w' : World) => RputS_0 254 8388607 (by decide) (by decide) w'
  have HP := Lib.hid hp; clear hp
  go_enter Tryz.func127, Tryz.ntmps127
  go_wp2_with fail
  refine (HP.out _).mono ?_; rintro e1 w1 ⟨rfl, hb1⟩
  go_wp2
  go_ret
  exact ⟨ret_int (by rfl), (by repeat (with_reducible first | exact Within.refl _ | assumption | refine Within.alloc ?_ _ | refine Within.drew ?_ | refine Within.drewN ?_ _ | refine Within.setCell ?_ (by first | (simp; done) | (simp; omega)) _ | refine Within.trans ?_ (by assumption)))⟩
set_option maxRecDepth 100000 in
set_option maxHeartbeats 600000 in
theorem RgreatestS_1 (w : World) : Calls Tryz.prog 127 #[fmS, .bool true] w (fun e w' => e = .returned (.int .u64 4286578687) ∧ Within w w') := by
  have hp := fun (w' : World) => RputS_1 254 8388607 (by decide) (by decide) w'
  have HP := Lib.hid hp; clear hp
  go_enter Tryz.func127, Tryz.ntmps127
  go_wp2_with fail
  refine (HP.out _).mono ?_; rintro e1 w1 ⟨rfl, hb1⟩
  go_wp2
  go_ret
  exact ⟨ret_int (by rfl), (by repeat (with_reducible first | exact Within.refl _ | assumption | refine Within.alloc ?_ _ | refine Within.drew ?_ | refine Within.drewN ?_ _ | refine Within.setCell ?_ (by first | (simp; done) | (simp; omega)) _ | refine Within.trans ?_ (by assumption)))⟩
set_option maxRecDepth 100000 in
set_option maxHeartbeats 600000 in
theorem RnoneS (w : World) : Calls Tryz.prog 80 #[fmS] w (fun e w' => e = .returned (.int .u64 2143289344) ∧ Within w w') := by
  go_enter Tryz.func80, Tryz.ntmps80
  go_wp2
  go_ret
  exact ⟨rfl, (by repeat (with_reducible first | exact Within.refl _ | assumption | refine Within.alloc ?_ _ | refine Within.drew ?_ | refine Within.drewN ?_ _ | refine Within.setCell ?_ (by first | (simp; done) | (simp; omega)) _ | refine Within.trans ?_ (by assumption)))⟩
set_option maxRecDepth 100000 in
set_option maxHeartbeats 600000 in
theorem RoverS_0z (mode : Int) (hm : mode = 2) (w : World) : Calls Tryz.prog 98 #[fmS, .bool false, .int .i64 mode] w (fun e w' => e = .returned (.int .u64 2139095039) ∧ Within w w') := by
  subst hm
  go_enter Tryz.func98, Tryz.ntmps98
  go_wp2_with fail
  refine (RgreatestS_0 _).mono ?_; rintro e1 w1 ⟨rfl, hb1⟩
  go_wp2
  go_ret
  exact ⟨rfl, (by repeat (with_reducible first | exact Within.refl _ | assumption | refine Within.alloc ?_ _ | refine Within.drew ?_ | refine Within.drewN ?_ _ | refine Within.setCell ?_ (by first | (simp; done) | (simp; omega)) _ | refine Within.trans ?_ (by assumption)))⟩
set_option maxRecDepth 100000 in
set_option maxHeartbeats 600000 in
theorem RoverS_0u (mode : Int) (hm : mode = 3) (w : World) : Calls Tryz.prog 98 #[fmS, .bool false, .int .i64 mode] w (fun e w' => e = .returned (.int .u64 2139095040) ∧ Within w w') := by
  subst hm
  go_enter Tryz.func98, Tryz.ntmps98
  go_wp2_with fail
  refine (RinfinityS_0 _).mono ?_; rintro e1 w1 ⟨rfl, hb1⟩
  go_wp2
  go_ret
  exact ⟨rfl, (by repeat (with_reducible first | exact Within.refl _ | assumption | refine Within.alloc ?_ _ | refine Within.drew ?_ | refine Within.drewN ?_ _ | refine Within.setCell ?_ (by first | (simp; done) | (simp; omega)) _ | refine Within.trans ?_ (by assumption)))⟩
set_option maxRecDepth 100000 in
set_option maxHeartbeats 600000 in
theorem RoverS_0d (mode : Int) (hm : mode = 4) (w : World) : Calls Tryz.prog 98 #[fmS, .bool false, .int .i64 mode] w (fun e w' => e = .returned (.int .u64 2139095039) ∧ Within w w') := by
  subst hm
  go_enter Tryz.func98, Tryz.ntmps98
  go_wp2_with fail
  refine (RgreatestS_0 _).mono ?_; rintro e1 w1 ⟨rfl, hb1⟩
  go_wp2
  go_ret
  exact ⟨rfl, (by repeat (with_reducible first | exact Within.refl _ | assumption | refine Within.alloc ?_ _ | refine Within.drew ?_ | refine Within.drewN ?_ _ | refine Within.setCell ?_ (by first | (simp; done) | (simp; omega)) _ | refine Within.trans ?_ (by assumption)))⟩
set_option maxRecDepth 100000 in
set_option maxHeartbeats 600000 in
theorem RoverS_0o (mode : Int) (h2 : (mode == 2) = false) (h3 : (mode == 3) = false) (h4 : (mode == 4) = false) (w : World) : Calls Tryz.prog 98 #[fmS, .bool false, .int .i64 mode] w (fun e w' => e = .returned (.int .u64 2139095040) ∧ Within w w') := by
  go_enter Tryz.func98, Tryz.ntmps98
  go_wp2_with fail
  refine (RinfinityS_0 _).mono ?_; rintro e1 w1 ⟨rfl, hb1⟩
  go_wp2
  go_ret
  exact ⟨rfl, (by repeat (with_reducible first | exact Within.refl _ | assumption | refine Within.alloc ?_ _ | refine Within.drew ?_ | refine Within.drewN ?_ _ | refine Within.setCell ?_ (by first | (simp; done) | (simp; omega)) _ | refine Within.trans ?_ (by assumption)))⟩
set_option maxRecDepth 100000 in
set_option maxHeartbeats 600000 in
theorem RoverS_1z (mode : Int) (hm : mode = 2) (w : World) : Calls Tryz.prog 98 #[fmS, .bool true, .int .i64 mode] w (fun e w' => e = .returned (.int .u64 4286578687) ∧ Within w w') := by
  subst hm
  go_enter Tryz.func98, Tryz.ntmps98
  go_wp2_with fail
  refine (RgreatestS_1 _).mono ?_; rintro e1 w1 ⟨rfl, hb1⟩
  go_wp2
  go_ret
  exact ⟨rfl, (by repeat (with_reducible first | exact Within.refl _ | assumption | refine Within.alloc ?_ _ | refine Within.drew ?_ | refine Within.drewN ?_ _ | refine Within.setCell ?_ (by first | (simp; done) | (simp; omega)) _ | refine Within.trans ?_ (by assumption)))⟩
set_option maxRecDepth 100000 in
set_option maxHeartbeats 600000 in
theorem RoverS_1u (mode : Int) (hm : mode = 3) (w : World) : Calls Tryz.prog 98 #[fmS, .bool true, .int .i64 mode] w (fun e w' => e = .returned (.int .u64 4286578687) ∧ Within w w') := by
  subst hm
  go_enter Tryz.func98, Tryz.ntmps98
  go_wp2_with fail
  refine (RgreatestS_1 _).mono ?_; rintro e1 w1 ⟨rfl, hb1⟩
  go_wp2
  go_ret
  exact ⟨rfl, (by repeat (with_reducible first | exact Within.refl _ | assumption | refine Within.alloc ?_ _ | refine Within.drew ?_ | refine Within.drewN ?_ _ | refine Within.setCell ?_ (by first | (simp; done) | (simp; omega)) _ | refine Within.trans ?_ (by assumption)))⟩
set_option maxRecDepth 100000 in
set_option maxHeartbeats 600000 in
theorem RoverS_1d (mode : Int) (hm : mode = 4) (w : World) : Calls Tryz.prog 98 #[fmS, .bool true, .int .i64 mode] w (fun e w' => e = .returned (.int .u64 4286578688) ∧ Within w w') := by
  subst hm
  go_enter Tryz.func98, Tryz.ntmps98
  go_wp2_with fail
  refine (RinfinityS_1 _).mono ?_; rintro e1 w1 ⟨rfl, hb1⟩
  go_wp2
  go_ret
  exact ⟨rfl, (by repeat (with_reducible first | exact Within.refl _ | assumption | refine Within.alloc ?_ _ | refine Within.drew ?_ | refine Within.drewN ?_ _ | refine Within.setCell ?_ (by first | (simp; done) | (simp; omega)) _ | refine Within.trans ?_ (by assumption)))⟩
set_option maxRecDepth 100000 in
set_option maxHeartbeats 600000 in
theorem RoverS_1o (mode : Int) (h2 : (mode == 2) = false) (h3 : (mode == 3) = false) (h4 : (mode == 4) = false) (w : World) : Calls Tryz.prog 98 #[fmS, .bool true, .int .i64 mode] w (fun e w' => e = .returned (.int .u64 4286578688) ∧ Within w w') := by
  go_enter Tryz.func98, Tryz.ntmps98
  go_wp2_with fail
  refine (RinfinityS_1 _).mono ?_; rintro e1 w1 ⟨rfl, hb1⟩
  go_wp2
  go_ret
  exact ⟨rfl, (by repeat (with_reducible first | exact Within.refl _ | assumption | refine Within.alloc ?_ _ | refine Within.drew ?_ | refine Within.drewN ?_ _ | refine Within.setCell ?_ (by first | (simp; done) | (simp; omega)) _ | refine Within.trans ?_ (by assumption)))⟩
theorem RoverS (ng : Bool) (mode : Int) (w : World) : Calls Tryz.prog 98 #[fmS, .bool ng, .int .i64 mode] w (fun e w' => e = .returned (.int .u64 (((if topR ng mode then 2139095039 else 2139095040) + (if ng then 2147483648 else 0) : Nat) : Int)) ∧ Within w w') := by
  by_cases h2 : mode = 2
  · subst h2; cases ng
    · exact RoverS_0z 2 rfl w
    · exact RoverS_1z 2 rfl w
  by_cases h3 : mode = 3
  · subst h3; cases ng
    · exact RoverS_0u 3 rfl w
    · exact RoverS_1u 3 rfl w
  by_cases h4 : mode = 4
  · subst h4; cases ng
    · exact RoverS_0d 4 rfl w
    · exact RoverS_1d 4 rfl w
  have e : topR ng mode = false := by unfold topR; simp [h2, h3, h4]
  rw [e]
  cases ng
  · exact RoverS_0o mode (beq_eq_false_iff_ne.2 h2) (beq_eq_false_iff_ne.2 h3) (beq_eq_false_iff_ne.2 h4) w
  · exact RoverS_1o mode (beq_eq_false_iff_ne.2 h2) (beq_eq_false_iff_ne.2 h3) (beq_eq_false_iff_ne.2 h4) w
set_option maxRecDepth 100000 in
set_option maxHeartbeats 600000 in
theorem Rknown_yes (mode : Int) (h : 0 ≤ mode ∧ mode ≤ 4) (w : World) : Calls Tryz.prog 47 #[.int .i64 mode] w (fun e w' => e = .returned (.bool true) ∧ w = w') := by
  have d1 : decide (mode ≥ 0) = true := decide_eq_true h.1
  have d2 : decide (mode ≤ 4) = true := decide_eq_true h.2
  clear h
  go_enter Tryz.func47, Tryz.ntmps47
  go_wp2
  go_ret
  exact ⟨rfl, rfl⟩
set_option maxRecDepth 100000 in
set_option maxHeartbeats 600000 in
theorem Rknown_low (mode : Int) (h : mode < 0) (w : World) : Calls Tryz.prog 47 #[.int .i64 mode] w (fun e w' => e = .returned (.bool false) ∧ w = w') := by
  have d1 : decide (mode ≥ 0) = false := decide_eq_false (by omega)
  clear h
  go_enter Tryz.func47, Tryz.ntmps47
  go_wp2
  go_ret
  exact ⟨rfl, rfl⟩
set_option maxRecDepth 100000 in
set_option maxHeartbeats 600000 in
theorem Rknown_high (mode : Int) (h : 4 < mode) (w : World) : Calls Tryz.prog 47 #[.int .i64 mode] w (fun e w' => e = .returned (.bool false) ∧ w = w') := by
  have d1 : decide (mode ≥ 0) = true := decide_eq_true (by omega)
  have d2 : decide (mode ≤ 4) = false := decide_eq_false (by omega)
  clear h
  go_enter Tryz.func47, Tryz.ntmps47
  go_wp2
  go_ret
  exact ⟨rfl, rfl⟩
theorem Rknown (mode : Int) (w : World) : Calls Tryz.prog 47 #[.int .i64 mode] w (fun e w' => e = .returned (.bool (decide (0 ≤ mode ∧ mode ≤ 4))) ∧ w = w') := by
  by_cases h : 0 ≤ mode ∧ mode ≤ 4
  · rw [decide_eq_true h]; exact Rknown_yes mode h w
  · rw [decide_eq_false h]
    by_cases h1 : mode < 0
    · exact Rknown_low mode h1 w
    · exact Rknown_high mode (by omega) w
end Go.Proofs.YtifgngmebnjfkaaGreatDoor
end

section
namespace Go.Proofs.YtifgngmebnjfkaaGreatDoor
open Go.RowKit
theorem dg_at0 (n : Nat) : (dg n).getD 0 0 = n % 4294967296 := by
  by_cases h : n = 0
  · subst h; rw [dg_zero]; rfl
  · rw [dg_pos h]; rfl
theorem dg_at1 (n : Nat) : (dg n).getD 1 0 = n / 4294967296 % 4294967296 := by
  by_cases h : n = 0
  · subst h; rw [dg_zero]; rfl
  · rw [dg_pos h]
    show (dg (n / 4294967296)).getD 0 0 = _
    rw [dg_at0]
theorem dg_len1 {n : Nat} (h : (dg n).length ≤ 1) : n < 4294967296 := by
  have := lt_of_dg n
  have h2 : 4294967296 ^ (dg n).length ≤ 4294967296 ^ 1 := Nat.pow_le_pow_right (by decide) h
  omega
theorem u32_and1 (x : Nat) (h : x < 4294967296) : bits .and .u32 (x : Int) 1 = ((x % 2 : Nat) : Int) := by
  have := u32_and_nat x 1 h (by decide)
  rw [show (2 : Nat) = 2 ^ 1 from rfl, ← Nat.and_two_pow_sub_one_eq_mod]
  exact this
set_option maxRecDepth 100000 in
set_option maxHeartbeats 600000 in
theorem Bbit_zero (x : Nat) (w : World) (hx : IntB w x 0) : Calls Tryz.prog 122 #[.pointer (some ⟨x, 0, none⟩), .int .i64 0] w (fun e w' => e = .returned (.int .u64 0) ∧ w = w') := by
  obtain ⟨A, c, c0, c1, _⟩ := hx.rd
  rw [show (dg (0 : Int).natAbs) = [] from dg_zero] at c1
  rw [show decide ((0 : Int) < 0) = false from rfl] at c0
  clear hx
  go_enter Tryz.func122, Tryz.ntmps122
  go_wp2
  go_ret
  exact ⟨rfl, rfl⟩
set_option maxRecDepth 100000 in
set_option maxHeartbeats 600000 in
theorem Bbit_pos (x k t gm c : Nat) (ht : t < 4294967296) (hk : k ≤ 1000000) (w : World) (c0 : w.cell? ⟨x, 0, none⟩ = some (.bool false)) (c1 : w.cell? ⟨x, 1, none⟩ = some (.slice (some ⟨gm, 0, none⟩) (k + 1) c)) (ct : w.cell? ⟨gm, 0, none⟩ = some (.int .u32 (t : Int))) : Calls Tryz.prog 122 #[.pointer (some ⟨x, 0, none⟩), .int .i64 0] w (fun e w' => e = .returned (.int .u64 ((t % 2 : Nat) : Int)) ∧ w = w') := by
  have ga := u32_and1 t ht
  rw [Int.natCast_emod] at ga
  clear ht
  go_enter Tryz.func122, Tryz.ntmps122
  go_wp2
  go_ret
  exact ⟨ret_int (by first | rfl | exact ga | omega), rfl⟩
theorem Bbit (x n : Nat) (hn : (dg n).length ≤ 1000000) (w : World) (hx : IntB w x (n : Int)) : Calls Tryz.prog 122 #[.pointer (some ⟨x, 0, none⟩), .int .i64 0] w (fun e w' => e = .returned (.int .u64 ((n % 2 : Nat) : Int)) ∧ w = w') := by
  by_cases h : n = 0
  · subst h; exact Bbit_zero x w hx
  · obtain ⟨A, c, c0, c1, hr⟩ := hx.rd
    rw [decide_eq_false (by omega)] at c0
    rw [Int.natAbs_natCast] at c1 hr
    obtain ⟨k, hk⟩ : ∃ k, (dg n).length = k + 1 := ⟨_, (Nat.succ_pred_eq_of_pos (dg_len_pos h)).symm⟩
    obtain ⟨g, rfl, _, ct⟩ := hr.cell (i := 0) (by omega)
    rw [hk] at c1
    rw [dg_at0] at ct
    refine (Bbit_pos x k _ g c (by omega) (by omega) w c0 c1 ct).mono fun e w' h => ⟨h.1.trans (ret_int ?_), h.2⟩
    omega
set_option maxRecDepth 100000 in
set_option maxHeartbeats 600000 in
theorem Buint64_zero (x : Nat) (A : Option Addr) (c : Nat) (w : World) (c1 : w.cell? ⟨x, 1, none⟩ = some (.slice A 0 c)) : Calls Tryz.prog 66 #[.pointer (some ⟨x, 0, none⟩)] w (fun e w' => e = .returned (.int .u64 0) ∧ w = w') := by
  go_enter Tryz.func66, Tryz.ntmps66
  go_wp2
  go_ret
  exact ⟨rfl, rfl⟩
set_option maxRecDepth 100000 in
set_option maxHeartbeats 600000 in
theorem Buint64_one (x gm c t : Nat) (ht : t < 4294967296) (w : World) (c1 : w.cell? ⟨x, 1, none⟩ = some (.slice (some ⟨gm, 0, none⟩) 1 c)) (ct : w.cell? ⟨gm, 0, none⟩ = some (.int .u32 (t : Int))) : Calls Tryz.prog 66 #[.pointer (some ⟨x, 0, none⟩)] w (fun e w' => e = .returned (.int .u64 (t : Int)) ∧ w = w') := by
  go_enter Tryz.func66, Tryz.ntmps66
  go_wp2
  go_ret
  exact ⟨rfl, rfl⟩
set_option maxRecDepth 100000 in
set_option maxHeartbeats 600000 in
theorem Buint64_more (x gm c t u k : Nat) (ht : t < 4294967296) (hu : u < 4294967296) (hk : k ≤ 1000000) (w : World) (c1 : w.cell? ⟨x, 1, none⟩ = some (.slice (some ⟨gm, 0, none⟩) (k + 2) c)) (ct : w.cell? ⟨gm, 0, none⟩ = some (.int .u32 (t : Int))) (cu : w.cell? ⟨gm, 1, none⟩ = some (.int .u32 (u : Int))) : Calls Tryz.prog 66 #[.pointer (some ⟨x, 0, none⟩)] w (fun e w' => e = .returned (.int .u64 ((t + 4294967296 * u : Nat) : Int)) ∧ w = w') := by
  have gor := Lib.hid (or_high ht hu)
  have d : (0 : Int) < (k : Int) + 2 := by omega
  have d2 : (1 : Int) < (k : Int) + 2 := by omega
  have HT := Lib.hid ht
  go_enter Tryz.func66, Tryz.ntmps66
  go_wp2
  go_ret
  exact ⟨ret_int (by first | exact gor.out | (rw [← gor.out]; simp)), rfl⟩
theorem Buint64 (x : Nat) (v : Int) (hn : (dg v.natAbs).length ≤ 1000000) (w : World) (hx : IntB w x v) : Calls Tryz.prog 66 #[.pointer (some ⟨x, 0, none⟩)] w (fun e w' => e = .returned (.int .u64 ((v.natAbs % 18446744073709551616 : Nat) : Int)) ∧ w = w') := by
  obtain ⟨A, c, c0, c1, hr⟩ := hx.rd
  clear hx c0
  generalize v.natAbs = n at *
  rcases hk : (dg n).length with _ | _ | k
  · have h0 : n = 0 := dg_eq_nil (List.eq_nil_of_length_eq_zero hk)
    rw [hk] at c1
    refine (Buint64_zero x A c w c1).mono fun e w' h => ⟨h.1.trans (ret_int ?_), h.2⟩
    omega
  · obtain ⟨g, rfl, _, ct⟩ := hr.cell (i := 0) (by omega)
    have h1 := dg_len1 (n := n) (by omega)
    rw [hk] at c1
    rw [dg_at0] at ct
    refine (Buint64_one x g c _ (by omega) w c1 ct).mono fun e w' h => ⟨h.1.trans (ret_int ?_), h.2⟩
    omega
  · obtain ⟨g, rfl, _, ct⟩ := hr.cell (i := 0) (by omega)
    obtain ⟨g', e, _, cu⟩ := hr.cell (i := 1) (by omega)
    have e' := Option.some.inj e
    injection e' with e'
    subst e'
    rw [hk] at c1
    rw [dg_at0] at ct
    rw [dg_at1] at cu
    refine (Buint64_more x g c _ _ k (by omega) (by omega) (by omega) w c1 ct cu).mono fun e w' h => ⟨h.1.trans (ret_int ?_), h.2⟩
    omega
end Go.Proofs.YtifgngmebnjfkaaGreatDoor
end

section
namespace Go.Proofs.YtifgngmebnjfkaaGreatDoor
open Go.RowKit
def cutC (M s : Nat) (more : Bool) : Int :=
  if M % 2 ^ s = 0 ∧ more = false then -2 else if cmpN (M % 2 ^ s) (2 ^ (s - 1)) = 0 ∧ more = true then 1 else cmpN (M % 2 ^ s) (2 ^ (s - 1))
def CutI (W : World) (q : Nat) (c : Int) (e : Ending) (w' : World) : Prop := ∃ g, e = .returned (.tuple #[.pointer (some ⟨g, 0, none⟩), .int .i64 c]) ∧ IntB w' g (q : Int) ∧ W.heap.size ≤ g ∧ Within W w'
theorem cmpI_nat (a b : Nat) : cmpI (a : Int) (b : Int) = cmpN a b := by
  unfold cmpI cmpN
  repeat' split
  all_goals omega
theorem alloc2_ty {w w' : World} {b : Bool} {v : Value} {o : Obj} {z : Nat} (h : ((w.alloc (.cells #[.bool b, v] 91)).alloc o).grownBy w' (some z)) (hz : w.heap.size ≠ z) : IntTy w' w.heap.size := by
  refine ⟨b, v, ?_⟩
  rw [h.block w.heap.size (by simp; omega) (fun e => hz (by injection e))]
  exact hp_alloc (hp_new _ _ _ rfl) _
set_option maxRecDepth 100000 in
set_option maxHeartbeats 600000 in
theorem Rcut_exact (g M s : Nat) (more : Bool) (hs1 : 1 ≤ s) (hs2 : s ≤ 60000) (hM : (dg M).length ≤ 1000) (hc : M % 2 ^ s = 0) (hm : more = false) (w : World) (hI : IntB w g (M : Int)) : Calls Tryz.prog 91 #[.pointer (some ⟨g, 0, none⟩), .int .i64 (s : Int), .bool more] w (CutI w (M / 2 ^ s) (-2)) := by
  have HI0 := Lib.hid hI; have hlg := hI.lt
  obtain ⟨q, hq⟩ : ∃ q, q = M / 2 ^ s := ⟨_, rfl⟩
  obtain ⟨r, hr⟩ : ∃ r, r = M % 2 ^ s := ⟨_, rfl⟩
  obtain ⟨hf, hh⟩ : ∃ hf, hf = 2 ^ (s - 1) := ⟨_, rfl⟩
  try rw [← hr] at hc
  try rw [← hh] at hc
  have HQ := Lib.hid hq; have HR := Lib.hid hr; have HH := Lib.hid hh
  have hqM : (q : Int) * 2 ^ s = ((q * 2 ^ s : Nat) : Int) := by simp
  have hsub : (M : Int) - ((q * 2 ^ s : Nat) : Int) = (r : Int) := by have := Nat.div_add_mod M (2 ^ s); rw [← hq, ← hr, Nat.mul_comm] at this; omega
  have LM : (dg M).length ≤ 1000 := hM
  have LQ : (dg q).length ≤ 1000 := by rw [hq]; exact Nat.le_trans (dg_len_mono (Nat.div_le_self _ _)) hM
  have LQ2 : (dg (q * 2 ^ s)).length ≤ 1000 := by rw [hq]; exact Nat.le_trans (dg_len_mono (Nat.div_mul_le_self _ _)) hM
  have LR : (dg r).length ≤ 1000 := by rw [hr]; exact Nat.le_trans (dg_len_mono (Nat.mod_le _ _)) hM
  have LH : (dg hf).length ≤ 2000 := by rw [hh]; exact dg_pow_le (by omega)
  have HS := Lib.hid hs1; have HL := Lib.hid (And.intro LM (And.intro LQ (And.intro LQ2 (And.intro LR LH))))
  have ds : ((s : Int) == 0) = false := beq_eq_false_iff_ne.2 (by omega)
  have gs : IntKind.u64.wrap (s : Int) = s := by rw [IntKind.wrap_u64]; omega
  have gs1 : IntKind.i64.wrap ((s : Int) - 1) = ((s - 1 : Nat) : Int) := by rw [IntKind.wrap_i64]; omega
  have gs2 : IntKind.u64.wrap ((s - 1 : Nat) : Int) = ((s - 1 : Nat) : Int) := by rw [IntKind.wrap_u64]; omega
  clear hq hr hh hs1 LM LQ LQ2 LR LH hM
  have hd : ((r : Int).sign == 0) = true := by rw [hc]; rfl
  subst hm
  have HC := Lib.hid hc; clear hc
  go_enter Tryz.func91, Tryz.ntmps91
  go_wp2_with fail
  refine (Brsh w.heap.size g s M (Nat.le_trans HL.out.1 (by decide)) (by omega) _ (by repeat (with_reducible first | assumption | exact ty_new _ _ _ _ (by simp; done) | refine ty_drew ?_ | refine ty_alloc ?_ _)) (by repeat (with_reducible first | assumption | exact ib_new _ _ (by simp; done) | refine IntB.alloc ?_ _ | refine IntB.drewN ?_ _))).mono ?_; rintro e1 w1 ⟨rfl, hI1, hG1⟩
  have hb1 : Within w w1 := Within.grown (by repeat (with_reducible first | exact Within.refl _ | assumption | refine Within.alloc ?_ _ | refine Within.drew ?_ | refine Within.drewN ?_ _ | refine Within.setCell ?_ (by first | (simp; done) | (simp; omega)) _ | refine Within.trans ?_ (by assumption))) hG1 (by simp)
  have hI := hI.of hb1
  clear hG1
  rw [← HQ.out] at hI1; have hl1 := hI1.lt
  go_wp2_with fail
  refine (Blsh (w1.heap.size + 1) w.heap.size s q (by rw [Int.natAbs_natCast]; exact Nat.le_trans HL.out.2.1 (by decide)) (by omega) _ (by repeat (with_reducible first | assumption | exact ty_new _ _ _ _ (by simp; done) | refine ty_drew ?_ | refine ty_alloc ?_ _)) (by repeat (with_reducible first | assumption | exact ib_new _ _ (by simp; done) | refine IntB.alloc ?_ _ | refine IntB.drewN ?_ _))).mono ?_; rintro e2 w2 ⟨rfl, hI2, hG2⟩
  have hb2 : Within w1 w2 := Within.grown (by repeat (with_reducible first | exact Within.refl _ | assumption | refine Within.alloc ?_ _ | refine Within.drew ?_ | refine Within.drewN ?_ _ | refine Within.setCell ?_ (by first | (simp; done) | (simp; omega)) _ | refine Within.trans ?_ (by assumption))) hG2 (by simp)
  have t2 := alloc2_ty hG2 (by simp)
  have hI := hI.of hb2; have hI1 := hI1.of hb2
  rw [hqM] at hI2
  clear hG2
  go_wp2_with fail
  refine (BSub w1.heap.size g (w1.heap.size + 1) M (q * 2 ^ s : Nat) (by rw [Int.natAbs_natCast]; exact Nat.le_trans HL.out.1 (by decide)) (by rw [Int.natAbs_natCast]; exact Nat.le_trans HL.out.2.2.1 (by decide)) w2 t2 hI hI2).mono ?_; rintro e3 w3 ⟨rfl, hI3, hG3⟩
  have hb3 : Within w1 w3 := Within.grown hb2 hG3 (Nat.le_refl _)
  have hlt1 := hI1.lt
  have hI1 := hI1.grown t2 (Nat.ne_of_lt hl1) hG3
  rw [hsub] at hI3
  clear hG3
  go_wp2_with fail
  refine (Bsign w1.heap.size r w3 hI3).mono ?_; rintro e4 w4 ⟨rfl, rfl⟩
  go_wp2
  go_ret2
  exact ⟨w.heap.size, rfl, (by rw [← HQ.out]; exact hI1), Nat.le_refl _, hb1.trans hb3⟩
set_option maxRecDepth 100000 in
set_option maxHeartbeats 600000 in
theorem Rcut_none (g M s : Nat) (more : Bool) (hs1 : 1 ≤ s) (hs2 : s ≤ 60000) (hM : (dg M).length ≤ 1000) (hc : M % 2 ^ s = 0 ∧ 0 < 2 ^ (s - 1)) (hm : more = true) (w : World) (hI : IntB w g (M : Int)) : Calls Tryz.prog 91 #[.pointer (some ⟨g, 0, none⟩), .int .i64 (s : Int), .bool more] w (CutI w (M / 2 ^ s) (-1)) := by
  have HI0 := Lib.hid hI; have hlg := hI.lt
  obtain ⟨q, hq⟩ : ∃ q, q = M / 2 ^ s := ⟨_, rfl⟩
  obtain ⟨r, hr⟩ : ∃ r, r = M % 2 ^ s := ⟨_, rfl⟩
  obtain ⟨hf, hh⟩ : ∃ hf, hf = 2 ^ (s - 1) := ⟨_, rfl⟩
  try rw [← hr] at hc
  try rw [← hh] at hc
  have HQ := Lib.hid hq; have HR := Lib.hid hr; have HH := Lib.hid hh
  have hqM : (q : Int) * 2 ^ s = ((q * 2 ^ s : Nat) : Int) := by simp
  have hsub : (M : Int) - ((q * 2 ^ s : Nat) : Int) = (r : Int) := by have := Nat.div_add_mod M (2 ^ s); rw [← hq, ← hr, Nat.mul_comm] at this; omega
  have LM : (dg M).length ≤ 1000 := hM
  have LQ : (dg q).length ≤ 1000 := by rw [hq]; exact Nat.le_trans (dg_len_mono (Nat.div_le_self _ _)) hM
  have LQ2 : (dg (q * 2 ^ s)).length ≤ 1000 := by rw [hq]; exact Nat.le_trans (dg_len_mono (Nat.div_mul_le_self _ _)) hM
  have LR : (dg r).length ≤ 1000 := by rw [hr]; exact Nat.le_trans (dg_len_mono (Nat.mod_le _ _)) hM
  have LH : (dg hf).length ≤ 2000 := by rw [hh]; exact dg_pow_le (by omega)
  have HS := Lib.hid hs1; have HL := Lib.hid (And.intro LM (And.intro LQ (And.intro LQ2 (And.intro LR LH))))
  have ds : ((s : Int) == 0) = false := beq_eq_false_iff_ne.2 (by omega)
  have gs : IntKind.u64.wrap (s : Int) = s := by rw [IntKind.wrap_u64]; omega
  have gs1 : IntKind.i64.wrap ((s : Int) - 1) = ((s - 1 : Nat) : Int) := by rw [IntKind.wrap_i64]; omega
  have gs2 : IntKind.u64.wrap ((s - 1 : Nat) : Int) = ((s - 1 : Nat) : Int) := by rw [IntKind.wrap_u64]; omega
  clear hq hr hh hs1 LM LQ LQ2 LR LH hM
  have hd : ((r : Int).sign == 0) = true := by rw [hc.1]; rfl
  have hcc : cmpI (r : Int) (hf : Int) = -1 := by rw [cmpI_nat, hc.1]; exact cmpN_lt hc.2
  subst hm
  have HC := Lib.hid hc; clear hc
  go_enter Tryz.func91, Tryz.ntmps91
  go_wp2_with fail
  refine (Brsh w.heap.size g s M (Nat.le_trans HL.out.1 (by decide)) (by omega) _ (by repeat (with_reducible first | assumption | exact ty_new _ _ _ _ (by simp; done) | refine ty_drew ?_ | refine ty_alloc ?_ _)) (by repeat (with_reducible first | assumption | exact ib_new _ _ (by simp; done) | refine IntB.alloc ?_ _ | refine IntB.drewN ?_ _))).mono ?_; rintro e1 w1 ⟨rfl, hI1, hG1⟩
  have hb1 : Within w w1 := Within.grown (by repeat (with_reducible first | exact Within.refl _ | assumption | refine Within.alloc ?_ _ | refine Within.drew ?_ | refine Within.drewN ?_ _ | refine Within.setCell ?_ (by first | (simp; done) | (simp; omega)) _ | refine Within.trans ?_ (by assumption))) hG1 (by simp)
  have hI := hI.of hb1
  clear hG1
  rw [← HQ.out] at hI1; have hl1 := hI1.lt
  go_wp2_with fail
  refine (Blsh (w1.heap.size + 1) w.heap.size s q (by rw [Int.natAbs_natCast]; exact Nat.le_trans HL.out.2.1 (by decide)) (by omega) _ (by repeat (with_reducible first | assumption | exact ty_new _ _ _ _ (by simp; done) | refine ty_drew ?_ | refine ty_alloc ?_ _)) (by repeat (with_reducible first | assumption | exact ib_new _ _ (by simp; done) | refine IntB.alloc ?_ _ | refine IntB.drewN ?_ _))).mono ?_; rintro e2 w2 ⟨rfl, hI2, hG2⟩
  have hb2 : Within w1 w2 := Within.grown (by repeat (with_reducible first | exact Within.refl _ | assumption | refine Within.alloc ?_ _ | refine Within.drew ?_ | refine Within.drewN ?_ _ | refine Within.setCell ?_ (by first | (simp; done) | (simp; omega)) _ | refine Within.trans ?_ (by assumption))) hG2 (by simp)
  have t2 := alloc2_ty hG2 (by simp)
  have hI := hI.of hb2; have hI1 := hI1.of hb2
  rw [hqM] at hI2
  clear hG2
  go_wp2_with fail
  refine (BSub w1.heap.size g (w1.heap.size + 1) M (q * 2 ^ s : Nat) (by rw [Int.natAbs_natCast]; exact Nat.le_trans HL.out.1 (by decide)) (by rw [Int.natAbs_natCast]; exact Nat.le_trans HL.out.2.2.1 (by decide)) w2 t2 hI hI2).mono ?_; rintro e3 w3 ⟨rfl, hI3, hG3⟩
  have hb3 : Within w1 w3 := Within.grown hb2 hG3 (Nat.le_refl _)
  have hlt1 := hI1.lt
  have hI1 := hI1.grown t2 (Nat.ne_of_lt hl1) hG3
  have hlt3 : w1.heap.size < w3.heap.size := hI3.lt
  rw [hsub] at hI3
  clear hG3
  go_wp2_with fail
  refine (Bsign w1.heap.size r w3 hI3).mono ?_; rintro e4 w4 ⟨rfl, rfl⟩
  go_wp2_with fail
  refine (BnewInt 1 (by decide) (by decide) _).mono ?_; rintro e5 w5 ⟨g5, rfl, hI5, hg5, hb5'⟩
  have hb5 : Within w3 w5 := ((Within.refl w3).alloc _).trans hb5'
  have t5 : IntTy w5 w3.heap.size := (ty_new w3 _ _ _ rfl).of hb5'
  have hI1 := hI1.of hb5; have hI3 := hI3.of hb5
  have hg5' : w3.heap.size < g5 := by simp at hg5; omega
  go_wp2_with fail
  refine (Blsh w3.heap.size g5 (s - 1) 1 (by decide +kernel) (by omega) w5 t5 hI5).mono ?_; rintro e6 w6 ⟨rfl, hI6, hG6⟩
  have hb6 : Within w3 w6 := Within.grown hb5 hG6 (Nat.le_refl _)
  have hl3 := hI3.lt
  have hne1 : w.heap.size ≠ w3.heap.size := by have := hb3.sizes; omega
  have hne3 : w1.heap.size ≠ w3.heap.size := Nat.ne_of_lt hlt3
  have hI1 := hI1.grown t5 hne1 hG6; have hI3 := hI3.grown t5 hne3 hG6
  rw [show (1 : Int) * 2 ^ (s - 1) = (hf : Int) by rw [HH.out]; simp] at hI6
  clear hG6
  go_wp2_with fail
  refine (Bcmp w1.heap.size w3.heap.size r hf (by rw [Int.natAbs_natCast]; exact Nat.le_trans HL.out.2.2.2.1 (by decide)) (by rw [Int.natAbs_natCast]; exact Nat.le_trans HL.out.2.2.2.2 (by decide)) w6 hI3 hI6).mono ?_; rintro e7 w7 ⟨rfl, hb7⟩
  have hI1 := hI1.of hb7
  go_wp2
  go_ret2
  exact ⟨w.heap.size, rfl, (by rw [← HQ.out]; exact hI1), Nat.le_refl _, (hb1.trans hb3).trans (hb6.trans hb7)⟩
set_option maxRecDepth 100000 in
set_option maxHeartbeats 600000 in
theorem Rcut_less (g M s : Nat) (more : Bool) (hs1 : 1 ≤ s) (hs2 : s ≤ 60000) (hM : (dg M).length ≤ 1000) (hc : M % 2 ^ s ≠ 0 ∧ M % 2 ^ s < 2 ^ (s - 1)) (w : World) (hI : IntB w g (M : Int)) : Calls Tryz.prog 91 #[.pointer (some ⟨g, 0, none⟩), .int .i64 (s : Int), .bool more] w (CutI w (M / 2 ^ s) (-1)) := by
  have HI0 := Lib.hid hI; have hlg := hI.lt
  obtain ⟨q, hq⟩ : ∃ q, q = M / 2 ^ s := ⟨_, rfl⟩
  obtain ⟨r, hr⟩ : ∃ r, r = M % 2 ^ s := ⟨_, rfl⟩
  obtain ⟨hf, hh⟩ : ∃ hf, hf = 2 ^ (s - 1) := ⟨_, rfl⟩
  try rw [← hr] at hc
  try rw [← hh] at hc
  have HQ := Lib.hid hq; have HR := Lib.hid hr; have HH := Lib.hid hh
  have hqM : (q : Int) * 2 ^ s = ((q * 2 ^ s : Nat) : Int) := by simp
  have hsub : (M : Int) - ((q * 2 ^ s : Nat) : Int) = (r : Int) := by have := Nat.div_add_mod M (2 ^ s); rw [← hq, ← hr, Nat.mul_comm] at this; omega
  have LM : (dg M).length ≤ 1000 := hM
  have LQ : (dg q).length ≤ 1000 := by rw [hq]; exact Nat.le_trans (dg_len_mono (Nat.div_le_self _ _)) hM
  have LQ2 : (dg (q * 2 ^ s)).length ≤ 1000 := by rw [hq]; exact Nat.le_trans (dg_len_mono (Nat.div_mul_le_self _ _)) hM
  have LR : (dg r).length ≤ 1000 := by rw [hr]; exact Nat.le_trans (dg_len_mono (Nat.mod_le _ _)) hM
  have LH : (dg hf).length ≤ 2000 := by rw [hh]; exact dg_pow_le (by omega)
  have HS := Lib.hid hs1; have HL := Lib.hid (And.intro LM (And.intro LQ (And.intro LQ2 (And.intro LR LH))))
  have ds : ((s : Int) == 0) = false := beq_eq_false_iff_ne.2 (by omega)
  have gs : IntKind.u64.wrap (s : Int) = s := by rw [IntKind.wrap_u64]; omega
  have gs1 : IntKind.i64.wrap ((s : Int) - 1) = ((s - 1 : Nat) : Int) := by rw [IntKind.wrap_i64]; omega
  have gs2 : IntKind.u64.wrap ((s - 1 : Nat) : Int) = ((s - 1 : Nat) : Int) := by rw [IntKind.wrap_u64]; omega
  clear hq hr hh hs1 LM LQ LQ2 LR LH hM
  have hd : ((r : Int).sign == 0) = false := beq_eq_false_iff_ne.2 (fun h => hc.1 (by have := Int.sign_eq_zero_iff_zero.1 h; omega))
  have hcc : cmpI (r : Int) (hf : Int) = -1 := by rw [cmpI_nat]; exact cmpN_lt hc.2
  have HC := Lib.hid hc; clear hc
  go_enter Tryz.func91, Tryz.ntmps91
  go_wp2_with fail
  refine (Brsh w.heap.size g s M (Nat.le_trans HL.out.1 (by decide)) (by omega) _ (by repeat (with_reducible first | assumption | exact ty_new _ _ _ _ (by simp; done) | refine ty_drew ?_ | refine ty_alloc ?_ _)) (by repeat (with_reducible first | assumption | exact ib_new _ _ (by simp; done) | refine IntB.alloc ?_ _ | refine IntB.drewN ?_ _))).mono ?_; rintro e1 w1 ⟨rfl, hI1, hG1⟩
  have hb1 : Within w w1 := Within.grown (by repeat (with_reducible first | exact Within.refl _ | assumption | refine Within.alloc ?_ _ | refine Within.drew ?_ | refine Within.drewN ?_ _ | refine Within.setCell ?_ (by first | (simp; done) | (simp; omega)) _ | refine Within.trans ?_ (by assumption))) hG1 (by simp)
  have hI := hI.of hb1
  clear hG1
  rw [← HQ.out] at hI1; have hl1 := hI1.lt
  go_wp2_with fail
  refine (Blsh (w1.heap.size + 1) w.heap.size s q (by rw [Int.natAbs_natCast]; exact Nat.le_trans HL.out.2.1 (by decide)) (by omega) _ (by repeat (with_reducible first | assumption | exact ty_new _ _ _ _ (by simp; done) | refine ty_drew ?_ | refine ty_alloc ?_ _)) (by repeat (with_reducible first | assumption | exact ib_new _ _ (by simp; done) | refine IntB.alloc ?_ _ | refine IntB.drewN ?_ _))).mono ?_; rintro e2 w2 ⟨rfl, hI2, hG2⟩
  have hb2 : Within w1 w2 := Within.grown (by repeat (with_reducible first | exact Within.refl _ | assumption | refine Within.alloc ?_ _ | refine Within.drew ?_ | refine Within.drewN ?_ _ | refine Within.setCell ?_ (by first | (simp; done) | (simp; omega)) _ | refine Within.trans ?_ (by assumption))) hG2 (by simp)
  have t2 := alloc2_ty hG2 (by simp)
  have hI := hI.of hb2; have hI1 := hI1.of hb2
  rw [hqM] at hI2
  clear hG2
  go_wp2_with fail
  refine (BSub w1.heap.size g (w1.heap.size + 1) M (q * 2 ^ s : Nat) (by rw [Int.natAbs_natCast]; exact Nat.le_trans HL.out.1 (by decide)) (by rw [Int.natAbs_natCast]; exact Nat.le_trans HL.out.2.2.1 (by decide)) w2 t2 hI hI2).mono ?_; rintro e3 w3 ⟨rfl, hI3, hG3⟩
  have hb3 : Within w1 w3 := Within.grown hb2 hG3 (Nat.le_refl _)
  have hlt1 := hI1.lt
  have hI1 := hI1.grown t2 (Nat.ne_of_lt hl1) hG3
  have hlt3 : w1.heap.size < w3.heap.size := hI3.lt
  rw [hsub] at hI3
  clear hG3
  go_wp2_with fail
  refine (Bsign w1.heap.size r w3 hI3).mono ?_; rintro e4 w4 ⟨rfl, rfl⟩
  go_wp2_with fail
  refine (BnewInt 1 (by decide) (by decide) _).mono ?_; rintro e5 w5 ⟨g5, rfl, hI5, hg5, hb5'⟩
  have hb5 : Within w3 w5 := ((Within.refl w3).alloc _).trans hb5'
  have t5 : IntTy w5 w3.heap.size := (ty_new w3 _ _ _ rfl).of hb5'
  have hI1 := hI1.of hb5; have hI3 := hI3.of hb5
  have hg5' : w3.heap.size < g5 := by simp at hg5; omega
  go_wp2_with fail
  refine (Blsh w3.heap.size g5 (s - 1) 1 (by decide +kernel) (by omega) w5 t5 hI5).mono ?_; rintro e6 w6 ⟨rfl, hI6, hG6⟩
  have hb6 : Within w3 w6 := Within.grown hb5 hG6 (Nat.le_refl _)
  have hl3 := hI3.lt
  have hne1 : w.heap.size ≠ w3.heap.size := by have := hb3.sizes; omega
  have hne3 : w1.heap.size ≠ w3.heap.size := Nat.ne_of_lt hlt3
  have hI1 := hI1.grown t5 hne1 hG6; have hI3 := hI3.grown t5 hne3 hG6
  rw [show (1 : Int) * 2 ^ (s - 1) = (hf : Int) by rw [HH.out]; simp] at hI6
  clear hG6
  go_wp2_with fail
  refine (Bcmp w1.heap.size w3.heap.size r hf (by rw [Int.natAbs_natCast]; exact Nat.le_trans HL.out.2.2.2.1 (by decide)) (by rw [Int.natAbs_natCast]; exact Nat.le_trans HL.out.2.2.2.2 (by decide)) w6 hI3 hI6).mono ?_; rintro e7 w7 ⟨rfl, hb7⟩
  have hI1 := hI1.of hb7
  go_wp2
  go_ret2
  exact ⟨w.heap.size, rfl, (by rw [← HQ.out]; exact hI1), Nat.le_refl _, (hb1.trans hb3).trans (hb6.trans hb7)⟩
set_option maxRecDepth 100000 in
set_option maxHeartbeats 600000 in
theorem Rcut_more (g M s : Nat) (more : Bool) (hs1 : 1 ≤ s) (hs2 : s ≤ 60000) (hM : (dg M).length ≤ 1000) (hc : M % 2 ^ s ≠ 0 ∧ 2 ^ (s - 1) < M % 2 ^ s) (w : World) (hI : IntB w g (M : Int)) : Calls Tryz.prog 91 #[.pointer (some ⟨g, 0, none⟩), .int .i64 (s : Int), .bool more] w (CutI w (M / 2 ^ s) 1) := by
  have HI0 := Lib.hid hI; have hlg := hI.lt
  obtain ⟨q, hq⟩ : ∃ q, q = M / 2 ^ s := ⟨_, rfl⟩
  obtain ⟨r, hr⟩ : ∃ r, r = M % 2 ^ s := ⟨_, rfl⟩
  obtain ⟨hf, hh⟩ : ∃ hf, hf = 2 ^ (s - 1) := ⟨_, rfl⟩
  try rw [← hr] at hc
  try rw [← hh] at hc
  have HQ := Lib.hid hq; have HR := Lib.hid hr; have HH := Lib.hid hh
  have hqM : (q : Int) * 2 ^ s = ((q * 2 ^ s : Nat) : Int) := by simp
  have hsub : (M : Int) - ((q * 2 ^ s : Nat) : Int) = (r : Int) := by have := Nat.div_add_mod M (2 ^ s); rw [← hq, ← hr, Nat.mul_comm] at this; omega
  have LM : (dg M).length ≤ 1000 := hM
  have LQ : (dg q).length ≤ 1000 := by rw [hq]; exact Nat.le_trans (dg_len_mono (Nat.div_le_self _ _)) hM
  have LQ2 : (dg (q * 2 ^ s)).length ≤ 1000 := by rw [hq]; exact Nat.le_trans (dg_len_mono (Nat.div_mul_le_self _ _)) hM
  have LR : (dg r).length ≤ 1000 := by rw [hr]; exact Nat.le_trans (dg_len_mono (Nat.mod_le _ _)) hM
  have LH : (dg hf).length ≤ 2000 := by rw [hh]; exact dg_pow_le (by omega)
  have HS := Lib.hid hs1; have HL := Lib.hid (And.intro LM (And.intro LQ (And.intro LQ2 (And.intro LR LH))))
  have ds : ((s : Int) == 0) = false := beq_eq_false_iff_ne.2 (by omega)
  have gs : IntKind.u64.wrap (s : Int) = s := by rw [IntKind.wrap_u64]; omega
  have gs1 : IntKind.i64.wrap ((s : Int) - 1) = ((s - 1 : Nat) : Int) := by rw [IntKind.wrap_i64]; omega
  have gs2 : IntKind.u64.wrap ((s - 1 : Nat) : Int) = ((s - 1 : Nat) : Int) := by rw [IntKind.wrap_u64]; omega
  clear hq hr hh hs1 LM LQ LQ2 LR LH hM
  have hd : ((r : Int).sign == 0) = false := beq_eq_false_iff_ne.2 (fun h => hc.1 (by have := Int.sign_eq_zero_iff_zero.1 h; omega))
  have hcc : cmpI (r : Int) (hf : Int) = 1 := by rw [cmpI_nat]; exact cmpN_gt hc.2
  have HC := Lib.hid hc; clear hc
  go_enter Tryz.func91, Tryz.ntmps91
  go_wp2_with fail
  refine (Brsh w.heap.size g s M (Nat.le_trans HL.out.1 (by decide)) (by omega) _ (by repeat (with_reducible first | assumption | exact ty_new _ _ _ _ (by simp; done) | refine ty_drew ?_ | refine ty_alloc ?_ _)) (by repeat (with_reducible first | assumption | exact ib_new _ _ (by simp; done) | refine IntB.alloc ?_ _ | refine IntB.drewN ?_ _))).mono ?_; rintro e1 w1 ⟨rfl, hI1, hG1⟩
  have hb1 : Within w w1 := Within.grown (by repeat (with_reducible first | exact Within.refl _ | assumption | refine Within.alloc ?_ _ | refine Within.drew ?_ | refine Within.drewN ?_ _ | refine Within.setCell ?_ (by first | (simp; done) | (simp; omega)) _ | refine Within.trans ?_ (by assumption))) hG1 (by simp)
  have hI := hI.of hb1
  clear hG1
  rw [← HQ.out] at hI1; have hl1 := hI1.lt
  go_wp2_with fail
  refine (Blsh (w1.heap.size + 1) w.heap.size s q (by rw [Int.natAbs_natCast]; exact Nat.le_trans HL.out.2.1 (by decide)) (by omega) _ (by repeat (with_reducible first | assumption | exact ty_new _ _ _ _ (by simp; done) | refine ty_drew ?_ | refine ty_alloc ?_ _)) (by repeat (with_reducible first | assumption | exact ib_new _ _ (by simp; done) | refine IntB.alloc ?_ _ | refine IntB.drewN ?_ _))).mono ?_; rintro e2 w2 ⟨rfl, hI2, hG2⟩
  have hb2 : Within w1 w2 := Within.grown (by repeat (with_reducible first | exact Within.refl _ | assumption | refine Within.alloc ?_ _ | refine Within.drew ?_ | refine Within.drewN ?_ _ | refine Within.setCell ?_ (by first | (simp; done) | (simp; omega)) _ | refine Within.trans ?_ (by assumption))) hG2 (by simp)
  have t2 := alloc2_ty hG2 (by simp)
  have hI := hI.of hb2; have hI1 := hI1.of hb2
  rw [hqM] at hI2
  clear hG2
  go_wp2_with fail
  refine (BSub w1.heap.size g (w1.heap.size + 1) M (q * 2 ^ s : Nat) (by rw [Int.natAbs_natCast]; exact Nat.le_trans HL.out.1 (by decide)) (by rw [Int.natAbs_natCast]; exact Nat.le_trans HL.out.2.2.1 (by decide)) w2 t2 hI hI2).mono ?_; rintro e3 w3 ⟨rfl, hI3, hG3⟩
  have hb3 : Within w1 w3 := Within.grown hb2 hG3 (Nat.le_refl _)
  have hlt1 := hI1.lt
  have hI1 := hI1.grown t2 (Nat.ne_of_lt hl1) hG3
  have hlt3 : w1.heap.size < w3.heap.size := hI3.lt
  rw [hsub] at hI3
  clear hG3
  go_wp2_with fail
  refine (Bsign w1.heap.size r w3 hI3).mono ?_; rintro e4 w4 ⟨rfl, rfl⟩
  go_wp2_with fail
  refine (BnewInt 1 (by decide) (by decide) _).mono ?_; rintro e5 w5 ⟨g5, rfl, hI5, hg5, hb5'⟩
  have hb5 : Within w3 w5 := ((Within.refl w3).alloc _).trans hb5'
  have t5 : IntTy w5 w3.heap.size := (ty_new w3 _ _ _ rfl).of hb5'
  have hI1 := hI1.of hb5; have hI3 := hI3.of hb5
  have hg5' : w3.heap.size < g5 := by simp at hg5; omega
  go_wp2_with fail
  refine (Blsh w3.heap.size g5 (s - 1) 1 (by decide +kernel) (by omega) w5 t5 hI5).mono ?_; rintro e6 w6 ⟨rfl, hI6, hG6⟩
  have hb6 : Within w3 w6 := Within.grown hb5 hG6 (Nat.le_refl _)
  have hl3 := hI3.lt
  have hne1 : w.heap.size ≠ w3.heap.size := by have := hb3.sizes; omega
  have hne3 : w1.heap.size ≠ w3.heap.size := Nat.ne_of_lt hlt3
  have hI1 := hI1.grown t5 hne1 hG6; have hI3 := hI3.grown t5 hne3 hG6
  rw [show (1 : Int) * 2 ^ (s - 1) = (hf : Int) by rw [HH.out]; simp] at hI6
  clear hG6
  go_wp2_with fail
  refine (Bcmp w1.heap.size w3.heap.size r hf (by rw [Int.natAbs_natCast]; exact Nat.le_trans HL.out.2.2.2.1 (by decide)) (by rw [Int.natAbs_natCast]; exact Nat.le_trans HL.out.2.2.2.2 (by decide)) w6 hI3 hI6).mono ?_; rintro e7 w7 ⟨rfl, hb7⟩
  have hI1 := hI1.of hb7
  go_wp2
  go_ret2
  exact ⟨w.heap.size, rfl, (by rw [← HQ.out]; exact hI1), Nat.le_refl _, (hb1.trans hb3).trans (hb6.trans hb7)⟩
set_option maxRecDepth 100000 in
set_option maxHeartbeats 600000 in
theorem Rcut_half0 (g M s : Nat) (more : Bool) (hs1 : 1 ≤ s) (hs2 : s ≤ 60000) (hM : (dg M).length ≤ 1000) (hc : M % 2 ^ s ≠ 0 ∧ M % 2 ^ s = 2 ^ (s - 1)) (hm : more = false) (w : World) (hI : IntB w g (M : Int)) : Calls Tryz.prog 91 #[.pointer (some ⟨g, 0, none⟩), .int .i64 (s : Int), .bool more] w (CutI w (M / 2 ^ s) 0) := by
  have HI0 := Lib.hid hI; have hlg := hI.lt
  obtain ⟨q, hq⟩ : ∃ q, q = M / 2 ^ s := ⟨_, rfl⟩
  obtain ⟨r, hr⟩ : ∃ r, r = M % 2 ^ s := ⟨_, rfl⟩
  obtain ⟨hf, hh⟩ : ∃ hf, hf = 2 ^ (s - 1) := ⟨_, rfl⟩
  try rw [← hr] at hc
  try rw [← hh] at hc
  have HQ := Lib.hid hq; have HR := Lib.hid hr; have HH := Lib.hid hh
  have hqM : (q : Int) * 2 ^ s = ((q * 2 ^ s : Nat) : Int) := by simp
  have hsub : (M : Int) - ((q * 2 ^ s : Nat) : Int) = (r : Int) := by have := Nat.div_add_mod M (2 ^ s); rw [← hq, ← hr, Nat.mul_comm] at this; omega
  have LM : (dg M).length ≤ 1000 := hM
  have LQ : (dg q).length ≤ 1000 := by rw [hq]; exact Nat.le_trans (dg_len_mono (Nat.div_le_self _ _)) hM
  have LQ2 : (dg (q * 2 ^ s)).length ≤ 1000 := by rw [hq]; exact Nat.le_trans (dg_len_mono (Nat.div_mul_le_self _ _)) hM
  have LR : (dg r).length ≤ 1000 := by rw [hr]; exact Nat.le_trans (dg_len_mono (Nat.mod_le _ _)) hM
  have LH : (dg hf).length ≤ 2000 := by rw [hh]; exact dg_pow_le (by omega)
  have HS := Lib.hid hs1; have HL := Lib.hid (And.intro LM (And.intro LQ (And.intro LQ2 (And.intro LR LH))))
  have ds : ((s : Int) == 0) = false := beq_eq_false_iff_ne.2 (by omega)
  have gs : IntKind.u64.wrap (s : Int) = s := by rw [IntKind.wrap_u64]; omega
  have gs1 : IntKind.i64.wrap ((s : Int) - 1) = ((s - 1 : Nat) : Int) := by rw [IntKind.wrap_i64]; omega
  have gs2 : IntKind.u64.wrap ((s - 1 : Nat) : Int) = ((s - 1 : Nat) : Int) := by rw [IntKind.wrap_u64]; omega
  clear hq hr hh hs1 LM LQ LQ2 LR LH hM
  have hd : ((r : Int).sign == 0) = false := beq_eq_false_iff_ne.2 (fun h => hc.1 (by have := Int.sign_eq_zero_iff_zero.1 h; omega))
  have hcc : cmpI (r : Int) (hf : Int) = 0 := by rw [cmpI_nat, hc.2]; exact cmpN_eq _
  subst hm
  have HC := Lib.hid hc; clear hc
  go_enter Tryz.func91, Tryz.ntmps91
  go_wp2_with fail
  refine (Brsh w.heap.size g s M (Nat.le_trans HL.out.1 (by decide)) (by omega) _ (by repeat (with_reducible first | assumption | exact ty_new _ _ _ _ (by simp; done) | refine ty_drew ?_ | refine ty_alloc ?_ _)) (by repeat (with_reducible first | assumption | exact ib_new _ _ (by simp; done) | refine IntB.alloc ?_ _ | refine IntB.drewN ?_ _))).mono ?_; rintro e1 w1 ⟨rfl, hI1, hG1⟩
  have hb1 : Within w w1 := Within.grown (by repeat (with_reducible first | exact Within.refl _ | assumption | refine Within.alloc ?_ _ | refine Within.drew ?_ | refine Within.drewN ?_ _ | refine Within.setCell ?_ (by first | (simp; done) | (simp; omega)) _ | refine Within.trans ?_ (by assumption))) hG1 (by simp)
  have hI := hI.of hb1
  clear hG1
  rw [← HQ.out] at hI1; have hl1 := hI1.lt
  go_wp2_with fail
  refine (Blsh (w1.heap.size + 1) w.heap.size s q (by rw [Int.natAbs_natCast]; exact Nat.le_trans HL.out.2.1 (by decide)) (by omega) _ (by repeat (with_reducible first | assumption | exact ty_new _ _ _ _ (by simp; done) | refine ty_drew ?_ | refine ty_alloc ?_ _)) (by repeat (with_reducible first | assumption | exact ib_new _ _ (by simp; done) | refine IntB.alloc ?_ _ | refine IntB.drewN ?_ _))).mono ?_; rintro e2 w2 ⟨rfl, hI2, hG2⟩
  have hb2 : Within w1 w2 := Within.grown (by repeat (with_reducible first | exact Within.refl _ | assumption | refine Within.alloc ?_ _ | refine Within.drew ?_ | refine Within.drewN ?_ _ | refine Within.setCell ?_ (by first | (simp; done) | (simp; omega)) _ | refine Within.trans ?_ (by assumption))) hG2 (by simp)
  have t2 := alloc2_ty hG2 (by simp)
  have hI := hI.of hb2; have hI1 := hI1.of hb2
  rw [hqM] at hI2
  clear hG2
  go_wp2_with fail
  refine (BSub w1.heap.size g (w1.heap.size + 1) M (q * 2 ^ s : Nat) (by rw [Int.natAbs_natCast]; exact Nat.le_trans HL.out.1 (by decide)) (by rw [Int.natAbs_natCast]; exact Nat.le_trans HL.out.2.2.1 (by decide)) w2 t2 hI hI2).mono ?_; rintro e3 w3 ⟨rfl, hI3, hG3⟩
  have hb3 : Within w1 w3 := Within.grown hb2 hG3 (Nat.le_refl _)
  have hlt1 := hI1.lt
  have hI1 := hI1.grown t2 (Nat.ne_of_lt hl1) hG3
  have hlt3 : w1.heap.size < w3.heap.size := hI3.lt
  rw [hsub] at hI3
  clear hG3
  go_wp2_with fail
  refine (Bsign w1.heap.size r w3 hI3).mono ?_; rintro e4 w4 ⟨rfl, rfl⟩
  go_wp2_with fail
  refine (BnewInt 1 (by decide) (by decide) _).mono ?_; rintro e5 w5 ⟨g5, rfl, hI5, hg5, hb5'⟩
  have hb5 : Within w3 w5 := ((Within.refl w3).alloc _).trans hb5'
  have t5 : IntTy w5 w3.heap.size := (ty_new w3 _ _ _ rfl).of hb5'
  have hI1 := hI1.of hb5; have hI3 := hI3.of hb5
  have hg5' : w3.heap.size < g5 := by simp at hg5; omega
  go_wp2_with fail
  refine (Blsh w3.heap.size g5 (s - 1) 1 (by decide +kernel) (by omega) w5 t5 hI5).mono ?_; rintro e6 w6 ⟨rfl, hI6, hG6⟩
  have hb6 : Within w3 w6 := Within.grown hb5 hG6 (Nat.le_refl _)
  have hl3 := hI3.lt
  have hne1 : w.heap.size ≠ w3.heap.size := by have := hb3.sizes; omega
  have hne3 : w1.heap.size ≠ w3.heap.size := Nat.ne_of_lt hlt3
  have hI1 := hI1.grown t5 hne1 hG6; have hI3 := hI3.grown t5 hne3 hG6
  rw [show (1 : Int) * 2 ^ (s - 1) = (hf : Int) by rw [HH.out]; simp] at hI6
  clear hG6
  go_wp2_with fail
  refine (Bcmp w1.heap.size w3.heap.size r hf (by rw [Int.natAbs_natCast]; exact Nat.le_trans HL.out.2.2.2.1 (by decide)) (by rw [Int.natAbs_natCast]; exact Nat.le_trans HL.out.2.2.2.2 (by decide)) w6 hI3 hI6).mono ?_; rintro e7 w7 ⟨rfl, hb7⟩
  have hI1 := hI1.of hb7
  go_wp2
  go_ret2
  exact ⟨w.heap.size, rfl, (by rw [← HQ.out]; exact hI1), Nat.le_refl _, (hb1.trans hb3).trans (hb6.trans hb7)⟩
set_option maxRecDepth 100000 in
set_option maxHeartbeats 600000 in
theorem Rcut_half1 (g M s : Nat) (more : Bool) (hs1 : 1 ≤ s) (hs2 : s ≤ 60000) (hM : (dg M).length ≤ 1000) (hc : M % 2 ^ s ≠ 0 ∧ M % 2 ^ s = 2 ^ (s - 1)) (hm : more = true) (w : World) (hI : IntB w g (M : Int)) : Calls Tryz.prog 91 #[.pointer (some ⟨g, 0, none⟩), .int .i64 (s : Int), .bool more] w (CutI w (M / 2 ^ s) 1) := by
  have HI0 := Lib.hid hI; have hlg := hI.lt
  obtain ⟨q, hq⟩ : ∃ q, q = M / 2 ^ s := ⟨_, rfl⟩
  obtain ⟨r, hr⟩ : ∃ r, r = M % 2 ^ s := ⟨_, rfl⟩
  obtain ⟨hf, hh⟩ : ∃ hf, hf = 2 ^ (s - 1) := ⟨_, rfl⟩
  try rw [← hr] at hc
  try rw [← hh] at hc
  have HQ := Lib.hid hq; have HR := Lib.hid hr; have HH := Lib.hid hh
  have hqM : (q : Int) * 2 ^ s = ((q * 2 ^ s : Nat) : Int) := by simp
  have hsub : (M : Int) - ((q * 2 ^ s : Nat) : Int) = (r : Int) := by have := Nat.div_add_mod M (2 ^ s); rw [← hq, ← hr, Nat.mul_comm] at this; omega
  have LM : (dg M).length ≤ 1000 := hM
  have LQ : (dg q).length ≤ 1000 := by rw [hq]; exact Nat.le_trans (dg_len_mono (Nat.div_le_self _ _)) hM
  have LQ2 : (dg (q * 2 ^ s)).length ≤ 1000 := by rw [hq]; exact Nat.le_trans (dg_len_mono (Nat.div_mul_le_self _ _)) hM
  have LR : (dg r).length ≤ 1000 := by rw [hr]; exact Nat.le_trans (dg_len_mono (Nat.mod_le _ _)) hM
  have LH : (dg hf).length ≤ 2000 := by rw [hh]; exact dg_pow_le (by omega)
  have HS := Lib.hid hs1; have HL := Lib.hid (And.intro LM (And.intro LQ (And.intro LQ2 (And.intro LR LH))))
  have ds : ((s : Int) == 0) = false := beq_eq_false_iff_ne.2 (by omega)
  have gs : IntKind.u64.wrap (s : Int) = s := by rw [IntKind.wrap_u64]; omega
  have gs1 : IntKind.i64.wrap ((s : Int) - 1) = ((s - 1 : Nat) : Int) := by rw [IntKind.wrap_i64]; omega
  have gs2 : IntKind.u64.wrap ((s - 1 : Nat) : Int) = ((s - 1 : Nat) : Int) := by rw [IntKind.wrap_u64]; omega
  clear hq hr hh hs1 LM LQ LQ2 LR LH hM
  have hd : ((r : Int).sign == 0) = false := beq_eq_false_iff_ne.2 (fun h => hc.1 (by have := Int.sign_eq_zero_iff_zero.1 h; omega))
  have hcc : cmpI (r : Int) (hf : Int) = 0 := by rw [cmpI_nat, hc.2]; exact cmpN_eq _
  subst hm
  have HC := Lib.hid hc; clear hc
  go_enter Tryz.func91, Tryz.ntmps91
  go_wp2_with fail
  refine (Brsh w.heap.size g s M (Nat.le_trans HL.out.1 (by decide)) (by omega) _ (by repeat (with_reducible first | assumption | exact ty_new _ _ _ _ (by simp; done) | refine ty_drew ?_ | refine ty_alloc ?_ _)) (by repeat (with_reducible first | assumption | exact ib_new _ _ (by simp; done) | refine IntB.alloc ?_ _ | refine IntB.drewN ?_ _))).mono ?_; rintro e1 w1 ⟨rfl, hI1, hG1⟩
  have hb1 : Within w w1 := Within.grown (by repeat (with_reducible first | exact Within.refl _ | assumption | refine Within.alloc ?_ _ | refine Within.drew ?_ | refine Within.drewN ?_ _ | refine Within.setCell ?_ (by first | (simp; done) | (simp; omega)) _ | refine Within.trans ?_ (by assumption))) hG1 (by simp)
  have hI := hI.of hb1
  clear hG1
  rw [← HQ.out] at hI1; have hl1 := hI1.lt
  go_wp2_with fail
  refine (Blsh (w1.heap.size + 1) w.heap.size s q (by rw [Int.natAbs_natCast]; exact Nat.le_trans HL.out.2.1 (by decide)) (by omega) _ (by repeat (with_reducible first | assumption | exact ty_new _ _ _ _ (by simp; done) | refine ty_drew ?_ | refine ty_alloc ?_ _)) (by repeat (with_reducible first | assumption | exact ib_new _ _ (by simp; done) | refine IntB.alloc ?_ _ | refine IntB.drewN ?_ _))).mono ?_; rintro e2 w2 ⟨rfl, hI2, hG2⟩
  have hb2 : Within w1 w2 := Within.grown (by repeat (with_reducible first | exact Within.refl _ | assumption | refine Within.alloc ?_ _ | refine Within.drew ?_ | refine Within.drewN ?_ _ | refine Within.setCell ?_ (by first | (simp; done) | (simp; omega)) _ | refine Within.trans ?_ (by assumption))) hG2 (by simp)
  have t2 := alloc2_ty hG2 (by simp)
  have hI := hI.of hb2; have hI1 := hI1.of hb2
  rw [hqM] at hI2
  clear hG2
  go_wp2_with fail
  refine (BSub w1.heap.size g (w1.heap.size + 1) M (q * 2 ^ s : Nat) (by rw [Int.natAbs_natCast]; exact Nat.le_trans HL.out.1 (by decide)) (by rw [Int.natAbs_natCast]; exact Nat.le_trans HL.out.2.2.1 (by decide)) w2 t2 hI hI2).mono ?_; rintro e3 w3 ⟨rfl, hI3, hG3⟩
  have hb3 : Within w1 w3 := Within.grown hb2 hG3 (Nat.le_refl _)
  have hlt1 := hI1.lt
  have hI1 := hI1.grown t2 (Nat.ne_of_lt hl1) hG3
  have hlt3 : w1.heap.size < w3.heap.size := hI3.lt
  rw [hsub] at hI3
  clear hG3
  go_wp2_with fail
  refine (Bsign w1.heap.size r w3 hI3).mono ?_; rintro e4 w4 ⟨rfl, rfl⟩
  go_wp2_with fail
  refine (BnewInt 1 (by decide) (by decide) _).mono ?_; rintro e5 w5 ⟨g5, rfl, hI5, hg5, hb5'⟩
  have hb5 : Within w3 w5 := ((Within.refl w3).alloc _).trans hb5'
  have t5 : IntTy w5 w3.heap.size := (ty_new w3 _ _ _ rfl).of hb5'
  have hI1 := hI1.of hb5; have hI3 := hI3.of hb5
  have hg5' : w3.heap.size < g5 := by simp at hg5; omega
  go_wp2_with fail
  refine (Blsh w3.heap.size g5 (s - 1) 1 (by decide +kernel) (by omega) w5 t5 hI5).mono ?_; rintro e6 w6 ⟨rfl, hI6, hG6⟩
  have hb6 : Within w3 w6 := Within.grown hb5 hG6 (Nat.le_refl _)
  have hl3 := hI3.lt
  have hne1 : w.heap.size ≠ w3.heap.size := by have := hb3.sizes; omega
  have hne3 : w1.heap.size ≠ w3.heap.size := Nat.ne_of_lt hlt3
  have hI1 := hI1.grown t5 hne1 hG6; have hI3 := hI3.grown t5 hne3 hG6
  rw [show (1 : Int) * 2 ^ (s - 1) = (hf : Int) by rw [HH.out]; simp] at hI6
  clear hG6
  go_wp2_with fail
  refine (Bcmp w1.heap.size w3.heap.size r hf (by rw [Int.natAbs_natCast]; exact Nat.le_trans HL.out.2.2.2.1 (by decide)) (by rw [Int.natAbs_natCast]; exact Nat.le_trans HL.out.2.2.2.2 (by decide)) w6 hI3 hI6).mono ?_; rintro e7 w7 ⟨rfl, hb7⟩
  have hI1 := hI1.of hb7
  go_wp2
  go_ret2
  exact ⟨w.heap.size, rfl, (by rw [← HQ.out]; exact hI1), Nat.le_refl _, (hb1.trans hb3).trans (hb6.trans hb7)⟩
theorem Rcut (g M s : Nat) (more : Bool) (hs1 : 1 ≤ s) (hs2 : s ≤ 60000) (hM : (dg M).length ≤ 1000) (w : World) (hI : IntB w g (M : Int)) : Calls Tryz.prog 91 #[.pointer (some ⟨g, 0, none⟩), .int .i64 (s : Int), .bool more] w (CutI w (M / 2 ^ s) (cutC M s more)) := by
  unfold cutC
  by_cases h0 : M % 2 ^ s = 0
  · cases more
    · rw [if_pos ⟨h0, rfl⟩]; exact Rcut_exact g M s false hs1 hs2 hM h0 rfl w hI
    · rw [if_neg (fun h => by simp at h), h0, cmpN_lt (Nat.two_pow_pos _), if_neg (fun h => by simp at h)]; exact Rcut_none g M s true hs1 hs2 hM ⟨h0, Nat.two_pow_pos _⟩ rfl w hI
  · rw [if_neg (fun h => h0 h.1)]
    rcases Nat.lt_trichotomy (M % 2 ^ s) (2 ^ (s - 1)) with h | h | h
    · rw [cmpN_lt h, if_neg (fun h => by simp at h)]; exact Rcut_less g M s more hs1 hs2 hM ⟨h0, h⟩ w hI
    · cases more
      · have := Rcut_half0 g M s false hs1 hs2 hM ⟨h0, h⟩ rfl w hI
        rw [h, cmpN_eq, if_neg (fun h => by simp at h)]; exact this
      · have := Rcut_half1 g M s true hs1 hs2 hM ⟨h0, h⟩ rfl w hI
        rw [h, cmpN_eq, if_pos ⟨rfl, rfl⟩]; exact this
    · rw [cmpN_gt h, if_neg (fun h => by simp at h)]; exact Rcut_more g M s more hs1 hs2 hM ⟨h0, h⟩ w hI
end Go.Proofs.YtifgngmebnjfkaaGreatDoor
end

section
namespace Go.Proofs.YtifgngmebnjfkaaGreatDoor
open Go.RowKit
def upB (ng : Bool) (q : Nat) (c mode : Int) : Bool :=
  if mode = 0 then decide (0 < c) || (decide (c = 0) && decide (q % 2 = 1))
  else if mode = 1 then decide (0 ≤ c)
  else if mode = 3 then !ng && decide (-2 < c)
  else if mode = 4 then ng && decide (-2 < c)
  else false
set_option maxRecDepth 100000 in
set_option maxHeartbeats 600000 in
theorem Rgoes_o (ng : Bool) (g q : Nat) (c mode : Int) (h0 : (mode == 0) = false) (h1 : (mode == 1) = false) (h3 : (mode == 3) = false) (h4 : (mode == 4) = false) (w : World) : Calls Tryz.prog 92 #[.bool ng, .pointer (some ⟨g, 0, none⟩), .int .i64 c, .int .i64 mode] w (fun e w' => e = .returned (.bool (upB ng q c mode)) ∧ Within w w') := by
  have e : upB ng q c mode = false := by unfold upB; rw [if_neg (beq_eq_false_iff_ne.1 h0), if_neg (beq_eq_false_iff_ne.1 h1), if_neg (beq_eq_false_iff_ne.1 h3), if_neg (beq_eq_false_iff_ne.1 h4)]
  rw [e]
  go_enter Tryz.func92, Tryz.ntmps92
  go_wp2
  go_ret
  exact ⟨rfl, Within.refl _⟩
set_option maxRecDepth 100000 in
set_option maxHeartbeats 600000 in
theorem Rgoes_0_0 (ng : Bool) (g q : Nat) (w : World) : Calls Tryz.prog 92 #[.bool ng, .pointer (some ⟨g, 0, none⟩), .int .i64 (-2), .int .i64 0] w (fun e w' => e = .returned (.bool (upB ng q (-2) 0)) ∧ Within w w') := by
  go_enter Tryz.func92, Tryz.ntmps92
  go_wp2
  go_ret
  exact ⟨ret_bool (by simp [upB]), Within.refl _⟩
set_option maxRecDepth 100000 in
set_option maxHeartbeats 600000 in
theorem Rgoes_1_0 (ng : Bool) (g q : Nat) (w : World) : Calls Tryz.prog 92 #[.bool ng, .pointer (some ⟨g, 0, none⟩), .int .i64 (-2), .int .i64 1] w (fun e w' => e = .returned (.bool (upB ng q (-2) 1)) ∧ Within w w') := by
  go_enter Tryz.func92, Tryz.ntmps92
  go_wp2
  go_ret
  exact ⟨ret_bool (by simp [upB]), Within.refl _⟩
set_option maxRecDepth 100000 in
set_option maxHeartbeats 600000 in
theorem Rgoes_3_0_0 (g q : Nat) (w : World) : Calls Tryz.prog 92 #[.bool false, .pointer (some ⟨g, 0, none⟩), .int .i64 (-2), .int .i64 3] w (fun e w' => e = .returned (.bool (upB false q (-2) 3)) ∧ Within w w') := by
  go_enter Tryz.func92, Tryz.ntmps92
  go_wp2
  go_ret
  exact ⟨ret_bool (by simp [upB]), Within.refl _⟩
set_option maxRecDepth 100000 in
set_option maxHeartbeats 600000 in
theorem Rgoes_4_0_0 (g q : Nat) (w : World) : Calls Tryz.prog 92 #[.bool false, .pointer (some ⟨g, 0, none⟩), .int .i64 (-2), .int .i64 4] w (fun e w' => e = .returned (.bool (upB false q (-2) 4)) ∧ Within w w') := by
  go_enter Tryz.func92, Tryz.ntmps92
  go_wp2
  go_ret
  exact ⟨ret_bool (by simp [upB]), Within.refl _⟩
set_option maxRecDepth 100000 in
set_option maxHeartbeats 600000 in
theorem Rgoes_3_0_1 (g q : Nat) (w : World) : Calls Tryz.prog 92 #[.bool true, .pointer (some ⟨g, 0, none⟩), .int .i64 (-2), .int .i64 3] w (fun e w' => e = .returned (.bool (upB true q (-2) 3)) ∧ Within w w') := by
  go_enter Tryz.func92, Tryz.ntmps92
  go_wp2
  go_ret
  exact ⟨ret_bool (by simp [upB]), Within.refl _⟩
set_option maxRecDepth 100000 in
set_option maxHeartbeats 600000 in
theorem Rgoes_4_0_1 (g q : Nat) (w : World) : Calls Tryz.prog 92 #[.bool true, .pointer (some ⟨g, 0, none⟩), .int .i64 (-2), .int .i64 4] w (fun e w' => e = .returned (.bool (upB true q (-2) 4)) ∧ Within w w') := by
  go_enter Tryz.func92, Tryz.ntmps92
  go_wp2
  go_ret
  exact ⟨ret_bool (by simp [upB]), Within.refl _⟩
set_option maxRecDepth 100000 in
set_option maxHeartbeats 600000 in
theorem Rgoes_0_1 (ng : Bool) (g q : Nat) (w : World) : Calls Tryz.prog 92 #[.bool ng, .pointer (some ⟨g, 0, none⟩), .int .i64 (-1), .int .i64 0] w (fun e w' => e = .returned (.bool (upB ng q (-1) 0)) ∧ Within w w') := by
  go_enter Tryz.func92, Tryz.ntmps92
  go_wp2
  go_ret
  exact ⟨ret_bool (by simp [upB]), Within.refl _⟩
set_option maxRecDepth 100000 in
set_option maxHeartbeats 600000 in
theorem Rgoes_1_1 (ng : Bool) (g q : Nat) (w : World) : Calls Tryz.prog 92 #[.bool ng, .pointer (some ⟨g, 0, none⟩), .int .i64 (-1), .int .i64 1] w (fun e w' => e = .returned (.bool (upB ng q (-1) 1)) ∧ Within w w') := by
  go_enter Tryz.func92, Tryz.ntmps92
  go_wp2
  go_ret
  exact ⟨ret_bool (by simp [upB]), Within.refl _⟩
set_option maxRecDepth 100000 in
set_option maxHeartbeats 600000 in
theorem Rgoes_3_1_0 (g q : Nat) (w : World) : Calls Tryz.prog 92 #[.bool false, .pointer (some ⟨g, 0, none⟩), .int .i64 (-1), .int .i64 3] w (fun e w' => e = .returned (.bool (upB false q (-1) 3)) ∧ Within w w') := by
  go_enter Tryz.func92, Tryz.ntmps92
  go_wp2
  go_ret
  exact ⟨ret_bool (by simp [upB]), Within.refl _⟩
set_option maxRecDepth 100000 in
set_option maxHeartbeats 600000 in
theorem Rgoes_4_1_0 (g q : Nat) (w : World) : Calls Tryz.prog 92 #[.bool false, .pointer (some ⟨g, 0, none⟩), .int .i64 (-1), .int .i64 4] w (fun e w' => e = .returned (.bool (upB false q (-1) 4)) ∧ Within w w') := by
  go_enter Tryz.func92, Tryz.ntmps92
  go_wp2
  go_ret
  exact ⟨ret_bool (by simp [upB]), Within.refl _⟩
set_option maxRecDepth 100000 in
set_option maxHeartbeats 600000 in
theorem Rgoes_3_1_1 (g q : Nat) (w : World) : Calls Tryz.prog 92 #[.bool true, .pointer (some ⟨g, 0, none⟩), .int .i64 (-1), .int .i64 3] w (fun e w' => e = .returned (.bool (upB true q (-1) 3)) ∧ Within w w') := by
  go_enter Tryz.func92, Tryz.ntmps92
  go_wp2
  go_ret
  exact ⟨ret_bool (by simp [upB]), Within.refl _⟩
set_option maxRecDepth 100000 in
set_option maxHeartbeats 600000 in
theorem Rgoes_4_1_1 (g q : Nat) (w : World) : Calls Tryz.prog 92 #[.bool true, .pointer (some ⟨g, 0, none⟩), .int .i64 (-1), .int .i64 4] w (fun e w' => e = .returned (.bool (upB true q (-1) 4)) ∧ Within w w') := by
  go_enter Tryz.func92, Tryz.ntmps92
  go_wp2
  go_ret
  exact ⟨ret_bool (by simp [upB]), Within.refl _⟩
set_option maxRecDepth 100000 in
set_option maxHeartbeats 600000 in
theorem Rgoes_1_2 (ng : Bool) (g q : Nat) (w : World) : Calls Tryz.prog 92 #[.bool ng, .pointer (some ⟨g, 0, none⟩), .int .i64 0, .int .i64 1] w (fun e w' => e = .returned (.bool (upB ng q 0 1)) ∧ Within w w') := by
  go_enter Tryz.func92, Tryz.ntmps92
  go_wp2
  go_ret
  exact ⟨ret_bool (by simp [upB]), Within.refl _⟩
set_option maxRecDepth 100000 in
set_option maxHeartbeats 600000 in
theorem Rgoes_3_2_0 (g q : Nat) (w : World) : Calls Tryz.prog 92 #[.bool false, .pointer (some ⟨g, 0, none⟩), .int .i64 0, .int .i64 3] w (fun e w' => e = .returned (.bool (upB false q 0 3)) ∧ Within w w') := by
  go_enter Tryz.func92, Tryz.ntmps92
  go_wp2
  go_ret
  exact ⟨ret_bool (by simp [upB]), Within.refl _⟩
set_option maxRecDepth 100000 in
set_option maxHeartbeats 600000 in
theorem Rgoes_4_2_0 (g q : Nat) (w : World) : Calls Tryz.prog 92 #[.bool false, .pointer (some ⟨g, 0, none⟩), .int .i64 0, .int .i64 4] w (fun e w' => e = .returned (.bool (upB false q 0 4)) ∧ Within w w') := by
  go_enter Tryz.func92, Tryz.ntmps92
  go_wp2
  go_ret
  exact ⟨ret_bool (by simp [upB]), Within.refl _⟩
set_option maxRecDepth 100000 in
set_option maxHeartbeats 600000 in
theorem Rgoes_3_2_1 (g q : Nat) (w : World) : Calls Tryz.prog 92 #[.bool true, .pointer (some ⟨g, 0, none⟩), .int .i64 0, .int .i64 3] w (fun e w' => e = .returned (.bool (upB true q 0 3)) ∧ Within w w') := by
  go_enter Tryz.func92, Tryz.ntmps92
  go_wp2
  go_ret
  exact ⟨ret_bool (by simp [upB]), Within.refl _⟩
set_option maxRecDepth 100000 in
set_option maxHeartbeats 600000 in
theorem Rgoes_4_2_1 (g q : Nat) (w : World) : Calls Tryz.prog 92 #[.bool true, .pointer (some ⟨g, 0, none⟩), .int .i64 0, .int .i64 4] w (fun e w' => e = .returned (.bool (upB true q 0 4)) ∧ Within w w') := by
  go_enter Tryz.func92, Tryz.ntmps92
  go_wp2
  go_ret
  exact ⟨ret_bool (by simp [upB]), Within.refl _⟩
set_option maxRecDepth 100000 in
set_option maxHeartbeats 600000 in
theorem Rgoes_0_3 (ng : Bool) (g q : Nat) (w : World) : Calls Tryz.prog 92 #[.bool ng, .pointer (some ⟨g, 0, none⟩), .int .i64 1, .int .i64 0] w (fun e w' => e = .returned (.bool (upB ng q 1 0)) ∧ Within w w') := by
  go_enter Tryz.func92, Tryz.ntmps92
  go_wp2
  go_ret
  exact ⟨ret_bool (by simp [upB]), Within.refl _⟩
set_option maxRecDepth 100000 in
set_option maxHeartbeats 600000 in
theorem Rgoes_1_3 (ng : Bool) (g q : Nat) (w : World) : Calls Tryz.prog 92 #[.bool ng, .pointer (some ⟨g, 0, none⟩), .int .i64 1, .int .i64 1] w (fun e w' => e = .returned (.bool (upB ng q 1 1)) ∧ Within w w') := by
  go_enter Tryz.func92, Tryz.ntmps92
  go_wp2
  go_ret
  exact ⟨ret_bool (by simp [upB]), Within.refl _⟩
set_option maxRecDepth 100000 in
set_option maxHeartbeats 600000 in
theorem Rgoes_3_3_0 (g q : Nat) (w : World) : Calls Tryz.prog 92 #[.bool false, .pointer (some ⟨g, 0, none⟩), .int .i64 1, .int .i64 3] w (fun e w' => e = .returned (.bool (upB false q 1 3)) ∧ Within w w') := by
  go_enter Tryz.func92, Tryz.ntmps92
  go_wp2
  go_ret
  exact ⟨ret_bool (by simp [upB]), Within.refl _⟩
set_option maxRecDepth 100000 in
set_option maxHeartbeats 600000 in
theorem Rgoes_4_3_0 (g q : Nat) (w : World) : Calls Tryz.prog 92 #[.bool false, .pointer (some ⟨g, 0, none⟩), .int .i64 1, .int .i64 4] w (fun e w' => e = .returned (.bool (upB false q 1 4)) ∧ Within w w') := by
  go_enter Tryz.func92, Tryz.ntmps92
  go_wp2
  go_ret
  exact ⟨ret_bool (by simp [upB]), Within.refl _⟩
set_option maxRecDepth 100000 in
set_option maxHeartbeats 600000 in
theorem Rgoes_3_3_1 (g q : Nat) (w : World) : Calls Tryz.prog 92 #[.bool true, .pointer (some ⟨g, 0, none⟩), .int .i64 1, .int .i64 3] w (fun e w' => e = .returned (.bool (upB true q 1 3)) ∧ Within w w') := by
  go_enter Tryz.func92, Tryz.ntmps92
  go_wp2
  go_ret
  exact ⟨ret_bool (by simp [upB]), Within.refl _⟩
set_option maxRecDepth 100000 in
set_option maxHeartbeats 600000 in
theorem Rgoes_4_3_1 (g q : Nat) (w : World) : Calls Tryz.prog 92 #[.bool true, .pointer (some ⟨g, 0, none⟩), .int .i64 1, .int .i64 4] w (fun e w' => e = .returned (.bool (upB true q 1 4)) ∧ Within w w') := by
  go_enter Tryz.func92, Tryz.ntmps92
  go_wp2
  go_ret
  exact ⟨ret_bool (by simp [upB]), Within.refl _⟩
set_option maxRecDepth 100000 in
set_option maxHeartbeats 600000 in
theorem Rgoes_0_2a (ng : Bool) (g q : Nat) (hq : (dg q).length ≤ 1000000) (hb : q % 2 = 0) (w : World) (hI : IntB w g (q : Int)) : Calls Tryz.prog 92 #[.bool ng, .pointer (some ⟨g, 0, none⟩), .int .i64 0, .int .i64 0] w (fun e w' => e = .returned (.bool (upB ng q 0 0)) ∧ Within w w') := by
  have BB := Lib.hid (Bbit g q hq w hI)
  rw [hb] at BB
  have HB := Lib.hid hb; clear hb hI hq
  go_enter Tryz.func92, Tryz.ntmps92
  go_wp2_with fail
  refine BB.out.mono ?_; rintro e1 w1 ⟨rfl, rfl⟩
  go_wp2
  go_ret
  exact ⟨ret_bool (by simp [upB, HB.out]), Within.refl _⟩
set_option maxRecDepth 100000 in
set_option maxHeartbeats 600000 in
theorem Rgoes_0_2b (ng : Bool) (g q : Nat) (hq : (dg q).length ≤ 1000000) (hb : q % 2 = 1) (w : World) (hI : IntB w g (q : Int)) : Calls Tryz.prog 92 #[.bool ng, .pointer (some ⟨g, 0, none⟩), .int .i64 0, .int .i64 0] w (fun e w' => e = .returned (.bool (upB ng q 0 0)) ∧ Within w w') := by
  have BB := Lib.hid (Bbit g q hq w hI)
  rw [hb] at BB
  have HB := Lib.hid hb; clear hb hI hq
  go_enter Tryz.func92, Tryz.ntmps92
  go_wp2_with fail
  refine BB.out.mono ?_; rintro e1 w1 ⟨rfl, rfl⟩
  go_wp2
  go_ret
  exact ⟨ret_bool (by simp [upB, HB.out]), Within.refl _⟩
theorem Rgoes (ng : Bool) (g q : Nat) (c mode : Int) (hc : c = -2 ∨ c = -1 ∨ c = 0 ∨ c = 1) (hq : (dg q).length ≤ 1000000) (w : World) (hI : IntB w g (q : Int)) : Calls Tryz.prog 92 #[.bool ng, .pointer (some ⟨g, 0, none⟩), .int .i64 c, .int .i64 mode] w (fun e w' => e = .returned (.bool (upB ng q c mode)) ∧ Within w w') := by
  by_cases h0 : mode = 0
  · subst h0
    rcases hc with rfl | rfl | rfl | rfl
    · exact Rgoes_0_0 ng g q w
    · exact Rgoes_0_1 ng g q w
    · rcases Nat.mod_two_eq_zero_or_one q with hb | hb
      · exact Rgoes_0_2a ng g q hq hb w hI
      · exact Rgoes_0_2b ng g q hq hb w hI
    · exact Rgoes_0_3 ng g q w
  by_cases h1 : mode = 1
  · subst h1
    rcases hc with rfl | rfl | rfl | rfl
    · exact Rgoes_1_0 ng g q w
    · exact Rgoes_1_1 ng g q w
    · exact Rgoes_1_2 ng g q w
    · exact Rgoes_1_3 ng g q w
  by_cases h3 : mode = 3
  · subst h3
    cases ng
    · rcases hc with rfl | rfl | rfl | rfl
      · exact Rgoes_3_0_0 g q w
      · exact Rgoes_3_1_0 g q w
      · exact Rgoes_3_2_0 g q w
      · exact Rgoes_3_3_0 g q w
    · rcases hc with rfl | rfl | rfl | rfl
      · exact Rgoes_3_0_1 g q w
      · exact Rgoes_3_1_1 g q w
      · exact Rgoes_3_2_1 g q w
      · exact Rgoes_3_3_1 g q w
  by_cases h4 : mode = 4
  · subst h4
    cases ng
    · rcases hc with rfl | rfl | rfl | rfl
      · exact Rgoes_4_0_0 g q w
      · exact Rgoes_4_1_0 g q w
      · exact Rgoes_4_2_0 g q w
      · exact Rgoes_4_3_0 g q w
    · rcases hc with rfl | rfl | rfl | rfl
      · exact Rgoes_4_0_1 g q w
      · exact Rgoes_4_1_1 g q w
      · exact Rgoes_4_2_1 g q w
      · exact Rgoes_4_3_1 g q w
  exact Rgoes_o ng g q c mode (beq_eq_false_iff_ne.2 h0) (beq_eq_false_iff_ne.2 h1) (beq_eq_false_iff_ne.2 h3) (beq_eq_false_iff_ne.2 h4) w
theorem cutC_range (M s : Nat) (more : Bool) : cutC M s more = -2 ∨ cutC M s more = -1 ∨ cutC M s more = 0 ∨ cutC M s more = 1 := by
  unfold cutC cmpN
  repeat' split
  all_goals omega
end Go.Proofs.YtifgngmebnjfkaaGreatDoor
end

section
namespace Go.Proofs.YtifgngmebnjfkaaGreatDoor
open Go.RowKit
def gK (D lo : Int) (M : Nat) (e : Int) : Int := max (e + (blen M : Nat) - D) lo
def gq (D lo : Int) (M : Nat) (e : Int) : Nat := if gK D lo M e ≤ e then M * 2 ^ (e - gK D lo M e).toNat else M / 2 ^ (gK D lo M e - e).toNat
def gc (D lo : Int) (M : Nat) (e : Int) (more : Bool) : Int := if gK D lo M e ≤ e then (if more then -1 else -2) else cutC M (gK D lo M e - e).toNat more
def gQ (D lo : Int) (ng : Bool) (M : Nat) (e : Int) (more : Bool) (mode : Int) : Nat := gq D lo M e + (upB ng (gq D lo M e) (gc D lo M e more) mode).toNat
def gFl (D lo : Int) (M : Nat) (e : Int) (more : Bool) : Int := if -2 < gc D lo M e more then (if e + (blen M : Nat) - 1 < lo + D - 1 then 3 else 1) else 0
def gOver (D lo most : Int) (ng : Bool) (M : Nat) (e : Int) (more : Bool) (mode : Int) : Bool := decide (most + 1 < gK D lo M e + (blen (gQ D lo ng M e more mode) : Nat))
theorem gc_range (D lo : Int) (M : Nat) (e : Int) (more : Bool) : gc D lo M e more = -2 ∨ gc D lo M e more = -1 ∨ gc D lo M e more = 0 ∨ gc D lo M e more = 1 := by
  unfold gc
  split
  · split <;> omega
  · exact cutC_range _ _ _
theorem blen_lt (n : Nat) : n < 2 ^ blen n := by
  by_cases h : n = 0
  · subst h; exact Nat.two_pow_pos _
  · rw [blen_pos h]; exact Nat.lt_log2_self
theorem blen_le {n k : Nat} (h : n < 2 ^ k) : blen n ≤ k := by
  by_cases h0 : n = 0
  · subst h0; exact Nat.zero_le _
  · rw [blen_pos h0]; exact (Nat.log2_lt h0).2 h
theorem le_of_blen {n : Nat} (h : n ≠ 0) : 2 ^ (blen n - 1) ≤ n := by rw [blen_pos h, Nat.add_sub_cancel]; exact Nat.log2_self_le h
theorem gq_lt (D : Nat) (lo : Int) (M : Nat) (e : Int) : gq D lo M e < 2 ^ D := by
  have hb := blen_lt M
  have hK : gK D lo M e = max (e + (blen M : Nat) - D) lo := rfl
  unfold gq
  split
  · rename_i h
    obtain ⟨k, hk⟩ : ∃ k : Nat, e - gK D lo M e = k := ⟨(e - gK D lo M e).toNat, by omega⟩
    rw [hk, Int.toNat_natCast]
    have : M * 2 ^ k < 2 ^ (blen M) * 2 ^ k := Nat.mul_lt_mul_of_pos_right hb (Nat.two_pow_pos k)
    rw [← Nat.pow_add] at this
    exact Nat.lt_of_lt_of_le this (Nat.pow_le_pow_right (by decide) (by omega))
  · rename_i h
    obtain ⟨k, hk⟩ : ∃ k : Nat, gK D lo M e - e = k := ⟨(gK D lo M e - e).toNat, by omega⟩
    rw [hk, Int.toNat_natCast, Nat.div_lt_iff_lt_mul (Nat.two_pow_pos k), ← Nat.pow_add]
    exact Nat.lt_of_lt_of_le hb (Nat.pow_le_pow_right (by decide) (by omega))
theorem gQ_le (D : Nat) (lo : Int) (ng : Bool) (M : Nat) (e : Int) (more : Bool) (mode : Int) : gQ D lo ng M e more mode ≤ 2 ^ D := by
  have h1 := gq_lt D lo M e
  unfold gQ
  have h2 : ∀ b : Bool, b.toNat ≤ 1 := by decide
  have := h2 (upB ng (gq D lo M e) (gc D lo M e more) mode)
  omega
theorem gQ_full {D : Nat} {lo : Int} (ng : Bool) {M : Nat} {e : Int} (more : Bool) (mode : Int) (hM : M ≠ 0) (hD : 1 ≤ D) (h : lo < gK D lo M e) : 2 ^ (D - 1) ≤ gQ D lo ng M e more mode := by
  have hb := le_of_blen hM
  have hb1 : 1 ≤ blen M := by rw [blen_pos hM]; omega
  have hK : gK D lo M e = max (e + (blen M : Nat) - D) lo := rfl
  refine Nat.le_trans ?_ (Nat.le_add_right _ _)
  unfold gq
  split
  · rename_i h
    obtain ⟨k, hk⟩ : ∃ k : Nat, e - gK D lo M e = k := ⟨(e - gK D lo M e).toNat, by omega⟩
    rw [hk, Int.toNat_natCast]
    have : 2 ^ (blen M - 1) * 2 ^ k ≤ M * 2 ^ k := Nat.mul_le_mul_right _ hb
    rw [← Nat.pow_add] at this
    exact Nat.le_trans (Nat.pow_le_pow_right (by decide) (by omega)) this
  · rename_i h
    obtain ⟨k, hk⟩ : ∃ k : Nat, gK D lo M e - e = k := ⟨(gK D lo M e - e).toNat, by omega⟩
    rw [hk, Int.toNat_natCast, Nat.le_div_iff_mul_le (Nat.two_pow_pos k), ← Nat.pow_add]
    exact Nat.le_trans (Nat.pow_le_pow_right (by decide) (by omega)) hb
def gK2 (D lo : Int) (ng : Bool) (M : Nat) (e : Int) (more : Bool) (mode : Int) : Int := if D < (blen (gQ D lo ng M e more mode) : Nat) then gK D lo M e + 1 else gK D lo M e
def gQ2 (D lo : Int) (ng : Bool) (M : Nat) (e : Int) (more : Bool) (mode : Int) : Nat := if D < (blen (gQ D lo ng M e more mode) : Nat) then gQ D lo ng M e more mode / 2 else gQ D lo ng M e more mode
theorem blen_pow (k : Nat) : blen (2 ^ k) = k + 1 := by rw [blen_pos (Nat.ne_of_gt (Nat.two_pow_pos k)), Nat.log2_two_pow]
theorem g_ends_aux {D Q : Nat} {K lo : Int} (hQ : Q ≤ 2 ^ D) (hfull : lo < K → 2 ^ (D - 1) ≤ Q) (hK : lo ≤ K) (hD : 1 ≤ D) (Q2 : Nat) (K2 : Int) (h2 : Q2 = if (D : Int) < (blen Q : Nat) then Q / 2 else Q) (k2 : K2 = if (D : Int) < (blen Q : Nat) then K + 1 else K) :
    blen Q2 ≤ D ∧ K2 + (blen Q2 : Nat) = K + (blen Q : Nat) ∧ (blen Q2 < D → Q2 = Q ∧ K = lo ∧ K2 = lo) ∧
    (blen Q2 = D → 2 ^ (D - 1) ≤ Q2 ∧ Q2 < 2 ^ D ∧ (K2 - lo).toNat * 2 ^ (D - 1) + Q2 = (K - lo).toNat * 2 ^ (D - 1) + Q) ∧ lo ≤ K2 := by
  have hpow : 2 ^ D = 2 * 2 ^ (D - 1) := by
    obtain ⟨t, rfl⟩ : ∃ t, D = t + 1 := ⟨D - 1, by omega⟩
    rw [Nat.pow_succ, Nat.add_sub_cancel, Nat.mul_comm]
  by_cases h : (D : Int) < (blen Q : Nat)
  · rw [if_pos h] at h2 k2
    have hQe : Q = 2 ^ D := by
      rcases Nat.lt_or_ge Q (2 ^ D) with h1 | h1
      · have := blen_le h1; omega
      · omega
    have hb : blen Q = D + 1 := by rw [hQe, blen_pow]
    have hq2 : Q2 = 2 ^ (D - 1) := by rw [h2, hQe, hpow]; omega
    have hb2 : blen Q2 = D := by rw [hq2, blen_pow]; omega
    refine ⟨by omega, by omega, fun h => by omega, fun _ => ⟨by omega, by have := Nat.two_pow_pos (D - 1); omega, ?_⟩, by omega⟩
    rw [k2, hq2, hQe, hpow, show (K + 1 - lo).toNat = (K - lo).toNat + 1 by omega, Nat.add_mul]
    omega
  · rw [if_neg h] at h2 k2
    subst h2 k2
    refine ⟨by omega, rfl, fun h1 => ?_, fun h1 => ⟨?_, ?_, rfl⟩, hK⟩
    · have hl := blen_lt Q2
      have : 2 ^ blen Q2 ≤ 2 ^ (D - 1) := Nat.pow_le_pow_right (by decide) (by omega)
      have : ¬ lo < K2 := fun h2 => by have := hfull h2; omega
      exact ⟨rfl, by omega, by omega⟩
    · have h0 : Q2 ≠ 0 := fun h0 => by rw [h0, blen_zero] at h1; omega
      have := le_of_blen h0
      rwa [h1] at this
    · have := blen_lt Q2
      rwa [h1] at this
theorem g_ends {D : Nat} {lo : Int} {ng : Bool} {M : Nat} {e : Int} {more : Bool} {mode : Int} (hM : M ≠ 0) (hD : 1 ≤ D) :
    blen (gQ2 D lo ng M e more mode) ≤ D ∧ gK2 D lo ng M e more mode + (blen (gQ2 D lo ng M e more mode) : Nat) = gK D lo M e + (blen (gQ D lo ng M e more mode) : Nat) ∧
    (blen (gQ2 D lo ng M e more mode) < D → gQ2 D lo ng M e more mode = gQ D lo ng M e more mode ∧ gK D lo M e = lo ∧ gK2 D lo ng M e more mode = lo) ∧
    (blen (gQ2 D lo ng M e more mode) = D → 2 ^ (D - 1) ≤ gQ2 D lo ng M e more mode ∧ gQ2 D lo ng M e more mode < 2 ^ D ∧
      (gK2 D lo ng M e more mode - lo).toNat * 2 ^ (D - 1) + gQ2 D lo ng M e more mode = (gK D lo M e - lo).toNat * 2 ^ (D - 1) + gQ D lo ng M e more mode) ∧ lo ≤ gK2 D lo ng M e more mode :=
  g_ends_aux (gQ_le D lo ng M e more mode) (gQ_full ng more mode hM hD) (Int.le_max_right _ _) hD _ _ rfl rfl
theorem blen_of_dg {n k : Nat} (h : (dg n).length ≤ k) : blen n ≤ 32 * k :=
  blen_le (Nat.lt_of_lt_of_le (lt_of_dg n) (by rw [show (4294967296 : Nat) = 2 ^ 32 from rfl, ← Nat.pow_mul]; exact Nat.pow_le_pow_right (by decide) (Nat.mul_le_mul_left _ h)))
theorem fld_join (fd Q F : Nat) (h : 1 ≤ fd) (h2 : F ≤ Q) : fd * F + (Q - F) = (fd - 1) * F + Q := by
  obtain ⟨j, rfl⟩ : ∃ j, fd = j + 1 := ⟨fd - 1, by omega⟩
  rw [Nat.add_sub_cancel, Nat.add_mul]; omega
def gWord (D lo most : Int) (top inf FR SG : Nat) (ng : Bool) (M : Nat) (e : Int) (more : Bool) (mode : Int) : Nat :=
  (if gOver D lo most ng M e more mode then (if topR ng mode then top else inf) else (gK D lo M e - lo).toNat * FR + gQ D lo ng M e more mode) + (if ng then SG else 0)
def gFlags (D lo most : Int) (ng : Bool) (M : Nat) (e : Int) (more : Bool) (mode : Int) : Int := if gOver D lo most ng M e more mode then 5 else gFl D lo M e more
set_option maxRecDepth 100000 in
set_option maxHeartbeats 600000 in
theorem Round0S (ng more : Bool) (g M b : Nat) (e mode K : Int) (hb : b = blen M) (hb2 : b ≤ 30000) (he : -50000 ≤ e ∧ e ≤ 50000) (hM : (dg M).length ≤ 1000) (hK : K = max (e + (b : Int) - 24) (-149)) (hM0 : M ≠ 0) (WD : Nat) (FLG : Int) (hWD : WD = (if gOver 24 (-149) 127 ng M e more mode then (if topR ng mode then 2139095039 else 2139095040) else (gK 24 (-149) M e - -149).toNat * 8388608 + gQ 24 (-149) ng M e more mode) + (if ng then 2147483648 else 0)) (hFL : FLG = if gOver 24 (-149) 127 ng M e more mode then 5 else gFl 24 (-149) M e more) (w : World) (hI : IntB w g (M : Int)) : Calls Tryz.prog 55 #[fmS, .bool ng, .pointer (some ⟨g, 0, none⟩), .int .i64 e, .bool more, .int .i64 mode] w (fun e w' => e = .returned (.tuple #[.int .u64 (WD : Int), .int .i64 FLG]) ∧ Within w w') := by
  have HWD := Lib.hid hWD; have HFL := Lib.hid hFL; clear hWD hFL
  have HB := Lib.hid hb; have HK := Lib.hid hK; have HM0 := Lib.hid hM0; clear hb hK hM0
  have he1 := he.1; have he2 := he.2; clear he
  have BL := Lib.hid (fun (w' : World) (h : IntB w' g (M : Int)) => Bbitlen g M (by rw [Int.natAbs_natCast]; exact Nat.le_trans hM (by decide)) w' h)
  have HM := Lib.hid hM; clear hM
  have hK1 : -60000 ≤ K := by have := HK.out; omega
  have hK2 : K ≤ 100000 := by have := HK.out; omega
  have hGK : gK 24 (-149) M e = K := by unfold gK; rw [← HB.out]; exact HK.out.symm
  have HGK := Lib.hid hGK; clear hGK
  obtain ⟨qq, hqq⟩ : ∃ qq, qq = gq 24 (-149) M e := ⟨_, rfl⟩
  obtain ⟨cc, hcc⟩ : ∃ cc, cc = gc 24 (-149) M e more := ⟨_, rfl⟩
  obtain ⟨QQ, hQQ⟩ : ∃ QQ, QQ = gQ 24 (-149) ng M e more mode := ⟨_, rfl⟩
  have hql : gq 24 (-149) M e < 2 ^ 24 := gq_lt 24 (-149) M e
  rw [← hqq] at hql
  have HQL := Lib.hid hql; clear hql
  have hQl : gQ 24 (-149) ng M e more mode ≤ 2 ^ 24 := gQ_le 24 (-149) ng M e more mode
  rw [← hQQ] at hQl
  have HQ2 := Lib.hid hQl; clear hQl
  have hQu : QQ = qq + (upB ng qq cc mode).toNat := by rw [hQQ, hqq, hcc]; rfl
  have HQU := Lib.hid hQu; clear hQu
  have HQQ := Lib.hid hqq; have HCC := Lib.hid hcc; have HQX := Lib.hid hQQ; clear hqq hcc hQQ
  go_enter Tryz.func55, Tryz.ntmps55
  go_wp2_with fail
  refine (BL.out _ (by repeat (with_reducible first | assumption | exact ib_new _ _ (by simp; done) | refine IntB.alloc ?_ _ | refine IntB.drewN ?_ _))).mono ?_; rintro e1 w1 ⟨rfl, hb1⟩
  have hI1 : IntB w1 g (M : Int) := (hI.alloc _).of hb1
  have x0 : w1.cell? ⟨w.heap.size, 0, none⟩ = some (.int .i64 (24)) := (hb1.cells _ _ (by simp)).trans (by go_simp)
  have x1 : w1.cell? ⟨w.heap.size, 1, none⟩ = some (.int .i64 (-126)) := (hb1.cells _ _ (by simp)).trans (by go_simp)
  have x2 : w1.cell? ⟨w.heap.size, 2, none⟩ = some (.int .i64 (127)) := (hb1.cells _ _ (by simp)).trans (by go_simp)
  have x3 : w1.cell? ⟨w.heap.size, 3, none⟩ = some (.int .i64 (8)) := (hb1.cells _ _ (by simp)).trans (by go_simp)
  rw [Int.natAbs_natCast, ← HB.out]
  have gm : max (e + (b : Int) - 1 - 24 + 1) (-149) = K := by have := HK.out; omega
  go_wp2_with fail
  refine (Bset w1.heap.size g M (by rw [Int.natAbs_natCast]; exact Nat.le_trans HM.out (by decide)) _ (by repeat (with_reducible first | assumption | exact ty_new _ _ _ _ (by simp; done) | refine ty_drew ?_ | refine ty_alloc ?_ _)) (by repeat (with_reducible first | assumption | exact ib_new _ _ (by simp; done) | refine IntB.alloc ?_ _ | refine IntB.drewN ?_ _))).mono ?_; rintro e2 w2 ⟨rfl, hI2, hG2⟩
  have hb2 : Within w1 w2 := Within.grown (by repeat (with_reducible first | exact Within.refl _ | assumption | refine Within.alloc ?_ _ | refine Within.drew ?_ | refine Within.drewN ?_ _ | refine Within.setCell ?_ (by first | (simp; done) | (simp; omega)) _ | refine Within.trans ?_ (by assumption))) hG2 (by simp)
  have t2 := hI2.ty
  have hI := hI1.of hb2
  clear hG2
  have hb20 : Within (w.alloc (.cells #[.int .i64 24, .int .i64 (-126), .int .i64 127, .int .i64 8] 60)) w2 := hb1.trans hb2
  clear x0 x1 x2 x3
  have x0 : w2.cell? ⟨w.heap.size, 0, none⟩ = some (.int .i64 (24)) := (hb20.cells _ _ (by simp)).trans (by go_simp)
  have x1 : w2.cell? ⟨w.heap.size, 1, none⟩ = some (.int .i64 (-126)) := (hb20.cells _ _ (by simp)).trans (by go_simp)
  have x2 : w2.cell? ⟨w.heap.size, 2, none⟩ = some (.int .i64 (127)) := (hb20.cells _ _ (by simp)).trans (by go_simp)
  have x3 : w2.cell? ⟨w.heap.size, 3, none⟩ = some (.int .i64 (8)) := (hb20.cells _ _ (by simp)).trans (by go_simp)
  go_upto_if 42 with fail
  go_cut [16, 17] (fun sq sc wx => PtrI (w.alloc (.cells #[.int .i64 24, .int .i64 (-126), .int .i64 127, .int .i64 8] 60)) (qq : Int) sq wx ∧ sc = .int .i64 cc ∧ Within (w.alloc (.cells #[.int .i64 24, .int .i64 (-126), .int .i64 127, .int .i64 8] 60)) wx)
  case first =>
    by_cases hle : K ≤ e
    · skip
      obtain ⟨k, hk⟩ : ∃ k : Nat, e - K = (k : Int) := ⟨(e - K).toNat, by omega⟩
      have hkb : k ≤ 150000 := by omega
      have hv : (M : Int) * 2 ^ k = (qq : Int) := by have h1 := HGK.out; rw [HQQ.out]; unfold gq; rw [h1, if_pos hle, hk, Int.toNat_natCast]; simp
      have hcv : cc = if more then -1 else -2 := by have h1 := HGK.out; rw [HCC.out]; unfold gc; rw [h1, if_pos hle]
      have HCV := Lib.hid hcv; clear hcv
      have d : decide (e ≥ K) = true := decide_eq_true hle
      have HLE := Lib.hid hle; clear hle
      go_wp2_with fail
      refine (Blsh w1.heap.size w1.heap.size k M (by rw [Int.natAbs_natCast]; exact Nat.le_trans HM.out (by decide)) (by omega) w2 t2 hI2).mono ?_; rintro e3 w3 ⟨rfl, hI3, hG3⟩
      have hb3 : Within (w.alloc (.cells #[.int .i64 24, .int .i64 (-126), .int .i64 127, .int .i64 8] 60)) w3 := Within.grown hb20 hG3 (by have := hb1.sizes; exact this)
      rw [hv] at hI3
      have hs1 := hb1.sizes
      cases more
      · have hcm : (-2 : Int) = cc := by rw [HCV.out]; rfl
        clear HCV
        go_wp2_with fail
        go_meet
        exact ⟨⟨_, rfl, hI3, hs1⟩, by first | rfl | rw [hcm], hb3⟩
      · have hcm : (-1 : Int) = cc := by rw [HCV.out]; rfl
        clear HCV
        go_wp2_with fail
        go_meet
        exact ⟨⟨_, rfl, hI3, hs1⟩, by first | rfl | rw [hcm], hb3⟩
    · skip
      obtain ⟨k, hk⟩ : ∃ k : Nat, K - e = (k : Int) := ⟨(K - e).toNat, by omega⟩
      have hkb : 1 ≤ k ∧ k ≤ 60000 := by have := HK.out; omega
      have hv : M / 2 ^ k = qq := by have h1 := HGK.out; rw [HQQ.out]; unfold gq; rw [h1, if_neg hle, hk, Int.toNat_natCast]
      have hcv : cutC M k more = cc := by have h1 := HGK.out; rw [HCC.out]; unfold gc; rw [h1, if_neg hle, hk, Int.toNat_natCast]
      have CT := Lib.hid (Rcut g M k more hkb.1 hkb.2 HM.out w2 hI)
      rw [hv, hcv] at CT
      clear hv hcv
      have d : decide (e ≥ K) = false := decide_eq_false (by omega)
      have HLE := Lib.hid hle; clear hle
      go_wp2_with fail
      refine CT.out.mono ?_; rintro e3 w3 ⟨g3, rfl, hI3, hg3, hb3'⟩
      have hb3 := hb20.trans hb3'
      have hs1 := Nat.le_trans hb20.sizes hg3
      go_wp2_with fail
      go_meet
      exact ⟨⟨_, rfl, hI3, hs1⟩, rfl, hb3⟩
  case rest =>
    obtain ⟨⟨gQ', rfl, hIq, hgq⟩, rfl, hw⟩ := hcut
    have x0 : wc.cell? ⟨w.heap.size, 0, none⟩ = some (.int .i64 (24)) := (hw.cells _ _ (by simp)).trans (by go_simp)
    have x1 : wc.cell? ⟨w.heap.size, 1, none⟩ = some (.int .i64 (-126)) := (hw.cells _ _ (by simp)).trans (by go_simp)
    have x2 : wc.cell? ⟨w.heap.size, 2, none⟩ = some (.int .i64 (127)) := (hw.cells _ _ (by simp)).trans (by go_simp)
    have x3 : wc.cell? ⟨w.heap.size, 3, none⟩ = some (.int .i64 (8)) := (hw.cells _ _ (by simp)).trans (by go_simp)
    have GO := Lib.hid (Rgoes ng gQ' qq cc mode (HCC.out ▸ gc_range _ _ _ _ _) (Nat.le_trans (dg_small (k := 2) (Nat.lt_of_lt_of_le HQL.out (by decide))) (by decide)) wc hIq)
    go_wp2_with fail
    refine GO.out.mono ?_; rintro e4 w4 ⟨rfl, hb4⟩
    obtain ⟨u, hu⟩ : ∃ u, u = upB ng qq cc mode := ⟨_, rfl⟩
    rw [← hu]
    have HU := HQU.out; rw [← hu] at HU
    have HQ3 := Lib.hid HU; clear HU hu GO
    have hIq := hIq.of hb4
    have hw4 := hw.trans hb4
    clear x0 x1 x2 x3
    have x0 : w4.cell? ⟨w.heap.size, 0, none⟩ = some (.int .i64 (24)) := (hw4.cells _ _ (by simp)).trans (by go_simp)
    have x1 : w4.cell? ⟨w.heap.size, 1, none⟩ = some (.int .i64 (-126)) := (hw4.cells _ _ (by simp)).trans (by go_simp)
    have x2 : w4.cell? ⟨w.heap.size, 2, none⟩ = some (.int .i64 (127)) := (hw4.cells _ _ (by simp)).trans (by go_simp)
    have x3 : w4.cell? ⟨w.heap.size, 3, none⟩ = some (.int .i64 (8)) := (hw4.cells _ _ (by simp)).trans (by go_simp)
    go_upto_if 64 with fail
    go_cut [16] (fun sq wx => PtrI (w.alloc (.cells #[.int .i64 24, .int .i64 (-126), .int .i64 127, .int .i64 8] 60)) (QQ : Int) sq wx ∧ Within (w.alloc (.cells #[.int .i64 24, .int .i64 (-126), .int .i64 127, .int .i64 8] 60)) wx)
    case first =>
      cases u
      · have hq : (qq : Int) = (QQ : Int) := by rw [HQ3.out]; rfl
        rw [hq] at hIq; clear HQ3 hq
        go_wp2_with fail
        go_meet
        exact ⟨⟨_, rfl, hIq, hgq⟩, hw4⟩
      · have hq : (qq : Int) + 1 = (QQ : Int) := by rw [HQ3.out]; rfl
        have HQ4 := Lib.hid hq; clear HQ3 hq
        have hlq := hIq.lt
        go_wp2_with fail
        refine (BnewInt 1 (by decide) (by decide) w4).mono ?_; rintro e5 w5 ⟨g5, rfl, hI5, hg5, hb5⟩
        have hIq := hIq.of hb5
        go_wp2_with fail
        refine (BAdd gQ' gQ' g5 qq 1 (by rw [Int.natAbs_natCast]; exact Nat.le_trans (dg_small (k := 2) (Nat.lt_of_lt_of_le HQL.out (by decide))) (by decide)) (by decide +kernel) w5 hIq.ty hIq hI5).mono ?_; rintro e6 w6 ⟨rfl, hI6, hG6⟩
        rw [HQ4.out] at hI6
        have hb6 : Within (w.alloc (.cells #[.int .i64 24, .int .i64 (-126), .int .i64 127, .int .i64 8] 60)) w6 := Within.grown (hw4.trans hb5) hG6 hgq
        go_wp2_with fail
        go_meet
        exact ⟨⟨_, rfl, hI6, hgq⟩, hb6⟩
    case rest =>
      obtain ⟨⟨gR, rfl, hIr, hgr⟩, hw'⟩ := hcut
      have x0 : wc.cell? ⟨w.heap.size, 0, none⟩ = some (.int .i64 (24)) := (hw'.cells _ _ (by simp)).trans (by go_simp)
      have x1 : wc.cell? ⟨w.heap.size, 1, none⟩ = some (.int .i64 (-126)) := (hw'.cells _ _ (by simp)).trans (by go_simp)
      have x2 : wc.cell? ⟨w.heap.size, 2, none⟩ = some (.int .i64 (127)) := (hw'.cells _ _ (by simp)).trans (by go_simp)
      have x3 : wc.cell? ⟨w.heap.size, 3, none⟩ = some (.int .i64 (8)) := (hw'.cells _ _ (by simp)).trans (by go_simp)
      obtain ⟨FF, hFF⟩ : ∃ FF, FF = gFl 24 (-149) M e more := ⟨_, rfl⟩
      have hFF2 : FF = if -2 < cc then (if e + (b : Int) - 1 < -126 then 3 else 1) else 0 := by rw [hFF]; unfold gFl; rw [← HCC.out, ← HB.out]; rfl
      have HFF := Lib.hid hFF; have HF2 := Lib.hid hFF2; clear hFF hFF2
      have go2 : bits .or .i64 1 2 = 3 := by decide
      go_upto_if 70 with fail
      go_cut [18] (fun sf wx => sf = .int .i64 FF ∧ wx = wc)
      case first =>
        by_cases hc2 : -2 < cc
        · have d : decide (-2 < cc) = true := decide_eq_true hc2
          by_cases ht : e + (b : Int) - 1 < -126
          · have dt : decide (e + (b : Int) - 1 < -126) = true := decide_eq_true ht
            have hv : (3 : Int) = FF := by rw [HF2.out, if_pos hc2, if_pos ht]
            have HV := Lib.hid hv; clear hv d dt
            go_wp2_with fail
            go_meet
            exact ⟨by rw [← HV.out], rfl⟩
          · have dt : decide (e + (b : Int) - 1 < -126) = false := decide_eq_false ht
            have hv : (1 : Int) = FF := by rw [HF2.out, if_pos hc2, if_neg ht]
            have HV := Lib.hid hv; clear hv d dt
            go_wp2_with fail
            go_meet
            exact ⟨by rw [← HV.out], rfl⟩
        · have d : decide (-2 < cc) = false := decide_eq_false hc2
          have hv : (0 : Int) = FF := by rw [HF2.out, if_neg hc2]
          have hc3 : cc ≤ -2 := by omega
          have HV := Lib.hid hv; clear hv d hc2
          go_wp2_with fail
          go_meet
          exact ⟨by rw [← HV.out], rfl⟩
      case rest =>
        obtain ⟨rfl, rfl⟩ := hcut
        obtain ⟨NB, hNB⟩ : ∃ NB, NB = blen QQ := ⟨_, rfl⟩
        obtain ⟨K2, hK2'⟩ : ∃ K2, K2 = gK2 24 (-149) ng M e more mode := ⟨_, rfl⟩
        obtain ⟨Q2, hQ2'⟩ : ∃ Q2, Q2 = gQ2 24 (-149) ng M e more mode := ⟨_, rfl⟩
        obtain ⟨N2, hN2'⟩ : ∃ N2, N2 = blen Q2 := ⟨_, rfl⟩
        have hK2e : K2 = if 24 < (NB : Int) then K + 1 else K := by rw [hK2', hNB, HQX.out]; unfold gK2; rw [HGK.out]; all_goals rfl
        have hQ2e : Q2 = if 24 < (NB : Int) then QQ / 2 else QQ := by rw [hQ2', hNB, HQX.out]; unfold gQ2; all_goals rfl
        have hE := g_ends (D := 24) (lo := -149) (ng := ng) (M := M) (e := e) (more := more) (mode := mode) HM0.out (by decide)
        rw [show ((24 : Nat) : Int) = 24 from rfl, ← hQ2', ← hK2', ← HQX.out, HGK.out, ← hN2', ← hNB] at hE
        have HNB := Lib.hid hNB; have HK2 := Lib.hid hK2e; have HQ2' := Lib.hid hQ2e; have HN2 := Lib.hid hN2'; have HE := Lib.hid hE; clear hNB hK2' hQ2' hN2' hK2e hQ2e hE
        have hNBb : NB ≤ 25 := by rw [HNB.out]; exact blen_le (Nat.lt_of_le_of_lt HQ2.out (by decide))
        have hN2b : N2 ≤ 24 := HE.out.1
        have hQs : (dg QQ).length ≤ 1000000 := Nat.le_trans (dg_small (k := 2) (Nat.lt_of_le_of_lt HQ2.out (by decide))) (by decide)
        have hQs2 : (dg Q2).length ≤ 1000000 := by have h1 := HQ2'.out; refine Nat.le_trans (dg_len_mono ?_) hQs; rw [h1]; split; exact Nat.div_le_self _ _; exact Nat.le_refl _
        have HQs := Lib.hid hQs; have HQs2 := Lib.hid hQs2; clear hQs hQs2
        have hK2b : -60000 ≤ K2 ∧ K2 ≤ 100001 := by have := HK2.out; rw [this]; split <;> omega
        have hK21 := hK2b.1; have hK22 := hK2b.2; clear hK2b
        go_upto_region 16 with fail
        refine wp_region_schG (fun W => W.cell? ⟨w.heap.size, 0, none⟩ = some (.int .i64 (24)) ∧ W.cell? ⟨w.heap.size, 1, none⟩ = some (.int .i64 (-126)) ∧ W.cell? ⟨w.heap.size, 2, none⟩ = some (.int .i64 (127)) ∧ W.cell? ⟨w.heap.size, 3, none⟩ = some (.int .i64 (8)) ∧ IntB W gR (QQ : Int) ∧ Within (w.alloc (.cells #[.int .i64 24, .int .i64 (-126), .int .i64 127, .int .i64 8] 60)) W) 4 (.firm 0 (.firm 2 (.firm 3 (.one 1 (.one 4 .nil))))) (by kernel_rfl) (by kernel_rfl) ⟨x0, x1, x2, x3, hIr, hw'⟩ ?_
        rintro w0 ⟨y0, y1, y2, y3, hJ, hw0⟩
        try simp only [Act.put, List.setIfInBounds_toArray, List.set_cons_zero, List.set_cons_succ]
        have hs0 : w.heap.size < w0.heap.size := by have := hw0.sizes; simp at this; omega
        repeat
          apply sch_firm rfl rfl (by repeat (with_reducible first | exact Within.refl _ | assumption | refine Within.alloc ?_ _ | refine Within.drew ?_ | refine Within.drewN ?_ _ | refine Within.setCell ?_ (by first | (simp; done) | (simp; omega)) _ | refine Within.trans ?_ (by assumption)))
          · intro wq hq
            have hcq := hq.cells
            clear hq
            go_simp
            first | rfl | (trace_state; fail)
          try simp only [Act.put, List.setIfInBounds_toArray, List.set_cons_zero, List.set_cons_succ]
        refine sch_one rfl rfl (fun K hK => ?_)
        go_simp
        refine (Bbitlen gR QQ (by rw [Int.natAbs_natCast]; exact HQs.out) _ (hJ.of (Within.refl _).drew)).mono ?_; rintro e7 w7 ⟨rfl, hb7⟩
        rw [Int.natAbs_natCast, ← HNB.out]
        have hv7 : Within w0 w7 := (Within.refl w0).drew.trans hb7
        refine hK _ _ (fun _ => (by repeat (with_reducible first | exact Within.refl _ | assumption | refine Within.alloc ?_ _ | refine Within.drew ?_ | refine Within.drewN ?_ _ | refine Within.setCell ?_ (by first | (simp; done) | (simp; omega)) _ | refine Within.trans ?_ (by assumption)))) ?_
        clear hK K
        try simp only [Act.put, List.setIfInBounds_toArray, List.set_cons_zero, List.set_cons_succ]
        refine sch_one rfl rfl (fun K hK => ?_)
        go_simp
        refine hK _ _ (fun h => absurd h (by decide)) ?_
        clear hK K
        try simp only [Act.put, List.setIfInBounds_toArray, List.set_cons_zero, List.set_cons_succ]
        refine sch_nil ?_
        have hw7 := hw0.trans hv7
        have hJ := hJ.of hv7
        clear x0 x1 x2 x3 y0 y1 y2 y3
        have x0 : w7.cell? ⟨w.heap.size, 0, none⟩ = some (.int .i64 (24)) := (hw7.cells _ _ (by simp)).trans (by go_simp)
        have x1 : w7.cell? ⟨w.heap.size, 1, none⟩ = some (.int .i64 (-126)) := (hw7.cells _ _ (by simp)).trans (by go_simp)
        have x2 : w7.cell? ⟨w.heap.size, 2, none⟩ = some (.int .i64 (127)) := (hw7.cells _ _ (by simp)).trans (by go_simp)
        have x3 : w7.cell? ⟨w.heap.size, 3, none⟩ = some (.int .i64 (8)) := (hw7.cells _ _ (by simp)).trans (by go_simp)
        go_upto_if 81 with fail
        go_cut [15, 16] (fun sk sq wx => sk = .int .i64 K2 ∧ PtrI (w.alloc (.cells #[.int .i64 24, .int .i64 (-126), .int .i64 127, .int .i64 8] 60)) (Q2 : Int) sq wx ∧ Within (w.alloc (.cells #[.int .i64 24, .int .i64 (-126), .int .i64 127, .int .i64 8] 60)) wx)
        case first =>
          by_cases hN : 24 < (NB : Int)
          · have hv : QQ / 2 ^ 1 = Q2 := by have h1 := HQ2'.out; rw [h1, if_pos hN]
            have hk : K + 1 = K2 := by have h1 := HK2.out; rw [h1, if_pos hN]
            have HV := Lib.hid hv; have HKK := Lib.hid hk; clear hv hk
            have hN' : 24 < NB := by omega
            go_wp2_with fail
            refine (Brsh gR gR 1 QQ (Nat.le_trans HQs.out (by decide)) (by decide) w7 hJ.ty hJ).mono ?_; rintro e8 w8 ⟨rfl, hI8, hG8⟩
            rw [HV.out] at hI8
            have hb8 : Within (w.alloc (.cells #[.int .i64 24, .int .i64 (-126), .int .i64 127, .int .i64 8] 60)) w8 := Within.grown hw7 hG8 hgr
            go_wp2_with fail
            go_meet
            exact ⟨by rw [HKK.out], ⟨_, rfl, hI8, hgr⟩, hb8⟩
          · have hv : QQ = Q2 := by have h1 := HQ2'.out; rw [h1, if_neg hN]
            have hk : K = K2 := by have h1 := HK2.out; rw [h1, if_neg hN]
            rw [hv] at hJ
            have HKK := Lib.hid hk; clear hv hk
            have hN' : NB ≤ 24 := by omega
            go_wp2_with fail
            go_meet
            exact ⟨by rw [HKK.out], ⟨_, rfl, hJ, hgr⟩, hw7⟩
        case rest =>
          obtain ⟨rfl, ⟨gT, rfl, hIt, hgt⟩, hw''⟩ := hcut
          have x0 : wc.cell? ⟨w.heap.size, 0, none⟩ = some (.int .i64 (24)) := (hw''.cells _ _ (by simp)).trans (by go_simp)
          have x1 : wc.cell? ⟨w.heap.size, 1, none⟩ = some (.int .i64 (-126)) := (hw''.cells _ _ (by simp)).trans (by go_simp)
          have x2 : wc.cell? ⟨w.heap.size, 2, none⟩ = some (.int .i64 (127)) := (hw''.cells _ _ (by simp)).trans (by go_simp)
          have x3 : wc.cell? ⟨w.heap.size, 3, none⟩ = some (.int .i64 (8)) := (hw''.cells _ _ (by simp)).trans (by go_simp)
          have s1 : IntKind.i64.wrap (K2 + (N2 : Int)) = K2 + (N2 : Int) := by rw [IntKind.wrap_i64]; omega
          have s2 : IntKind.i64.wrap (K2 + (N2 : Int) - 1) = K2 + (N2 : Int) - 1 := by rw [IntKind.wrap_i64]; omega
          go_upto_region 19 with fail
          refine wp_region_schG (fun W => W.cell? ⟨w.heap.size, 0, none⟩ = some (.int .i64 (24)) ∧ W.cell? ⟨w.heap.size, 1, none⟩ = some (.int .i64 (-126)) ∧ W.cell? ⟨w.heap.size, 2, none⟩ = some (.int .i64 (127)) ∧ W.cell? ⟨w.heap.size, 3, none⟩ = some (.int .i64 (8)) ∧ IntB W gT (Q2 : Int) ∧ Within (w.alloc (.cells #[.int .i64 24, .int .i64 (-126), .int .i64 127, .int .i64 8] 60)) W) 7 (.firm 0 (.firm 1 (.firm 5 (.firm 6 (.one 2 (.one 3 (.one 4 (.one 7 .nil)))))))) (by kernel_rfl) (by kernel_rfl) ⟨x0, x1, x2, x3, hIt, hw''⟩ ?_
          rintro w0 ⟨y0, y1, y2, y3, hJ, hw0⟩
          try simp only [Act.put, List.setIfInBounds_toArray, List.set_cons_zero, List.set_cons_succ]
          have hs0 : w.heap.size < w0.heap.size := by have := hw0.sizes; simp at this; omega
          repeat
            apply sch_firm rfl rfl (by repeat (with_reducible first | exact Within.refl _ | assumption | refine Within.alloc ?_ _ | refine Within.drew ?_ | refine Within.drewN ?_ _ | refine Within.setCell ?_ (by first | (simp; done) | (simp; omega)) _ | refine Within.trans ?_ (by assumption)))
            · intro wq hq
              have hcq := hq.cells
              clear hq
              go_simp
              first | rfl | (trace_state; fail)
            try simp only [Act.put, List.setIfInBounds_toArray, List.set_cons_zero, List.set_cons_succ]
          refine sch_one rfl rfl (fun K hK => ?_)
          go_simp
          refine (Bbitlen gT Q2 (by rw [Int.natAbs_natCast]; exact HQs2.out) _ (hJ.of (Within.refl _).drew)).mono ?_; rintro e9 w9 ⟨rfl, hb9⟩
          rw [Int.natAbs_natCast, ← HN2.out]
          have hv9 : Within w0 w9 := (Within.refl w0).drew.trans hb9
          refine hK _ _ (fun _ => (by repeat (with_reducible first | exact Within.refl _ | assumption | refine Within.alloc ?_ _ | refine Within.drew ?_ | refine Within.drewN ?_ _ | refine Within.setCell ?_ (by first | (simp; done) | (simp; omega)) _ | refine Within.trans ?_ (by assumption)))) ?_
          clear hK K
          try simp only [Act.put, List.setIfInBounds_toArray, List.set_cons_zero, List.set_cons_succ]
          refine sch_one rfl rfl (fun K hK => ?_)
          go_simp
          refine hK _ _ (fun _ => (by repeat (with_reducible first | exact Within.refl _ | assumption | refine Within.alloc ?_ _ | refine Within.drew ?_ | refine Within.drewN ?_ _ | refine Within.setCell ?_ (by first | (simp; done) | (simp; omega)) _ | refine Within.trans ?_ (by assumption)))) ?_
          clear hK K
          try simp only [Act.put, List.setIfInBounds_toArray, List.set_cons_zero, List.set_cons_succ]
          refine sch_one rfl rfl (fun K hK => ?_)
          go_simp
          refine hK _ _ (fun _ => (by repeat (with_reducible first | exact Within.refl _ | assumption | refine Within.alloc ?_ _ | refine Within.drew ?_ | refine Within.drewN ?_ _ | refine Within.setCell ?_ (by first | (simp; done) | (simp; omega)) _ | refine Within.trans ?_ (by assumption)))) ?_
          clear hK K
          try simp only [Act.put, List.setIfInBounds_toArray, List.set_cons_zero, List.set_cons_succ]
          refine sch_one rfl rfl (fun K hK => ?_)
          go_simp
          refine hK _ _ (fun h => absurd h (by decide)) ?_
          clear hK K
          try simp only [Act.put, List.setIfInBounds_toArray, List.set_cons_zero, List.set_cons_succ]
          refine sch_nil ?_
          have hw9 := hw0.trans hv9
          have hJ := hJ.of hv9
          clear x0 x1 x2 x3 y0 y1 y2 y3
          have x0 : w9.cell? ⟨w.heap.size, 0, none⟩ = some (.int .i64 (24)) := (hw9.cells _ _ (by simp)).trans (by go_simp)
          have x1 : w9.cell? ⟨w.heap.size, 1, none⟩ = some (.int .i64 (-126)) := (hw9.cells _ _ (by simp)).trans (by go_simp)
          have x2 : w9.cell? ⟨w.heap.size, 2, none⟩ = some (.int .i64 (127)) := (hw9.cells _ _ (by simp)).trans (by go_simp)
          have x3 : w9.cell? ⟨w.heap.size, 3, none⟩ = some (.int .i64 (8)) := (hw9.cells _ _ (by simp)).trans (by go_simp)
          by_cases hov : 127 < K2 + (N2 : Int) - 1
          · have hO : gOver 24 (-149) 127 ng M e more mode = true := by unfold gOver; rw [HGK.out, ← HQX.out, ← HNB.out]; exact decide_eq_true (by have := HE.out.2.1; omega)
            have hV := HWD.out; rw [hO, if_pos rfl] at hV
            have hF := HFL.out; rw [hO, if_pos rfl] at hF
            have RO := fun (w' : World) => RoverS ng mode w'
            rw [← hV] at RO
            have HRO := Lib.hid RO; have HFF5 := Lib.hid hF; clear RO hV hF hO
            go_wp2_with fail
            refine (HRO.out _).mono ?_; rintro e10 w10 ⟨rfl, hb10⟩
            go_wp2
            go_ret2
            exact ⟨ret2 rfl (v_int HFF5.out.symm), ((Within.refl w).alloc _).trans (hw9.trans hb10)⟩
          · have hov' : K2 + (N2 : Int) - 1 ≤ 127 := by omega
            have hO : gOver 24 (-149) 127 ng M e more mode = false := by unfold gOver; rw [HGK.out, ← HQX.out, ← HNB.out]; exact decide_eq_false (by have := HE.out.2.1; omega)
            have hV := HWD.out; rw [hO, if_neg Bool.false_ne_true, HGK.out, ← HQX.out] at hV
            have hF := HFL.out; rw [hO, if_neg Bool.false_ne_true, ← HFF.out] at hF
            have HVV := Lib.hid hV; have HFF5 := Lib.hid hF; clear hV hF hO
            go_upto_region 21 with fail
            refine wp_region_schG (fun W => W.cell? ⟨w.heap.size, 0, none⟩ = some (.int .i64 (24)) ∧ W.cell? ⟨w.heap.size, 1, none⟩ = some (.int .i64 (-126)) ∧ W.cell? ⟨w.heap.size, 2, none⟩ = some (.int .i64 (127)) ∧ W.cell? ⟨w.heap.size, 3, none⟩ = some (.int .i64 (8)) ∧ IntB W gT (Q2 : Int) ∧ Within (w.alloc (.cells #[.int .i64 24, .int .i64 (-126), .int .i64 127, .int .i64 8] 60)) W) 4 (.firm 0 (.firm 2 (.firm 3 (.one 1 (.one 4 .nil))))) (by kernel_rfl) (by kernel_rfl) ⟨x0, x1, x2, x3, hJ, hw9⟩ ?_
            rintro w0 ⟨y0, y1, y2, y3, hJ, hw0⟩
            try simp only [Act.put, List.setIfInBounds_toArray, List.set_cons_zero, List.set_cons_succ]
            have hs0 : w.heap.size < w0.heap.size := by have := hw0.sizes; simp at this; omega
            repeat
              apply sch_firm rfl rfl (by repeat (with_reducible first | exact Within.refl _ | assumption | refine Within.alloc ?_ _ | refine Within.drew ?_ | refine Within.drewN ?_ _ | refine Within.setCell ?_ (by first | (simp; done) | (simp; omega)) _ | refine Within.trans ?_ (by assumption)))
              · intro wq hq
                have hcq := hq.cells
                clear hq
                go_simp
                first | rfl | (trace_state; fail)
              try simp only [Act.put, List.setIfInBounds_toArray, List.set_cons_zero, List.set_cons_succ]
            refine sch_one rfl rfl (fun K hK => ?_)
            go_simp
            refine (Bbitlen gT Q2 (by rw [Int.natAbs_natCast]; exact HQs2.out) _ (hJ.of (Within.refl _).drew)).mono ?_; rintro e11 w11 ⟨rfl, hb11⟩
            rw [Int.natAbs_natCast, ← HN2.out]
            have hv11 : Within w0 w11 := (Within.refl w0).drew.trans hb11
            refine hK _ _ (fun _ => (by repeat (with_reducible first | exact Within.refl _ | assumption | refine Within.alloc ?_ _ | refine Within.drew ?_ | refine Within.drewN ?_ _ | refine Within.setCell ?_ (by first | (simp; done) | (simp; omega)) _ | refine Within.trans ?_ (by assumption)))) ?_
            clear hK K
            try simp only [Act.put, List.setIfInBounds_toArray, List.set_cons_zero, List.set_cons_succ]
            refine sch_one rfl rfl (fun K hK => ?_)
            go_simp
            refine hK _ _ (fun h => absurd h (by decide)) ?_
            clear hK K
            try simp only [Act.put, List.setIfInBounds_toArray, List.set_cons_zero, List.set_cons_succ]
            refine sch_nil ?_
            have hw11 := hw0.trans hv11
            have hJ := hJ.of hv11
            clear x0 x1 x2 x3 y0 y1 y2 y3
            have x0 : w11.cell? ⟨w.heap.size, 0, none⟩ = some (.int .i64 (24)) := (hw11.cells _ _ (by simp)).trans (by go_simp)
            have x1 : w11.cell? ⟨w.heap.size, 1, none⟩ = some (.int .i64 (-126)) := (hw11.cells _ _ (by simp)).trans (by go_simp)
            have x2 : w11.cell? ⟨w.heap.size, 2, none⟩ = some (.int .i64 (127)) := (hw11.cells _ _ (by simp)).trans (by go_simp)
            have x3 : w11.cell? ⟨w.heap.size, 3, none⟩ = some (.int .i64 (8)) := (hw11.cells _ _ (by simp)).trans (by go_simp)
            by_cases hn : N2 < 24
            · have hn' : (N2 : Int) < 24 := by omega
              obtain ⟨q1, q2, q3⟩ := HE.out.2.2.1 hn
              have hql2 : Q2 < 8388608 := Nat.lt_of_lt_of_le (blen_lt Q2) (by rw [← HN2.out]; exact Nat.pow_le_pow_right (by decide) (show N2 ≤ 23 by omega))
              have RP := fun (w' : World) => RputS ng 0 Q2 (by decide) hql2 w'
              have hvv : 0 * 8388608 + Q2 + (if ng then 2147483648 else 0) = WD := by rw [HVV.out, q2, q1]; simp
              rw [hvv] at RP
              have HRP := Lib.hid RP; clear RP hvv q1 q2 q3
              have RU := Lib.hid (fun (w' : World) (h : IntB w' gT (Q2 : Int)) => Buint64 gT Q2 (by rw [Int.natAbs_natCast]; exact HQs2.out) w' h)
              have hmod : (Q2 : Int).natAbs % 18446744073709551616 = Q2 := by rw [Int.natAbs_natCast]; omega
              rw [hmod] at RU
              have HQL2 := Lib.hid hql2; clear hmod hql2
              go_upto_region 22 with fail
              refine wp_region_schG (fun W => W.cell? ⟨w.heap.size, 0, none⟩ = some (.int .i64 (24)) ∧ W.cell? ⟨w.heap.size, 1, none⟩ = some (.int .i64 (-126)) ∧ W.cell? ⟨w.heap.size, 2, none⟩ = some (.int .i64 (127)) ∧ W.cell? ⟨w.heap.size, 3, none⟩ = some (.int .i64 (8)) ∧ IntB W gT (Q2 : Int) ∧ Within (w.alloc (.cells #[.int .i64 24, .int .i64 (-126), .int .i64 127, .int .i64 8] 60)) W) 7 (.firm 0 (.firm 1 (.firm 2 (.firm 5 (.one 3 (.one 4 (.one 6 (.one 7 .nil)))))))) (by kernel_rfl) (by kernel_rfl) ⟨x0, x1, x2, x3, hJ, hw11⟩ ?_
              rintro w0 ⟨y0, y1, y2, y3, hJ, hw0⟩
              try simp only [Act.put, List.setIfInBounds_toArray, List.set_cons_zero, List.set_cons_succ]
              have hs0 : w.heap.size < w0.heap.size := by have := hw0.sizes; simp at this; omega
              repeat
                apply sch_firm rfl rfl (by repeat (with_reducible first | exact Within.refl _ | assumption | refine Within.alloc ?_ _ | refine Within.drew ?_ | refine Within.drewN ?_ _ | refine Within.setCell ?_ (by first | (simp; done) | (simp; omega)) _ | refine Within.trans ?_ (by assumption)))
                · intro wq hq
                  have hcq := hq.cells
                  clear hq
                  go_simp
                  first | rfl | (trace_state; fail)
                try simp only [Act.put, List.setIfInBounds_toArray, List.set_cons_zero, List.set_cons_succ]
              refine sch_one rfl rfl (fun K hK => ?_)
              go_simp
              refine (RU.out _ (hJ.of (Within.refl _).drew)).mono ?_; rintro e12 w12 ⟨rfl, rfl⟩
              refine hK _ _ (fun _ => (by repeat (with_reducible first | exact Within.refl _ | assumption | refine Within.alloc ?_ _ | refine Within.drew ?_ | refine Within.drewN ?_ _ | refine Within.setCell ?_ (by first | (simp; done) | (simp; omega)) _ | refine Within.trans ?_ (by assumption)))) ?_
              clear hK K
              try simp only [Act.put, List.setIfInBounds_toArray, List.set_cons_zero, List.set_cons_succ]
              refine sch_one rfl rfl (fun K hK => ?_)
              go_simp
              refine (HRP.out _).mono ?_; rintro e13 w13 ⟨rfl, hb13⟩
              have hv13 : Within w0 w13 := (Within.refl w0).drew.trans hb13
              refine hK _ _ (fun _ => (by repeat (with_reducible first | exact Within.refl _ | assumption | refine Within.alloc ?_ _ | refine Within.drew ?_ | refine Within.drewN ?_ _ | refine Within.setCell ?_ (by first | (simp; done) | (simp; omega)) _ | refine Within.trans ?_ (by assumption)))) ?_
              clear hK K
              try simp only [Act.put, List.setIfInBounds_toArray, List.set_cons_zero, List.set_cons_succ]
              refine sch_one rfl rfl (fun K hK => ?_)
              go_simp
              refine hK _ _ (fun _ => (by repeat (with_reducible first | exact Within.refl _ | assumption | refine Within.alloc ?_ _ | refine Within.drew ?_ | refine Within.drewN ?_ _ | refine Within.setCell ?_ (by first | (simp; done) | (simp; omega)) _ | refine Within.trans ?_ (by assumption)))) ?_
              clear hK K
              try simp only [Act.put, List.setIfInBounds_toArray, List.set_cons_zero, List.set_cons_succ]
              refine sch_one rfl rfl (fun K hK => ?_)
              go_simp
              refine hK _ _ (fun h => absurd h (by decide)) ?_
              clear hK K
              try simp only [Act.put, List.setIfInBounds_toArray, List.set_cons_zero, List.set_cons_succ]
              refine sch_nil ?_
              go_wp2
              go_ret2
              exact ⟨ret2 rfl (v_int HFF5.out.symm), ((Within.refl w).alloc _).trans (hw0.trans hv13)⟩
            · have hn' : 24 ≤ (N2 : Int) := by omega
              obtain ⟨q1, q2, q3⟩ := HE.out.2.2.2.1 (by omega)
              have q4 := HE.out.2.2.2.2
              rw [show (2 : Nat) ^ (24 - 1) = 8388608 from rfl] at q1 q3
              rw [show (2 : Nat) ^ 24 = 16777216 from rfl] at q2
              obtain ⟨fd, hfd⟩ : ∃ fd : Nat, K2 + 149 + 1 = (fd : Int) := ⟨(K2 + 149 + 1).toNat, by omega⟩
              have hfl : fd < 256 := by omega
              have RP := fun (w' : World) => RputS ng fd (Q2 - 8388608) hfl (by omega) w'
              have hvv : fd * 8388608 + (Q2 - 8388608) + (if ng then 2147483648 else 0) = WD := by rw [HVV.out, ← q3, show (K2 - -149).toNat = fd - 1 by omega, fld_join fd Q2 8388608 (by omega) q1]
              rw [hvv] at RP
              have HRP := Lib.hid RP; clear RP hvv q3
              have RU := Lib.hid (fun (w' : World) (h : IntB w' gT (Q2 : Int)) => Buint64 gT Q2 (by rw [Int.natAbs_natCast]; exact HQs2.out) w' h)
              have hmod : (Q2 : Int).natAbs % 18446744073709551616 = Q2 := by rw [Int.natAbs_natCast]; omega
              have e9 : Q2 % 8388608 = Q2 - 8388608 := by omega
              have ga := u64_mask 23 (by decide) Q2 (by omega)
              rw [show (2 ^ 23 - 1 : Nat) = 8388607 from rfl, show (2 ^ 23 : Nat) = 8388608 from rfl, e9, show ((8388607 : Nat) : Int) = 8388607 from rfl] at ga
              clear e9
              rw [hmod] at RU
              have HQL2 := Lib.hid (And.intro q1 q2); clear hmod q1 q2
              have k0 : IntKind.i64.wrap 23 = 23 := by decide
              have k1 : IntKind.u64.wrap 23 = 23 := by decide
              have k2 : IntKind.u64.wrap 8388608 = 8388608 := by decide
              have k3 : IntKind.u64.wrap 8388607 = 8388607 := by decide
              have k9 : (2 : Int) ^ min (Int.toNat 23) 64 = 8388608 := by decide
              go_upto_region 24 with fail
              refine wp_region_schG (fun W => W.cell? ⟨w.heap.size, 0, none⟩ = some (.int .i64 (24)) ∧ W.cell? ⟨w.heap.size, 1, none⟩ = some (.int .i64 (-126)) ∧ W.cell? ⟨w.heap.size, 2, none⟩ = some (.int .i64 (127)) ∧ W.cell? ⟨w.heap.size, 3, none⟩ = some (.int .i64 (8)) ∧ IntB W gT (Q2 : Int) ∧ Within (w.alloc (.cells #[.int .i64 24, .int .i64 (-126), .int .i64 127, .int .i64 8] 60)) W) 15 (.firm 0 (.firm 1 (.firm 2 (.firm 3 (.firm 5 (.firm 6 (.firm 7 (.firm 8 (.firm 9 (.firm 10 (.firm 13 (.one 4 (.one 11 (.one 12 (.one 14 (.one 15 .nil)))))))))))))))) (by kernel_rfl) (by kernel_rfl) ⟨x0, x1, x2, x3, hJ, hw11⟩ ?_
              rintro w0 ⟨y0, y1, y2, y3, hJ, hw0⟩
              try simp only [Act.put, List.setIfInBounds_toArray, List.set_cons_zero, List.set_cons_succ]
              have hs0 : w.heap.size < w0.heap.size := by have := hw0.sizes; simp at this; omega
              repeat
                apply sch_firm rfl rfl (by repeat (with_reducible first | exact Within.refl _ | assumption | refine Within.alloc ?_ _ | refine Within.drew ?_ | refine Within.drewN ?_ _ | refine Within.setCell ?_ (by first | (simp; done) | (simp; omega)) _ | refine Within.trans ?_ (by assumption)))
                · intro wq hq
                  have hcq := hq.cells
                  clear hq
                  go_simp
                  first | rfl | (trace_state; fail)
                try simp only [Act.put, List.setIfInBounds_toArray, List.set_cons_zero, List.set_cons_succ]
              refine sch_one rfl rfl (fun K hK => ?_)
              go_simp
              refine (RU.out _ (hJ.of (Within.refl _).drew)).mono ?_; rintro e12 w12 ⟨rfl, rfl⟩
              refine hK _ _ (fun _ => (by repeat (with_reducible first | exact Within.refl _ | assumption | refine Within.alloc ?_ _ | refine Within.drew ?_ | refine Within.drewN ?_ _ | refine Within.setCell ?_ (by first | (simp; done) | (simp; omega)) _ | refine Within.trans ?_ (by assumption)))) ?_
              clear hK K
              try simp only [Act.put, List.setIfInBounds_toArray, List.set_cons_zero, List.set_cons_succ]
              refine sch_one rfl rfl (fun K hK => ?_)
              go_simp
              refine hK _ _ (fun _ => (by repeat (with_reducible first | exact Within.refl _ | assumption | refine Within.alloc ?_ _ | refine Within.drew ?_ | refine Within.drewN ?_ _ | refine Within.setCell ?_ (by first | (simp; done) | (simp; omega)) _ | refine Within.trans ?_ (by assumption)))) ?_
              clear hK K
              try simp only [Act.put, List.setIfInBounds_toArray, List.set_cons_zero, List.set_cons_succ]
              refine sch_one rfl rfl (fun K hK => ?_)
              go_simp
              refine (HRP.out _).mono ?_; rintro e13 w13 ⟨rfl, hb13⟩
              have hv13 : Within w0 w13 := (Within.refl w0).drew.trans hb13
              refine hK _ _ (fun _ => (by repeat (with_reducible first | exact Within.refl _ | assumption | refine Within.alloc ?_ _ | refine Within.drew ?_ | refine Within.drewN ?_ _ | refine Within.setCell ?_ (by first | (simp; done) | (simp; omega)) _ | refine Within.trans ?_ (by assumption)))) ?_
              clear hK K
              try simp only [Act.put, List.setIfInBounds_toArray, List.set_cons_zero, List.set_cons_succ]
              refine sch_one rfl rfl (fun K hK => ?_)
              go_simp
              refine hK _ _ (fun _ => (by repeat (with_reducible first | exact Within.refl _ | assumption | refine Within.alloc ?_ _ | refine Within.drew ?_ | refine Within.drewN ?_ _ | refine Within.setCell ?_ (by first | (simp; done) | (simp; omega)) _ | refine Within.trans ?_ (by assumption)))) ?_
              clear hK K
              try simp only [Act.put, List.setIfInBounds_toArray, List.set_cons_zero, List.set_cons_succ]
              refine sch_one rfl rfl (fun K hK => ?_)
              go_simp
              refine hK _ _ (fun h => absurd h (by decide)) ?_
              clear hK K
              try simp only [Act.put, List.setIfInBounds_toArray, List.set_cons_zero, List.set_cons_succ]
              refine sch_nil ?_
              go_wp2
              go_ret2
              exact ⟨ret2 rfl (v_int HFF5.out.symm), ((Within.refl w).alloc _).trans (hw0.trans hv13)⟩
theorem RroundS (ng more : Bool) (g M : Nat) (e mode : Int) (he : -50000 ≤ e ∧ e ≤ 50000) (hM : (dg M).length ≤ 900) (hM0 : M ≠ 0) (w : World) (hI : IntB w g (M : Int)) : Calls Tryz.prog 55 #[fmS, .bool ng, .pointer (some ⟨g, 0, none⟩), .int .i64 e, .bool more, .int .i64 mode] w (fun e' w' => e' = .returned (.tuple #[.int .u64 (gWord 24 (-149) 127 2139095039 2139095040 8388608 2147483648 ng M e more mode : Int), .int .i64 (gFlags 24 (-149) 127 ng M e more mode)]) ∧ Within w w') :=
  Round0S ng more g M (blen M) e mode _ rfl (Nat.le_trans (blen_of_dg hM) (by decide)) he (Nat.le_trans hM (by decide)) rfl hM0 _ _ rfl rfl w hI
end Go.Proofs.YtifgngmebnjfkaaGreatDoor
end

section
namespace Go.Proofs.YtifgngmebnjfkaaGreatDoor
open Go.RowKit
def nghtS (b : Bool) : Nat := if b then 2147483648 else 0
set_option maxRecDepth 100000 in
set_option maxHeartbeats 600000 in
theorem RnoughtS (b : Bool) (w : World) : Calls Tryz.prog 54 #[fmS, .bool b] w (fun e w' => e = .returned (.int .u64 (nghtS b : Nat)) ∧ Within w w') := by
  cases b
  · exact RnoughtS_0 w
  · exact RnoughtS_1 w
set_option maxRecDepth 100000 in
set_option maxHeartbeats 600000 in
theorem RinfinityS (b : Bool) (w : World) : Calls Tryz.prog 90 #[fmS, .bool b] w (fun e w' => e = .returned (.int .u64 ((2139095040 + nghtS b : Nat) : Int)) ∧ Within w w') := by
  cases b
  · exact RinfinityS_0 w
  · exact RinfinityS_1 w
set_option maxRecDepth 100000 in
set_option maxHeartbeats 600000 in
theorem Rsingle (x : Nat) (hx : x < 4294967296) (w : World) : Calls Tryz.prog 35 #[.int .u32 (x : Int)] w (fun e w' => ∃ g, e = .returned (.agg #[.int .i64 (kS x), .bool (nS x), .pointer (some ⟨g, 0, none⟩), .int .i64 (eS x)]) ∧ IntB w' g (mS x : Int) ∧ w.heap.size ≤ g ∧ Within w w') := by
  have TK := Lib.hid (fun w' => RtakeXS x hx w')
  have hwx : IntKind.u64.wrap (x : Int) = (x : Int) := IntWalk.u64_in _ ⟨by omega, by omega⟩
  clear hx
  go_enter Tryz.func35, Tryz.ntmps35
  go_wp2_with fail
  refine (RSingle _).mono ?_; rintro e1 w1 ⟨rfl, hb1⟩
  go_wp2_with fail
  refine (TK.out _).mono ?_; rintro e2 w2 ⟨g, rfl, hI2, hg2, hb2⟩
  have hX := Within.trans hb1 hb2
  have hgg : w.heap.size + 1 ≤ g := Nat.le_trans (Nat.le_trans (by simp) hb1.sizes) hg2
  have r0 : w2.cell? ⟨w.heap.size, 0, none⟩ = some (.int .i64 0) := (hX.cells _ _ (by simp)).trans (by go_simp)
  have r1 : w2.cell? ⟨w.heap.size, 1, none⟩ = some (.bool false) := (hX.cells _ _ (by simp)).trans (by go_simp)
  have r2 : w2.cell? ⟨w.heap.size, 2, none⟩ = some (.pointer none) := (hX.cells _ _ (by simp)).trans (by go_simp)
  have r3 : w2.cell? ⟨w.heap.size, 3, none⟩ = some (.int .i64 0) := (hX.cells _ _ (by simp)).trans (by go_simp)
  have rf : ∀ o, w2.frozen? ⟨w.heap.size, o, none⟩ = false := fun o => (hX.frozens _ _ (by simp)).trans (by go_simp)
  have hl1 : w.heap.size < w2.heap.size := World.block_lt_of_cell? w2 _ r0
  have tr : NumTy w2 w.heap.size := ⟨_, (hX.block _ (by simp)).trans (hp_new _ _ _ (by simp))⟩
  have hww := ((Within.refl w).alloc _).trans hX
  go_wp2
  refine bodyPost_ret (v := .agg #[.int .i64 (kS x), .bool (nS x), .pointer (some ⟨g, 0, none⟩), .int .i64 (eS x)]) (by simp [results, Tryz.results35, go_sem, r0, r1, r2, r3, hl1]) rfl ⟨g, rfl, ?_, by omega, ?_⟩
  · exact (by repeat (with_reducible first | assumption | refine NumTy.set ?_ _ _ | refine IntB.setNum ?_ (by show g ≠ w.heap.size; omega) ?_ _))
  · exact (by repeat (with_reducible first | exact Within.refl _ | assumption | refine Within.alloc ?_ _ | refine Within.drew ?_ | refine Within.drewN ?_ _ | refine Within.setCell ?_ (by first | (simp; done) | (simp; omega)) _ | refine Within.trans ?_ (by assumption)))
set_option maxRecDepth 100000 in
set_option maxHeartbeats 600000 in
theorem Rdone_yes (b : Nat) (hb : b < 4294967296) (fl mode : Int) (h : 0 ≤ mode ∧ mode ≤ 4) (w : World) : Calls Tryz.prog 36 #[.int .u64 (b : Int), .int .i64 fl, .int .i64 mode] w (fun e w' => e = .returned (.tuple #[.int .u32 (b : Int), .int .i64 fl, .int .i64 0]) ∧ Within w w') := by
  have KN := Lib.hid (fun w' => Rknown_yes mode h w')
  have hwx : IntKind.u32.wrap (b : Int) = (b : Int) := IntWalk.u32_in _ ⟨by omega, by omega⟩
  clear hb h
  go_enter Tryz.func36, Tryz.ntmps36
  go_wp2_with fail
  refine (KN.out _).mono ?_; rintro e1 w1 ⟨rfl, rfl⟩
  go_wp2
  go_ret3
  exact ⟨rfl, Within.refl _⟩
set_option maxRecDepth 100000 in
set_option maxHeartbeats 600000 in
theorem Rdone_no (b : Nat) (fl mode : Int) (h : ¬ (0 ≤ mode ∧ mode ≤ 4)) (w : World) : Calls Tryz.prog 36 #[.int .u64 (b : Int), .int .i64 fl, .int .i64 mode] w (fun e w' => e = .returned (.tuple #[.int .u32 0, .int .i64 0, .int .i64 20]) ∧ Within w w') := by
  have KN : Hid (∀ w', Calls Tryz.prog 47 #[.int .i64 mode] w' (fun e w'' => e = .returned (.bool false) ∧ w' = w'')) := Lib.hid (fun w' => by have := Rknown mode w'; rw [decide_eq_false h] at this; exact this)
  clear h
  go_enter Tryz.func36, Tryz.ntmps36
  go_wp2_with fail
  refine (KN.out _).mono ?_; rintro e1 w1 ⟨rfl, rfl⟩
  go_wp2
  go_ret3
  exact ⟨rfl, Within.refl _⟩
set_option maxRecDepth 100000 in
set_option maxHeartbeats 600000 in
theorem Rzero_one (ng : Bool) (mode : Int) (w : World) : Calls Tryz.prog 107 #[fmS, .bool true, .bool ng, .int .i64 mode] w (fun e w' => e = .returned (.int .u64 (nghtS ng : Nat)) ∧ Within w w') := by
  have NO := Lib.hid (fun w' => RnoughtS ng w')
  go_enter Tryz.func107, Tryz.ntmps107
  go_wp2_with fail
  refine (NO.out _).mono ?_; rintro e1 w1 ⟨rfl, hb1⟩
  go_wp2
  go_ret
  exact ⟨rfl, (by repeat (with_reducible first | exact Within.refl _ | assumption | refine Within.alloc ?_ _ | refine Within.drew ?_ | refine Within.drewN ?_ _ | refine Within.setCell ?_ (by first | (simp; done) | (simp; omega)) _ | refine Within.trans ?_ (by assumption)))⟩
set_option maxRecDepth 100000 in
set_option maxHeartbeats 600000 in
theorem Rzero_two (ng : Bool) (mode : Int) (w : World) : Calls Tryz.prog 107 #[fmS, .bool false, .bool ng, .int .i64 mode] w (fun e w' => e = .returned (.int .u64 (nghtS (decide (mode = 4)) : Nat)) ∧ Within w w') := by
  have NO := Lib.hid (fun w' => RnoughtS (decide (mode = 4)) w')
  have dm : (mode == 4) = decide (mode = 4) := by rw [Bool.eq_iff_iff]; simp
  go_enter Tryz.func107, Tryz.ntmps107
  go_wp2_with fail
  refine (NO.out _).mono ?_; rintro e1 w1 ⟨rfl, hb1⟩
  go_wp2
  go_ret
  exact ⟨rfl, (by repeat (with_reducible first | exact Within.refl _ | assumption | refine Within.alloc ?_ _ | refine Within.drew ?_ | refine Within.drewN ?_ _ | refine Within.setCell ?_ (by first | (simp; done) | (simp; omega)) _ | refine Within.trans ?_ (by assumption)))⟩
set_option maxRecDepth 100000 in
set_option maxHeartbeats 600000 in
theorem Rtimes (k1 k2 E1 E2 : Int) (b1 b2 : Bool) (g1 g2 M1 M2 : Nat) (h1 : -5000 ≤ E1 ∧ E1 ≤ 5000) (h2 : -5000 ≤ E2 ∧ E2 ≤ 5000) (l1 : (dg M1).length ≤ 400) (l2 : (dg M2).length ≤ 400) (w : World) (hI1 : IntB w g1 (M1 : Int)) (hI2 : IntB w g2 (M2 : Int)) : Calls Tryz.prog 81 #[.agg #[.int .i64 k1, .bool b1, .pointer (some ⟨g1, 0, none⟩), .int .i64 E1], .agg #[.int .i64 k2, .bool b2, .pointer (some ⟨g2, 0, none⟩), .int .i64 E2]] w (fun en w' => ∃ g, en = .returned (.agg #[.int .i64 0, .bool (b1 != b2), .pointer (some ⟨g, 0, none⟩), .int .i64 (E1 + E2)]) ∧ IntB w' g ((M1 * M2 : Nat) : Int) ∧ w.heap.size ≤ g ∧ Within w w') := by
  have MU := Lib.hid (fun (z : Nat) (w' : World) (hz : IntTy w' z) (hx : IntB w' g1 (M1 : Int)) (hy : IntB w' g2 (M2 : Int)) => Bmul z g1 g2 (M1 : Int) (M2 : Int) (Nat.le_trans l1 (by decide)) (Nat.le_trans l2 (by decide)) w' hz hx hy)
  obtain ⟨PM, hPM⟩ : ∃ P : Nat, P = M1 * M2 := ⟨_, rfl⟩
  have hPM2 : (M1 : Int) * (M2 : Int) = (PM : Int) := by rw [hPM, Int.natCast_mul]
  rw [hPM2] at MU
  rw [← hPM]
  have hwE : IntKind.i64.wrap (E1 + E2) = E1 + E2 := IntWalk.i64_in _ ⟨by omega, by omega⟩
  clear hPM hPM2 h1 h2 l1 l2
  go_enter Tryz.func81, Tryz.ntmps81
  go_upto_region 1 with fail
  refine wp_region_schG (fun W => W.cell? ⟨w.heap.size, 0, none⟩ = some (.int .i64 k1) ∧ W.cell? ⟨w.heap.size, 1, none⟩ = some (.bool b1) ∧ W.cell? ⟨w.heap.size, 2, none⟩ = some (.pointer (some ⟨g1, 0, none⟩)) ∧ W.cell? ⟨w.heap.size, 3, none⟩ = some (.int .i64 E1) ∧ W.cell? ⟨w.heap.size + 1, 0, none⟩ = some (.int .i64 k2) ∧ W.cell? ⟨w.heap.size + 1, 1, none⟩ = some (.bool b2) ∧ W.cell? ⟨w.heap.size + 1, 2, none⟩ = some (.pointer (some ⟨g2, 0, none⟩)) ∧ W.cell? ⟨w.heap.size + 1, 3, none⟩ = some (.int .i64 E2) ∧ IntB W g1 (M1 : Int) ∧ IntB W g2 (M2 : Int) ∧ Within (((w.alloc (.cells #[.int .i64 k1, .bool b1, .pointer (some ⟨g1, 0, none⟩), .int .i64 E1] 65)).alloc (.cells #[.int .i64 k2, .bool b2, .pointer (some ⟨g2, 0, none⟩), .int .i64 E2] 65)).alloc (.cells #[.int .i64 0, .bool false, .pointer none, .int .i64 0] 65)) W ∧ W.cell? ⟨w.heap.size + 1 + 1, 0, none⟩ = some (.int .i64 0) ∧ W.cell? ⟨w.heap.size + 1 + 1, 1, none⟩ = some (.bool false) ∧ W.cell? ⟨w.heap.size + 1 + 1, 2, none⟩ = some (.pointer none) ∧ W.cell? ⟨w.heap.size + 1 + 1, 3, none⟩ = some (.int .i64 0) ∧ (∀ o, W.frozen? ⟨w.heap.size + 1 + 1, o, none⟩ = false) ∧ NumTy W (w.heap.size + 1 + 1) ∧ w.heap.size < W.heap.size ∧ w.heap.size + 1 < W.heap.size ∧ w.heap.size + 1 + 1 < W.heap.size) 17 (.firm 0 (.firm 1 (.firm 2 (.firm 3 (.firm 4 (.firm 6 (.firm 7 (.firm 8 (.firm 9 (.firm 11 (.firm 12 (.firm 13 (.firm 14 (.firm 15 (.one 5 (.one 10 (.firm 16 (.one 17 .nil)))))))))))))))))) (by kernel_rfl) (by kernel_rfl) ⟨by go_simp, by go_simp, by go_simp, by go_simp, by go_simp, by go_simp, by go_simp, by go_simp, (by repeat (with_reducible first | assumption | exact ib_new _ _ (by simp; done) | refine IntB.alloc ?_ _ | refine IntB.drew ?_ | refine IntB.drewN ?_ _)), (by repeat (with_reducible first | assumption | exact ib_new _ _ (by simp; done) | refine IntB.alloc ?_ _ | refine IntB.drew ?_ | refine IntB.drewN ?_ _)), Within.refl _, by go_simp, by go_simp, by go_simp, by go_simp, by intro o; go_simp, ⟨_, hp_new _ _ _ (by simp)⟩, by first | (simp; done) | (simp; omega), by first | (simp; done) | (simp; omega), by first | (simp; done) | (simp; omega)⟩ ?_
  rintro w0 ⟨c0, c1, c2, c3, c4, c5, c6, c7, hJ1, hJ2, hw0, r0, r1, r2, r3, rf, tr, hs0, hs1, hs2⟩
  try simp only [Act.put, List.setIfInBounds_toArray, List.set_cons_zero, List.set_cons_succ]
  iterate 14
    apply sch_firm rfl rfl (by repeat (with_reducible first | exact Within.refl _ | assumption | refine Within.alloc ?_ _ | refine Within.drew ?_ | refine Within.drewN ?_ _ | refine Within.setCell ?_ (by first | (simp; done) | (simp; omega)) _ | refine Within.trans ?_ (by assumption)))
    · intro wq hq
      have hcq := hq.cells
      clear hq
      go_simp
      rfl
    try simp only [Act.put, List.setIfInBounds_toArray, List.set_cons_zero, List.set_cons_succ]
  refine sch_one rfl rfl (fun K hK => ?_)
  go_simp
  refine hK _ _ (fun _ => (by repeat (with_reducible first | exact Within.refl _ | assumption | refine Within.alloc ?_ _ | refine Within.drew ?_ | refine Within.drewN ?_ _ | refine Within.setCell ?_ (by first | (simp; done) | (simp; omega)) _ | refine Within.trans ?_ (by assumption)))) ?_
  clear hK K
  try simp only [Act.put, List.setIfInBounds_toArray, List.set_cons_zero, List.set_cons_succ]
  refine sch_one rfl rfl (fun K hK => ?_)
  go_simp
  refine (MU.out _ _ (by repeat (with_reducible first | assumption | exact ty_new _ _ _ _ (by simp; done) | refine ty_drew ?_ | refine ty_alloc ?_ _)) (by repeat (with_reducible first | assumption | exact ib_new _ _ (by simp; done) | refine IntB.alloc ?_ _ | refine IntB.drew ?_ | refine IntB.drewN ?_ _)) (by repeat (with_reducible first | assumption | exact ib_new _ _ (by simp; done) | refine IntB.alloc ?_ _ | refine IntB.drew ?_ | refine IntB.drewN ?_ _))).mono ?_; rintro e4 w4 ⟨rfl, hA, hG⟩
  have hv4 : Within w0 w4 := Within.grown (by repeat (with_reducible first | exact Within.refl _ | assumption | refine Within.alloc ?_ _ | refine Within.drew ?_ | refine Within.drewN ?_ _ | refine Within.setCell ?_ (by first | (simp; done) | (simp; omega)) _ | refine Within.trans ?_ (by assumption))) hG (by first | (simp; done) | (simp; omega))
  clear hG
  refine hK _ _ (fun _ => (by repeat (with_reducible first | exact Within.refl _ | assumption | refine Within.alloc ?_ _ | refine Within.drew ?_ | refine Within.drewN ?_ _ | refine Within.setCell ?_ (by first | (simp; done) | (simp; omega)) _ | refine Within.trans ?_ (by assumption)))) ?_
  clear hK K
  try simp only [Act.put, List.setIfInBounds_toArray, List.set_cons_zero, List.set_cons_succ]
  apply sch_firm rfl rfl (by repeat (with_reducible first | exact Within.refl _ | assumption | refine Within.alloc ?_ _ | refine Within.drew ?_ | refine Within.drewN ?_ _ | refine Within.setCell ?_ (by first | (simp; done) | (simp; omega)) _ | refine Within.trans ?_ (by assumption)))
  · intro wq hq
    have hcq := hq.cells
    clear hq
    go_simp
    rfl
  try simp only [Act.put, List.setIfInBounds_toArray, List.set_cons_zero, List.set_cons_succ]
  refine sch_one rfl rfl (fun K hK => ?_)
  have q0 := (hv4.cells _ _ hs2).trans r0
  have q1 := (hv4.cells _ _ hs2).trans r1
  have q2 := (hv4.cells _ _ hs2).trans r2
  have q3 := (hv4.cells _ _ hs2).trans r3
  have qf := fun o => (hv4.frozens _ o hs2).trans (rf o)
  have qs := Nat.lt_of_lt_of_le hs2 hv4.sizes
  go_simp
  refine hK _ _ (fun h => absurd h (by decide)) ?_
  clear hK K
  try simp only [Act.put, List.setIfInBounds_toArray, List.set_cons_zero, List.set_cons_succ]
  refine sch_nil ?_
  have hz : w.heap.size + 1 + 1 < w0.heap.size := hs2
  have hw4 : Within w w4 := Within.trans ((((Within.refl w).alloc _).alloc _).alloc _) (hw0.trans hv4)
  obtain ⟨ct, htr⟩ := tr
  have tr4 : NumTy w4 (w.heap.size + 1 + 1) := ⟨ct, (hv4.block _ hs2).trans htr⟩
  go_wp2
  refine bodyPost_ret (v := .agg #[.int .i64 0, .bool (!(b1 == b2)), .pointer (some ⟨w0.heap.size, 0, none⟩), .int .i64 (E1 + E2)]) (by simp [results, Tryz.results81, go_sem, q0, q1, q2, q3, qs]) rfl ⟨w0.heap.size, rfl, ?_, by omega, ?_⟩
  · exact (by repeat (with_reducible first | assumption | refine NumTy.set ?_ _ _ | refine IntB.setNum ?_ (by show w0.heap.size ≠ w.heap.size + 1 + 1; omega) ?_ _))
  · exact (by repeat (with_reducible first | exact Within.refl _ | assumption | refine Within.alloc ?_ _ | refine Within.drew ?_ | refine Within.drewN ?_ _ | refine Within.setCell ?_ (by first | (simp; done) | (simp; omega)) _ | refine Within.trans ?_ (by assumption)))
end Go.Proofs.YtifgngmebnjfkaaGreatDoor
end

section
namespace Go.Proofs.YtifgngmebnjfkaaGreatDoor
open Go.RowKit
def sWS (k : Int) (ng : Bool) (M : Nat) (e mode : Int) : Nat := if k = 2 then 2143289344 else if k = 1 then 2139095040 + (if ng then 2147483648 else 0) else if M = 0 then (if ng then 2147483648 else 0) else gWord 24 (-149) 127 2139095039 2139095040 8388608 2147483648 ng M e false mode
def sFS (k : Int) (ng : Bool) (M : Nat) (e mode : Int) : Int := if k = 2 then 0 else if k = 1 then 0 else if M = 0 then 0 else gFlags 24 (-149) 127 ng M e false mode
theorem sWS_nan (ng : Bool) (M : Nat) (e mode : Int) : sWS 2 ng M e mode = 2143289344 := if_pos rfl
theorem sWS_inf (ng : Bool) (M : Nat) (e mode : Int) : sWS 1 ng M e mode = 2139095040 + (if ng then 2147483648 else 0) := by unfold sWS; rw [if_neg (show ¬ (1 : Int) = 2 by decide), if_pos rfl]
theorem sWS_zero (ng : Bool) (e mode : Int) : sWS 0 ng 0 e mode = (if ng then 2147483648 else 0) := by unfold sWS; rw [if_neg (show ¬ (0 : Int) = 2 by decide), if_neg (show ¬ (0 : Int) = 1 by decide), if_pos rfl]
theorem sWS_main (ng : Bool) {M : Nat} (h : M ≠ 0) (e mode : Int) : sWS 0 ng M e mode = gWord 24 (-149) 127 2139095039 2139095040 8388608 2147483648 ng M e false mode := by unfold sWS; rw [if_neg (show ¬ (0 : Int) = 2 by decide), if_neg (show ¬ (0 : Int) = 1 by decide), if_neg h]
theorem sFS_nan (ng : Bool) (M : Nat) (e mode : Int) : sFS 2 ng M e mode = 0 := if_pos rfl
theorem sFS_inf (ng : Bool) (M : Nat) (e mode : Int) : sFS 1 ng M e mode = 0 := by unfold sFS; rw [if_neg (show ¬ (1 : Int) = 2 by decide), if_pos rfl]
theorem sFS_zero (ng : Bool) (e mode : Int) : sFS 0 ng 0 e mode = 0 := by unfold sFS; rw [if_neg (show ¬ (0 : Int) = 2 by decide), if_neg (show ¬ (0 : Int) = 1 by decide), if_pos rfl]
theorem sFS_main (ng : Bool) {M : Nat} (h : M ≠ 0) (e mode : Int) : sFS 0 ng M e mode = gFlags 24 (-149) 127 ng M e false mode := by unfold sFS; rw [if_neg (show ¬ (0 : Int) = 2 by decide), if_neg (show ¬ (0 : Int) = 1 by decide), if_neg h]
set_option maxRecDepth 100000 in
set_option maxHeartbeats 600000 in
theorem RsameS_nan (ng : Bool) (g : Nat) (e mode : Int) (w : World) : Calls Tryz.prog 51 #[fmS, .agg #[.int .i64 2, .bool ng, .pointer (some ⟨g, 0, none⟩), .int .i64 e], .int .i64 mode] w (fun e' w' => e' = .returned (.tuple #[.int .u64 (2143289344), .int .i64 0]) ∧ Within w w') := by
  go_enter Tryz.func51, Tryz.ntmps51
  go_wp2_with fail
  refine (RnoneS _).mono ?_; rintro e1 w1 ⟨rfl, hb1⟩
  go_wp2
  go_ret2
  exact ⟨rfl, (by repeat (with_reducible first | exact Within.refl _ | assumption | refine Within.alloc ?_ _ | refine Within.drew ?_ | refine Within.drewN ?_ _ | refine Within.setCell ?_ (by first | (simp; done) | (simp; omega)) _ | refine Within.trans ?_ (by assumption)))⟩
set_option maxRecDepth 100000 in
set_option maxHeartbeats 600000 in
theorem RsameS_inf0 (g : Nat) (e mode : Int) (w : World) : Calls Tryz.prog 51 #[fmS, .agg #[.int .i64 1, .bool false, .pointer (some ⟨g, 0, none⟩), .int .i64 e], .int .i64 mode] w (fun e' w' => e' = .returned (.tuple #[.int .u64 (2139095040), .int .i64 0]) ∧ Within w w') := by
  go_enter Tryz.func51, Tryz.ntmps51
  go_wp2_with fail
  refine (RinfinityS_0 _).mono ?_; rintro e1 w1 ⟨rfl, hb1⟩
  go_wp2
  go_ret2
  exact ⟨rfl, (by repeat (with_reducible first | exact Within.refl _ | assumption | refine Within.alloc ?_ _ | refine Within.drew ?_ | refine Within.drewN ?_ _ | refine Within.setCell ?_ (by first | (simp; done) | (simp; omega)) _ | refine Within.trans ?_ (by assumption)))⟩
set_option maxRecDepth 100000 in
set_option maxHeartbeats 600000 in
theorem RsameS_zero0 (g : Nat) (e mode : Int) (w : World) (hI : IntB w g 0) : Calls Tryz.prog 51 #[fmS, .agg #[.int .i64 0, .bool false, .pointer (some ⟨g, 0, none⟩), .int .i64 e], .int .i64 mode] w (fun e' w' => e' = .returned (.tuple #[.int .u64 (0), .int .i64 0]) ∧ Within w w') := by
  have IZ := fun (w' : World) (h : IntB w' g 0) => Riszero 0 e 0 false g w' h
  rw [show decide ((0 : Int) = 0 ∧ (0 : Int) = 0) = true from rfl] at IZ
  have HIZ := Lib.hid IZ; clear IZ
  go_enter Tryz.func51, Tryz.ntmps51
  go_wp2_with fail
  refine (HIZ.out _ (by repeat (with_reducible first | assumption | exact ib_new _ _ (by simp; done) | refine IntB.alloc ?_ _ | refine IntB.drewN ?_ _))).mono ?_; rintro e1 w1 ⟨rfl, hb1⟩
  have hc1 := hb1.cells
  go_wp2_with fail
  refine (RnoughtS_0 _).mono ?_; rintro e2 w2 ⟨rfl, hb2⟩
  go_wp2
  go_ret2
  exact ⟨rfl, (by repeat (with_reducible first | exact Within.refl _ | assumption | refine Within.alloc ?_ _ | refine Within.drew ?_ | refine Within.drewN ?_ _ | refine Within.setCell ?_ (by first | (simp; done) | (simp; omega)) _ | refine Within.trans ?_ (by assumption)))⟩
set_option maxRecDepth 100000 in
set_option maxHeartbeats 600000 in
theorem RsameS_inf1 (g : Nat) (e mode : Int) (w : World) : Calls Tryz.prog 51 #[fmS, .agg #[.int .i64 1, .bool true, .pointer (some ⟨g, 0, none⟩), .int .i64 e], .int .i64 mode] w (fun e' w' => e' = .returned (.tuple #[.int .u64 (4286578688), .int .i64 0]) ∧ Within w w') := by
  go_enter Tryz.func51, Tryz.ntmps51
  go_wp2_with fail
  refine (RinfinityS_1 _).mono ?_; rintro e1 w1 ⟨rfl, hb1⟩
  go_wp2
  go_ret2
  exact ⟨rfl, (by repeat (with_reducible first | exact Within.refl _ | assumption | refine Within.alloc ?_ _ | refine Within.drew ?_ | refine Within.drewN ?_ _ | refine Within.setCell ?_ (by first | (simp; done) | (simp; omega)) _ | refine Within.trans ?_ (by assumption)))⟩
set_option maxRecDepth 100000 in
set_option maxHeartbeats 600000 in
theorem RsameS_zero1 (g : Nat) (e mode : Int) (w : World) (hI : IntB w g 0) : Calls Tryz.prog 51 #[fmS, .agg #[.int .i64 0, .bool true, .pointer (some ⟨g, 0, none⟩), .int .i64 e], .int .i64 mode] w (fun e' w' => e' = .returned (.tuple #[.int .u64 (2147483648), .int .i64 0]) ∧ Within w w') := by
  have IZ := fun (w' : World) (h : IntB w' g 0) => Riszero 0 e 0 true g w' h
  rw [show decide ((0 : Int) = 0 ∧ (0 : Int) = 0) = true from rfl] at IZ
  have HIZ := Lib.hid IZ; clear IZ
  go_enter Tryz.func51, Tryz.ntmps51
  go_wp2_with fail
  refine (HIZ.out _ (by repeat (with_reducible first | assumption | exact ib_new _ _ (by simp; done) | refine IntB.alloc ?_ _ | refine IntB.drewN ?_ _))).mono ?_; rintro e1 w1 ⟨rfl, hb1⟩
  have hc1 := hb1.cells
  go_wp2_with fail
  refine (RnoughtS_1 _).mono ?_; rintro e2 w2 ⟨rfl, hb2⟩
  go_wp2
  go_ret2
  exact ⟨rfl, (by repeat (with_reducible first | exact Within.refl _ | assumption | refine Within.alloc ?_ _ | refine Within.drew ?_ | refine Within.drewN ?_ _ | refine Within.setCell ?_ (by first | (simp; done) | (simp; omega)) _ | refine Within.trans ?_ (by assumption)))⟩
set_option maxRecDepth 100000 in
set_option maxHeartbeats 600000 in
theorem RsameS_main (ng : Bool) (g M W : Nat) (e mode F : Int) (hM0 : M ≠ 0) (w : World) (hI : IntB w g (M : Int)) (RR : Hid (∀ w, IntB w g (M : Int) → Calls Tryz.prog 55 #[fmS, .bool ng, .pointer (some ⟨g, 0, none⟩), .int .i64 e, .bool false, .int .i64 mode] w (fun e' w' => e' = .returned (.tuple #[.int .u64 (W : Int), .int .i64 F]) ∧ Within w w'))) : Calls Tryz.prog 51 #[fmS, .agg #[.int .i64 0, .bool ng, .pointer (some ⟨g, 0, none⟩), .int .i64 e], .int .i64 mode] w (fun e' w' => e' = .returned (.tuple #[.int .u64 ((W : Int)), .int .i64 F]) ∧ Within w w') := by
  have IZ := fun (w' : World) (h : IntB w' g (M : Int)) => Riszero 0 e M ng g w' h
  rw [decide_eq_false (fun h => hM0 (by have := h.2; omega))] at IZ
  have HIZ := Lib.hid IZ; clear IZ
  go_enter Tryz.func51, Tryz.ntmps51
  go_wp2_with fail
  refine (HIZ.out _ (by repeat (with_reducible first | assumption | exact ib_new _ _ (by simp; done) | refine IntB.alloc ?_ _ | refine IntB.drewN ?_ _))).mono ?_; rintro e1 w1 ⟨rfl, hb1⟩
  have hc1 := hb1.cells
  have hI1 : IntB w1 g (M : Int) := ((hI.alloc _).alloc _).of hb1
  go_wp2_with fail
  refine (RR.out _ hI1).mono ?_; rintro e2 w2 ⟨rfl, hb2⟩
  go_wp2
  go_ret2
  exact ⟨rfl, (by repeat (with_reducible first | exact Within.refl _ | assumption | refine Within.alloc ?_ _ | refine Within.drew ?_ | refine Within.drewN ?_ _ | refine Within.setCell ?_ (by first | (simp; done) | (simp; omega)) _ | refine Within.trans ?_ (by assumption)))⟩
theorem RsameS (k : Int) (ng : Bool) (g M : Nat) (e mode : Int) (hk : k = 0 ∨ k = 1 ∨ k = 2) (he : -50000 ≤ e ∧ e ≤ 50000) (hM : (dg M).length ≤ 900) (w : World) (hI : IntB w g (M : Int)) : Calls Tryz.prog 51 #[fmS, .agg #[.int .i64 k, .bool ng, .pointer (some ⟨g, 0, none⟩), .int .i64 e], .int .i64 mode] w (fun e' w' => e' = .returned (.tuple #[.int .u64 ((sWS k ng M e mode : Int)), .int .i64 (sFS k ng M e mode)]) ∧ Within w w') := by
  rcases hk with rfl | rfl | rfl
  · by_cases h : M = 0
    · subst h
      rw [sWS_zero, sFS_zero]
      cases ng
      · exact RsameS_zero0 g e mode w hI
      · exact RsameS_zero1 g e mode w hI
    · rw [sWS_main ng h, sFS_main ng h]
      exact RsameS_main ng g M _ e mode _ h w hI (Lib.hid fun w' hI' => RroundS ng false g M e mode he hM h w' hI')
  · rw [sWS_inf, sFS_inf]
    cases ng
    · exact RsameS_inf0 g e mode w
    · exact RsameS_inf1 g e mode w
  · rw [sWS_nan, sFS_nan]
    exact RsameS_nan ng g e mode w
end Go.Proofs.YtifgngmebnjfkaaGreatDoor
end

section
namespace Go.Proofs.YtifgngmebnjfkaaGreatDoor
theorem cutQ_scale (m s j : Nat) (neg : Bool) (mode : Int) : cutQ (m * 2 ^ j) (s + j) neg mode = cutQ m s neg mode := by
  unfold cutQ goes
  have hj := Nat.two_pow_pos j
  have e1 : m * 2 ^ j / 2 ^ (s + j) = m / 2 ^ s := by rw [Nat.pow_add, Nat.mul_div_mul_right _ _ hj]
  have e2 : m * 2 ^ j % 2 ^ (s + j) = m % 2 ^ s * 2 ^ j := by rw [Nat.pow_add, Nat.mul_mod_mul_right]
  rw [e1, e2, Nat.pow_add]
  generalize m % 2 ^ s = r
  generalize m / 2 ^ s = q
  generalize 2 ^ s = p
  generalize 2 ^ j = t at *
  have c0 : (r * t = 0) ↔ r = 0 := by
    constructor
    · intro h; rcases Nat.mul_eq_zero.1 h with h | h
      · exact h
      · omega
    · intro h; rw [h, Nat.zero_mul]
  have c1 : (p * t < 2 * (r * t)) ↔ p < 2 * r := by rw [← Nat.mul_assoc]; exact Nat.mul_lt_mul_right hj
  have c2 : (p * t = 2 * (r * t)) ↔ p = 2 * r := by rw [← Nat.mul_assoc]; exact ⟨fun h => Nat.eq_of_mul_eq_mul_right hj h, fun h => by rw [h]⟩
  have c3 : (p * t ≤ 2 * (r * t)) ↔ p ≤ 2 * r := by rw [← Nat.mul_assoc]; exact Nat.mul_le_mul_right_iff hj
  simp only [c0, c1, c2, c3]
theorem cutQ_zero (m : Nat) (neg : Bool) (mode : Int) : cutQ m 0 neg mode = m := by
  unfold cutQ goes
  rw [if_pos (by rw [Nat.pow_zero, Nat.mod_one]), Nat.pow_zero, Nat.div_one]; rfl
theorem rQ_fine (D lo : Int) (neg : Bool) (m : Nat) (e mode : Int) (J : Nat) (h1 : 0 ≤ e + J) (h2 : 0 ≤ rK D lo m e + J) :
    rQ D lo neg m e mode = cutQ (m * 2 ^ (e + J).toNat) (rK D lo m e + J).toNat neg mode := by
  unfold rQ
  generalize rK D lo m e = k at *
  split
  · have e1 : m * 2 ^ (e + J).toNat = m * 2 ^ (-(k - e)).toNat * 2 ^ (k + J).toNat := by
      rw [Nat.mul_assoc, ← Nat.pow_add]; congr 2; omega
    have := cutQ_scale (m * 2 ^ (-(k - e)).toNat) 0 (k + J).toNat neg mode
    rw [Nat.zero_add, cutQ_zero] at this
    rw [e1, this]
  · have := cutQ_scale m (k - e).toNat (e + J).toNat neg mode
    rw [← this]; congr 1; omega
end Go.Proofs.YtifgngmebnjfkaaGreatDoor
end

section
namespace Go.Proofs.YtifgngmebnjfkaaGreatDoor
theorem blen_bitLen {m : Nat} (hm : m < 18446744073709551616) : blen m = Lib.bitLen m := by
  by_cases h : m = 0
  · subst h; rfl
  · rw [blen_pos h, bitLen_log2 m h hm]
theorem blen_mul (m k : Nat) (h : m ≠ 0) : blen (m * 2 ^ k) = blen m + k := by
  have h2 : m * 2 ^ k ≠ 0 := Nat.mul_ne_zero h (Nat.ne_of_gt (Nat.two_pow_pos k))
  rw [blen_pos h, blen_pos h2, Fp.log2_mul_pow m k h]; omega
theorem upB_cut (ng : Bool) (M s : Nat) (mode : Int) (hs : 1 ≤ s) : upB ng (M / 2 ^ s) (cutC M s false) mode = goes M s ng mode := by
  have hh := half_pow s hs
  unfold goes cutC
  by_cases h0 : M % 2 ^ s = 0
  · rw [if_pos h0, if_pos ⟨h0, rfl⟩]
    unfold upB
    repeat' split
    all_goals simp
  · rw [if_neg h0, if_neg (fun h => h0 h.1), if_neg (fun h => by simp at h)]
    generalize M % 2 ^ s = r at *
    generalize M / 2 ^ s = q at *
    generalize 2 ^ (s - 1) = H at *
    generalize 2 ^ s = Z at *
    subst hh
    unfold upB
    have c1 : (0 < cmpN r H) ↔ 2 * H < 2 * r := by unfold cmpN; repeat' split
                                                   all_goals omega
    have c2 : (cmpN r H = 0) ↔ 2 * H = 2 * r := by unfold cmpN; repeat' split
                                                   all_goals omega
    have c3 : (0 ≤ cmpN r H) ↔ 2 * H ≤ 2 * r := by unfold cmpN; repeat' split
                                                   all_goals omega
    have c4 : -2 < cmpN r H := by have := cmpN_range r H; omega
    by_cases m0 : mode = 0
    · rw [if_pos m0, if_pos m0, decide_eq_decide.2 c1, decide_eq_decide.2 c2]
    rw [if_neg m0, if_neg m0]
    by_cases m1 : mode = 1
    · rw [if_pos m1, if_pos m1, decide_eq_decide.2 c3]
    rw [if_neg m1, if_neg m1]
    by_cases m3 : mode = 3
    · rw [if_pos m3, if_pos m3, decide_eq_true c4, Bool.and_true]
    rw [if_neg m3, if_neg m3]
    by_cases m4 : mode = 4
    · rw [if_pos m4, if_pos m4, decide_eq_true c4, Bool.and_true]
    rw [if_neg m4, if_neg m4]
theorem upB_exact (ng : Bool) (q : Nat) (mode : Int) : upB ng q (-2) mode = false := by
  unfold upB
  repeat' split
  all_goals simp
theorem gQ_fine (D lo : Int) (ng : Bool) (M : Nat) (e mode : Int) (J : Nat) (h1 : 0 ≤ e + J) (h2 : 0 ≤ gK D lo M e + J) :
    gQ D lo ng M e false mode = cutQ (M * 2 ^ (e + J).toNat) (gK D lo M e + J).toNat ng mode := by
  unfold gQ gq gc
  generalize gK D lo M e = k at *
  by_cases h : k ≤ e
  · rw [if_pos h, if_pos h, if_neg Bool.false_ne_true, upB_exact]
    have e1 : M * 2 ^ (e + J).toNat = M * 2 ^ (e - k).toNat * 2 ^ (k + J).toNat := by
      rw [Nat.mul_assoc, ← Nat.pow_add]; congr 2; omega
    have := cutQ_scale (M * 2 ^ (e - k).toNat) 0 (k + J).toNat ng mode
    rw [Nat.zero_add, cutQ_zero] at this
    rw [e1, this]; simp
  · rw [if_neg h, if_neg h, upB_cut _ _ _ _ (by omega)]
    have := cutQ_scale M (k - e).toNat (e + J).toNat ng mode
    rw [show (k - e).toNat + (e + J).toNat = (k + J).toNat by omega] at this
    rw [this]; rfl
theorem gc_fine (D lo : Int) (M : Nat) (e : Int) (J : Nat) (h1 : 0 ≤ e + J) (h2 : 0 ≤ gK D lo M e + J) :
    (-2 < gc D lo M e false) ↔ M * 2 ^ (e + J).toNat % 2 ^ (gK D lo M e + J).toNat ≠ 0 := by
  unfold gc
  generalize gK D lo M e = k at *
  by_cases h : k ≤ e
  · rw [if_pos h, if_neg Bool.false_ne_true]
    have e1 : M * 2 ^ (e + J).toNat = M * 2 ^ (e - k).toNat * 2 ^ (k + J).toNat := by
      rw [Nat.mul_assoc, ← Nat.pow_add]; congr 2; omega
    rw [e1, Nat.mul_mod_left]; simp
  · rw [if_neg h]
    obtain ⟨s, hs⟩ : ∃ s, s = (k - e).toNat := ⟨_, rfl⟩
    rw [← hs, show (k + J).toNat = s + (e + J).toNat by omega, Nat.pow_add, Nat.mul_mod_mul_right]
    have hp := Nat.two_pow_pos (e + J).toNat
    unfold cutC
    by_cases h0 : M % 2 ^ s = 0
    · rw [if_pos ⟨h0, rfl⟩, h0]; simp
    · rw [if_neg (fun h => h0 h.1), if_neg (fun h => by simp at h)]
      have := cmpN_range (M % 2 ^ s) (2 ^ (s - 1))
      constructor
      · intro _ h
        rcases Nat.mul_eq_zero.1 h with h | h
        · exact h0 h
        · omega
      · intro _; omega
theorem rLost_fine (D lo : Int) (m : Nat) (e : Int) (J : Nat) (h1 : 0 ≤ e + J) (h2 : 0 ≤ rK D lo m e + J) :
    rLost D lo m e = decide (m * 2 ^ (e + J).toNat % 2 ^ (rK D lo m e + J).toNat ≠ 0) := by
  unfold rLost
  generalize rK D lo m e = k at *
  by_cases h : k - e ≤ 0
  · rw [if_pos h]
    have e1 : m * 2 ^ (e + J).toNat = m * 2 ^ (e - k).toNat * 2 ^ (k + J).toNat := by
      rw [Nat.mul_assoc, ← Nat.pow_add]; congr 2; omega
    rw [e1, Nat.mul_mod_left]; simp
  · rw [if_neg h]
    obtain ⟨s, hs⟩ : ∃ s, s = (k - e).toNat := ⟨_, rfl⟩
    rw [← hs, show (k + J).toNat = s + (e + J).toNat by omega, Nat.pow_add, Nat.mul_mod_mul_right, decide_eq_decide]
    have hp := Nat.two_pow_pos (e + J).toNat
    constructor
    · intro h0 h
      rcases Nat.mul_eq_zero.1 h with h | h
      · exact h0 h
      · omega
    · intro h0 h; rw [h, Nat.zero_mul] at h0; exact h0 rfl
theorem g_is_r {D lo : Int} {ng : Bool} {m M : Nat} {e E mode : Int} (J : Nat) (h1 : 0 ≤ e + J) (h2 : 0 ≤ E + J) (h3 : 0 ≤ lo + J) (hm0 : m ≠ 0) (hm : m < 18446744073709551616) (hv : m * 2 ^ (e + J).toNat = M * 2 ^ (E + J).toNat) :
    gK D lo M E = rK D lo m e ∧ gQ D lo ng M E false mode = rQ D lo ng m e mode ∧ (decide (-2 < gc D lo M E false) = rLost D lo m e) ∧ E + (blen M : Nat) = e + (Lib.bitLen m : Nat) ∧ M ≠ 0 := by
  have hM0 : M ≠ 0 := by
    intro h; rw [h, Nat.zero_mul] at hv
    exact Nat.mul_ne_zero hm0 (Nat.ne_of_gt (Nat.two_pow_pos _)) hv
  have hb : E + (blen M : Nat) = e + (Lib.bitLen m : Nat) := by
    have b1 := blen_mul m (e + J).toNat hm0
    have b2 := blen_mul M (E + J).toNat hM0
    rw [hv, b2, blen_bitLen hm] at b1
    omega
  have hk : gK D lo M E = rK D lo m e := by unfold gK rK; rw [hb]
  have hk0 : 0 ≤ rK D lo m e + J := by have : lo ≤ rK D lo m e := Int.le_max_right _ _; omega
  refine ⟨hk, ?_, ?_, hb, hM0⟩
  · rw [gQ_fine D lo ng M E mode J h2 (by omega), rQ_fine D lo ng m e mode J h1 hk0, hk, hv]
  · rw [rLost_fine D lo m e J h1 hk0, decide_eq_decide, gc_fine D lo M E J h2 (by omega), hk, hv]
theorem topR_is : topR = rTop := rfl
theorem gFlags_is {D lo most : Int} {ng : Bool} {m M : Nat} {e E mode : Int} (J : Nat) (h1 : 0 ≤ e + J) (h2 : 0 ≤ E + J) (h3 : 0 ≤ lo + J) (hm0 : m ≠ 0) (hm : m < 18446744073709551616) (hv : m * 2 ^ (e + J).toNat = M * 2 ^ (E + J).toNat) (hQ : rQ D lo ng m e mode < 18446744073709551616) :
    gFlags D lo most ng M E false mode = rFlags D lo most ng m e mode ∧ gOver D lo most ng M E false mode = rOver D lo most ng m e mode := by
  obtain ⟨k1, k2, k3, k4, _⟩ := g_is_r (D := D) (lo := lo) (ng := ng) (mode := mode) J h1 h2 h3 hm0 hm hv
  have ho : gOver D lo most ng M E false mode = rOver D lo most ng m e mode := by
    unfold gOver rOver; rw [k1, k2, blen_bitLen hQ]
  refine ⟨?_, ho⟩
  unfold gFlags rFlags gFl
  rw [ho, k4, ← k3]
  by_cases h : rOver D lo most ng m e mode = true
  · rw [if_pos h, if_pos h]
  · rw [if_neg h, if_neg h]
    by_cases h2 : -2 < gc D lo M E false
    · rw [if_pos h2, if_pos (decide_eq_true h2)]
    · rw [if_neg h2, decide_eq_false h2, if_neg Bool.false_ne_true]
theorem grid_rung (f : Ieee.Format) (F q j : Nat) (hF : f.fractionBits = F) (h : q ≤ 2 ^ (F + 1)) (h2 : 2 ^ F ≤ q ∨ j = 0) : Fp.grid f (q * 2 ^ j) 0 = j * 2 ^ F + q := by
  have hb : f.binade = 2 ^ F := by show 2 ^ f.fractionBits = _; rw [hF]
  unfold Fp.grid
  rw [hb, hF]
  by_cases h0 : q = 0
  · subst h0
    rcases h2 with h2 | h2
    · have := Nat.two_pow_pos F; omega
    · subst h2; simp [Fp.rne]
  rw [Fp.log2_mul_pow q j h0]
  by_cases hq : q < 2 ^ F
  · have hj : j = 0 := by rcases h2 with h2 | h2 <;> omega
    have hl : q.log2 < F := (Nat.log2_lt h0).2 hq
    subst hj
    rw [show max (q.log2 + 0 - F) 0 = 0 by omega]
    rw [Nat.pow_zero, Nat.mul_one, Fp.rne_one]; all_goals simp
  · by_cases hq2 : q < 2 ^ (F + 1)
    · have hl : q.log2 = F := (Nat.log2_eq_iff h0).2 ⟨by omega, hq2⟩
      rw [hl, show max (F + j - F) 0 = j by omega, Fp.rne_mul q _ (Nat.two_pow_pos j)]; all_goals simp
    · have hqe : q = 2 ^ (F + 1) := by omega
      subst hqe
      rw [Nat.log2_two_pow, show max (F + 1 + j - F) 0 = j + 1 by omega]
      have e : 2 ^ (F + 1) * 2 ^ j = 2 ^ F * 2 ^ (j + 1) := by rw [← Nat.pow_add, ← Nat.pow_add]; congr 1; omega
      rw [e, Fp.rne_mul _ _ (Nat.two_pow_pos _), Nat.pow_succ]
      rw [Nat.sub_zero, Nat.add_mul]; omega
end Go.Proofs.YtifgngmebnjfkaaGreatDoor
end

section
namespace Go.Proofs.YtifgngmebnjfkaaGreatDoor
theorem cut_same {m n t : Nat} (h1 : m / 2 ^ t = n / 2 ^ t) (h2 : m % 2 ^ t = 0 ↔ n % 2 ^ t = 0) (neg : Bool) (mode : Int) : cutQ m (t + 1) neg mode = cutQ n (t + 1) neg mode ∧ (m % 2 ^ (t + 1) = 0 ↔ n % 2 ^ (t + 1) = 0) := by
  have hp : 2 ^ (t + 1) = 2 ^ t * 2 := Nat.pow_succ 2 t
  have key : ∀ m : Nat, m / 2 ^ (t + 1) = m / 2 ^ t / 2 ∧ m % 2 ^ (t + 1) = m % 2 ^ t + 2 ^ t * (m / 2 ^ t % 2) := by
    intro m
    rw [hp]
    exact ⟨(Nat.div_div_eq_div_mul m _ _).symm, Nat.mod_mul⟩
  obtain ⟨a1, a2⟩ := key m
  obtain ⟨b1, b2⟩ := key n
  have hm := Nat.mod_lt m (Nat.two_pow_pos t)
  have hn := Nat.mod_lt n (Nat.two_pow_pos t)
  unfold cutQ goes
  rw [a1, b1, a2, b2, h1, hp]
  generalize n / 2 ^ t = q at *
  generalize m % 2 ^ t = r at *
  generalize n % 2 ^ t = r' at *
  generalize 2 ^ t = Z at *
  clear key a1 a2 b1 b2 h1 hp
  rcases Nat.mod_two_eq_zero_or_one q with hq | hq
  · rw [hq, Nat.mul_zero, Nat.add_zero, Nat.add_zero]
    refine ⟨?_, h2⟩
    have e1 : (r = 0) = (r' = 0) := propext h2
    have e2 : (Z * 2 < 2 * r) = (Z * 2 < 2 * r') := propext (by omega)
    have e3 : (Z * 2 = 2 * r) = (Z * 2 = 2 * r') := propext (by omega)
    have e4 : (Z * 2 ≤ 2 * r) = (Z * 2 ≤ 2 * r') := propext (by omega)
    simp only [e1, e2, e3, e4]
  · rw [hq, Nat.mul_one]
    refine ⟨?_, by omega⟩
    have e1 : (r + Z = 0) = (r' + Z = 0) := propext (by omega)
    have e2 : (Z * 2 < 2 * (r + Z)) = (Z * 2 < 2 * (r' + Z)) := propext (by omega)
    have e3 : (Z * 2 = 2 * (r + Z)) = (Z * 2 = 2 * (r' + Z)) := propext (by omega)
    have e4 : (Z * 2 ≤ 2 * (r + Z)) = (Z * 2 ≤ 2 * (r' + Z)) := propext (by omega)
    simp only [e1, e2, e3, e4]
theorem g_near {D lo : Int} {ng : Bool} {m M : Nat} {e E mode : Int} (J t : Nat) (h1 : 0 ≤ e + J) (h2 : 0 ≤ E + J) (ht : rK D lo m e + J = (t : Int) + 1) (hb : E + (blen M : Nat) = e + (Lib.bitLen m : Nat))
    (hf : M * 2 ^ (E + J).toNat / 2 ^ t = m * 2 ^ (e + J).toNat / 2 ^ t) (hz : M * 2 ^ (E + J).toNat % 2 ^ t = 0 ↔ m * 2 ^ (e + J).toNat % 2 ^ t = 0) :
    gK D lo M E = rK D lo m e ∧ gQ D lo ng M E false mode = rQ D lo ng m e mode ∧ (decide (-2 < gc D lo M E false) = rLost D lo m e) := by
  have hk : gK D lo M E = rK D lo m e := by unfold gK rK; rw [hb]
  obtain ⟨c1, c2⟩ := cut_same hf hz ng mode
  have hN : (rK D lo m e + J).toNat = t + 1 := by omega
  refine ⟨hk, ?_, ?_⟩
  · rw [gQ_fine D lo ng M E mode J h2 (by omega), rQ_fine D lo ng m e mode J h1 (by omega), hk, hN]; exact c1
  · rw [rLost_fine D lo m e J h1 (by omega), decide_eq_decide, gc_fine D lo M E J h2 (by omega), hk, hN]
    exact ⟨fun h k => h (c2.2 k), fun h k => h (c2.1 k)⟩
end Go.Proofs.YtifgngmebnjfkaaGreatDoor
end

section
namespace Go.Proofs.YtifgngmebnjfkaaGreatDoor
def Fi (x : Nat) : Prop := x < 18446744073709551616 ∧ x % 9223372036854775808 < 9218868437227405312
def rn (z : Int) : Int := if z < 0 then -((Fp.mag Ieee.double (Fp.grid Ieee.double z.natAbs 0) : Nat) : Int) else ((Fp.mag Ieee.double (Fp.grid Ieee.double z.natAbs 0) : Nat) : Int)
theorem rn_zero : rn 0 = 0 := by unfold rn; rw [if_neg (by decide), Int.natAbs_zero, Fp.grid_zero, Fp.mag_zero]; rfl
theorem rn_le {z : Int} {k : Nat} (hk : k < 2098) (h : z.natAbs ≤ 2 ^ k) : (rn z).natAbs ≤ 2 ^ k := by
  have hR : Fp.Rep Ieee.double (2 ^ k) := by
    refine Fp.rep_of Ieee.double 1 k (Nat.one_mul _).symm (by decide) ?_
    rw [Fp.mag_infD]
    exact Nat.pow_lt_pow_right (by decide) (by unfold Fp.dtop; omega)
  have hg := Fp.mag_mono Ieee.double (Fp.grid_mono Ieee.double Fp.dF 0 h)
  rw [hR.2] at hg
  unfold rn
  generalize Fp.mag Ieee.double (Fp.grid Ieee.double z.natAbs 0) = g at *
  split <;> omega
def flim : Nat := 2000
theorem word_fi (b : Bool) {r : Nat} (h : r < 9218868437227405312) : Fi (Ieee.double.word b r) ∧ Fp.un Ieee.double (Ieee.double.word b r) = if b then -((Fp.mag Ieee.double r : Nat) : Int) else ((Fp.mag Ieee.double r : Nat) : Int) := by
  have hs : r < Ieee.double.signWeight := by rw [Fp.dS]; omega
  have h1 := Fp.rg_word Ieee.double b r hs
  have h2 := Fp.sg_word Ieee.double b r hs
  refine ⟨⟨?_, ?_⟩, ?_⟩
  · unfold Ieee.Format.word; rw [Fp.dS]; split <;> omega
  · rw [← Fp.rg64, h1]; exact h
  · unfold Fp.un; rw [h1, h2]
theorem Fi.rg {x : Nat} (h : Fi x) : Fp.rg Ieee.double x < Ieee.double.infRung := by rw [Fp.rg64, Fp.dI]; exact h.2
theorem Fi.le {x : Nat} (h : Fi x) : x % 9223372036854775808 ≤ 9218868437227405312 := Nat.le_of_lt h.2
theorem rung_small {z : Int} (h : z.natAbs ≤ 2 ^ flim) : Fp.rung Ieee.double z.natAbs = Fp.grid Ieee.double z.natAbs 0 ∧ Fp.grid Ieee.double z.natAbs 0 < 9218868437227405312 := by
  have hR : Fp.Rep Ieee.double (2 ^ flim) := by
    refine Fp.rep_of Ieee.double 1 flim (Nat.one_mul _).symm (by decide) ?_
    rw [Fp.mag_infD]
    exact Nat.pow_lt_pow_right (by decide) (by unfold Fp.dtop flim; omega)
  have hg := Fp.grid_mono Ieee.double Fp.dF 0 h
  have h1 := hR.1
  rw [Fp.dI] at h1
  unfold Fp.rung
  rw [Fp.dI]
  omega
theorem add_ok {x y : Nat} (hx : Fi x) (hy : Fi y) (hb : (Fp.un Ieee.double x + Fp.un Ieee.double y).natAbs ≤ 2 ^ flim) :
    ∃ r, Ieee.double.add x y = some r ∧ Fi r ∧ Fp.un Ieee.double r = rn (Fp.un Ieee.double x + Fp.un Ieee.double y) := by
  obtain ⟨r1, r2⟩ := rung_small hb
  have h := Fp.add_fin Ieee.double x y hx.rg hy.rg
  rw [r1] at h
  refine ⟨_, h, (word_fi _ r2).1, ?_⟩
  rw [(word_fi _ r2).2]
  unfold rn
  generalize hz : Fp.un Ieee.double x + Fp.un Ieee.double y = z at *
  by_cases h0 : z = 0
  · rw [if_pos h0, h0, Int.natAbs_zero, Fp.grid_zero, Fp.mag_zero]
    split <;> rfl
  · rw [if_neg h0]
    by_cases hn : z < 0
    · rw [decide_eq_true hn, if_pos rfl, if_pos hn]
    · rw [decide_eq_false hn, if_neg Bool.false_ne_true, if_neg hn]
theorem sub_ok {x y : Nat} (hx : Fi x) (hy : Fi y) (hb : (Fp.un Ieee.double x - Fp.un Ieee.double y).natAbs ≤ 2 ^ flim) :
    ∃ r, Ieee.double.sub x y = some r ∧ Fi r ∧ Fp.un Ieee.double r = rn (Fp.un Ieee.double x - Fp.un Ieee.double y) := by
  obtain ⟨r1, r2⟩ := rung_small hb
  have h := Fp.sub_fin Ieee.double x y hx.rg hy.rg
  rw [r1] at h
  refine ⟨_, h, (word_fi _ r2).1, ?_⟩
  rw [(word_fi _ r2).2]
  unfold rn
  generalize hz : Fp.un Ieee.double x - Fp.un Ieee.double y = z at *
  by_cases h0 : z = 0
  · rw [if_pos h0, h0, Int.natAbs_zero, Fp.grid_zero, Fp.mag_zero]
    split <;> rfl
  · rw [if_neg h0]
    by_cases hn : z < 0
    · rw [decide_eq_true hn, if_pos rfl, if_pos hn]
    · rw [decide_eq_false hn, if_neg Bool.false_ne_true, if_neg hn]
/-! the steps of a sum -/
def sumS (A B : Int) : Int := rn (A + B)
def sumT (A B : Int) : Int := rn (sumS A B - A)
def sumL (A B : Int) : Int := rn (rn (A - rn (sumS A B - sumT A B)) + rn (B - sumT A B))
theorem small_add {a b : Int} {k : Nat} (h : a.natAbs ≤ 2 ^ k) (g : b.natAbs ≤ 2 ^ k) : (a + b).natAbs ≤ 2 ^ (k + 1) ∧ (a - b).natAbs ≤ 2 ^ (k + 1) := by
  rw [Nat.pow_succ]; omega
theorem pow_le_flim {n k : Nat} (h : n ≤ 2 ^ k) (hk : k ≤ 2000) : n ≤ 2 ^ flim := Nat.le_trans h (Nat.pow_le_pow_right (by decide) (by unfold flim; exact hk))
theorem sum_words {a b : Nat} (ha : Fi a) (hb : Fi b) (h1 : (Fp.un Ieee.double a).natAbs ≤ 2 ^ 1500) (h2 : (Fp.un Ieee.double b).natAbs ≤ 2 ^ 1500) :
    ∃ s t u v x l, Ieee.double.add a b = some s ∧ Ieee.double.sub s a = some t ∧ Ieee.double.sub s t = some u ∧ Ieee.double.sub a u = some v ∧ Ieee.double.sub b t = some x ∧ Ieee.double.add v x = some l ∧
      Fi s ∧ Fi l ∧ Fp.un Ieee.double s = sumS (Fp.un Ieee.double a) (Fp.un Ieee.double b) ∧ Fp.un Ieee.double l = sumL (Fp.un Ieee.double a) (Fp.un Ieee.double b) := by
  obtain ⟨K, hK⟩ : ∃ K : Nat, K = 1500 := ⟨_, rfl⟩
  rw [← hK] at h1 h2
  have b1 := (small_add h1 h2).1
  obtain ⟨s, s1, s2, s3⟩ := add_ok ha hb (pow_le_flim b1 (by omega))
  have c1 := rn_le (by omega) b1
  rw [← s3] at c1
  have b2 := (small_add c1 (Nat.le_trans h1 (Nat.pow_le_pow_right (by decide) (by omega : K ≤ K + 1)))).2
  obtain ⟨t, t1, t2, t3⟩ := sub_ok s2 ha (pow_le_flim b2 (by omega))
  have c2 := rn_le (by omega) b2
  rw [← t3] at c2
  have b3 := (small_add (Nat.le_trans c1 (Nat.pow_le_pow_right (by decide) (by omega : K + 1 ≤ K + 1 + 1))) c2).2
  obtain ⟨u, u1, u2, u3⟩ := sub_ok s2 t2 (pow_le_flim b3 (by omega))
  have c3 := rn_le (by omega) b3
  rw [← u3] at c3
  have b4 := (small_add (Nat.le_trans h1 (Nat.pow_le_pow_right (by decide) (by omega : K ≤ K + 1 + 1 + 1))) c3).2
  obtain ⟨v, v1, v2, v3⟩ := sub_ok ha u2 (pow_le_flim b4 (by omega))
  have c4 := rn_le (by omega) b4
  rw [← v3] at c4
  have b5 := (small_add (Nat.le_trans h2 (Nat.pow_le_pow_right (by decide) (by omega : K ≤ K + 1 + 1))) c2).2
  obtain ⟨x, x1, x2, x3⟩ := sub_ok hb t2 (pow_le_flim b5 (by omega))
  have c5 := rn_le (by omega) b5
  rw [← x3] at c5
  have b6 := (small_add c4 (Nat.le_trans c5 (Nat.pow_le_pow_right (by decide) (by omega : K + 1 + 1 + 1 ≤ K + 1 + 1 + 1 + 1)))).1
  obtain ⟨l, l1, l2, l3⟩ := add_ok v2 x2 (pow_le_flim b6 (by omega))
  refine ⟨s, t, u, v, x, l, s1, t1, u1, v1, x1, l1, s2, l2, s3, ?_⟩
  rw [l3, v3, x3, u3, t3, s3]; rfl
end Go.Proofs.YtifgngmebnjfkaaGreatDoor
end

section
namespace Go.Proofs.YtifgngmebnjfkaaGreatDoor
def RepZ (z : Int) : Prop := ∃ (c : Int) (e : Nat), z = c * 2 ^ e ∧ c.natAbs ≤ 9007199254740992
theorem rn_nat (m : Nat) : ∃ K q, Fp.mag Ieee.double (Fp.grid Ieee.double m 0) = q * 2 ^ K ∧ m < 9007199254740992 * 2 ^ K ∧ q ≤ 9007199254740992 ∧ (K ≠ 0 → 4503599627370496 * 2 ^ K ≤ m) ∧
    2 * m ≤ 2 * (q * 2 ^ K) + 2 ^ K ∧ 2 * (q * 2 ^ K) ≤ 2 * m + 2 ^ K ∧ (m % 2 ^ K = 0 → q * 2 ^ K = m) := by
  obtain ⟨r, h1, h2⟩ := Fp.floor_exists Ieee.double m 1 (by decide)
  rw [Nat.mul_one] at h1 h2
  rw [Fp.mag_succ] at h2
  have hg := Fp.grid_between Ieee.double Fp.dF r 0 (m - Fp.mag Ieee.double r) (by rw [Nat.pow_zero, Nat.mul_one]; omega)
  rw [Nat.pow_zero, Nat.mul_one, Nat.mul_one, show Fp.mag Ieee.double r + (m - Fp.mag Ieee.double r) = m by omega] at hg
  obtain ⟨K, hK⟩ : ∃ K, K = r / 4503599627370496 - 1 := ⟨_, rfl⟩
  have hst : Fp.step Ieee.double r = 2 ^ K := by unfold Fp.step; rw [Fp.dB, ← hK]
  obtain ⟨c, hc, hc1, hc2⟩ : ∃ c, Fp.mag Ieee.double r = c * 2 ^ K ∧ c < 9007199254740992 ∧ (K ≠ 0 → 4503599627370496 ≤ c) := by
    rw [Fp.mag_eq, hst, Fp.dB]
    refine ⟨_, rfl, ?_, ?_⟩
    · split <;> omega
    · intro h; rw [if_neg (by omega)]; omega
  rw [hst] at hg h2
  have hm1 : Fp.mag Ieee.double (r + 1) = (c + 1) * 2 ^ K := by rw [Fp.mag_succ, hst, hc, Nat.add_mul, Nat.one_mul]
  rw [hc] at h1 h2 hg
  have hp := Nat.two_pow_pos K
  have hlt : m < 9007199254740992 * 2 ^ K := by
    have : (c + 1) * 2 ^ K ≤ 9007199254740992 * 2 ^ K := Nat.mul_le_mul_right _ hc1
    rw [Nat.add_mul, Nat.one_mul] at this
    omega
  have hge : K ≠ 0 → 4503599627370496 * 2 ^ K ≤ m := fun h => Nat.le_trans (Nat.mul_le_mul_right _ (hc2 h)) h1
  have hmod : m % 2 ^ K = 0 → c * 2 ^ K = m := by
    intro h
    obtain ⟨d, hd⟩ : ∃ d, m = d * 2 ^ K := ⟨m / 2 ^ K, by rw [Nat.mul_comm]; have := Nat.div_add_mod m (2 ^ K); omega⟩
    rw [hd] at h1 h2 ⊢
    have a1 : c ≤ d := Nat.le_of_mul_le_mul_right h1 hp
    have a2 : d < c + 1 := by
      refine Nat.lt_of_mul_lt_mul_right (a := 2 ^ K) ?_
      rw [Nat.add_mul, Nat.one_mul]; exact h2
    rw [show d = c by omega]
  rw [hg]
  split
  · rename_i hup
    refine ⟨K, c + 1, hm1, hlt, hc1, hge, ?_, ?_, ?_⟩
    · rw [Nat.add_mul, Nat.one_mul]; omega
    · rw [Nat.add_mul, Nat.one_mul]; omega
    · intro h
      have := hmod h
      omega
  · rename_i hup
    rw [Nat.add_zero]
    refine ⟨K, c, hc, hlt, Nat.le_of_lt hc1, hge, ?_, ?_, hmod⟩
    · omega
    · omega
theorem natAbs_mul_pow (q : Int) (K : Nat) : (q * 2 ^ K).natAbs = q.natAbs * 2 ^ K := by
  rw [Int.natAbs_mul, Int.natAbs_pow]; rfl
theorem cast_pow (K : Nat) : ((2 ^ K : Nat) : Int) = 2 ^ K := by simp
theorem rn_abs (z : Int) : (rn z).natAbs = Fp.mag Ieee.double (Fp.grid Ieee.double z.natAbs 0) := by unfold rn; split <;> omega
theorem rn_spec (z : Int) : ∃ (K : Nat) (q : Int), rn z = q * 2 ^ K ∧ z.natAbs < 9007199254740992 * 2 ^ K ∧ q.natAbs ≤ 9007199254740992 ∧ (K ≠ 0 → 4503599627370496 * 2 ^ K ≤ z.natAbs) ∧
    2 * (rn z - z).natAbs ≤ 2 ^ K ∧ (z.natAbs % 2 ^ K = 0 → rn z = z) := by
  obtain ⟨K, q, h1, h2, h3, h4, h5, h6, h7⟩ := rn_nat z.natAbs
  have hz : z.natAbs % 2 ^ K = 0 → rn z = z := by
    intro h
    have := h7 h
    unfold rn
    rw [h1, this]
    split <;> omega
  refine ⟨K, if z < 0 then -(q : Int) else q, ?_, h2, by split <;> omega, h4, ?_, hz⟩
  · unfold rn
    rw [h1, Int.natCast_mul, cast_pow]
    split
    · rw [Int.neg_mul]
    · rfl
  · unfold rn
    rw [h1]
    generalize q * 2 ^ K = Q at *
    generalize 2 ^ K = Z at *
    split <;> omega
theorem dvd_abs {z : Int} {K : Nat} {c : Int} (h : z = c * 2 ^ K) : z.natAbs % 2 ^ K = 0 := by
  rw [h, natAbs_mul_pow]; exact Nat.mul_mod_left _ _
theorem rn_few {z : Int} (h : RepZ z) : rn z = z := by
  obtain ⟨c, e, hz, hc⟩ := h
  obtain ⟨K, q, _, _, _, h4, _, h6⟩ := rn_spec z
  rcases Nat.lt_or_ge e K with h | h
  · have h4 := h4 (by omega)
    obtain ⟨d, rfl⟩ : ∃ d, K = e + 1 + d := ⟨K - (e + 1), by omega⟩
    have ha : z.natAbs = c.natAbs * 2 ^ e := by rw [hz, natAbs_mul_pow]
    have hp := Nat.two_pow_pos e
    have hpd := Nat.two_pow_pos d
    have e1 : 2 ^ (e + 1 + d) = 2 ^ e * (2 * 2 ^ d) := by rw [Nat.pow_add, Nat.pow_succ, Nat.mul_assoc]
    rw [e1, ha] at h4
    have h5 : 4503599627370496 * (2 * 2 ^ d) ≤ c.natAbs := by
      refine Nat.le_of_mul_le_mul_right (c := 2 ^ e) ?_ hp
      rw [Nat.mul_assoc, Nat.mul_comm (2 * 2 ^ d)]; exact h4
    have hd : 2 ^ d = 1 := by omega
    refine h6 ?_
    rw [e1, ha, hd, Nat.mul_one]
    have : c.natAbs = 4503599627370496 * 2 := by omega
    rw [this, Nat.mul_assoc, Nat.mul_comm 2]; exact Nat.mul_mod_left _ _
  · obtain ⟨d, rfl⟩ : ∃ d, e = K + d := ⟨e - K, by omega⟩
    refine h6 (dvd_abs (c := c * 2 ^ d) ?_)
    rw [hz, Int.pow_add, Int.mul_assoc, Int.mul_comm (2 ^ d)]
theorem rn_repz (z : Int) : RepZ (rn z) := by
  obtain ⟨K, q, h1, _, h3, _⟩ := rn_spec z
  exact ⟨q, K, h1, h3⟩
theorem RepZ.neg {z : Int} (h : RepZ z) : RepZ (-z) := by
  obtain ⟨c, e, h, hc⟩ := h
  exact ⟨-c, e, by rw [h, Int.neg_mul], by rw [Int.natAbs_neg]; exact hc⟩
theorem rn_nearest {z y : Int} (h : RepZ y) : (rn z - z).natAbs ≤ (y - z).natAbs := by
  obtain ⟨c, e, hy, hc⟩ := h
  obtain ⟨K, q, h1, h2, h3, h4, h5, h6⟩ := rn_spec z
  have near : ∀ d : Int, (rn z - z).natAbs ≤ (d * 2 ^ K - z).natAbs := by
    intro d
    by_cases hd : d = q
    · rw [h1, hd]; exact Nat.le_refl _
    · have e1 : (d * 2 ^ K - rn z).natAbs = (d - q).natAbs * 2 ^ K := by rw [h1, ← Int.sub_mul, natAbs_mul_pow]
      have e2 : 1 * 2 ^ K ≤ (d - q).natAbs * 2 ^ K := Nat.mul_le_mul_right _ (by omega)
      rw [← e1, Nat.one_mul] at e2
      generalize d * 2 ^ K = D at *
      generalize 2 ^ K = Z at *
      omega
  rcases Nat.lt_or_ge e K with hlt | hge
  · have h4 := h4 (by omega)
    have hp := Nat.two_pow_pos e
    have hab : y.natAbs ≤ 4503599627370496 * 2 ^ K := by
      rw [hy, natAbs_mul_pow]
      obtain ⟨d, rfl⟩ : ∃ d, K = e + 1 + d := ⟨K - (e + 1), by omega⟩
      have e1 : 2 ^ (e + 1 + d) = 2 * 2 ^ d * 2 ^ e := by rw [Nat.pow_add, Nat.pow_succ, Nat.mul_comm (2 ^ e) 2, Nat.mul_assoc, Nat.mul_assoc, Nat.mul_comm (2 ^ e)]
      rw [e1, ← Nat.mul_assoc]
      have := Nat.two_pow_pos d
      exact Nat.mul_le_mul_right _ (by omega)
    have n1 := near 4503599627370496
    have n2 := near (-4503599627370496)
    have e1 : (4503599627370496 : Int) * 2 ^ K = ((4503599627370496 * 2 ^ K : Nat) : Int) := by simp
    rw [Int.neg_mul] at n2
    rw [e1] at n1 n2
    generalize 4503599627370496 * 2 ^ K = T at *
    omega
  · obtain ⟨d, rfl⟩ : ∃ d, e = K + d := ⟨e - K, by omega⟩
    have := near (c * 2 ^ d)
    rwa [show c * 2 ^ d * 2 ^ K = y by rw [hy, Int.pow_add, Int.mul_assoc, Int.mul_comm (2 ^ d)]] at this
theorem rn_mult {z c : Int} {i : Nat} (h : z = c * 2 ^ i) : ∃ d : Int, rn z = d * 2 ^ i := by
  obtain ⟨K, q, h1, _, _, _, _, h6⟩ := rn_spec z
  rcases Nat.lt_or_ge K i with hlt | hge
  · obtain ⟨d, rfl⟩ : ∃ d, i = K + d := ⟨i - K, by omega⟩
    exact ⟨c, by rw [h6 (dvd_abs (c := c * 2 ^ d) (by rw [h, Int.pow_add, Int.mul_assoc, Int.mul_comm (2 ^ d)])), h]⟩
  · obtain ⟨d, rfl⟩ : ∃ d, K = i + d := ⟨K - i, by omega⟩
    exact ⟨q * 2 ^ d, by rw [h1, Int.pow_add, Int.mul_assoc, Int.mul_comm (2 ^ d)]⟩
theorem repz_of {z d : Int} {i n : Nat} (h : z = d * 2 ^ i) (hz : z.natAbs ≤ n * 2 ^ i) (hn : n ≤ 9007199254740992) : RepZ z := by
  refine ⟨d, i, h, ?_⟩
  rw [h, natAbs_mul_pow] at hz
  exact Nat.le_trans (Nat.le_of_mul_le_mul_right hz (Nat.two_pow_pos i)) hn
theorem err_rep {A B : Int} (hA : RepZ A) (hB : RepZ B) : RepZ (rn (A + B) - (A + B)) := by
  have key : ∀ {A B : Int} {a b : Int} {i j : Nat}, A = a * 2 ^ i → a.natAbs ≤ 9007199254740992 → B = b * 2 ^ j → RepZ B → i ≤ j → RepZ (rn (A + B) - (A + B)) := by
    intro A B a b i j hA ha hB hRB hij
    obtain ⟨e, rfl⟩ : ∃ e, j = i + e := ⟨j - i, by omega⟩
    have hz : A + B = (a + b * 2 ^ e) * 2 ^ i := by rw [hA, hB, Int.add_mul, Int.pow_add, Int.mul_assoc, Int.mul_comm (2 ^ e)]
    obtain ⟨d, hd⟩ := rn_mult hz
    have hn := rn_nearest (z := A + B) hRB
    refine repz_of (d := d - (a + b * 2 ^ e)) (i := i) (n := a.natAbs) (by rw [hd, hz, Int.sub_mul]) ?_ ha
    refine Nat.le_trans hn ?_
    rw [← natAbs_mul_pow, ← hA]
    omega
  obtain ⟨a, i, hA1, ha⟩ := hA
  obtain ⟨b, j, hB1, hb⟩ := hB
  rcases Nat.le_total i j with h | h
  · exact key hA1 ha hB1 ⟨b, j, hB1, hb⟩ h
  · rw [Int.add_comm A B]
    exact key hB1 hb hA1 ⟨a, i, hA1, ha⟩ h
theorem canon_of {A : Int} (h : RepZ A) : ∃ (k : Nat) (a : Int), A = a * 2 ^ k ∧ a.natAbs < 9007199254740992 ∧ (k ≠ 0 → 4503599627370496 * 2 ^ k ≤ A.natAbs) := by
  obtain ⟨K, q, h1, h2, _, h4, _, _⟩ := rn_spec A
  rw [rn_few h] at h1
  refine ⟨K, q, h1, ?_, h4⟩
  rw [h1, natAbs_mul_pow] at h2
  exact Nat.lt_of_mul_lt_mul_right h2
theorem fr0 {x y Z W : Nat} (h1 : 4503599627370496 * W ≤ y) (h2 : 2 * Z ≤ W) (h3 : y ≤ x) (h4 : x < 9007199254740992 * Z) : False := by omega
theorem fr1 {x y z Z V W : Nat} (h1 : x < 9007199254740992 * Z) (h2 : y ≤ x) (h3 : z ≤ x + y) (h4 : 4503599627370496 * W ≤ z) (h5 : 2 * V ≤ W) (h6 : V = Z * 2) : False := by omega
theorem fr2 {r A B : Int} {Z : Nat} (h : 2 * (r - (A + B)).natAbs ≤ Z * 2) : (r - A).natAbs ≤ B.natAbs + 1 * Z := by omega
theorem fr3 {r A B : Int} (h : (r - (A + B)).natAbs ≤ (A - (A + B)).natAbs) : (r - A).natAbs ≤ B.natAbs * 2 := by omega
theorem fast_rep {A B : Int} (hA : RepZ A) (hB : RepZ B) (hAB : B.natAbs ≤ A.natAbs) : RepZ (rn (A + B) - A) := by
  obtain ⟨ka, a, hA1, ha, hka⟩ := canon_of hA
  obtain ⟨kb, b, hB1, hb, hkb⟩ := canon_of hB
  have hlA : A.natAbs < 9007199254740992 * 2 ^ ka := by rw [hA1, natAbs_mul_pow]; exact Nat.mul_lt_mul_of_pos_right ha (Nat.two_pow_pos _)
  have hlB : B.natAbs = b.natAbs * 2 ^ kb := by rw [hB1, natAbs_mul_pow]
  have pow_up : ∀ i j : Nat, i < j → 2 * 2 ^ i ≤ 2 ^ j := fun i j h => by rw [← Nat.pow_succ']; exact Nat.pow_le_pow_right (by decide) h
  have hk : kb ≤ ka := by
    rcases Nat.lt_or_ge ka kb with h | h
    · exact (fr0 (hkb (Nat.ne_of_gt (Nat.lt_of_le_of_lt (Nat.zero_le _) h))) (pow_up _ _ h) hAB hlA).elim
    · exact h
  obtain ⟨d, rfl⟩ : ∃ d, ka = kb + d := ⟨ka - kb, by omega⟩
  have hz : A + B = (a * 2 ^ d + b) * 2 ^ kb := by rw [hA1, hB1, Int.add_mul, Int.pow_add, Int.mul_assoc, Int.mul_comm (2 ^ d)]
  obtain ⟨K, q, h1, h2, h3, h4, h5, h6⟩ := rn_spec (A + B)
  have hn := rn_nearest (z := A + B) hA
  rcases Nat.lt_or_ge kb K with hlt | hge
  · have h2p := pow_up _ _ hlt
    rcases Nat.eq_zero_or_pos d with rfl | hd
    · rw [Nat.add_zero] at hlA hA1
      have hK : K = kb + 1 := by
        rcases Nat.lt_or_ge (kb + 1) K with h | h
        · exact (fr1 hlA hAB (Int.natAbs_add_le A B) (h4 (Nat.ne_of_gt (Nat.lt_of_le_of_lt (Nat.zero_le _) h))) (pow_up _ _ h) (Nat.pow_succ _ _)).elim
        · exact Nat.le_antisymm h hlt
      subst hK
      obtain ⟨e, he⟩ := rn_mult hz
      refine repz_of (d := e - a) (i := kb) (n := b.natAbs + 1) (by rw [he, hA1, Int.sub_mul]) ?_ (by omega)
      rw [Nat.add_mul, ← hlB]
      rw [Nat.pow_succ] at h5
      exact fr2 h5
    · obtain ⟨c, rfl⟩ : ∃ c, d = c + 1 := ⟨d - 1, by omega⟩
      obtain ⟨m, rfl⟩ : ∃ m, K = kb + 1 + m := ⟨K - (kb + 1), by omega⟩
      have hAk : A = a * 2 ^ c * 2 ^ (kb + 1) := by rw [hA1, Int.mul_assoc, ← Int.pow_add]; congr 2; omega
      have hSk : rn (A + B) = q * 2 ^ m * 2 ^ (kb + 1) := by rw [h1, Int.mul_assoc, ← Int.pow_add]; congr 2; omega
      refine repz_of (d := q * 2 ^ m - a * 2 ^ c) (i := kb + 1) (n := b.natAbs) (by rw [hSk, Int.sub_mul, ← hAk]) ?_ (by omega)
      rw [Nat.pow_succ, ← Nat.mul_assoc, ← hlB]
      exact fr3 hn
  · have e : rn (A + B) = A + B := h6 (by
      obtain ⟨m, rfl⟩ : ∃ m, kb = K + m := ⟨kb - K, by omega⟩
      exact dvd_abs (c := (a * 2 ^ (m + d) + b * 2 ^ m)) (by
        rw [hz, Int.pow_add 2 K m, Int.mul_comm (2 ^ K), ← Int.mul_assoc, Int.add_mul, Int.pow_add 2 m d, Int.mul_assoc a, Int.mul_comm (2 ^ d)]))
    rw [e, show A + B - A = B by omega]
    exact hB
theorem two_fast {A B : Int} (hA : RepZ A) (hB : RepZ B) (hAB : B.natAbs ≤ A.natAbs) : sumL A B = A + B - sumS A B := by
  have e1 : sumT A B = sumS A B - A := rn_few (fast_rep hA hB hAB)
  unfold sumL
  rw [e1, show sumS A B - (sumS A B - A) = A by omega, rn_few hA, Int.sub_self, rn_zero, Int.zero_add]
  have e2 : B - (sumS A B - A) = -(rn (A + B) - (A + B)) := by unfold sumS; omega
  rw [e2, rn_few (err_rep hA hB).neg, rn_few (err_rep hA hB).neg]
  unfold sumS; omega
theorem mult_le {z c : Int} {k K : Nat} (h : z = c * 2 ^ k) (hk : K ≤ k) : ∃ d : Int, z = d * 2 ^ K := by
  obtain ⟨m, rfl⟩ : ∃ m, k = K + m := ⟨k - K, by omega⟩
  exact ⟨c * 2 ^ m, by rw [h, Int.pow_add, Int.mul_assoc, Int.mul_comm (2 ^ m)]⟩
theorem mult_add {y z : Int} {K : Nat} (h : ∃ d : Int, y = d * 2 ^ K) (g : ∃ d : Int, z = d * 2 ^ K) : (∃ d : Int, y + z = d * 2 ^ K) ∧ ∃ d : Int, y - z = d * 2 ^ K := by
  obtain ⟨a, rfl⟩ := h
  obtain ⟨b, rfl⟩ := g
  exact ⟨⟨a + b, by rw [Int.add_mul]⟩, ⟨a - b, by rw [Int.sub_mul]⟩⟩
theorem rn_mult' {z : Int} {K : Nat} (h : ∃ d : Int, z = d * 2 ^ K) : ∃ d : Int, rn z = d * 2 ^ K := by
  obtain ⟨c, hc⟩ := h; exact rn_mult hc
theorem two_back {A B : Int} (hA : RepZ A) (hB : RepZ B) (e1 : sumT A B = sumS A B - A) : sumL A B = A + B - sumS A B := by
  unfold sumL
  rw [e1, show sumS A B - (sumS A B - A) = A by omega, rn_few hA, Int.sub_self, rn_zero, Int.zero_add]
  have e2 : B - (sumS A B - A) = -(rn (A + B) - (A + B)) := by unfold sumS; omega
  rw [e2, rn_few (err_rep hA hB).neg, rn_few (err_rep hA hB).neg]
  unfold sumS; omega
theorem sl1 {a b z Z W V : Nat} (h1 : b < 9007199254740992 * Z) (h2 : a < b) (h3 : z ≤ a + b) (h4 : 4503599627370496 * W ≤ z) (h5 : 2 * V ≤ W) (h6 : V = Z * 2) : False := by omega
end Go.Proofs.YtifgngmebnjfkaaGreatDoor
end

section
namespace Go.Proofs.YtifgngmebnjfkaaGreatDoor
theorem sw1 {r s z : Int} {V W : Nat} (h : 2 * (s - z).natAbs ≤ W) (hr : r = z - s) (hW : W ≤ V * 2) : r.natAbs ≤ V := by omega
theorem sw2 {x b V : Nat} (h : x ≤ 9007199254740992 * V) (h4 : 4503599627370496 * (V * 2) ≤ x) : x = 4503599627370496 * (V * 2) := by omega
theorem sw3 {B r : Int} {V : Nat} (hB : B.natAbs + V ≤ 9007199254740992 * V) (hr : r.natAbs ≤ V) : (B - r).natAbs ≤ 9007199254740992 * V := by omega
theorem sw4 {x W V : Nat} (h : x ≤ 9007199254740992 * V) (h4 : 4503599627370496 * W ≤ x) (h5 : 2 * (V * 2) ≤ W) (hV : 0 < V) : False := by omega
theorem pow_up {i j : Nat} (h : i < j) : 2 * 2 ^ i ≤ 2 ^ j := by rw [← Nat.pow_succ']; exact Nat.pow_le_pow_right (by decide) h
theorem slow_grid {A B S : Int} {ka kb K : Nat} {a b : Int} (hA1 : A = a * 2 ^ ka) (hB1 : B = b * 2 ^ kb) (hb : b.natAbs < 9007199254740992) (hAB : A.natAbs < B.natAbs) (hS : S = rn (A + B))
    (hne : ¬ ∃ d : Int, S - A = d * 2 ^ K) (h4 : K ≠ 0 → 4503599627370496 * 2 ^ K ≤ (S - A).natAbs) : K ≤ kb ∧ ka < K ∧ (A + B - S).natAbs ≤ 2 ^ kb := by
  have hB2 : B.natAbs = b.natAbs * 2 ^ kb := by rw [hB1, natAbs_mul_pow]
  have hBl : B.natAbs + 2 ^ kb ≤ 9007199254740992 * 2 ^ kb := by
    rw [hB2]
    have := Nat.mul_le_mul_right (2 ^ kb) hb
    rw [Nat.succ_mul] at this
    exact this
  have hVp := Nat.two_pow_pos kb
  obtain ⟨Ks, qs, s1, s2, s3, s4, s5, s6⟩ := rn_spec (A + B)
  rw [← hS] at s1 s5
  have hKs : Ks ≤ kb + 1 := by
    rcases Nat.lt_or_ge (kb + 1) Ks with h | h
    · exact (sl1 (by omega) hAB (Int.natAbs_add_le A B) (s4 (by omega)) (pow_up h) (Nat.pow_succ _ _)).elim
    · exact h
  have hWs : 2 ^ Ks ≤ 2 ^ kb * 2 := by rw [← Nat.pow_succ]; exact Nat.pow_le_pow_right (by decide) hKs
  have hr := sw1 s5 (rfl : A + B - S = A + B - S) hWs
  have hx : (S - A).natAbs ≤ 9007199254740992 * 2 ^ kb := by
    have := sw3 hBl hr
    rwa [show B - (A + B - S) = S - A by omega] at this
  have hKb : K ≤ kb := by
    rcases Nat.lt_or_ge kb K with h | h
    · have g4 := h4 (by omega)
      rcases Nat.lt_or_ge (kb + 1) K with h' | h'
      · have := pow_up h'
        rw [Nat.pow_succ] at this
        exact (sw4 hx g4 this hVp).elim
      · have hK : K = kb + 1 := by omega
        subst hK
        rw [Nat.pow_succ] at g4
        have e := sw2 (b := 0) hx g4
        refine (hne ?_).elim
        rcases Int.natAbs_eq (S - A) with h | h
        · exact ⟨4503599627370496, by rw [h, e, ← Nat.pow_succ]; simp⟩
        · exact ⟨-4503599627370496, by rw [h, e, ← Nat.pow_succ, Int.neg_mul]; simp⟩
    · exact h
  refine ⟨hKb, ?_, hr⟩
  rcases Nat.lt_or_ge ka K with h | h
  · exact h
  · have mA := mult_le hA1 h
    have mB := mult_le hB1 hKb
    have mS := rn_mult' (mult_add mA mB).1
    rw [← hS] at mS
    exact (hne (mult_add mS mA).2).elim
theorem sx1 {B r e : Int} {V W : Nat} (hB : 4503599627370496 * V ≤ B.natAbs) (hx : (B - r).natAbs < 9007199254740992 * W) (hr : r.natAbs ≤ V) (he : 2 * e.natAbs ≤ W) : (r - e).natAbs ≤ 5 * W := by omega
theorem sx2 {A B : Int} {V W U X Y : Nat} (h1 : (A + B).natAbs < 9007199254740992 * U) (h2 : 2 * U ≤ W) (h3 : 4503599627370496 * V ≤ B.natAbs) (h4 : X ≤ V) (h5 : X = W * 2) (h6 : A.natAbs < 9007199254740992 * Y) : W < 2 * Y ∧ (A + B).natAbs ≤ 4503599627370496 * W := by omega
theorem sx3 {A e : Int} {W X : Nat} (h1 : A.natAbs + W ≤ 9007199254740992 * W) (h2 : 2 * e.natAbs ≤ X) (h3 : X = W * 2) : (A - e).natAbs ≤ 9007199254740992 * W := by omega
theorem two_slow {A B : Int} (hA : RepZ A) (hB : RepZ B) (hAB : A.natAbs < B.natAbs) : sumL A B = A + B - sumS A B := by
  by_cases he : sumT A B = sumS A B - A
  · exact two_back hA hB he
  obtain ⟨ka, a, hA1, ha, hka⟩ := canon_of hA
  obtain ⟨kb, b, hB1, hb, hkb⟩ := canon_of hB
  obtain ⟨S, hS⟩ : ∃ S, S = sumS A B := ⟨_, rfl⟩
  obtain ⟨T, hT⟩ : ∃ T, T = sumT A B := ⟨_, rfl⟩
  have hS' : S = rn (A + B) := hS
  have hT' : T = rn (S - A) := by rw [hT, hS]; rfl
  rw [← hS, ← hT] at he
  obtain ⟨K, q, t1, t2, t3, t4, t5, t6⟩ := rn_spec (S - A)
  rw [← hT'] at t1 t5 t6
  have hne : ¬ ∃ d : Int, S - A = d * 2 ^ K := fun ⟨d, hd⟩ => he (t6 (dvd_abs hd))
  obtain ⟨hKb, haK, hr⟩ := slow_grid hA1 hB1 hb hAB hS' hne t4
  obtain ⟨K', rfl⟩ : ∃ K', K = K' + 1 := ⟨K - 1, by omega⟩
  have mB := mult_le hB1 hKb
  have mT : ∃ d : Int, T = d * 2 ^ (K' + 1) := ⟨q, t1⟩
  have hkb' := hkb (by omega)
  have hx : RepZ (B - T) := by
    obtain ⟨d, hd⟩ := (mult_add mB mT).2
    refine repz_of hd (n := 5) ?_ (by decide)
    have := sx1 (B := B) (r := A + B - S) (e := T - (S - A)) hkb' (by rw [show B - (A + B - S) = S - A by omega]; exact t2) hr t5
    rwa [show A + B - S - (T - (S - A)) = B - T by omega] at this
  have hAl : ∀ j, ka ≤ j → A.natAbs + 2 ^ j ≤ 9007199254740992 * 2 ^ j := by
    intro j hj
    have h1 : A.natAbs = a.natAbs * 2 ^ ka := by rw [hA1, natAbs_mul_pow]
    have h2 : a.natAbs * 2 ^ ka ≤ a.natAbs * 2 ^ j := Nat.mul_le_mul_left _ (Nat.pow_le_pow_right (by decide) hj)
    have h3 := Nat.mul_le_mul_right (2 ^ j) ha
    rw [Nat.succ_mul] at h3
    rw [h1]
    exact Nat.le_trans (Nat.add_le_add_right h2 _) h3
  have hu : RepZ (S - T) := by
    obtain ⟨Ks, qs, s1, s2, s3, s4, s5, s6⟩ := rn_spec (A + B)
    rw [← hS'] at s1
    have hKs : K' ≤ Ks := by
      rcases Nat.lt_or_ge Ks K' with h | h
      · have hAk : A.natAbs < 9007199254740992 * 2 ^ ka := by
          have := hAl ka (Nat.le_refl _)
          have := Nat.two_pow_pos ka
          omega
        obtain ⟨y1, y2⟩ := sx2 s2 (pow_up h) hkb' (Nat.pow_le_pow_right (by decide) hKb) (Nat.pow_succ 2 K') hAk
        have hk : ka = K' := by
          rcases Nat.lt_or_ge ka K' with h' | h'
          · have := pow_up h'; omega
          · omega
        have hz := (mult_add (mult_le hA1 (Nat.le_of_eq hk.symm)) (mult_le hB1 (Nat.le_of_succ_le hKb))).1
        obtain ⟨d, hd⟩ := hz
        have hex : S = A + B := by rw [hS']; exact rn_few (repz_of hd y2 (by decide))
        refine (hne ?_).elim
        rw [hex, show A + B - A = B by omega]
        exact mB
      · exact h
    obtain ⟨m, hm⟩ := mT
    have mT' : ∃ d : Int, T = d * 2 ^ K' := mult_le hm (Nat.le_succ _)
    obtain ⟨d, hd⟩ := (mult_add (mult_le s1 hKs) mT').2
    refine repz_of hd (n := 9007199254740992) ?_ (Nat.le_refl _)
    have := sx3 (A := A) (e := T - (S - A)) (hAl K' (by omega)) t5 (Nat.pow_succ 2 K')
    rwa [show A - (T - (S - A)) = S - T by omega] at this
  have hRS : RepZ S := by rw [hS']; exact rn_repz _
  have hv : RepZ (A - (S - T)) := by
    have := err_rep hRS hA.neg
    rw [show S + -A = S - A by omega, ← hT', show T - (S - A) = A - (S - T) by omega] at this
    exact this
  unfold sumL
  rw [← hS, ← hT, rn_few hu, rn_few hv, rn_few hx, show A - (S - T) + (B - T) = -(S - (A + B)) by omega, hS', rn_few (err_rep hA hB).neg]
  omega
theorem two_sum {A B : Int} (hA : RepZ A) (hB : RepZ B) : sumL A B = A + B - sumS A B := by
  rcases Nat.lt_or_ge A.natAbs B.natAbs with h | h
  · exact two_slow hA hB h
  · exact two_fast hA hB h
end Go.Proofs.YtifgngmebnjfkaaGreatDoor
end

section
namespace Go.Proofs.YtifgngmebnjfkaaGreatDoor
/-! numbers that stand for amounts -/
theorem notnan_canon {c : Nat} (h : c % 9223372036854775808 ≤ 9218868437227405312) : Fp.isNaN64 c = false := decide_eq_false (by omega)
theorem un_lt {x y : Nat} (hx : x % 9223372036854775808 ≤ 9218868437227405312) (hy : y % 9223372036854775808 ≤ 9218868437227405312) : (FloatKind.f64.format.order x y == some .lt) = decide (Fp.un Ieee.double x < Fp.un Ieee.double y) := by
  show (Ieee.double.order x y == some .lt) = _
  rw [Fp.lt64 x y (notnan_canon hx) (notnan_canon hy), ← Fp.key_double, ← Fp.key_double]
  exact decide_eq_decide.2 (Fp.un_lt_iff Ieee.double x y).symm
theorem un_gt {x y : Nat} (hx : x % 9223372036854775808 ≤ 9218868437227405312) (hy : y % 9223372036854775808 ≤ 9218868437227405312) : (FloatKind.f64.format.order x y == some .gt) = decide (Fp.un Ieee.double y < Fp.un Ieee.double x) := by
  show (Ieee.double.order x y == some .gt) = _
  rw [Fp.gt64 x y (notnan_canon hx) (notnan_canon hy), ← Fp.key_double, ← Fp.key_double]
  exact decide_eq_decide.2 (Fp.un_lt_iff Ieee.double y x).symm
theorem un_eq {x y : Nat} (hx : x % 9223372036854775808 ≤ 9218868437227405312) (hy : y % 9223372036854775808 ≤ 9218868437227405312) : (FloatKind.f64.format.order x y == some .eq) = decide (Fp.un Ieee.double x = Fp.un Ieee.double y) := by
  show (Ieee.double.order x y == some .eq) = _
  rw [Fp.eq64 x y (notnan_canon hx) (notnan_canon hy), ← Fp.key_double, ← Fp.key_double]
  exact decide_eq_decide.2 (Fp.un_eq_iff Ieee.double x y).symm
theorem un_parts {x : Nat} (hx : x < 18446744073709551616) : Fp.un Ieee.double x = if ngD x then -(magD x : Int) else magD x := by
  unfold Fp.un ngD magD
  rw [Fp.sg64, Fp.rg64]
  by_cases h : 9223372036854775808 ≤ x
  · rw [decide_eq_true h, show x / 9223372036854775808 = 1 by omega]; rfl
  · rw [decide_eq_false h, show x / 9223372036854775808 = 0 by omega]; rfl
/-! Narrow -/
/-! Whole -/
/-! Scale -/
theorem zero_un : Fp.un Ieee.double 0 = 0 := by decide +kernel
end Go.Proofs.YtifgngmebnjfkaaGreatDoor
end

section
namespace Go.Proofs.YtifgngmebnjfkaaGreatDoor
open Go.RowKit
theorem m_float_nan (op : BinOp) (t : TypeId) (k : FloatKind) (x y : Nat) (P : Program) (w : World) (ho : op = .sub ∨ op = .add ∨ op = .mul ∨ op = .quo) (h : floatBits op k x y = none) :
    (binOp op t (.float k x) (.float k y)).run P w = .ok (.float k ((Question.nanBits k x y).cut (w.tape w.drawn (.nanBits k x y)))) w.drew := by
  unfold floatBits at h
  rcases ho with rfl | rfl | rfl | rfl <;> simp only at h <;> simp [binOp, Op.floatArith, h, Question.forced]
set_option maxRecDepth 100000 in
set_option maxHeartbeats 600000 in
theorem nudge_zero (x l m m3 m4 m5 : Nat) (b : Bool) (e : Int) (hm : m < 9007199254740992) (hm4 : m4 = 4 * m) (hm5 : m5 = m4 + 1) (hm3 : m4 = m3 + 1) (h1e : -3000 ≤ e) (h2e : e ≤ 3000) (TK : Hid (∀ w, Calls Tryz.prog 43 #[.float .f64 x] w fun e' w' => e' = .returned (.agg #[.bool b, .int .u64 m, .int .i64 e]) ∧ Within w w')) (hz : (FloatKind.f64.format.order l 0 == some .eq) = true) (w : World) : Calls Tryz.prog 72 #[.float .f64 x, .float .f64 l] w fun e' w' => e' = .returned (.agg #[.bool b, .int .u64 m4, .int .i64 (e - 2)]) ∧ Within w w' := by
  have g4 : IntKind.u64.wrap ((m : Int) * 4) = (m4 : Int) := by rw [IntKind.wrap_u64]; omega
  have g5 : IntKind.u64.wrap ((m4 : Int) + 1) = (m5 : Int) := by rw [IntKind.wrap_u64]; omega
  have g3 : IntKind.u64.wrap ((m4 : Int) - 1) = (m3 : Int) := by rw [IntKind.wrap_u64]; omega
  have g2 : IntKind.i64.wrap (e - 2) = e - 2 := by rw [IntKind.wrap_i64]; omega
  have HM := Lib.hid (And.intro hm (And.intro hm4 (And.intro hm5 hm3)))
  clear hm hm4 hm5 hm3
  go_enter Tryz.func72, Tryz.ntmps72
  go_wp2_with fail
  refine (TK.out _).mono ?_; rintro e2 w2 ⟨rfl, hb2⟩
  have r0 : w2.cell? ⟨w.heap.size, 0, none⟩ = some (.bool false) := (hb2.cells _ _ (by simp)).trans (by simp)
  have r1 : w2.cell? ⟨w.heap.size, 1, none⟩ = some (.int .u64 0) := (hb2.cells _ _ (by simp)).trans (by simp)
  have r2 : w2.cell? ⟨w.heap.size, 2, none⟩ = some (.int .i64 0) := (hb2.cells _ _ (by simp)).trans (by simp)
  have y0 : w2.frozen? ⟨w.heap.size, 0, none⟩ = false := (hb2.frozens _ _ (by simp)).trans (by simp)
  have y1 : w2.frozen? ⟨w.heap.size, 1, none⟩ = false := (hb2.frozens _ _ (by simp)).trans (by simp)
  have y2 : w2.frozen? ⟨w.heap.size, 2, none⟩ = false := (hb2.frozens _ _ (by simp)).trans (by simp)
  have z2 : w.heap.size < w2.heap.size := World.block_lt_of_cell? _ _ r0
  have s0 := World.cell?_setCell_same w2 ⟨w.heap.size, 0, none⟩ (.bool b) r0
  have s1 := World.cell?_setCell_same (w2.setCell ⟨w.heap.size, 0, none⟩ (.bool b)) ⟨w.heap.size, 1, none⟩ (.int .u64 m4) ((World.cell?_setCell_other _ _ _ _ (by simp)).trans r1)
  have s2 := World.cell?_setCell_same ((w2.setCell ⟨w.heap.size, 0, none⟩ (.bool b)).setCell ⟨w.heap.size, 1, none⟩ (.int .u64 m4)) ⟨w.heap.size, 2, none⟩ (.int .i64 (e - 2)) ((World.cell?_setCell_other _ _ _ _ (by simp)).trans ((World.cell?_setCell_other _ _ _ _ (by simp)).trans r2))
  go_wp2
  refine bodyPost_ret (v := .agg #[.bool b, .int .u64 m4, .int .i64 (e - 2)]) (by simp [results, Tryz.results72, go_sem, z2, s0, s1, s2]) rfl ⟨rfl, ?_⟩
  exact (by repeat (with_reducible first | exact Within.refl _ | assumption | refine Within.alloc ?_ _ | refine Within.drew ?_ | refine Within.setCell ?_ (by first | (simp; done) | (simp; omega)) _ | refine Within.trans ?_ (by assumption)))
set_option maxRecDepth 100000 in
set_option maxHeartbeats 600000 in
theorem nudge_up (x l m m3 m4 m5 : Nat) (b : Bool) (e : Int) (hm : m < 9007199254740992) (hm4 : m4 = 4 * m) (hm5 : m5 = m4 + 1) (hm3 : m4 = m3 + 1) (h1e : -3000 ≤ e) (h2e : e ≤ 3000) (TK : Hid (∀ w, Calls Tryz.prog 43 #[.float .f64 x] w fun e' w' => e' = .returned (.agg #[.bool b, .int .u64 m, .int .i64 e]) ∧ Within w w')) (hz : (FloatKind.f64.format.order l 0 == some .eq) = false) (g : Bool) (h1 : (FloatKind.f64.format.order l 0 == some .gt) = g) (h2 : (FloatKind.f64.format.order x 0 == some .gt) = g) (w : World) : Calls Tryz.prog 72 #[.float .f64 x, .float .f64 l] w fun e' w' => e' = .returned (.agg #[.bool b, .int .u64 m5, .int .i64 (e - 2)]) ∧ Within w w' := by
  have g4 : IntKind.u64.wrap ((m : Int) * 4) = (m4 : Int) := by rw [IntKind.wrap_u64]; omega
  have g5 : IntKind.u64.wrap ((m4 : Int) + 1) = (m5 : Int) := by rw [IntKind.wrap_u64]; omega
  have g3 : IntKind.u64.wrap ((m4 : Int) - 1) = (m3 : Int) := by rw [IntKind.wrap_u64]; omega
  have g2 : IntKind.i64.wrap (e - 2) = e - 2 := by rw [IntKind.wrap_i64]; omega
  have hg : (g == g) = true := by cases g <;> rfl
  have HM := Lib.hid (And.intro hm (And.intro hm4 (And.intro hm5 hm3)))
  clear hm hm4 hm5 hm3
  go_enter Tryz.func72, Tryz.ntmps72
  go_wp2_with fail
  refine (TK.out _).mono ?_; rintro e2 w2 ⟨rfl, hb2⟩
  have r0 : w2.cell? ⟨w.heap.size, 0, none⟩ = some (.bool false) := (hb2.cells _ _ (by simp)).trans (by simp)
  have r1 : w2.cell? ⟨w.heap.size, 1, none⟩ = some (.int .u64 0) := (hb2.cells _ _ (by simp)).trans (by simp)
  have r2 : w2.cell? ⟨w.heap.size, 2, none⟩ = some (.int .i64 0) := (hb2.cells _ _ (by simp)).trans (by simp)
  have y0 : w2.frozen? ⟨w.heap.size, 0, none⟩ = false := (hb2.frozens _ _ (by simp)).trans (by simp)
  have y1 : w2.frozen? ⟨w.heap.size, 1, none⟩ = false := (hb2.frozens _ _ (by simp)).trans (by simp)
  have y2 : w2.frozen? ⟨w.heap.size, 2, none⟩ = false := (hb2.frozens _ _ (by simp)).trans (by simp)
  have z2 : w.heap.size < w2.heap.size := World.block_lt_of_cell? _ _ r0
  have s0 := World.cell?_setCell_same w2 ⟨w.heap.size, 0, none⟩ (.bool b) r0
  have s1 := World.cell?_setCell_same (w2.setCell ⟨w.heap.size, 0, none⟩ (.bool b)) ⟨w.heap.size, 1, none⟩ (.int .u64 m5) ((World.cell?_setCell_other _ _ _ _ (by simp)).trans r1)
  have s2 := World.cell?_setCell_same ((w2.setCell ⟨w.heap.size, 0, none⟩ (.bool b)).setCell ⟨w.heap.size, 1, none⟩ (.int .u64 m5)) ⟨w.heap.size, 2, none⟩ (.int .i64 (e - 2)) ((World.cell?_setCell_other _ _ _ _ (by simp)).trans ((World.cell?_setCell_other _ _ _ _ (by simp)).trans r2))
  go_wp2
  refine bodyPost_ret (v := .agg #[.bool b, .int .u64 m5, .int .i64 (e - 2)]) (by simp [results, Tryz.results72, go_sem, z2, s0, s1, s2]) rfl ⟨rfl, ?_⟩
  exact (by repeat (with_reducible first | exact Within.refl _ | assumption | refine Within.alloc ?_ _ | refine Within.drew ?_ | refine Within.setCell ?_ (by first | (simp; done) | (simp; omega)) _ | refine Within.trans ?_ (by assumption)))
set_option maxRecDepth 100000 in
set_option maxHeartbeats 600000 in
theorem nudge_down (x l m m3 m4 m5 : Nat) (b : Bool) (e : Int) (hm : m < 9007199254740992) (hm4 : m4 = 4 * m) (hm5 : m5 = m4 + 1) (hm3 : m4 = m3 + 1) (h1e : -3000 ≤ e) (h2e : e ≤ 3000) (TK : Hid (∀ w, Calls Tryz.prog 43 #[.float .f64 x] w fun e' w' => e' = .returned (.agg #[.bool b, .int .u64 m, .int .i64 e]) ∧ Within w w')) (hz : (FloatKind.f64.format.order l 0 == some .eq) = false) (g : Bool) (h1 : (FloatKind.f64.format.order l 0 == some .gt) = g) (h2 : (FloatKind.f64.format.order x 0 == some .gt) = !g) (w : World) : Calls Tryz.prog 72 #[.float .f64 x, .float .f64 l] w fun e' w' => e' = .returned (.agg #[.bool b, .int .u64 m3, .int .i64 (e - 2)]) ∧ Within w w' := by
  have g4 : IntKind.u64.wrap ((m : Int) * 4) = (m4 : Int) := by rw [IntKind.wrap_u64]; omega
  have g5 : IntKind.u64.wrap ((m4 : Int) + 1) = (m5 : Int) := by rw [IntKind.wrap_u64]; omega
  have g3 : IntKind.u64.wrap ((m4 : Int) - 1) = (m3 : Int) := by rw [IntKind.wrap_u64]; omega
  have g2 : IntKind.i64.wrap (e - 2) = e - 2 := by rw [IntKind.wrap_i64]; omega
  have hg : (g == !g) = false := by cases g <;> rfl
  have HM := Lib.hid (And.intro hm (And.intro hm4 (And.intro hm5 hm3)))
  clear hm hm4 hm5 hm3
  go_enter Tryz.func72, Tryz.ntmps72
  go_wp2_with fail
  refine (TK.out _).mono ?_; rintro e2 w2 ⟨rfl, hb2⟩
  have r0 : w2.cell? ⟨w.heap.size, 0, none⟩ = some (.bool false) := (hb2.cells _ _ (by simp)).trans (by simp)
  have r1 : w2.cell? ⟨w.heap.size, 1, none⟩ = some (.int .u64 0) := (hb2.cells _ _ (by simp)).trans (by simp)
  have r2 : w2.cell? ⟨w.heap.size, 2, none⟩ = some (.int .i64 0) := (hb2.cells _ _ (by simp)).trans (by simp)
  have y0 : w2.frozen? ⟨w.heap.size, 0, none⟩ = false := (hb2.frozens _ _ (by simp)).trans (by simp)
  have y1 : w2.frozen? ⟨w.heap.size, 1, none⟩ = false := (hb2.frozens _ _ (by simp)).trans (by simp)
  have y2 : w2.frozen? ⟨w.heap.size, 2, none⟩ = false := (hb2.frozens _ _ (by simp)).trans (by simp)
  have z2 : w.heap.size < w2.heap.size := World.block_lt_of_cell? _ _ r0
  have s0 := World.cell?_setCell_same w2 ⟨w.heap.size, 0, none⟩ (.bool b) r0
  have s1 := World.cell?_setCell_same (w2.setCell ⟨w.heap.size, 0, none⟩ (.bool b)) ⟨w.heap.size, 1, none⟩ (.int .u64 m3) ((World.cell?_setCell_other _ _ _ _ (by simp)).trans r1)
  have s2 := World.cell?_setCell_same ((w2.setCell ⟨w.heap.size, 0, none⟩ (.bool b)).setCell ⟨w.heap.size, 1, none⟩ (.int .u64 m3)) ⟨w.heap.size, 2, none⟩ (.int .i64 (e - 2)) ((World.cell?_setCell_other _ _ _ _ (by simp)).trans ((World.cell?_setCell_other _ _ _ _ (by simp)).trans r2))
  go_wp2
  refine bodyPost_ret (v := .agg #[.bool b, .int .u64 m3, .int .i64 (e - 2)]) (by simp [results, Tryz.results72, go_sem, z2, s0, s1, s2]) rfl ⟨rfl, ?_⟩
  exact (by repeat (with_reducible first | exact Within.refl _ | assumption | refine Within.alloc ?_ _ | refine Within.drew ?_ | refine Within.setCell ?_ (by first | (simp; done) | (simp; omega)) _ | refine Within.trans ?_ (by assumption)))
end Go.Proofs.YtifgngmebnjfkaaGreatDoor
end
