/- Package binnacleref00, whole numbers: signs, order, length, words: walks. -/
import Derived.Test.YtifgngmebnjfkaaDoorBg9
import Derived.Test.YtifgngmebnjfkaaDoorBg4
import Derived.Test.YtifgngmebnjfkaaDoorLen
import Derived.Deep.QuietTactic
import Derived.BigQuiet
namespace Go.Proofs.YtifgngmebnjfkaaDoor
open Go.RowKit

set_option maxRecDepth 100000 in
set_option maxHeartbeats 600000 in
theorem Bsign_zero (x : Nat) (v : Int) (h : v = 0) (w : World) (hx : IntB w x v) : Calls Tryd.prog 63 #[.pointer (some ⟨x, 0, none⟩)] w (fun e w' => e = .returned (.int .i64 (0)) ∧ w = w') := by
  obtain ⟨A, c, c0, c1, _⟩ := hx.rd
  subst h
  rw [show (dg (0 : Int).natAbs) = [] from dg_zero] at c1
  have d : (((List.length ([] : List Nat) : Nat) : Int) == 0) = true := rfl
  clear hx
  go_enter Tryd.func63, Tryd.ntmps63
  go_wp2
  go_ret
  exact ⟨rfl, rfl⟩

set_option maxRecDepth 100000 in
set_option maxHeartbeats 600000 in
theorem Bsign_neg (x : Nat) (v : Int) (h : v < 0) (w : World) (hx : IntB w x v) : Calls Tryd.prog 63 #[.pointer (some ⟨x, 0, none⟩)] w (fun e w' => e = .returned (.int .i64 (-1)) ∧ w = w') := by
  obtain ⟨A, c, c0, c1, _⟩ := hx.rd
  have hp := dg_len_pos (n := v.natAbs) (by omega)
  rw [decide_eq_true (by omega)] at c0
  obtain ⟨k, hk⟩ : ∃ k, k = (dg v.natAbs).length := ⟨_, rfl⟩
  rw [← hk] at c1 hp
  clear hk
  have d : ((k : Int) == 0) = false := beq_eq_false_iff_ne.2 (by omega)
  clear hx h
  go_enter Tryd.func63, Tryd.ntmps63
  go_wp2
  go_ret
  exact ⟨rfl, rfl⟩

set_option maxRecDepth 100000 in
set_option maxHeartbeats 600000 in
theorem Bsign_pos (x : Nat) (v : Int) (h : 0 < v) (w : World) (hx : IntB w x v) : Calls Tryd.prog 63 #[.pointer (some ⟨x, 0, none⟩)] w (fun e w' => e = .returned (.int .i64 (1)) ∧ w = w') := by
  obtain ⟨A, c, c0, c1, _⟩ := hx.rd
  have hp := dg_len_pos (n := v.natAbs) (by omega)
  rw [decide_eq_false (by omega)] at c0
  obtain ⟨k, hk⟩ : ∃ k, k = (dg v.natAbs).length := ⟨_, rfl⟩
  rw [← hk] at c1 hp
  clear hk
  have d : ((k : Int) == 0) = false := beq_eq_false_iff_ne.2 (by omega)
  clear hx h
  go_enter Tryd.func63, Tryd.ntmps63
  go_wp2
  go_ret
  exact ⟨rfl, rfl⟩

theorem Bsign (x : Nat) (v : Int) (w : World) (hx : IntB w x v) : Calls Tryd.prog 63 #[.pointer (some ⟨x, 0, none⟩)] w (fun e w' => e = .returned (.int .i64 v.sign) ∧ w = w') := by
  rcases Int.lt_trichotomy v 0 with h | h | h
  · rw [Int.sign_eq_neg_one_of_neg h]; exact Bsign_neg x v h w hx
  · subst h; exact Bsign_zero x 0 rfl w hx
  · rw [Int.sign_eq_one_of_pos h]; exact Bsign_pos x v h w hx

def cmpI (a b : Int) : Int := if a < b then -1 else if b < a then 1 else 0
theorem cmpN_range (a b : Nat) : -1 ≤ cmpN a b ∧ cmpN a b ≤ 1 := by unfold cmpN; split <;> (try split) <;> omega
set_option maxRecDepth 100000 in
set_option maxHeartbeats 600000 in
theorem Bcmp_00 (x y : Nat) (na nb : Nat) (A Bv : Option Addr) (ca cb : Nat) (ha : (dg na).length ≤ 1000000) (hb : (dg nb).length ≤ 1000000) (w : World) (a0 : w.cell? ⟨x, 0, none⟩ = some (.bool false)) (a1 : w.cell? ⟨x, 1, none⟩ = some (.slice A (dg na).length ca)) (hra : RowAt w A (dg na)) (b0 : w.cell? ⟨y, 0, none⟩ = some (.bool false)) (b1 : w.cell? ⟨y, 1, none⟩ = some (.slice Bv (dg nb).length cb)) (hrb : RowAt w Bv (dg nb)) : Calls Tryd.prog 61 #[.pointer (some ⟨x, 0, none⟩), .pointer (some ⟨y, 0, none⟩)] w (fun e w' => e = .returned (.int .i64 (cmpN na nb)) ∧ Within w w') := by
  have HRA := Lib.hid hra; have HRB := Lib.hid hrb; clear hra hrb
  have hlx := World.block_lt_of_cell? w _ a0; have hly := World.block_lt_of_cell? w _ b0
  go_enter Tryd.func61, Tryd.ntmps61
  go_wp2
  go_quiet (fail)
  go_wp2
  obtain ⟨w1, hw1⟩ : ∃ w1, w1 = w.drewN nq := ⟨_, rfl⟩
  rw [← hw1]
  have hb1 : Within w w1 := by rw [hw1]; exact (Within.refl w).drewN _
  have a0' := (hb1.cells _ 0 hlx).trans a0; have a1' := (hb1.cells _ 1 hlx).trans a1; have b1' := (hb1.cells _ 1 hly).trans b1
  clear hw1
  refine wp_region_sched (fun W => W.cell? ⟨x, 1, none⟩ = some (.slice A (dg na).length ca) ∧ W.cell? ⟨y, 1, none⟩ = some (.slice Bv (dg nb).length cb)) 8 [(0, true), (1, true), (2, true), (3, true), (4, true), (5, true), (6, true), (7, true), (8, false), (9, false)] (by kernel_rfl) (by kernel_rfl) ⟨a1', b1'⟩ ?_
  intro hS
  repeat
    apply sched_firm rfl rfl hS
    · intro wq hq
      have hq0 := hq.1; have hq1 := hq.2
      clear hq
      go_simp
      first | rfl | (trace_state; fail)
    try simp only [Act.put, List.setIfInBounds_toArray, List.set_cons_zero, List.set_cons_succ]
  refine sched_one rfl rfl (fun K hK => ?_)
  go_simp
  refine (Bcompare na nb A Bv ca cb (by omega) (by omega) w1.drew (RowAt.drew (HRA.out.of hb1)) (RowAt.drew (HRB.out.of hb1))).mono ?_
  rintro e1 w2 ⟨rfl, hb2'⟩
  obtain ⟨cm, hcm⟩ : ∃ cm, cm = cmpN na nb := ⟨_, rfl⟩
  have hr := cmpN_range na nb
  rw [← hcm] at hr ⊢
  have HCM := Lib.hid hcm; clear hcm
  have hb2 : Within w w2 := hb1.drew.trans hb2'
  refine hK _ _ (fun h => absurd h (by decide)) ?_
  clear hK K
  try simp only [Act.put, List.setIfInBounds_toArray, List.set_cons_zero, List.set_cons_succ]
  refine sched_one rfl rfl (fun K hK => ?_)
  go_simp
  refine hK _ _ (fun h => absurd h (by decide)) ?_
  clear hK K
  try simp only [Act.put, List.setIfInBounds_toArray, List.set_cons_zero, List.set_cons_succ]
  refine sched_nil ?_
  have a0'' := (hb2.cells _ 0 hlx).trans a0
  go_wp2
  go_ret
  exact ⟨ret_int (by rw [HCM.out]), hb2⟩

set_option maxRecDepth 100000 in
set_option maxHeartbeats 600000 in
theorem Bcmp_01 (x y : Nat) (na nb : Nat) (A Bv : Option Addr) (ca cb : Nat) (ha : (dg na).length ≤ 1000000) (hb : (dg nb).length ≤ 1000000) (w : World) (a0 : w.cell? ⟨x, 0, none⟩ = some (.bool false)) (a1 : w.cell? ⟨x, 1, none⟩ = some (.slice A (dg na).length ca)) (hra : RowAt w A (dg na)) (b0 : w.cell? ⟨y, 0, none⟩ = some (.bool true)) (b1 : w.cell? ⟨y, 1, none⟩ = some (.slice Bv (dg nb).length cb)) (hrb : RowAt w Bv (dg nb)) : Calls Tryd.prog 61 #[.pointer (some ⟨x, 0, none⟩), .pointer (some ⟨y, 0, none⟩)] w (fun e w' => e = .returned (.int .i64 (1)) ∧ Within w w') := by
  clear hra hrb ha hb
  go_enter Tryd.func61, Tryd.ntmps61
  go_wp2
  go_quiet (fail)
  go_wp2
  go_ret
  exact ⟨rfl, (Within.refl w).drewN _⟩

set_option maxRecDepth 100000 in
set_option maxHeartbeats 600000 in
theorem Bcmp_10 (x y : Nat) (na nb : Nat) (A Bv : Option Addr) (ca cb : Nat) (ha : (dg na).length ≤ 1000000) (hb : (dg nb).length ≤ 1000000) (w : World) (a0 : w.cell? ⟨x, 0, none⟩ = some (.bool true)) (a1 : w.cell? ⟨x, 1, none⟩ = some (.slice A (dg na).length ca)) (hra : RowAt w A (dg na)) (b0 : w.cell? ⟨y, 0, none⟩ = some (.bool false)) (b1 : w.cell? ⟨y, 1, none⟩ = some (.slice Bv (dg nb).length cb)) (hrb : RowAt w Bv (dg nb)) : Calls Tryd.prog 61 #[.pointer (some ⟨x, 0, none⟩), .pointer (some ⟨y, 0, none⟩)] w (fun e w' => e = .returned (.int .i64 (-1)) ∧ Within w w') := by
  clear hra hrb ha hb
  go_enter Tryd.func61, Tryd.ntmps61
  go_wp2
  go_quiet (fail)
  go_wp2
  go_ret
  exact ⟨rfl, (Within.refl w).drewN _⟩

set_option maxRecDepth 100000 in
set_option maxHeartbeats 600000 in
theorem Bcmp_11 (x y : Nat) (na nb : Nat) (A Bv : Option Addr) (ca cb : Nat) (ha : (dg na).length ≤ 1000000) (hb : (dg nb).length ≤ 1000000) (w : World) (a0 : w.cell? ⟨x, 0, none⟩ = some (.bool true)) (a1 : w.cell? ⟨x, 1, none⟩ = some (.slice A (dg na).length ca)) (hra : RowAt w A (dg na)) (b0 : w.cell? ⟨y, 0, none⟩ = some (.bool true)) (b1 : w.cell? ⟨y, 1, none⟩ = some (.slice Bv (dg nb).length cb)) (hrb : RowAt w Bv (dg nb)) : Calls Tryd.prog 61 #[.pointer (some ⟨x, 0, none⟩), .pointer (some ⟨y, 0, none⟩)] w (fun e w' => e = .returned (.int .i64 (-cmpN na nb)) ∧ Within w w') := by
  have HRA := Lib.hid hra; have HRB := Lib.hid hrb; clear hra hrb
  have hlx := World.block_lt_of_cell? w _ a0; have hly := World.block_lt_of_cell? w _ b0
  go_enter Tryd.func61, Tryd.ntmps61
  go_wp2
  go_quiet (fail)
  go_wp2
  obtain ⟨w1, hw1⟩ : ∃ w1, w1 = w.drewN nq := ⟨_, rfl⟩
  rw [← hw1]
  have hb1 : Within w w1 := by rw [hw1]; exact (Within.refl w).drewN _
  have a0' := (hb1.cells _ 0 hlx).trans a0; have a1' := (hb1.cells _ 1 hlx).trans a1; have b1' := (hb1.cells _ 1 hly).trans b1
  clear hw1
  refine wp_region_sched (fun W => W.cell? ⟨x, 1, none⟩ = some (.slice A (dg na).length ca) ∧ W.cell? ⟨y, 1, none⟩ = some (.slice Bv (dg nb).length cb)) 8 [(0, true), (1, true), (2, true), (3, true), (4, true), (5, true), (6, true), (7, true), (8, false), (9, false)] (by kernel_rfl) (by kernel_rfl) ⟨a1', b1'⟩ ?_
  intro hS
  repeat
    apply sched_firm rfl rfl hS
    · intro wq hq
      have hq0 := hq.1; have hq1 := hq.2
      clear hq
      go_simp
      first | rfl | (trace_state; fail)
    try simp only [Act.put, List.setIfInBounds_toArray, List.set_cons_zero, List.set_cons_succ]
  refine sched_one rfl rfl (fun K hK => ?_)
  go_simp
  refine (Bcompare na nb A Bv ca cb (by omega) (by omega) w1.drew (RowAt.drew (HRA.out.of hb1)) (RowAt.drew (HRB.out.of hb1))).mono ?_
  rintro e1 w2 ⟨rfl, hb2'⟩
  obtain ⟨cm, hcm⟩ : ∃ cm, cm = cmpN na nb := ⟨_, rfl⟩
  have hr := cmpN_range na nb
  rw [← hcm] at hr ⊢
  have HCM := Lib.hid hcm; clear hcm
  have hb2 : Within w w2 := hb1.drew.trans hb2'
  refine hK _ _ (fun h => absurd h (by decide)) ?_
  clear hK K
  try simp only [Act.put, List.setIfInBounds_toArray, List.set_cons_zero, List.set_cons_succ]
  refine sched_one rfl rfl (fun K hK => ?_)
  go_simp
  refine hK _ _ (fun h => absurd h (by decide)) ?_
  clear hK K
  try simp only [Act.put, List.setIfInBounds_toArray, List.set_cons_zero, List.set_cons_succ]
  refine sched_nil ?_
  have a0'' := (hb2.cells _ 0 hlx).trans a0
  have g1 : IntKind.i64.wrap (-cm) = -cm := by rw [IntKind.wrap_i64]; omega
  go_wp2
  go_ret
  exact ⟨ret_int (by rw [HCM.out]), hb2⟩

theorem Bcmp (x y : Nat) (a b : Int) (ha : (dg a.natAbs).length ≤ 1000000) (hb : (dg b.natAbs).length ≤ 1000000) (w : World) (hx : IntB w x a) (hy : IntB w y b) : Calls Tryd.prog 61 #[.pointer (some ⟨x, 0, none⟩), .pointer (some ⟨y, 0, none⟩)] w (fun e w' => e = .returned (.int .i64 (cmpI a b)) ∧ Within w w') := by
  obtain ⟨A, ca, a0, a1, hra⟩ := hx.rd
  obtain ⟨Bv, cb, b0, b1, hrb⟩ := hy.rd
  by_cases ha0 : a < 0 <;> by_cases hb0 : b < 0
  · rw [decide_eq_true ha0] at a0; rw [decide_eq_true hb0] at b0
    refine (Bcmp_11 x y _ _ A Bv ca cb ha hb w a0 a1 hra b0 b1 hrb).mono fun e w' h => ⟨h.1.trans (ret_int ?_), h.2⟩
    unfold cmpI cmpN; repeat' split
    all_goals omega
  · rw [decide_eq_true ha0] at a0; rw [decide_eq_false hb0] at b0
    refine (Bcmp_10 x y _ _ A Bv ca cb ha hb w a0 a1 hra b0 b1 hrb).mono fun e w' h => ⟨h.1.trans (ret_int ?_), h.2⟩
    unfold cmpI; rw [if_pos (by omega)]
  · rw [decide_eq_false ha0] at a0; rw [decide_eq_true hb0] at b0
    refine (Bcmp_01 x y _ _ A Bv ca cb ha hb w a0 a1 hra b0 b1 hrb).mono fun e w' h => ⟨h.1.trans (ret_int ?_), h.2⟩
    unfold cmpI; rw [if_neg (by omega), if_pos (by omega)]
  · rw [decide_eq_false ha0] at a0; rw [decide_eq_false hb0] at b0
    refine (Bcmp_00 x y _ _ A Bv ca cb ha hb w a0 a1 hra b0 b1 hrb).mono fun e w' h => ⟨h.1.trans (ret_int ?_), h.2⟩
    unfold cmpI cmpN; repeat' split
    all_goals omega

/-- how many bits -/
def blen (n : Nat) : Nat := if n = 0 then 0 else n.log2 + 1
theorem blen_zero : blen 0 = 0 := rfl
theorem blen_pos {n : Nat} (h : n ≠ 0) : blen n = n.log2 + 1 := if_neg h
theorem blen_top {n k : Nat} (hk : (dg n).length = k + 1) : blen n = 32 * k + Lib.bitLen ((dg n).getD k 0) ∧ (dg n).getD k 0 ≠ 0 ∧ (dg n).getD k 0 < 4294967296 := by
  have h0 : n ≠ 0 := fun h => by rw [h, dg_zero] at hk; simp at hk
  have ht := dg_last h0
  rw [hk, Nat.add_sub_cancel] at ht
  have hw := (words_dg n).getD k
  refine ⟨?_, ht, hw⟩
  have hs := lo_succ (dg n) k
  rw [lo_all _ (Nat.le_of_eq hk), wval_dg] at hs
  have hl := lo_lt (dg n) (words_dg n) k
  rw [blen_pos h0, bitLen_log2 _ ht (by omega)]
  generalize (dg n).getD k 0 = t at *
  have e : (4294967296 : Nat) ^ k = 2 ^ (32 * k) := by rw [show (4294967296 : Nat) = 2 ^ 32 from rfl, ← Nat.pow_mul]
  rw [e] at hs hl
  have h1 : n / 2 ^ (32 * k) = t := by
    rw [hs, Nat.add_mul_div_left _ _ (Nat.two_pow_pos _), Nat.div_eq_of_lt hl, Nat.zero_add]
  have h2 : n.log2 = 32 * k + t.log2 := by
    rw [Nat.log2_eq_iff h0]
    have a1 := Nat.log2_self_le ht
    have a2 := Nat.lt_log2_self (n := t)
    constructor
    · rw [Nat.pow_add]
      calc 2 ^ (32 * k) * 2 ^ t.log2 ≤ 2 ^ (32 * k) * t := Nat.mul_le_mul_left _ a1
        _ ≤ n := by rw [← h1]; exact Nat.mul_div_le _ _
    · rw [Nat.add_assoc, Nat.pow_add]
      have : n < 2 ^ (32 * k) * (t + 1) := by rw [← h1]; exact Nat.lt_mul_div_succ _ (Nat.two_pow_pos _)
      exact Nat.lt_of_lt_of_le this (Nat.mul_le_mul_left _ a2)
  omega
set_option maxRecDepth 100000 in
set_option maxHeartbeats 600000 in
theorem bits_len32' (x : Int) (w : World) (h0 : 0 ≤ x) (h1 : x ≤ 4294967295) : Calls Tryd.prog 139 #[.int .u32 x] w (fun e w' => e = .returned (.int .i64 (Lib.bitLen x.toNat)) ∧ w = w') := by
  have hsz := len8_size
  go_enter Tryd.func139, Tryd.ntmps139
  go_wp2
  all_goals (go_ret; refine ⟨ret_int ?_, rfl⟩)
  all_goals simp only [len8_at]
  · rw [← len_e24 x.toNat (by omega) (by omega), show (x / 65536 / 256).toNat = x.toNat / 16777216 by omega]
  · rw [← len_e16 x.toNat (by omega) (by omega), show (x / 65536).toNat = x.toNat / 65536 by omega]
  · rw [← len_e8 x.toNat (by omega) (by omega), show (x / 256).toNat = x.toNat / 256 by omega]
  · have := len_e0 x.toNat (by omega); simpa using this

theorem bits_len32 (x : Nat) (hx : x < 4294967296) (w : World) : Calls Tryd.prog 139 #[.int .u32 (x : Int)] w (fun e w' => e = .returned (.int .i64 (Lib.bitLen x)) ∧ w = w') := by
  have := bits_len32' (x : Int) w (by omega) (by omega)
  rwa [Int.toNat_natCast] at this

set_option maxRecDepth 100000 in
set_option maxHeartbeats 600000 in
theorem Bbitlen_zero (x : Nat) (w : World) (hx : IntB w x 0) : Calls Tryd.prog 128 #[.pointer (some ⟨x, 0, none⟩)] w (fun e w' => e = .returned (.int .i64 0) ∧ Within w w') := by
  obtain ⟨A, c, c0, c1, _⟩ := hx.rd
  rw [show (dg (0 : Int).natAbs) = [] from dg_zero] at c1
  clear hx
  go_enter Tryd.func128, Tryd.ntmps128
  go_wp2
  go_ret
  exact ⟨rfl, Within.refl _⟩

set_option maxRecDepth 100000 in
set_option maxHeartbeats 600000 in
theorem Bbitlen_pos (x k t gm c L : Nat) (hk : k ≤ 1000000) (hL : L ≤ 32) (w : World) (c1 : w.cell? ⟨x, 1, none⟩ = some (.slice (some ⟨gm, 0, none⟩) (k + 1) c)) (ct : w.cell? ⟨gm, k, none⟩ = some (.int .u32 (t : Int))) (LN : Hid (∀ w, Calls Tryd.prog 139 #[.int .u32 (t : Int)] w (fun e w' => e = .returned (.int .i64 (L : Int)) ∧ w = w'))) : Calls Tryd.prog 128 #[.pointer (some ⟨x, 0, none⟩)] w (fun e w' => e = .returned (.int .i64 (32 * (k : Int) + (L : Int))) ∧ Within w w') := by
  have e1 : IntKind.i64.wrap (k : Int) = (k : Int) := by rw [IntKind.wrap_i64]; omega
  have e2 : IntKind.i64.wrap (32 * (k : Int)) = 32 * (k : Int) := by rw [IntKind.wrap_i64]; omega
  have e3 : IntKind.i64.wrap (32 * (k : Int) + (L : Int)) = 32 * (k : Int) + (L : Int) := by rw [IntKind.wrap_i64]; omega
  have e4 : (k : Int) < (k : Int) + 1 := by omega
  go_enter Tryd.func128, Tryd.ntmps128
  go_wp2
  refine wp_region_sched (fun W => W.cell? ⟨x, 1, none⟩ = some (.slice (some ⟨gm, 0, none⟩) (k + 1) c) ∧ W.cell? ⟨gm, k, none⟩ = some (.int .u32 (t : Int))) 20 [(0, true), (1, true), (2, true), (3, true), (4, true), (5, true), (6, true), (7, true), (8, true), (9, true), (10, true), (11, true), (12, true), (13, true), (14, true), (15, true), (16, true), (17, true), (18, true), (19, false), (20, false), (21, false)] (by kernel_rfl) (by kernel_rfl) ⟨c1, ct⟩ ?_
  intro hS
  repeat
    apply sched_firm rfl rfl hS
    · intro wq hq
      have hq0 := hq.1; have hq1 := hq.2
      clear hq
      go_simp
      first | rfl | (trace_state; fail)
    try simp only [Act.put, List.setIfInBounds_toArray, List.set_cons_zero, List.set_cons_succ]
  refine sched_one rfl rfl (fun K hK => ?_)
  go_simp
  refine (LN.out w.drew).mono ?_
  rintro e1 w2 ⟨rfl, rfl⟩
  refine hK _ _ (fun h => ⟨c1, ct⟩) ?_
  clear hK K
  try simp only [Act.put, List.setIfInBounds_toArray, List.set_cons_zero, List.set_cons_succ]
  refine sched_one rfl rfl (fun K hK => ?_)
  go_simp
  refine hK _ _ (fun h => absurd h (by decide)) ?_
  clear hK K
  try simp only [Act.put, List.setIfInBounds_toArray, List.set_cons_zero, List.set_cons_succ]
  refine sched_one rfl rfl (fun K hK => ?_)
  go_simp
  refine hK _ _ (fun h => absurd h (by decide)) ?_
  clear hK K
  try simp only [Act.put, List.setIfInBounds_toArray, List.set_cons_zero, List.set_cons_succ]
  refine sched_nil ?_
  go_wp2
  go_ret
  exact ⟨rfl, (Within.refl w).drew⟩

theorem Bbitlen (x : Nat) (v : Int) (hv : (dg v.natAbs).length ≤ 1000000) (w : World) (hx : IntB w x v) : Calls Tryd.prog 128 #[.pointer (some ⟨x, 0, none⟩)] w (fun e w' => e = .returned (.int .i64 (blen v.natAbs : Nat)) ∧ Within w w') := by
  by_cases h : v = 0
  · subst h; exact Bbitlen_zero x w hx
  · obtain ⟨A, c, c0, c1, hr⟩ := hx.rd
    obtain ⟨k, hk⟩ : ∃ k, (dg v.natAbs).length = k + 1 := ⟨_, (Nat.succ_pred_eq_of_pos (dg_len_pos (by omega))).symm⟩
    obtain ⟨g, rfl, _, ct⟩ := hr.cell (i := k) (by omega)
    obtain ⟨hb, h0, hlt⟩ := blen_top hk
    have hL : Lib.bitLen ((dg v.natAbs).getD k 0) ≤ 32 := by
      rw [bitLen_log2 _ h0 (by omega)]
      have := (Nat.log2_lt h0 (k := 32)).2 hlt
      omega
    rw [hk] at c1
    refine (Bbitlen_pos x k _ g c _ (by omega) hL w c1 ct (Lib.hid fun w => bits_len32 _ hlt w)).mono fun e w' h => ⟨h.1.trans (ret_int ?_), h.2⟩
    rw [hb]; omega

end Go.Proofs.YtifgngmebnjfkaaDoor
