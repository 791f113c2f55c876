/- Package binnacleref00, whole numbers: products, shifts: walks. -/
import Derived.Test.YtifgngmebnjfkaaDoorBg10
import Derived.Test.YtifgngmebnjfkaaDoorBg6
import Derived.Test.YtifgngmebnjfkaaDoorBg7
namespace Go.Proofs.YtifgngmebnjfkaaDoor
open Go.RowKit

theorem dg_mul_len {a b n m : Nat} (ha : (dg a).length ≤ n) (hb : (dg b).length ≤ m) : (dg (a * b)).length ≤ n + m := by
  refine dg_len_le ?_
  have h1 := Nat.lt_of_lt_of_le (lt_of_dg a) (Nat.pow_le_pow_right (by decide) ha)
  have h2 := Nat.lt_of_lt_of_le (lt_of_dg b) (Nat.pow_le_pow_right (by decide) hb)
  rw [Nat.pow_add]
  exact Nat.mul_lt_mul_of_lt_of_le h1 (Nat.le_of_lt h2) (Nat.pow_pos (by decide))
theorem dg_shl_len {a n k : Nat} (ha : (dg a).length ≤ n) : (dg (a * 2 ^ (32 * k))).length ≤ n + k := by
  refine dg_len_le ?_
  have h1 := Nat.lt_of_lt_of_le (lt_of_dg a) (Nat.pow_le_pow_right (by decide) ha)
  rw [Nat.pow_add, Nat.pow_mul]
  exact Nat.mul_lt_mul_of_pos_right h1 (Nat.pow_pos (by decide))
theorem dg_shl_le {a n j k : Nat} (ha : (dg a).length ≤ n) (hj : j ≤ 32 * k) : (dg (a * 2 ^ j)).length ≤ n + k :=
  Nat.le_trans (dg_len_mono (Nat.mul_le_mul_left _ (Nat.pow_le_pow_right (by decide) hj))) (dg_shl_len ha)
set_option maxRecDepth 100000 in
set_option maxHeartbeats 600000 in
theorem Bmul0 (z x y : Nat) (sa sb : Bool) (na nb : Nat) (A Bv : Option Addr) (ca cb : Nat) (ha : (dg na).length ≤ 700000) (hb : (dg nb).length ≤ 700000) (w : World) (hz : IntTy w z) (a0 : w.cell? ⟨x, 0, none⟩ = some (.bool sa)) (a1 : w.cell? ⟨x, 1, none⟩ = some (.slice A (dg na).length ca)) (hra : RowAt w A (dg na)) (b0 : w.cell? ⟨y, 0, none⟩ = some (.bool sb)) (b1 : w.cell? ⟨y, 1, none⟩ = some (.slice Bv (dg nb).length cb)) (hrb : RowAt w Bv (dg nb)) : Calls Tryd.prog 88 #[.pointer (some ⟨z, 0, none⟩), .pointer (some ⟨x, 0, none⟩), .pointer (some ⟨y, 0, none⟩)] w (PutI w z (sgv (!sa == sb) (na * nb))) := by
  have HZ := Lib.hid hz; have HRA := Lib.hid hra; have HRB := Lib.hid hrb; clear hz hra hrb
  have hlx := World.block_lt_of_cell? w _ a0; have hly := World.block_lt_of_cell? w _ b0
  go_enter Tryd.func88, Tryd.ntmps88
  go_wp2
  refine wp_region_sched (fun W => W.cell? ⟨x, 0, none⟩ = some (.bool sa) ∧ W.cell? ⟨y, 0, none⟩ = some (.bool sb) ∧ W.cell? ⟨x, 1, none⟩ = some (.slice A (dg na).length ca) ∧ W.cell? ⟨y, 1, none⟩ = some (.slice Bv (dg nb).length cb)) 19 [(0, true), (1, true), (2, true), (3, true), (4, true), (5, true), (6, true), (7, true), (8, true), (9, true), (10, true), (11, true), (12, true), (13, true), (14, true), (15, true), (16, true), (17, true), (18, false), (19, false), (20, false)] (by kernel_rfl) (by kernel_rfl) ⟨a0, b0, a1, b1⟩ ?_
  intro hS
  repeat
    apply sched_firm rfl rfl hS
    · intro wq hq
      have hq0 := hq.1; have hq1 := hq.2.1; have hq2 := hq.2.2.1; have hq3 := hq.2.2.2
      clear hq
      go_simp
      first | rfl | (trace_state; fail)
    try simp only [Act.put, List.setIfInBounds_toArray, List.set_cons_zero, List.set_cons_succ]
  refine sched_one rfl rfl (fun K hK => ?_)
  go_simp
  refine (Btimes na nb A Bv ca cb ha hb w.drew (RowAt.drew HRA.out) (RowAt.drew HRB.out)).mono ?_
  rintro e2 w2 ⟨A', c', rfl, hc', hr', hb'⟩
  have hb2 : Within w w2 := (Within.refl w).drew.trans hb'
  refine hK _ _ (fun h => ⟨(hb2.cells _ _ hlx).trans a0, (hb2.cells _ _ hly).trans b0, (hb2.cells _ _ hlx).trans a1, (hb2.cells _ _ hly).trans b1⟩) ?_
  clear hK K
  try simp only [Act.put, List.setIfInBounds_toArray, List.set_cons_zero, List.set_cons_succ]
  refine sched_one rfl rfl (fun K hK => ?_)
  go_simp
  refine (Bput z _ (dg (na * nb)) A' c' (words_dg _) hc' (Nat.le_trans (dg_mul_len ha hb) (by decide)) w2 hr' (HZ.out.of hb2)).mono ?_
  rintro e3 w3 ⟨rfl, hI, hG⟩
  refine hK _ _ (fun h => absurd h (by decide)) ?_
  clear hK K
  try simp only [Act.put, List.setIfInBounds_toArray, List.set_cons_zero, List.set_cons_succ]
  refine sched_one rfl rfl (fun K hK => ?_)
  go_simp
  refine hK _ _ (fun h => absurd h (by decide)) ?_
  clear hK K
  try simp only [Act.put, List.setIfInBounds_toArray, List.set_cons_zero, List.set_cons_succ]
  refine sched_nil ?_
  go_wp2
  go_ret
  rw [wval_dg] at hI
  exact ⟨rfl, hI, grown_trans (grown_within z hb2) hG⟩

theorem Bmul (z x y : Nat) (a b : Int) (ha : (dg a.natAbs).length ≤ 700000) (hb : (dg b.natAbs).length ≤ 700000) (w : World) (hz : IntTy w z) (hx : IntB w x a) (hy : IntB w y b) : Calls Tryd.prog 88 #[.pointer (some ⟨z, 0, none⟩), .pointer (some ⟨x, 0, none⟩), .pointer (some ⟨y, 0, none⟩)] w (PutI w z (a * b)) := by
  obtain ⟨A, ca, a0, a1, hra⟩ := hx.rd
  obtain ⟨Bv, cb, b0, b1, hrb⟩ := hy.rd
  refine Calls.mono (Bmul0 z x y _ _ _ _ A Bv ca cb ha hb w hz a0 a1 hra b0 b1 hrb) (fun _ _ h => PutI_eq h ?_)
  unfold sgv
  rw [← Int.natAbs_mul]
  by_cases ha0 : a < 0 <;> by_cases hb0 : b < 0
  · have := Int.mul_pos_of_neg_of_neg ha0 hb0; simp [ha0, hb0]; omega
  · have := Int.mul_nonpos_of_nonpos_of_nonneg (Int.le_of_lt ha0) (Int.not_lt.1 hb0); simp [ha0, hb0]; omega
  · have := Int.mul_nonpos_of_nonneg_of_nonpos (Int.not_lt.1 ha0) (Int.le_of_lt hb0); simp [ha0, hb0]; omega
  · have := Int.mul_nonneg (Int.not_lt.1 ha0) (Int.not_lt.1 hb0); simp [ha0, hb0]; omega

set_option maxRecDepth 100000 in
set_option maxHeartbeats 600000 in
theorem Blsh0 (z x n : Nat) (sa : Bool) (na : Nat) (A : Option Addr) (ca : Nat) (ha : (dg na).length ≤ 400000) (hn : n ≤ 16000000) (w : World) (hz : IntTy w z) (a0 : w.cell? ⟨x, 0, none⟩ = some (.bool sa)) (a1 : w.cell? ⟨x, 1, none⟩ = some (.slice A (dg na).length ca)) (hra : RowAt w A (dg na)) : Calls Tryd.prog 93 #[.pointer (some ⟨z, 0, none⟩), .pointer (some ⟨x, 0, none⟩), .int .u64 (n : Int)] w (PutI w z (sgv sa (na * 2 ^ n))) := by
  have HZ := Lib.hid hz; have HRA := Lib.hid hra; clear hz hra
  have hlx := World.block_lt_of_cell? w _ a0
  go_enter Tryd.func93, Tryd.ntmps93
  go_wp2
  refine wp_region_sched (fun W => W.cell? ⟨x, 0, none⟩ = some (.bool sa) ∧ W.cell? ⟨x, 1, none⟩ = some (.slice A (dg na).length ca)) 11 [(0, true), (1, true), (2, true), (3, true), (4, true), (5, true), (6, true), (7, true), (8, true), (9, true), (10, false), (11, false), (12, false)] (by kernel_rfl) (by kernel_rfl) ⟨a0, a1⟩ ?_
  intro hS
  repeat
    apply sched_firm rfl rfl hS
    · intro wq hq
      have hq0 := hq.1; have hq1 := hq.2
      clear hq
      go_simp
      first | rfl | (trace_state; fail)
    try simp only [Act.put, List.setIfInBounds_toArray, List.set_cons_zero, List.set_cons_succ]
  refine sched_one rfl rfl (fun K hK => ?_)
  go_simp
  refine (Bleft na A ca n (by omega) hn w.drew (RowAt.drew HRA.out)).mono ?_
  rintro e2 w2 ⟨A', c', rfl, hc', hr', hb'⟩
  have hb2 : Within w w2 := (Within.refl w).drew.trans hb'
  refine hK _ _ (fun h => ⟨(hb2.cells _ _ hlx).trans a0, (hb2.cells _ _ hlx).trans a1⟩) ?_
  clear hK K
  try simp only [Act.put, List.setIfInBounds_toArray, List.set_cons_zero, List.set_cons_succ]
  refine sched_one rfl rfl (fun K hK => ?_)
  go_simp
  refine (Bput z _ (dg (na * 2 ^ n)) A' c' (words_dg _) hc' (Nat.le_trans (dg_shl_le (k := 500000) ha (by omega)) (by decide)) w2 hr' (HZ.out.of hb2)).mono ?_
  rintro e3 w3 ⟨rfl, hI, hG⟩
  refine hK _ _ (fun h => absurd h (by decide)) ?_
  clear hK K
  try simp only [Act.put, List.setIfInBounds_toArray, List.set_cons_zero, List.set_cons_succ]
  refine sched_one rfl rfl (fun K hK => ?_)
  go_simp
  refine hK _ _ (fun h => absurd h (by decide)) ?_
  clear hK K
  try simp only [Act.put, List.setIfInBounds_toArray, List.set_cons_zero, List.set_cons_succ]
  refine sched_nil ?_
  go_wp2
  go_ret
  rw [wval_dg] at hI
  exact ⟨rfl, hI, grown_trans (grown_within z hb2) hG⟩

theorem Blsh (z x n : Nat) (a : Int) (ha : (dg a.natAbs).length ≤ 400000) (hn : n ≤ 16000000) (w : World) (hz : IntTy w z) (hx : IntB w x a) : Calls Tryd.prog 93 #[.pointer (some ⟨z, 0, none⟩), .pointer (some ⟨x, 0, none⟩), .int .u64 (n : Int)] w (PutI w z (a * 2 ^ n)) := by
  obtain ⟨A, ca, a0, a1, hra⟩ := hx.rd
  refine Calls.mono (Blsh0 z x n _ _ A ca ha hn w hz a0 a1 hra) (fun _ _ h => PutI_eq h ?_)
  have e : ((a.natAbs * 2 ^ n : Nat) : Int) = (a.natAbs : Int) * 2 ^ n := by simp
  unfold sgv
  by_cases ha0 : a < 0
  · rw [if_pos (decide_eq_true ha0), e, ← Int.neg_mul]; congr 1; omega
  · rw [decide_eq_false ha0, if_neg (by decide), e]; congr 1; omega

set_option maxRecDepth 100000 in
set_option maxHeartbeats 600000 in
theorem Brsh0 (z x n : Nat) (na : Nat) (A : Option Addr) (ca : Nat) (ha : (dg na).length ≤ 1500000) (hn : n ≤ 40000000) (w : World) (hz : IntTy w z) (a0 : w.cell? ⟨x, 0, none⟩ = some (.bool false)) (a1 : w.cell? ⟨x, 1, none⟩ = some (.slice A (dg na).length ca)) (hra : RowAt w A (dg na)) : Calls Tryd.prog 132 #[.pointer (some ⟨z, 0, none⟩), .pointer (some ⟨x, 0, none⟩), .int .u64 (n : Int)] w (PutI w z ((na / 2 ^ n : Nat) : Int)) := by
  have HZ := Lib.hid hz; have HRA := Lib.hid hra; clear hz hra
  go_enter Tryd.func132, Tryd.ntmps132
  go_wp2_with fail
  refine (Bright na A ca n ha hn w HRA.out).mono ?_; rintro e2 w2 ⟨A', c', rfl, hc', hr', hb2⟩
  go_wp2_with fail
  refine (Bput z false (dg (na / 2 ^ n)) A' c' (words_dg _) hc' (Nat.le_trans (dg_len_mono (Nat.div_le_self _ _)) (by omega)) w2 hr' (HZ.out.of hb2)).mono ?_
  rintro e3 w3 ⟨rfl, hI, hG⟩
  go_wp2
  go_ret
  rw [wval_dg, sgv_no] at hI
  exact ⟨rfl, hI, grown_trans (grown_within z hb2) hG⟩

theorem Brsh (z x n : Nat) (a : Nat) (ha : (dg a).length ≤ 1500000) (hn : n ≤ 40000000) (w : World) (hz : IntTy w z) (hx : IntB w x a) : Calls Tryd.prog 132 #[.pointer (some ⟨z, 0, none⟩), .pointer (some ⟨x, 0, none⟩), .int .u64 (n : Int)] w (PutI w z ((a / 2 ^ n : Nat) : Int)) := by
  obtain ⟨A, ca, a0, a1, hra⟩ := hx.rd
  rw [decide_eq_false (by omega)] at a0
  exact Brsh0 z x n a A ca ha hn w hz a0 a1 hra
end Go.Proofs.YtifgngmebnjfkaaDoor
