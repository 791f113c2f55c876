/- What the law's walk rests on, part 3: contracts of functions and plain facts. -/
import Derived.Test.YtgkcpnidmfejeaaGreatDoorZEnc2
set_option linter.unusedVariables false
set_option linter.unusedSimpArgs false
set_option maxRecDepth 100000
set_option maxHeartbeats 4000000
namespace Go.Proofs.YtgkcpnidmfejeaaGreatDoor
open Go.RowKit
def cmpI (a b : Int) : Int := if a < b then -1 else if b < a then 1 else 0
theorem cmpN_range (a b : Nat) : -1 ≤ cmpN a b ∧ cmpN a b ≤ 1 := by unfold cmpN; split <;> (try split) <;> omega
theorem Bcmp_00 (x y : Nat) (na nb : Nat) (A Bv : Option Addr) (ca cb : Nat) (ha : (dg na).length ≤ 1000000) (hb : (dg nb).length ≤ 1000000) (w : World) (a0 : w.cell? ⟨x, 0, none⟩ = some (.bool false)) (a1 : w.cell? ⟨x, 1, none⟩ = some (.slice A (dg na).length ca)) (hra : RowAt w A (dg na)) (b0 : w.cell? ⟨y, 0, none⟩ = some (.bool false)) (b1 : w.cell? ⟨y, 1, none⟩ = some (.slice Bv (dg nb).length cb)) (hrb : RowAt w Bv (dg nb)) : Calls Tryz.prog 133 #[.pointer (some ⟨x, 0, none⟩), .pointer (some ⟨y, 0, none⟩)] w (fun e w' => e = .returned (.int .i64 (cmpN na nb)) ∧ Within w w') := by
 have HRA := Hh hra; have HRB := Hh hrb; clear hra hrb
 have hlx := World.block_lt_of_cell? w _ a0; have hly := World.block_lt_of_cell? w _ b0
 go_enter Tryz.func133, Tryz.ntmps133
 go_wp2
 go_quiet (fail)
 go_wp2
 obtain ⟨w1, hw1⟩ : ∃ w1, w1 = w.drewN nq := ⟨_, rfl⟩
 rw [← hw1]
 have hb1 : Within w w1 := by rw [hw1]; exact (Within.refl w).drewN _
 have a0' := (hb1.cells _ 0 hlx).trans a0; have a1' := (hb1.cells _ 1 hlx).trans a1; have b1' := (hb1.cells _ 1 hly).trans b1
 clear hw1
 refine wp_region_sched (fun W => W.cell? ⟨x, 1, none⟩ = some (.slice A (dg na).length ca) ∧ W.cell? ⟨y, 1, none⟩ = some (.slice Bv (dg nb).length cb)) 8 [(0, true), (1, true), (2, true), (3, true), (4, true), (5, true), (6, true), (7, true), (8, false), (9, false)] kr kr ⟨a1', b1'⟩ ?_
 intro hS
 repeat
  apply sched_firm rfl rfl hS
  ·exact zz22
  try simp only [pu]
 refine sched_one rfl rfl (fun K hK => ?_)
 go_simp
 refine (Bcompare na nb A Bv ca cb om om w1.drew (RowAt.drew (HRA.out.of hb1)) (RowAt.drew (HRB.out.of hb1))).mono ?_
 rintro e1 w2 ⟨rfl, hb2'⟩
 obtain ⟨cm, hcm⟩ : ∃ cm, cm = cmpN na nb := ⟨_, rfl⟩
 have hr := cmpN_range na nb
 rw [← hcm] at hr ⊢
 have HCM := Hh hcm; clear hcm
 have hb2 : Within w w2 := hb1.drew.trans hb2'
 refine hK _ _ ab ?_
 clear hK K
 try simp only [pu]
 refine sched_one rfl rfl (fun K hK => ?_)
 go_simp
 refine hK _ _ ab ?_
 clear hK K
 try simp only [pu]
 refine sched_nil ?_
 have a0'' := (hb2.cells _ 0 hlx).trans a0
 go_wp2
 go_ret
 exact ⟨ret_int (by rw [HCM.out]), hb2⟩
theorem zz107 {p : Prop} (h : p := by
 clear hra hrb ha hb
 go_enter Tryz.func133, Tryz.ntmps133
 go_wp2
 go_quiet (fail)
 go_wp2
 go_ret
 exact ⟨rfl, (Within.refl w).drewN _⟩) : p := h
theorem Bcmp_01 (x y : Nat) (na nb : Nat) (A Bv : Option Addr) (ca cb : Nat) (ha : (dg na).length ≤ 1000000) (hb : (dg nb).length ≤ 1000000) (w : World) (a0 : w.cell? ⟨x, 0, none⟩ = some (.bool false)) (a1 : w.cell? ⟨x, 1, none⟩ = some (.slice A (dg na).length ca)) (hra : RowAt w A (dg na)) (b0 : w.cell? ⟨y, 0, none⟩ = some (.bool true)) (b1 : w.cell? ⟨y, 1, none⟩ = some (.slice Bv (dg nb).length cb)) (hrb : RowAt w Bv (dg nb)) : Calls Tryz.prog 133 #[.pointer (some ⟨x, 0, none⟩), .pointer (some ⟨y, 0, none⟩)] w (fun e w' => e = .returned (.int .i64 (1)) ∧ Within w w') := by
 exact zz107
theorem Bcmp_10 (x y : Nat) (na nb : Nat) (A Bv : Option Addr) (ca cb : Nat) (ha : (dg na).length ≤ 1000000) (hb : (dg nb).length ≤ 1000000) (w : World) (a0 : w.cell? ⟨x, 0, none⟩ = some (.bool true)) (a1 : w.cell? ⟨x, 1, none⟩ = some (.slice A (dg na).length ca)) (hra : RowAt w A (dg na)) (b0 : w.cell? ⟨y, 0, none⟩ = some (.bool false)) (b1 : w.cell? ⟨y, 1, none⟩ = some (.slice Bv (dg nb).length cb)) (hrb : RowAt w Bv (dg nb)) : Calls Tryz.prog 133 #[.pointer (some ⟨x, 0, none⟩), .pointer (some ⟨y, 0, none⟩)] w (fun e w' => e = .returned (.int .i64 (-1)) ∧ Within w w') := by
 exact zz107
theorem Bcmp_11 (x y : Nat) (na nb : Nat) (A Bv : Option Addr) (ca cb : Nat) (ha : (dg na).length ≤ 1000000) (hb : (dg nb).length ≤ 1000000) (w : World) (a0 : w.cell? ⟨x, 0, none⟩ = some (.bool true)) (a1 : w.cell? ⟨x, 1, none⟩ = some (.slice A (dg na).length ca)) (hra : RowAt w A (dg na)) (b0 : w.cell? ⟨y, 0, none⟩ = some (.bool true)) (b1 : w.cell? ⟨y, 1, none⟩ = some (.slice Bv (dg nb).length cb)) (hrb : RowAt w Bv (dg nb)) : Calls Tryz.prog 133 #[.pointer (some ⟨x, 0, none⟩), .pointer (some ⟨y, 0, none⟩)] w (fun e w' => e = .returned (.int .i64 (-cmpN na nb)) ∧ Within w w') := by
 have HRA := Hh hra; have HRB := Hh hrb; clear hra hrb
 have hlx := World.block_lt_of_cell? w _ a0; have hly := World.block_lt_of_cell? w _ b0
 go_enter Tryz.func133, Tryz.ntmps133
 go_wp2
 go_quiet (fail)
 go_wp2
 obtain ⟨w1, hw1⟩ : ∃ w1, w1 = w.drewN nq := ⟨_, rfl⟩
 rw [← hw1]
 have hb1 : Within w w1 := by rw [hw1]; exact (Within.refl w).drewN _
 have a0' := (hb1.cells _ 0 hlx).trans a0; have a1' := (hb1.cells _ 1 hlx).trans a1; have b1' := (hb1.cells _ 1 hly).trans b1
 clear hw1
 refine wp_region_sched (fun W => W.cell? ⟨x, 1, none⟩ = some (.slice A (dg na).length ca) ∧ W.cell? ⟨y, 1, none⟩ = some (.slice Bv (dg nb).length cb)) 8 [(0, true), (1, true), (2, true), (3, true), (4, true), (5, true), (6, true), (7, true), (8, false), (9, false)] kr kr ⟨a1', b1'⟩ ?_
 intro hS
 repeat
  apply sched_firm rfl rfl hS
  ·exact zz22
  try simp only [pu]
 refine sched_one rfl rfl (fun K hK => ?_)
 go_simp
 refine (Bcompare na nb A Bv ca cb om om w1.drew (RowAt.drew (HRA.out.of hb1)) (RowAt.drew (HRB.out.of hb1))).mono ?_
 rintro e1 w2 ⟨rfl, hb2'⟩
 obtain ⟨cm, hcm⟩ : ∃ cm, cm = cmpN na nb := ⟨_, rfl⟩
 have hr := cmpN_range na nb
 rw [← hcm] at hr ⊢
 have HCM := Hh hcm; clear hcm
 have hb2 : Within w w2 := hb1.drew.trans hb2'
 refine hK _ _ ab ?_
 clear hK K
 try simp only [pu]
 refine sched_one rfl rfl (fun K hK => ?_)
 go_simp
 refine hK _ _ ab ?_
 clear hK K
 try simp only [pu]
 refine sched_nil ?_
 have a0'' := (hb2.cells _ 0 hlx).trans a0
 have g1 : IntKind.i64.wrap (-cm) = -cm := by rw [IntKind.wrap_i64]; omega
 go_wp2
 go_ret
 exact ⟨ret_int (by rw [HCM.out]), hb2⟩
theorem Bcmp (x y : Nat) (a b : Int) (ha : (dg a.natAbs).length ≤ 1000000) (hb : (dg b.natAbs).length ≤ 1000000) (w : World) (hx : IntB w x a) (hy : IntB w y b) : Calls Tryz.prog 133 #[.pointer (some ⟨x, 0, none⟩), .pointer (some ⟨y, 0, none⟩)] w (fun e w' => e = .returned (.int .i64 (cmpI a b)) ∧ Within w w') := by
 obtain ⟨A, ca, a0, a1, hra⟩ := hx.rd
 obtain ⟨Bv, cb, b0, b1, hrb⟩ := hy.rd
 by_cases ha0 : a < 0 <;> by_cases hb0 : b < 0
 ·rw [decide_eq_true ha0] at a0; rw [decide_eq_true hb0] at b0
  refine (Bcmp_11 x y _ _ A Bv ca cb ha hb w a0 a1 hra b0 b1 hrb).mono fun e w' h => ⟨h.1.trans (ret_int ?_), h.2⟩
  unfold cmpI cmpN; repeat' split
  all_goals omega
 ·rw [decide_eq_true ha0] at a0; rw [decide_eq_false hb0] at b0
  refine (Bcmp_10 x y _ _ A Bv ca cb ha hb w a0 a1 hra b0 b1 hrb).mono fun e w' h => ⟨h.1.trans (ret_int ?_), h.2⟩
  unfold cmpI; rw [if_pos om]
 ·rw [decide_eq_false ha0] at a0; rw [decide_eq_true hb0] at b0
  refine (Bcmp_01 x y _ _ A Bv ca cb ha hb w a0 a1 hra b0 b1 hrb).mono fun e w' h => ⟨h.1.trans (ret_int ?_), h.2⟩
  unfold cmpI; rw [if_neg om, if_pos om]
 ·rw [decide_eq_false ha0] at a0; rw [decide_eq_false hb0] at b0
  refine (Bcmp_00 x y _ _ A Bv ca cb ha hb w a0 a1 hra b0 b1 hrb).mono fun e w' h => ⟨h.1.trans (ret_int ?_), h.2⟩
  unfold cmpI cmpN; repeat' split
  all_goals omega
def blen (n : Nat) : Nat := if n = 0 then 0 else n.log2 + 1
theorem blen_zero : blen 0 = 0 := rfl
theorem blen_pos {n : Nat} (h : n ≠ 0) : blen n = n.log2 + 1 := if_neg h
theorem blen_top {n k : Nat} (hk : (dg n).length = k + 1) : blen n = 32 * k + Lib.bitLen ((dg n).getD k 0) ∧ (dg n).getD k 0 ≠ 0 ∧ (dg n).getD k 0 < 4294967296 := by
 have h0 : n ≠ 0 := fun h => by rw [h, dg_zero] at hk; simp at hk
 have ht := dg_last h0
 rw [hk, Nat.add_sub_cancel] at ht
 have hw := (words_dg n).getD k
 refine ⟨?_, ht, hw⟩
 have hs := lo_succ (dg n) k
 rw [lo_all _ (Nat.le_of_eq hk), wval_dg] at hs
 have hl := lo_lt (dg n) (words_dg n) k
 rw [blen_pos h0, bitLen_log2 _ ht om]
 generalize (dg n).getD k 0 = t at *
 have e : (4294967296 : Nat) ^ k = 2 ^ (32 * k) := by rw [show (4294967296 : Nat) = 2 ^ 32 from rfl, ← Nat.pow_mul]
 rw [e] at hs hl
 have h1 : n / 2 ^ (32 * k) = t := by
  rw [hs, Nat.add_mul_div_left _ _ (Nat.two_pow_pos _), Nat.div_eq_of_lt hl, Nat.zero_add]
 have h2 : n.log2 = 32 * k + t.log2 := by
  rw [Nat.log2_eq_iff h0]
  have a1 := Nat.log2_self_le ht
  have a2 := Nat.lt_log2_self (n := t)
  constructor
  ·rw [Nat.pow_add]
   calc 2 ^ (32 * k) * 2 ^ t.log2 ≤ 2 ^ (32 * k) * t := Nat.mul_le_mul_left _ a1
    _ ≤ n := by rw [← h1]; exact Nat.mul_div_le _ _
  ·rw [Nat.add_assoc, Nat.pow_add]
   have : n < 2 ^ (32 * k) * (t + 1) := by rw [← h1]; exact Nat.lt_mul_div_succ _ (Nat.two_pow_pos _)
   exact Nat.lt_of_lt_of_le this (Nat.mul_le_mul_left _ a2)
 omega
theorem bits_len32' (x : Int) (w : World) (h0 : 0 ≤ x) (h1 : x ≤ 4294967295) : Calls Tryz.prog 113 #[.int .u32 x] w (fun e w' => e = .returned (.int .i64 (Lib.bitLen x.toNat)) ∧ w = w') := by
 have hsz := len8_size
 go_enter Tryz.func113, Tryz.ntmps113
 go_wp2
 all_goals (go_ret; refine ⟨ret_int ?_, rfl⟩)
 all_goals simp only [len8_at]
 ·rw [← len_e24 x.toNat om om, show (x / 65536 / 256).toNat = x.toNat / 16777216 by omega]
 ·rw [← len_e16 x.toNat om om, show (x / 65536).toNat = x.toNat / 65536 by omega]
 ·rw [← len_e8 x.toNat om om, show (x / 256).toNat = x.toNat / 256 by omega]
 ·have := len_e0 x.toNat om; simpa using this
theorem bits_len32 (x : Nat) (hx : x < 4294967296) (w : World) : Calls Tryz.prog 113 #[.int .u32 (x : Int)] w (fun e w' => e = .returned (.int .i64 (Lib.bitLen x)) ∧ w = w') := by
 have := bits_len32' (x : Int) w om om
 rwa [Int.toNat_natCast] at this
theorem Bbitlen_zero (x : Nat) (w : World) (hx : IntB w x 0) : Calls Tryz.prog 35 #[.pointer (some ⟨x, 0, none⟩)] w (fun e w' => e = .returned (.int .i64 0) ∧ Within w w') := by
 obtain ⟨A, c, c0, c1, _⟩ := hx.rd
 rw [show (dg (0 : Int).natAbs) = [] from dg_zero] at c1
 clear hx
 go_enter Tryz.func35, Tryz.ntmps35
 go_wp2
 go_ret
 exact ⟨rfl, Within.refl _⟩
theorem Bbitlen_pos (x k t gm c L : Nat) (hk : k ≤ 1000000) (hL : L ≤ 32) (w : World) (c1 : w.cell? ⟨x, 1, none⟩ = some (.slice (some ⟨gm, 0, none⟩) (k + 1) c)) (ct : w.cell? ⟨gm, k, none⟩ = some (.int .u32 (t : Int))) (LN : Hid (∀ w, Calls Tryz.prog 113 #[.int .u32 (t : Int)] w (fun e w' => e = .returned (.int .i64 (L : Int)) ∧ w = w'))) : Calls Tryz.prog 35 #[.pointer (some ⟨x, 0, none⟩)] w (fun e w' => e = .returned (.int .i64 (32 * (k : Int) + (L : Int))) ∧ Within w w') := by
 have e1 : IntKind.i64.wrap (k : Int) = (k : Int) := by rw [IntKind.wrap_i64]; omega
 have e2 : IntKind.i64.wrap (32 * (k : Int)) = 32 * (k : Int) := by rw [IntKind.wrap_i64]; omega
 have e3 : IntKind.i64.wrap (32 * (k : Int) + (L : Int)) = 32 * (k : Int) + (L : Int) := by rw [IntKind.wrap_i64]; omega
 have e4 : (k : Int) < (k : Int) + 1 := by omega
 go_enter Tryz.func35, Tryz.ntmps35
 go_wp2
 refine wp_region_sched (fun W => W.cell? ⟨x, 1, none⟩ = some (.slice (some ⟨gm, 0, none⟩) (k + 1) c) ∧ W.cell? ⟨gm, k, none⟩ = some (.int .u32 (t : Int))) 20 [(0, true), (1, true), (2, true), (3, true), (4, true), (5, true), (6, true), (7, true), (8, true), (9, true), (10, true), (11, true), (12, true), (13, true), (14, true), (15, true), (16, true), (17, true), (18, true), (19, false), (20, false), (21, false)] kr kr ⟨c1, ct⟩ ?_
 intro hS
 repeat
  apply sched_firm rfl rfl hS
  ·exact zz22
  try simp only [pu]
 refine sched_one rfl rfl (fun K hK => ?_)
 go_simp
 refine (LN.out w.drew).mono ?_
 rintro e1 w2 ⟨rfl, rfl⟩
 refine hK _ _ (fun h => ⟨c1, ct⟩) ?_
 clear hK K
 try simp only [pu]
 refine sched_one rfl rfl (fun K hK => ?_)
 go_simp
 refine hK _ _ ab ?_
 clear hK K
 try simp only [pu]
 refine sched_one rfl rfl (fun K hK => ?_)
 go_simp
 refine hK _ _ ab ?_
 clear hK K
 try simp only [pu]
 refine sched_nil ?_
 go_wp2
 go_ret
 exact ⟨rfl, (Within.refl w).drew⟩
theorem zz89 {p : Prop} (h : p := by
 rw [hk] at c1
 refine (Bbitlen_pos x k _ g c _ om hL w c1 ct (Hh fun w => bits_len32 _ hlt w)).mono fun e w' h => ⟨h.1.trans (ret_int ?_), h.2⟩
 rw [hb]; omega) : p := h
theorem Bbitlen (x : Nat) (v : Int) (hv : (dg v.natAbs).length ≤ 1000000) (w : World) (hx : IntB w x v) : Calls Tryz.prog 35 #[.pointer (some ⟨x, 0, none⟩)] w (fun e w' => e = .returned (.int .i64 (blen v.natAbs : Nat)) ∧ Within w w') := by
 by_cases h : v = 0
 ·subst h; exact Bbitlen_zero x w hx
 ·obtain ⟨A, c, c0, c1, hr⟩ := hx.rd
  obtain ⟨k, hk⟩ : ∃ k, (dg v.natAbs).length = k + 1 := ⟨_, (Nat.succ_pred_eq_of_pos (dg_len_pos om)).symm⟩
  obtain ⟨g, rfl, _, ct⟩ := hr.cell (i := k) om
  obtain ⟨hb, h0, hlt⟩ := blen_top hk
  have hL : Lib.bitLen ((dg v.natAbs).getD k 0) ≤ 32 := by
   rw [bitLen_log2 _ h0 om]
   have := (Nat.log2_lt h0 (k := 32)).2 hlt
   omega
  exact zz89
def RightRel (W : World) (g : Nat) (D : List Nat) (S0 : Nat) (iv : Value) (wr : World) : Prop :=
 ∃ (k : Nat) (o : List Nat), k ≤ D.length ∧ iv = .int .i64 (k : Int) ∧ o.length = D.length ∧ Words o ∧ OwnW wr g o ∧ lo o k = wval D / 2 ^ S0 % 4294967296 ^ k ∧ Within W wr
theorem RightRel.step {W wr : World} {g : Nat} {D o : List Nat} {S0 k x y : Nat} (u q : Int) (hk : k < D.length) (hS : S0 < 32) (hD : Words D) (ho : o.length = D.length) (hwo : Words o) (hown : OwnW wr g o)
 (hval : lo o k = wval D / 2 ^ S0 % 4294967296 ^ k) (hin : Within W wr) (hx : x = D.getD k 0) (hy : y = D.getD (k + 1) 0) (hg : W.heap.size ≤ g)
 (hu : u = (((x + 4294967296 * y) / 2 ^ S0 % 4294967296 : Nat) : Int)) (hq : q = ((k + 1 : Nat) : Int)) :
 RightRel W g D S0 (.int .i64 q) (wr.setCell ⟨g, k, none⟩ (.int .u32 u)) := by
 subst hu hq
 refine ⟨k + 1, o.set k ((x + 4294967296 * y) / 2 ^ S0 % 4294967296), by omega, rfl, by rw [List.length_set]; exact ho, hwo.set _ _ om, hown.set _ _ om, ?_, hin.setCell hg _⟩
 rw [lo_set_succ _ _ _ om, mod_succ, hval, right_digit _ S0 k D rfl hD hS, ← hx, ← hy]
theorem drop_getD (l : List Nat) (i k : Nat) : (l.drop i).getD k 0 = l.getD (i + k) 0 := by
 simp [List.getD_eq_getElem?_getD, List.getElem?_drop]
theorem or_high {x y : Nat} (hx : x < 4294967296) (hy : y < 4294967296) : bits .or .u64 (x : Int) ((y * 4294967296 : Nat) : Int) = ((x + 4294967296 * y : Nat) : Int) := by
 rw [u64_or_nat _ _ om om, Nat.or_comm, nat_join 32 _ _ (by rw [show (2 : Nat) ^ 32 = 4294967296 from rfl]; omega) hx]
 congr 1; omega
theorem Bright_pos (la : List Nat) (A : Option Addr) (ca n W0 S0 : Nat) (hwa : Words la) (hla : la.length ≤ 1500000) (h0 : W0 < la.length) (hn : n = 32 * W0 + S0) (hS : S0 < 32) (w : World) (hra : RowAt w A la) :
 Calls Tryz.prog 215 #[.slice A la.length ca, .int .u64 (n : Int)] w (RetW w (wval la / 2 ^ n)) := by
 obtain ⟨N, hN⟩ : ∃ N, la.length = W0 + N := ⟨la.length - W0, by omega⟩
 have hDl : (la.drop W0).length = N := by rw [List.length_drop]; omega
 have hmk := run_make_row' (P := Tryz.prog) 92 153 (.int .u32 0) 4 kr Tryz.infoU32 rfl .i64 .i64 N om om
 have hgt : (la.length : Int) - (W0 : Int) = (N : Int) := by omega
 have HWA := Hh hwa; have HRA := Hh hra; have HDL := Hh hDl; clear hwa hra hDl
 have hq : (n : Int) / 32 = (W0 : Int) := by omega
 have hr : (n : Int) % 32 = (S0 : Int) := by omega
 have d0 : decide ((W0 : Int) ≥ la.length) = false := decide_eq_false om
 have HNN := Hh hN; have HN := Hh hn; clear hn hN
 have HM := OwnW.made w N
 go_enter Tryz.func215, Tryz.ntmps215
 go_wp2
 go_loopw [8] (fun iv wr => RightRel w w.heap.size (la.drop W0) S0 iv wr) (fun iv _ => N - (intOf iv).toNat)
 case atStart => exact ⟨0, _, Nat.zero_le _, rfl, by rw [HDL.out]; simp, Words.zeros _, HM, by rw [lo_zero]; simp [Nat.mod_one], (Within.refl w).alloc _⟩
 case round =>
  obtain ⟨k, o, hk, rfl, ho, hwo, hown, hval, hin⟩ := hrel
  rw [HDL.out] at hk ho
  have HV := Hh hval; have HO := Hh ho; have HWO := Hh hwo; clear hval ho hwo
  rcases Nat.lt_or_ge k N with hlt | hlt
  ·obtain ⟨ga, rfl, hga, hca⟩ := (HRA.out.of hin).cell (i := W0 + k) (by rw [HNN.out]; omega)
   obtain ⟨x, hxe⟩ : ∃ x, x = la.getD (W0 + k) 0 := ⟨_, rfl⟩
   have hx : x < 4294967296 := by rw [hxe]; exact HWA.out.getD _
   rw [← hxe] at hca
   have HXE := Hh hxe; clear hxe
   have hco := hown.cell (i := k) (by rw [HO.out]; omega)
   have hfo := hown.frozen k
   have hstep := fun (y : Nat) (u q : Int) => RightRel.step (S0 := S0) (x := x) (y := y) u q (by rw [HDL.out]; exact hlt) hS (HWA.out.drop W0) (by rw [HDL.out]; exact HO.out) HWO.out hown HV.out hin (by rw [drop_getD]; exact HXE.out)
   have HST := Hh hstep; clear hstep
   rcases Nat.lt_or_ge (k + 1) N with hlb | hlb
   ·obtain ⟨gb, hgb1, hgb, hcb⟩ := (HRA.out.of hin).cell (i := W0 + k + 1) (by rw [HNN.out]; omega)
    injection hgb1 with hgb1; injection hgb1 with hgb1; subst hgb1
    obtain ⟨y, hye⟩ : ∃ y, y = la.getD (W0 + k + 1) 0 := ⟨_, rfl⟩
    have hy : y < 4294967296 := by rw [hye]; exact HWA.out.getD _
    rw [← hye] at hcb
    have HYE := Hh hye; clear hye
    have gsh : IntKind.u64.wrap ((y : Int) * 4294967296) = ((y * 4294967296 : Nat) : Int) := by rw [IntKind.wrap_u64]; omega
    have gor := or_high hx hy
    have GU := Hh (show bits .or .u64 (x : Int) ((y : Int) * 4294967296) / 2 ^ S0 % 4294967296 = (((x + 4294967296 * y) / 2 ^ S0 % 4294967296 : Nat) : Int) by
     rw [show (y : Int) * 4294967296 = ((y * 4294967296 : Nat) : Int) by omega, gor]; simp)
    clear gor
    have dlt : decide ((W0 : Int) + k + 1 < la.length) = true := decide_eq_true (by have := HNN.out; omega)
    go_wp2
    go_roundw
    case rel => exact HST.out y _ _ (by rw [drop_getD, ← Nat.add_assoc]; exact HYE.out) (Nat.le_refl _) GU.out om
    case measure => simp [intOf]; omega
   ·have dlt : decide ((W0 : Int) + k + 1 < la.length) = false := decide_eq_false (by have := HNN.out; omega)
    go_wp2
    go_roundw
    case rel => exact HST.out 0 _ _ (by rw [drop_getD]; simp [List.getD_eq_getElem?_getD, HNN.out]; rw [List.getElem?_eq_none (by have := HNN.out; omega)]; rfl) (Nat.le_refl _) (by simp) om
    case measure => simp [intOf]; omega
  ·obtain rfl : k = N := by omega
   have CT := Hh (Bcut o (some ⟨w.heap.size, 0, none⟩) k HWO.out (by rw [HO.out]; exact Nat.le_refl _) (by rw [HO.out]; omega) _ hown.at)
   rw [HO.out] at CT
   go_wp2_with fail
   refine (CT.out).mono ?_; rintro e1 w1 ⟨rfl, rfl⟩
   go_wp2
   go_ret
   refine retW_cut hown.at HWO.out (by rw [HO.out]; exact Nat.le_refl _) hin ?_
   have hs := wval_split la W0
   have h1 := lo_lt la HWA.out W0
   have h2 := wval_lt _ (HWA.out.drop W0)
   rw [HDL.out] at h2
   have e : wval (la.drop W0) = wval la / 4294967296 ^ W0 := by
    rw [hs, Nat.add_mul_div_left _ _ (Nat.pow_pos dc), Nat.div_eq_of_lt h1, Nat.zero_add]
   rw [← lo_all o (Nat.le_of_eq HO.out), HV.out, Nat.mod_eq_of_lt (Nat.lt_of_le_of_lt (Nat.div_le_self _ _) h2), e, Nat.div_div_eq_div_mul, HN.out, show (4294967296 : Nat) = 2 ^ 32 from rfl, ← Nat.pow_mul, ← Nat.pow_add]
theorem Bright_nil (m : Nat) (A : Option Addr) (ca n W0 : Nat) (hW : n / 32 = W0) (h : m ≤ W0) (hn : n ≤ 40000000) (w : World) : Calls Tryz.prog 215 #[.slice A m ca, .int .u64 (n : Int)] w (RetW w 0) := by
 have hq : (n : Int) / 32 = (W0 : Int) := by omega
 have hr : (n : Int) % 32 = ((n % 32 : Nat) : Int) := by omega
 have d0 : decide ((W0 : Int) ≥ m) = true := decide_eq_true om
 clear hW
 go_enter Tryz.func215, Tryz.ntmps215
 exact zz98
theorem Bright (a : Nat) (A : Option Addr) (ca n : Nat) (ha : (dg a).length ≤ 1500000) (hn : n ≤ 40000000) (w : World) (hra : RowAt w A (dg a)) :
 Calls Tryz.prog 215 #[.slice A (dg a).length ca, .int .u64 (n : Int)] w (RetW w (a / 2 ^ n)) := by
 rcases Nat.lt_or_ge (n / 32) (dg a).length with h | h
 ·have := Bright_pos (dg a) A ca n (n / 32) (n % 32) (words_dg a) ha h om om w hra
  rw [wval_dg] at this
  exact this
 ·have e : a / 2 ^ n = 0 := by
   apply Nat.div_eq_of_lt
   have h1 := lt_of_dg a
   have h2 : 4294967296 ^ (dg a).length ≤ 2 ^ n := by
    rw [show (4294967296 : Nat) = 2 ^ 32 from rfl, ← Nat.pow_mul]; exact Nat.pow_le_pow_right dc om
   omega
  rw [e]
  exact Bright_nil _ A ca n (n / 32) rfl h hn w
theorem wpList_apw {P : Program} {w : World} {ops : Array Oper} {rest : List Oper} {o : Oper} {a : Act} {Q : Exit → Act → World → Prop} (hgd : o.guard = none) (s x : Operand) (t : TypeId)
 (ho : o.op = .call { callee := .builtin .append, args := #[s, x], argTypes := #[t, t] }) (vs vx : Value) (hs : a.eval s = vs) (hx : a.eval x = vx) {v' : Value} {w' : World}
 (hrun : (Builtin.append_ #[t, t] o.type #[vs, vx]).run P w = .ok v' w') (h : wpList P ops Q rest (a.put o.dst v') w') : wpList P ops Q (o :: rest) a w :=
 wpList_plain hgd fun K hK => by
  unfold Oper.wp execOp
  simp only [ho, resolve, invoke, builtin, Sem.run_bind, Sem.run_pure, Result.andThen_ok, List.map_toArray, List.map_cons, List.map_nil, hs, hx, hrun]
  exact hK _ _ h
def RetQ (W : World) (n r : Nat) (e : Ending) (w' : World) : Prop := ∃ A c Bv c', e = .returned (.tuple #[.slice A (dg n).length c, .slice Bv (dg r).length c']) ∧ (dg n).length ≤ c ∧ (dg r).length ≤ c' ∧ RowAt w' A (dg n) ∧ RowAt w' Bv (dg r) ∧ Within W w'
theorem cmpN_ge {a b : Nat} (h : b ≤ a) : 0 ≤ cmpN a b := by unfold cmpN; rw [if_neg om]; split <;> omega
theorem one_at (w : World) (x : Nat) (C : Array Value) (hC : C = #[.int .u32 (x : Int)]) : RowAt (w.alloc (.cells C 153)) (some ⟨w.heap.size, 0, none⟩) [x] := by
 subst hC
 intro _
 have h := World.rowIs_alloc w #[.int .u32 (x : Int)] 153 (fun i => .int .u32 (([x].getD i 0 : Nat) : Int)) (by
  intro i hi
  have : i = 0 := by simp at hi; omega
  subst this; rfl)
 exact ⟨_, _, _, rfl, Nat.le_refl _, h, fun i _ => rfl⟩
theorem Bover_lt (a b : Nat) (A Bv : Option Addr) (ca cb : Nat) (ha : (dg a).length ≤ 400000) (hb : (dg b).length ≤ 400000) (h : a < b) (w : World) (hra : RowAt w A (dg a)) (hrb : RowAt w Bv (dg b)) :
 Calls Tryz.prog 218 #[.slice A (dg a).length ca, .slice Bv (dg b).length cb] w (RetQ w 0 a) := by
 have CMP := Hh (Bcompare a b A Bv ca cb om om w hra hrb)
 rw [cmpN_lt h] at CMP
 have HRA := Hh hra; clear hra hrb h hb
 go_enter Tryz.func218, Tryz.ntmps218
 go_wp2_with fail
 refine (CMP.out).mono ?_; rintro e1 w1 ⟨rfl, hb1⟩
 obtain ⟨A', c', w2, hrun, hc2, hr2, hb2⟩ := run_copy A (dg a) ca (HRA.out.of hb1) om
 have RUN := Hh hrun; have HC := Hh (And.intro hc2 hr2); clear hrun hc2 hr2
 go_wp2_with (at_builtin; refine wpList_apw rfl (.const (.slice none 0 0)) (.tmp 22) 92 rfl _ _ rfl rfl RUN.out ?_)
 go_ret2
 exact ⟨none, 0, A', c', by rw [dg_zero]; rfl, by rw [dg_zero]; exact Nat.le_refl _, HC.out.1, by rw [dg_zero]; exact RowAt.nil, HC.out.2, hb1.trans hb2⟩
theorem Bover_one (a b : Nat) (A Bv : Option Addr) (ca cb : Nat) (ha : (dg a).length ≤ 400000) (hb0 : 0 < b) (hb : b < 4294967296) (h : b ≤ a) (w : World) (hra : RowAt w A (dg a)) (hrb : RowAt w Bv (dg b)) :
 Calls Tryz.prog 218 #[.slice A (dg a).length ca, .slice Bv (dg b).length cb] w (RetQ w (a / b) (a % b)) := by
 have hd : dg b = [b] := by rw [dg_pos om, Nat.mod_eq_of_lt hb, Nat.div_eq_of_lt hb, dg_zero]
 have CMP := Hh (Bcompare a b A Bv ca cb om (by rw [hd]; simp) w hra hrb)
 have hcm := cmpN_ge h
 have SH := Hh (fun w' hr => Bshort a b A ca om hb0 hb w' hr)
 obtain ⟨r, hr⟩ : ∃ r, r = a % b := ⟨_, rfl⟩
 have hrl : r < b := by rw [hr]; exact Nat.mod_lt _ hb0
 rw [← hr] at SH ⊢
 have hww : Words [r] := by intro x hx; simp at hx; omega
 have CT := Hh (fun w' v hr => Bcut [r] v 1 hww (Nat.le_refl _) (by simp) w' hr)
 have HWW := Hh hww; clear hr hww
 obtain ⟨gb, rfl, hgb, hcb⟩ := hrb.cell (i := 0) (by rw [hd]; simp)
 rw [hd, show ([b] : List Nat).getD 0 0 = b from rfl] at hcb
 rw [hd] at CMP ⊢
 have d1 : (((List.length [b] : Nat) : Int) == 1) = true := rfl
 have wl : wval [r] = r := by simp [wval]
 rw [wl] at CT
 have HWL := Hh wl; clear wl
 obtain ⟨cm, hce⟩ : ∃ cm, cm = cmpN a b := ⟨_, rfl⟩
 rw [← hce] at CMP hcm
 clear hce
 have d0 : decide (cm < 0) = false := decide_eq_false om
 have HRA := Hh hra; clear hra hrb hd h
 go_enter Tryz.func218, Tryz.ntmps218
 go_wp2_with fail
 refine (CMP.out).mono ?_; rintro e1 w1 ⟨rfl, hb1⟩
 have hcb1 := (hb1.cells _ _ hgb).trans hcb
 go_wp2_with fail
 refine (SH.out _ (HRA.out.of hb1)).mono ?_; rintro e2 w2 ⟨A2, c2, rfl, hc2, hr2, hb2⟩
 go_wp2_with fail
 refine (CT.out _ _ (one_at w2 r _ (by simp))).mono ?_; rintro e3 w3 ⟨rfl, rfl⟩
 go_wp2
 go_ret2
 have hin := (Within.refl w2).alloc (.cells #[.int .u32 (r : Int)] 153)
 have hcut := (one_at w2 r _ rfl).cut HWW.out
 rw [HWL.out] at hcut
 exact ⟨_, _, _, _, rfl, hc2, Nat.le_trans (dg_len_le (k := 1) om) dc, hr2.of hin, hcut, (hb1.trans hb2).trans hin⟩
theorem bits_lz32 (x : Nat) (hx : x < 4294967296) (w : World) : Calls Tryz.prog 292 #[.int .u32 (x : Int)] w (fun e w' => e = .returned (.int .i64 (32 - (Lib.bitLen x : Int))) ∧ w = w') := by
 have LN := Hh (fun w => bits_len32 x hx w)
 have hL : Lib.bitLen x ≤ 32 := by
  by_cases h : x = 0
  ·subst h; decide
  ·rw [bitLen_log2 _ h om]
   have := (Nat.log2_lt h (k := 32)).2 hx
   omega
 generalize Lib.bitLen x = L at *
 have e : IntKind.i64.wrap (32 - (L : Int)) = 32 - (L : Int) := IntWalk.i64_in _ om
 clear hx
 go_enter Tryz.func292, Tryz.ntmps292
 go_wp2_with fail
 refine (LN.out _).mono ?_; rintro e1 w1 ⟨rfl, rfl⟩
 go_wp2
 go_ret
 exact ⟨rfl, rfl⟩
theorem norm_len {b k s : Nat} (hk : (dg b).length = k + 1) (hs : s = 32 - Lib.bitLen ((dg b).getD k 0)) : s < 32 ∧ (dg (b * 2 ^ s)).length = k + 1 ∧ 2147483648 ≤ (dg (b * 2 ^ s)).getD k 0 := by
 obtain ⟨h1, h2, h3⟩ := blen_top hk
 have hb0 : b ≠ 0 := fun h => by rw [h, dg_zero] at hk; simp at hk
 have hL := bitLen_log2 _ h2 om
 have hl := (Nat.log2_lt h2 (k := 32)).2 h3
 rw [blen_pos hb0] at h1
 have hlog : (b * 2 ^ s).log2 = 32 * k + 31 := by rw [Fp.log2_mul_pow _ _ hb0]; omega
 have hD0 : b * 2 ^ s ≠ 0 := Nat.mul_ne_zero hb0 (Nat.ne_of_gt (Nat.two_pow_pos s))
 have l1 := Nat.log2_self_le hD0
 have l2 := Nat.lt_log2_self (n := b * 2 ^ s)
 rw [hlog] at l1 l2
 have e1 : (4294967296 : Nat) ^ k * 2147483648 = 2 ^ (32 * k + 31) := by rw [show (4294967296 : Nat) = 2 ^ 32 from rfl, ← Nat.pow_mul, Nat.pow_add]
 have e2 : (4294967296 : Nat) ^ (k + 1) = 2 ^ (32 * k + 31 + 1) := by rw [show (4294967296 : Nat) = 2 ^ 32 from rfl, ← Nat.pow_mul]; congr 1
 rw [← e1] at l1
 rw [← e2] at l2
 generalize b * 2 ^ s = D at *
 have a1 := dg_len_le l2
 have a2 : k < (dg D).length := by
  rcases Nat.lt_or_ge k (dg D).length with h | h
  ·exact h
  ·have := lt_of_dg D
   have := Nat.pow_le_pow_right (n := 4294967296) dc h
   omega
 have a3 : (dg D).length = k + 1 := by omega
 refine ⟨by omega, a3, ?_⟩
 have q1 := lo_succ (dg D) k
 rw [lo_all _ om, wval_dg] at q1
 have q2 := lo_lt (dg D) (words_dg D) k
 rcases Nat.lt_or_ge ((dg D).getD k 0) 2147483648 with h | h
 ·exfalso
  have := Nat.mul_le_mul_left (4294967296 ^ k) (show (dg D).getD k 0 + 1 ≤ 2147483648 from h)
  rw [Nat.mul_add, Nat.mul_one] at this
  omega
 ·exact h
theorem top_zero {o : List Nat} {n k : Nat} (_hw : Words o) (hv : wval o = n) (hk : (dg n).length ≤ k) : o.getD k 0 = 0 := by
 have h1 := lt_of_dg n
 have h2 : 4294967296 ^ (dg n).length ≤ 4294967296 ^ k := Nat.pow_le_pow_right dc hk
 have h3 := wval_split o (k + 1)
 rw [lo_succ, hv] at h3
 rcases Nat.eq_zero_or_pos (o.getD k 0) with h | h
 ·exact h
 ·exfalso
  have := Nat.le_mul_of_pos_right (4294967296 ^ k) h
  omega
theorem three_words (o : List Nat) (hw : Words o) (m : Nat) : ((o.getD (m + 2) 0 * 4294967296 + o.getD (m + 1) 0) * 4294967296 + o.getD m 0) * 4294967296 ^ m ≤ lo o (m + 3) ∧ lo o (m + 3) < ((o.getD (m + 2) 0 * 4294967296 + o.getD (m + 1) 0) * 4294967296 + o.getD m 0 + 1) * 4294967296 ^ m := by
 have h := lo_lt o hw m
 have p1 : 4294967296 ^ (m + 1) = 4294967296 ^ m * 4294967296 := Nat.pow_succ _ _
 have p2 : 4294967296 ^ (m + 2) = 4294967296 ^ m * 4294967296 * 4294967296 := by rw [Nat.pow_succ, Nat.pow_succ]
 rw [lo_succ o (m + 2), lo_succ o (m + 1), lo_succ o m, p2, p1]
 generalize o.getD (m + 2) 0 = x
 generalize o.getD (m + 1) 0 = y
 generalize o.getD m 0 = z
 generalize 4294967296 ^ m = P at *
 have e : ((x * 4294967296 + y) * 4294967296 + z) * P = P * z + P * 4294967296 * y + P * 4294967296 * 4294967296 * x := by
  rw [Nat.add_mul, Nat.add_mul, Nat.add_mul]
  rw [Nat.mul_comm z, show x * 4294967296 * 4294967296 * P = P * 4294967296 * 4294967296 * x by ac_rfl, show y * 4294967296 * P = P * 4294967296 * y by ac_rfl]
  omega
 rw [Nat.add_mul _ 1, Nat.one_mul, e]
 omega
theorem two_words (o : List Nat) (hw : Words o) (m : Nat) : (o.getD (m + 1) 0 * 4294967296 + o.getD m 0) * 4294967296 ^ m ≤ lo o (m + 2) ∧ lo o (m + 2) < (o.getD (m + 1) 0 * 4294967296 + o.getD m 0 + 1) * 4294967296 ^ m := by
 have h := lo_lt o hw m
 have p1 : 4294967296 ^ (m + 1) = 4294967296 ^ m * 4294967296 := Nat.pow_succ _ _
 rw [lo_succ o (m + 1), lo_succ o m, p1]
 generalize o.getD (m + 1) 0 = y
 generalize o.getD m 0 = z
 generalize 4294967296 ^ m = P at *
 have e : (y * 4294967296 + z) * P = P * z + P * 4294967296 * y := by
  rw [Nat.add_mul, Nat.mul_comm z, show y * 4294967296 * P = P * 4294967296 * y by ac_rfl]
  omega
 rw [Nat.add_mul _ 1, Nat.one_mul, e]
 omega
def KnS (o ld : List Nat) (j n Q S D' P : Nat) : Prop :=
 Q = S / D' ∧ Q * (ld.getD (n + 1) 0 * 4294967296 + ld.getD n 0) ≤ (o.getD (j + n + 2) 0 * 4294967296 + o.getD (j + n + 1) 0) * 4294967296 + o.getD (j + n) 0 ∧
 o.getD (j + n + 2) 0 * 4294967296 + o.getD (j + n + 1) 0 < ld.getD (n + 1) 0 * 4294967296 + 4294967296 ∧ Q < 4294967296 ∧
 (ld.getD (n + 1) 0 * 4294967296 + ld.getD n 0) * P ≤ D' ∧ D' ≤ (ld.getD (n + 1) 0 * 4294967296 + ld.getD n 0 + 1) * P ∧
 ((o.getD (j + n + 2) 0 * 4294967296 + o.getD (j + n + 1) 0) * 4294967296 + o.getD (j + n) 0) * P ≤ S ∧ 0 < P ∧ 0 < D' ∧ S < 4294967296 ^ (j + n + 2 + 1) ∧ D' ≤ 4294967296 ^ (j + n + 2)
theorem kn_hT {T u2 top d2 P S D' : Nat} (a1 : (T * 4294967296 + u2) * P ≤ S) (h : S < 4294967296 * D') (c2 : D' ≤ (top * 4294967296 + d2 + 1) * P) (hd : d2 < 4294967296) : T < top * 4294967296 + 4294967296 := by
 have k1 : (T * 4294967296 + u2) * P < (4294967296 * (top * 4294967296 + d2 + 1)) * P := by
  rw [Nat.mul_assoc]
  exact Nat.lt_of_le_of_lt a1 (Nat.lt_of_lt_of_le h (Nat.mul_le_mul_left _ c2))
 have k2 := Nat.lt_of_mul_lt_mul_right k1
 omega
theorem kn_state {o ld : List Nat} {j n : Nat} (hwo : Words o) (hwd : Words ld) (hl : ld.length = n + 2) (htop : 2147483648 ≤ ld.getD (n + 1) 0) (hlt : lo o (j + n + 3) < wval ld * 4294967296 ^ (j + 1)) :
 KnS o ld j n (lo o (j + n + 3) / (4294967296 ^ j * wval ld)) (lo o (j + n + 3)) (4294967296 ^ j * wval ld) (4294967296 ^ (j + n)) := by
 obtain ⟨a1, a2⟩ := three_words o hwo (j + n)
 obtain ⟨b1, b2⟩ := two_words ld hwd n
 rw [lo_all ld om] at b1 b2
 have hd2 := hwd.getD n
 have hu2 := hwo.getD (j + n)
 have hlen := wval_lt ld hwd
 rw [hl] at hlen
 have hS := lo_lt o hwo (j + n + 3)
 have eP : 4294967296 ^ (j + n) = 4294967296 ^ j * 4294967296 ^ n := Nat.pow_add _ _ _
 have hj : 0 < 4294967296 ^ j := Nat.pow_pos dc
 have hn : 0 < 4294967296 ^ n := Nat.pow_pos dc
 have c1 : (ld.getD (n + 1) 0 * 4294967296 + ld.getD n 0) * 4294967296 ^ (j + n) ≤ 4294967296 ^ j * wval ld := by
  rw [eP, Nat.mul_left_comm]; exact Nat.mul_le_mul_left _ b1
 have c2 : 4294967296 ^ j * wval ld ≤ (ld.getD (n + 1) 0 * 4294967296 + ld.getD n 0 + 1) * 4294967296 ^ (j + n) := by
  rw [eP, Nat.mul_left_comm]; exact Nat.mul_le_mul_left _ (Nat.le_of_lt b2)
 have hlt2 : lo o (j + n + 3) < 4294967296 * (4294967296 ^ j * wval ld) := by
  rw [Nat.pow_succ] at hlt
  rw [show 4294967296 * (4294967296 ^ j * wval ld) = wval ld * (4294967296 ^ j * 4294967296) by ac_rfl]
  exact hlt
 have hP : 0 < 4294967296 ^ (j + n) := Nat.pow_pos dc
 have hD0 : 0 < 4294967296 ^ j * wval ld := Nat.lt_of_lt_of_le (Nat.mul_pos om hP) c1
 have hQ := Nat.div_mul_le_self (lo o (j + n + 3)) (4294967296 ^ j * wval ld)
 have hQl := (Nat.div_lt_iff_lt_mul hD0).2 hlt2
 have hDl : 4294967296 ^ j * wval ld ≤ 4294967296 ^ (j + n + 2) := by
  rw [Nat.add_assoc, Nat.pow_add]; exact Nat.mul_le_mul_left _ (Nat.le_of_lt hlen)
 have hT := kn_hT a1 hlt2 c2 hd2
 exact ⟨rfl, kn_le c1 a2 hQ, hT, hQl, c1, c2, a1, hP, hD0, hS, hDl⟩
def KnRel (W : World) (g gq : Nat) (o oq : List Nat) (top t Q : Nat) (gv rv : Value) (wr : World) : Prop :=
 ∃ (q r : Nat), gv = .int .u64 (q : Int) ∧ rv = .int .u64 (r : Int) ∧ KnG top t Q q r ∧ r < 4294967296 ∧ OwnW wr g o ∧ OwnW wr gq oq ∧ Within W wr
def OvRel (W : World) (g gq : Nat) (L M n D U : Nat) (jv : Value) (wr : World) : Prop :=
 ∃ (k : Nat) (o oq : List Nat), k ≤ M ∧ jv = .int .i64 ((k : Int) - 1) ∧ o.length = L ∧ Words o ∧ OwnW wr g o ∧ oq.length = M ∧ Words oq ∧ OwnW wr gq oq ∧ (∀ j, j < k → oq.getD j 0 = 0) ∧
  (∀ i, k + n ≤ i → o.getD i 0 = 0) ∧ lo o (k + n) < D * 4294967296 ^ k ∧ U = wval oq * D + lo o (k + n) ∧ Within W wr
theorem ov_step {o oq o2 : List Nat} {k n D U Q : Nat} (hwo2 : Words o2) (hD : 0 < D) (hDn : D ≤ 4294967296 ^ n) (hk : k < oq.length) (hz : ∀ j, j < k + 1 → oq.getD j 0 = 0) (hzo : ∀ i, k + 1 + n ≤ i → o.getD i 0 = 0)
 (hU : U = wval oq * D + lo o (k + 1 + n)) (hQ : Q = lo o (k + n + 1) / (4294967296 ^ k * D)) (hL : lo o2 (k + n + 1) = lo o (k + n + 1) % (4294967296 ^ k * D)) (hr : ∀ i, k + n < i → o2.getD i 0 = o.getD i 0) :
 (∀ i, k + n ≤ i → o2.getD i 0 = 0) ∧ lo o2 (k + n) < D * 4294967296 ^ k ∧ U = wval (oq.set k Q) * D + lo o2 (k + n) ∧ (∀ j, j < k → (oq.set k Q).getD j 0 = 0) := by
 have hDk : 0 < 4294967296 ^ k * D := Nat.mul_pos (Nat.pow_pos dc) hD
 have hm := Nat.mod_lt (lo o (k + n + 1)) hDk
 rw [← hL] at hm
 have hs := lo_succ o2 (k + n)
 have h0 : o2.getD (k + n) 0 = 0 := by
  rcases Nat.eq_zero_or_pos (o2.getD (k + n) 0) with h | h
  ·exact h
  ·exfalso
   have a1 : 4294967296 ^ k * D ≤ 4294967296 ^ (k + n) := by rw [Nat.pow_add]; exact Nat.mul_le_mul_left _ hDn
   have := Nat.le_mul_of_pos_right (4294967296 ^ (k + n)) h
   omega
 replace hs : lo o2 (k + n + 1) = lo o2 (k + n) := by rw [hs, h0, Nat.mul_zero]; rfl
 refine ⟨?_, by rw [← hs, Nat.mul_comm]; exact hm, ?_, ?_⟩
 ·intro i hi
  rcases Nat.eq_or_lt_of_le hi with h | h
  ·subst h; exact h0
  ·rw [hr i h]; exact hzo i om
 ·have hw := wval_set oq k Q hk
  rw [hz k om, Nat.mul_zero, Nat.add_zero] at hw
  have hd := Nat.div_add_mod (lo o (k + n + 1)) (4294967296 ^ k * D)
  rw [← hQ, ← hL, hs] at hd
  rw [hU, hw, Nat.add_mul, show k + 1 + n = k + n + 1 by omega, ← hd, show 4294967296 ^ k * Q * D = 4294967296 ^ k * D * Q by ac_rfl]
  omega
 ·intro j hj
  rw [lset_ne _ _ _ _ om]
  exact hz j om
def LuRel (W : World) (g L U : Nat) (uv : Value) (wr : World) : Prop := ∃ k o, k ≤ L ∧ (dg U).length ≤ k ∧ uv = .slice (some ⟨g, 0, none⟩) k L ∧ OwnW wr g o ∧ o.length = L ∧ Words o ∧ wval o = U ∧ Within W wr
theorem app_zero {wr : World} {g k L : Nat} {o : List Nat} (hown : OwnW wr g o) (ho : o.length = L) (hk : k < L) : (Builtin.append_ #[92, 92] 92 #[.slice (some ⟨g, 0, none⟩) k L, .slice (some ⟨wr.heap.size, 0, none⟩) 1 1]).run Tryz.prog (wr.alloc (.cells #[.int .u32 0] 153)) = .ok (.slice (some ⟨g, 0, none⟩) (k + 1) L) ((wr.alloc (.cells #[.int .u32 0] 153)).setCell ⟨g, k, none⟩ (.int .u32 0)) := by
 obtain ⟨i0, hi0, hz0, hz1, hz2⟩ := info_parts Tryz.infoW
 have hU : Tryz.prog.underlying 92 = some (.slice 153) := by kernel_rfl
 have hoa := hown.alloc (.cells #[.int .u32 0] 153)
 have h := run_append_room_cells (P := Tryz.prog) (wr.alloc (.cells #[.int .u32 0] 153)) 92 92 153 i0 hU hi0 g 0 k L ⟨wr.heap.size, 0, none⟩ 1 1 [.int .u32 0] (by rw [hz1]; rfl)
  (by intro j u hj
      rcases j with _ | j
      ·simp at hj; subst hj; rw [add_zero_off]; simp
      ·simp at hj) (by intro u hu; simp at hu; subst hu; rfl) om
  (by intro j hj
      have : j = 0 := by simp at hj; omega
      subst this
      rw [hz1, show 0 + k * 1 + 0 = k by omega, hoa.cell (i := k) om]; rfl)
  (by intro j hj
      have : j = 0 := by simp at hj; omega
      subst this
      rw [hz1, show 0 + k * 1 + 0 = k by omega]; exact hoa.frozen k)
 rw [hz1, show 0 + k * 1 = k by omega] at h
 exact h
theorem zz130 {p : Prop} (h : p := by
 have := HV8.out.1
 rw [h, Nat.zero_mul, Nat.mul_zero, Nat.add_zero] at this
 omega) : p := h
theorem zz4 {p : Prop} (h : p := by
 have hQq : Q < q := kn_true ⟨K1, K2, K3⟩ KS.out.2.1 KS.out.2.2.2.1 TST
 have KD := kn_down ⟨K1, K2, K3⟩ hQq
 obtain ⟨p, hpq⟩ : ∃ p, q = p + 1 := ⟨q - 1, by omega⟩
 rw [show q - 1 = p by omega] at KD
 have e5 : IntKind.u64.wrap ((q : Int) - 1) = (p : Int) := by rw [IntKind.wrap_u64]; omega
 have HPQ := Hh hpq; clear hpq
 have e6 : IntKind.u64.wrap ((r : Int) + (top : Int)) = (r : Int) + (top : Int) := by rw [IntKind.wrap_u64]; omega
 have HKD := Hh KD; clear KD hQq K1 K2 K3
 rcases Nat.lt_or_ge (r + top) 4294967296 with hrt | hrt
 ·have dr : decide ((r : Int) + (top : Int) ≥ 4294967296) = false := decide_eq_false om
  go_wp2
  go_quiet (fail)
  go_wp2
  go_roundw
  case rel =>
   exact ⟨p, r + top, rfl, by go_num, HKD.out, hrt, HOW7.out, HOQ7.out, HIN7.out.drewN _⟩
  case measure => have := HPQ.out; simp [intOf]; omega
 ·have dr : decide ((r : Int) + (top : Int) ≥ 4294967296) = true := decide_eq_true om
  have KE := Hh (kn_break (d2 := dv) (u2 := u2) HKD.out hd2 hrt KS.out.2.2.1 om)
  go_wp2
  go_quiet (fail)
  obtain ⟨k1, k2⟩ := kn_digit KS.out.2.2.2.2.2.2.2.1 KS.out.2.2.2.2.1 KS.out.2.2.2.2.2.1 KS.out.2.2.2.2.2.2.1 (by rw [← KS.out.1]; exact KE.out) ht2
  rw [← KS.out.1] at k1 k2
  have hq32 : p < 4294967296 := KE.out.2.1
  go_wp2_with fail
  refine (LS.out _ p hq32 (HIN7.out.drewN nq) (show OwnW (wr.drewN nq) g o6 from HOW7.out)).mono ?_; rintro e6 w8 ⟨b, o8, hb8, rfl, ho8, hwo8, hown8, hval8, hlow8, hrest8, hgr8⟩
  have hoq7 : OwnW (wr.drewN nq) w5.heap.size oq := HOQ7.out
  have hin8 := Within.grown (HIN7.out.drewN nq) hgr8 hg4
  have hoq8 : OwnW w8 w5.heap.size oq := hoq7.of_block (hgr8.block _ hoq7.lt (fun e => by injection e with e; omega))
  clear hoq7
  rw [HH.out.1.1, show j + (n + 2) + 1 = j + n + 2 + 1 by omega] at hval8
  have LL8 := lo_lt o8 hwo8 (j + n + 2 + 1)
  have HV8 := Hh (And.intro hval8 (And.intro hlow8 hrest8)); clear hval8 hlow8 hrest8
  obtain rfl | rfl : b = 0 ∨ b = 1 := by omega
  ·obtain ⟨r1, r2⟩ := kn_right (L := lo o8 (j + n + 2 + 1)) (S := lo o6 (j + n + 3)) (D := 4294967296 ^ j * D) (g := p) KS.out.2.2.2.2.2.2.2.2.2.1 (by rw [← KS.out.1]; exact k1) (by rw [← KS.out.1]; exact k2) KS.out.2.2.2.2.2.2.2.2.1 LL8 (by have := HV8.out.1; rw [Nat.mul_zero, Nat.add_zero, Nat.mul_left_comm] at this; exact this)
   have d8 : decide ((0 : Nat) = 1) = false := rfl
   have wq32 : IntKind.u32.wrap (p : Int) = (p : Int) := IntWalk.u32_in _ ⟨by omega, by omega⟩
   have hcq := hoq8.cell (i := j) (by rw [HOQ.out]; omega)
   have hfq := hoq8.frozen j
   have FIN := Hh (ov_step (o := o6) (oq := oq) (o2 := o8) (k := j) (n := nn) (D := D) (U := U) (Q := p) hwo8 HD0.out (by rw [HH.out.1.1]; exact HDN.out) (by rw [HOQ.out]; exact hjM) HZ.out HZO.out HU6.out (by rw [HH.out.1.1]; exact r1) (by rw [HH.out.1.1]; exact r2) (fun i hi => HV8.out.2.2 i (by have := HH.out.1.1; omega)))
   clear k1 k2 r1 r2 LL8
   go_wp2
   go_roundw
   case rel =>
    have S1 : OwnW (w8.setCell ⟨w5.heap.size, j, none⟩ (.int .u32 (p : Int))) g o8 := hown8.of_block (Below.heap_setCell _ _ _ _ hgq)
    have S2 : Within W2 (w8.setCell ⟨w5.heap.size, j, none⟩ (.int .u32 (p : Int))) := hin8.setCell hgw _
    exact ⟨j, o8, oq.set j p, by omega, by first | rfl | go_num, ho8.trans HO6.out, hwo8, S1, by rw [List.length_set]; exact HOQ.out, HWOQ.out.set _ _ hq32, hoq8.set j p (by rw [HOQ.out]; omega), FIN.out.2.2.2, FIN.out.1, FIN.out.2.1, FIN.out.2.2.1, S2⟩
   case measure => simp [intOf]
  ·have d8 : decide ((1 : Nat) = 1) = true := rfl
   have hq1 : 1 ≤ p := by
    rcases Nat.eq_zero_or_pos p with h | h
    ·exfalso
     exact zz130
    ·exact h
   obtain ⟨p', hqq⟩ : ∃ p', p = p' + 1 := ⟨p - 1, by omega⟩
   have e6' : IntKind.u64.wrap ((p : Int) - 1) = (p' : Int) := by rw [IntKind.wrap_u64]; omega
   have hq'l : p' < 4294967296 := by omega
   have wq32 : IntKind.u32.wrap (p' : Int) = (p' : Int) := IntWalk.u32_in _ ⟨by omega, by omega⟩
   have HQQ := Hh hqq; clear hqq
   go_wp2_with fail
   refine (MR.out w8 o8 hwo8 (ho8.trans HO6.out) hin8 hown8).mono ?_; rintro e7 w9 ⟨c9, o9, hc9, rfl, ho9, hwo9, hown9, hval9, hlow9, hrest9, hgr9⟩
   have hin9 := Within.grown hin8 hgr9 hg4
   have hoq9 : OwnW w9 w5.heap.size oq := hoq8.of_block (hgr9.block _ hoq8.lt (fun e => by injection e with e; omega))
   rw [HH.out.1.1, show j + (n + 2) + 1 = j + n + 2 + 1 by omega] at hval9
   have LL9 := lo_lt o9 hwo9 (j + n + 2 + 1)
   obtain ⟨r1, r2⟩ := kn_wrong (L := lo o8 (j + n + 2 + 1)) (S := lo o6 (j + n + 3)) (D := 4294967296 ^ j * D) (g := p) (L2 := lo o9 (j + n + 2 + 1)) (c := c9) KS.out.2.2.2.2.2.2.2.2.2.1 (by rw [← KS.out.1]; exact k1) (by rw [← KS.out.1]; exact k2) KS.out.2.2.2.2.2.2.2.2.1 LL8 (by have := HV8.out.1; rw [Nat.mul_one, Nat.mul_left_comm] at this; exact this) LL9 hc9 hval9
   rw [HQQ.out, Nat.add_sub_cancel] at r1
   have hcq := hoq9.cell (i := j) (by rw [HOQ.out]; omega)
   have hfq := hoq9.frozen j
   have FIN := Hh (ov_step (o := o6) (oq := oq) (o2 := o9) (k := j) (n := nn) (D := D) (U := U) (Q := p') hwo9 HD0.out (by rw [HH.out.1.1]; exact HDN.out) (by rw [HOQ.out]; exact hjM) HZ.out HZO.out HU6.out (by rw [HH.out.1.1]; exact r1) (by rw [HH.out.1.1]; exact r2) (fun i hi => (hrest9 i (by have := HH.out.1.1; omega)).trans (HV8.out.2.2 i (by have := HH.out.1.1; omega))))
   have HL9 := Hh (ho9.trans (ho8.trans HO6.out))
   clear k1 k2 r1 r2 LL8 LL9 hval9 hlow9 hrest9
   go_wp2
   go_roundw
   case rel =>
    have S1 : OwnW (w9.setCell ⟨w5.heap.size, j, none⟩ (.int .u32 (p' : Int))) g o9 := hown9.of_block (Below.heap_setCell _ _ _ _ hgq)
    have S2 : Within W2 (w9.setCell ⟨w5.heap.size, j, none⟩ (.int .u32 (p' : Int))) := hin9.setCell hgw _
    exact ⟨j, o9, oq.set j p', by omega, by first | rfl | go_num, HL9.out, hwo9, S1, by rw [List.length_set]; exact HOQ.out, HWOQ.out.set _ _ hq'l, hoq9.set j p' (by rw [HOQ.out]; omega), FIN.out.2.2.2, FIN.out.1, FIN.out.2.1, FIN.out.2.2.1, S2⟩
   case measure => simp [intOf]) : p := h
theorem Bover_main (a b n : Nat) (A Bv : Option Addr) (ca cb : Nat) (ha : (dg a).length ≤ 400000) (hb : (dg b).length = n + 2) (h : b ≤ a) (w : World) (hra : RowAt w A (dg a)) (hrb : RowAt w Bv (dg b)) :
 Calls Tryz.prog 218 #[.slice A (dg a).length ca, .slice Bv (dg b).length cb] w (RetQ w (a / b) (a % b)) := by
 have hlb : (dg b).length ≤ (dg a).length := dg_len_mono h
 have CMP := Hh (Bcompare a b A Bv ca cb om om w hra hrb)
 have hcm := cmpN_ge h
 obtain ⟨cm, hce⟩ : ∃ cm, cm = cmpN a b := ⟨_, rfl⟩
 rw [← hce] at CMP hcm
 clear hce
 have d0 : decide (cm < 0) = false := decide_eq_false om
 obtain ⟨s, hs⟩ : ∃ s, s = 32 - Lib.bitLen ((dg b).getD (n + 1) 0) := ⟨_, rfl⟩
 obtain ⟨hs1, hDl0, htop⟩ := norm_len hb hs
 have hDl : (dg (b * 2 ^ s)).length = n + 2 := hDl0
 clear hDl0
 obtain ⟨gb, rfl, hgb, hcb⟩ := hrb.cell (i := n + 1) om
 have tl := (words_dg b).getD (n + 1)
 obtain ⟨bt, hbt⟩ : ∃ bt, bt = (dg b).getD (n + 1) 0 := ⟨_, rfl⟩
 rw [← hbt] at hcb hs tl
 clear hbt
 have hbl : Lib.bitLen bt ≤ 32 ∧ (32 : Int) - (Lib.bitLen bt : Int) = (s : Int) := by
  have : Lib.bitLen bt ≤ 32 := by
   by_cases h : bt = 0
   ·subst h; decide
   ·rw [bitLen_log2 _ h om]
    have := (Nat.log2_lt h (k := 32)).2 tl
    omega
  omega
 have LZ := Hh (fun w' => bits_lz32 bt tl w')
 rw [hbl.2] at LZ
 have ws : IntKind.u64.wrap (s : Int) = (s : Int) := IntWalk.u64_in _ ⟨by omega, by omega⟩
 have LB := Hh (fun w' hr => Bleft b (some ⟨gb, 0, none⟩) cb s om om w' hr)
 have LA := Hh (fun w' hr => Bleft_own (dg a) A ca s 0 s (words_dg a) om om om hs1 om w' hr)
 rw [wval_dg] at LA
 have h0 : 0 < b := by
  rcases Nat.eq_zero_or_pos b with h0 | h0
  ·rw [h0, dg_zero] at hb; simp at hb
  ·exact h0
 obtain ⟨D, hD⟩ : ∃ D, D = b * 2 ^ s := ⟨_, rfl⟩
 obtain ⟨U, hU⟩ : ∃ U, U = a * 2 ^ s := ⟨_, rfl⟩
 have hp := Nat.two_pow_pos s
 have HDIV := Hh (show a / b = U / D ∧ a % b = U % D / 2 ^ s by rw [hU, hD, Nat.mul_div_mul_right _ _ hp, Nat.mul_mod_mul_right, Nat.mul_div_cancel _ hp]; exact ⟨rfl, rfl⟩)
 have HD0 := Hh (show 0 < D by rw [hD]; exact Nat.mul_pos h0 hp)
 have hUD : U < D * 4294967296 ^ ((dg a).length + 1 - (n + 2)) := by
  have e1 := lt_of_dg a
  have e2 : 4294967296 ^ (n + 1) ≤ b := by have := le_of_dg (n := b) om; rwa [hb] at this
  rw [hU, hD, Nat.mul_right_comm]
  refine Nat.mul_lt_mul_of_pos_right (Nat.lt_of_lt_of_le e1 ?_) hp
  refine Nat.le_trans ?_ (Nat.mul_le_mul_right _ e2)
  rw [← Nat.pow_add]
  exact Nat.pow_le_pow_right dc om
 have HUD := Hh hUD
 rw [← hD] at LB hDl htop; rw [← hU] at LA
 clear hU hD hUD
 have HDN := Hh (show D ≤ 4294967296 ^ (n + 2) by have := lt_of_dg D; rw [hDl] at this; exact Nat.le_of_lt this)
 have HTOP := Hh htop; have HDL := Hh hDl
 have HRA := Hh hra; have HRB := Hh hrb
 obtain ⟨la, hla⟩ : ∃ la, la = (dg a).length := ⟨_, rfl⟩
 rw [← hla] at CMP LA HUD ha hlb
 obtain ⟨nn, hnn⟩ : ∃ nn, nn = n + 2 := ⟨_, rfl⟩
 obtain ⟨n1, hn1⟩ : ∃ n1, n1 = n + 1 := ⟨_, rfl⟩
 rw [hb, ← hnn] at CMP LB
 rw [hb] at hlb
 rw [Nat.zero_add] at LA
 obtain ⟨L, hL⟩ : ∃ L, L = la + 1 := ⟨_, rfl⟩
 rw [← hL] at LA
 rw [← hn1] at hcb
 have hend : (RetQ w (a / b) (a % b)) = (RetQ w (U / D) (U % D / 2 ^ s)) := by rw [HDIV.out.1, HDIV.out.2]
 rw [hend, ← hla, hb, ← hnn]
 have RG := Hh (fun (m : Nat) (hm : (dg m).length ≤ 1500000) (Am : Option Addr) (cm' : Nat) (w' : World) hr => Bright m Am cm' s hm om w' hr)
 clear hend hla hb h htop hDl hra hrb hs HDIV h0 hbl tl
 have HDL2 := Hh (HDL.out.trans hnn.symm)
 have d1 : ((nn : Int) == 1) = false := beq_eq_false_iff_ne.2 om
 have f1 : (nn : Int) - 1 = (n1 : Int) := by omega
 have f2 : (nn : Int) - 2 = (n : Int) := by omega
 obtain ⟨M, hM⟩ : ∃ M, L = M + nn := ⟨L - nn, by omega⟩
 have hgt : (L : Int) - (nn : Int) = (M : Int) := by omega
 have hLi : (la : Int) + 1 = (L : Int) := by omega
 have hl4 : L ≤ 400001 := by omega
 have h2n : 2 ≤ nn := by omega
 have hUM : U < D * 4294967296 ^ M := by rw [show M = la + 1 - (n + 2) by omega]; exact HUD.out
 have HUM := Hh hUM
 have HH := Hh (And.intro (And.intro hnn hn1) (And.intro hL hM))
 clear hnn hn1 hL hM hUM HUD hlb ha
 go_enter Tryz.func218, Tryz.ntmps218
 go_wp2_with fail
 refine (CMP.out).mono ?_; rintro e1 w1 ⟨rfl, hb1⟩
 have hcb1 := (hb1.cells _ _ hgb).trans hcb
 go_wp2_with fail
 refine (LZ.out _).mono ?_; rintro e2 wz ⟨rfl, rfl⟩
 go_wp2_with fail
 refine (LB.out _ (HRB.out.of hb1)).mono ?_; rintro e3 W2 ⟨Dv, cd, rfl, hcd, hrd, hb3⟩
 rw [HDL2.out] at hcd ⊢
 have HRD := Hh hrd; clear hrd
 go_wp2_with fail
 refine (LA.out _ (HRA.out.of (hb1.trans hb3))).mono ?_; rintro e4 w4 ⟨g, o4, rfl, hown4, ho4, hwo4, hv4, hg4, hb4⟩
 have hu4 : (dg U).length ≤ L := by rw [← hv4, ← ho4]; exact dg_len_le (wval_lt o4 hwo4)
 go_wp2
 go_loopw [10] (fun uv wr => LuRel W2 g L U uv wr) (fun uv _ => L - slen uv)
 case atStart => exact ⟨_, o4, hu4, Nat.le_refl _, rfl, hown4, ho4, hwo4, hv4, hb4⟩
 case round =>
  obtain ⟨k, o, hk, hku, rfl, hown, ho, hwo, hvo, hin⟩ := hrel
  have HO := Hh ho; have HWO := Hh hwo; have HVO := Hh hvo; clear ho hwo hvo
  rcases Nat.lt_or_ge k L with hlt | hlt
  ·have d2 : decide ((k : Int) < (L : Int)) = true := decide_eq_true om
   have RUN := Hh (app_zero hown HO.out hlt)
   go_wp2_with (at_builtin; refine wpList_apw rfl (.tmp 59) (.tmp 60) 92 rfl _ _ rfl rfl RUN.out ?_)
   go_roundw
   case rel =>
    refine ⟨k + 1, o.set k 0, by omega, by omega, rfl, (hown.alloc _).set k 0 (by rw [HO.out]; exact hlt), by rw [List.length_set]; exact HO.out, HWO.out.set _ _ dc, ?_, (hin.alloc _).setCell hg4 _⟩
    have e := wval_set o k 0 (by rw [HO.out]; exact hlt)
    rw [top_zero HWO.out HVO.out hku, Nat.mul_zero, Nat.add_zero] at e
    exact e.trans HVO.out
   case measure => simp [slen]; omega
  ·obtain rfl : k = L := by omega
   have d2 : decide ((k : Int) < (k : Int)) = false := decide_eq_false om
   have hmk := run_make_row' (P := Tryz.prog) 92 153 (.int .u32 0) 4 kr Tryz.infoU32 rfl .i64 .i64 M om om
   have hn1l : n1 < nn := by omega
   obtain ⟨gd, rfl, hgd, hct⟩ := (HRD.out.of hin).cell (i := n1) (by rw [HDL2.out]; exact hn1l)
   obtain ⟨top, htp⟩ : ∃ t, t = (dg D).getD (n + 1) 0 := ⟨_, rfl⟩
   have ht1 : top < 4294967296 := by rw [htp]; exact (words_dg D).getD _
   have ht2 : 2147483648 ≤ top := by rw [htp]; exact HTOP.out
   rw [HH.out.1.2, ← htp] at hct
   rw [← HH.out.1.2] at hct
   have HTP := Hh htp; clear htp
   obtain ⟨w5, rfl⟩ : ∃ w5 : World, w5 = wr := ⟨_, rfl⟩
   have hnd := hown.lt
   have hMi : (M : Int) - 1 = (((M : Int) - 1)) := rfl
   go_wp2
   go_loopw [14] (fun jv wr => OvRel W2 g w5.heap.size k M nn D U jv wr) (fun jv _ => (intOf jv + 1).toNat)
   case atStart =>
    have hL := HH.out.2.2
    have hn := HH.out.1.1
    refine ⟨M, o, List.replicate M 0, Nat.le_refl _, by go_num, HO.out, HWO.out, hown.alloc _, by simp, Words.zeros _, OwnW.made w5 M, fun j _ => repl_getD _ _, ?_, ?_, ?_, hin.alloc _⟩
    ·intro i hi
     rw [List.getD_eq_getElem?_getD, List.getElem?_eq_none (by rw [HO.out]; omega)]; rfl
    ·rw [lo_all o (by rw [HO.out]; omega), HVO.out]; exact HUM.out
    ·rw [wval_zeros, Nat.zero_mul, Nat.zero_add, lo_all o (by rw [HO.out]; omega), HVO.out]
   case round =>
    obtain ⟨j, o6, oq, hj, rfl, ho6, hwo6, hown6, hoq0, hwoq, hoq, hz, hzo, hlt6, hU6, hin6⟩ := hrel
    have HO6 := Hh ho6; have HWO6 := Hh hwo6; have HOQ := Hh hoq0; have HWOQ := Hh hwoq; have HZ := Hh hz; have HZO := Hh hzo; have HLT := Hh hlt6; have HU6 := Hh hU6; clear ho6 hwo6 hoq0 hwoq hz hzo hlt6 hU6
    clear hown HO HWO HVO hin
    rcases j with _ | j
    ·rw [show ((0 : Nat) : Int) - 1 = -1 from rfl]
     have hnk : nn ≤ k := by have := HH.out.2.2; omega
     have htk : (o6.take nn).length = nn := by rw [List.length_take, HO6.out]; omega
     have CT1 := Hh (fun w' (hr : OwnW w' w5.heap.size oq) => Bcut oq (some ⟨w5.heap.size, 0, none⟩) M HWOQ.out (by rw [HOQ.out]; exact Nat.le_refl _) (by rw [HOQ.out]; omega) w' hr.at)
     rw [HOQ.out] at CT1
     have CT2 := Hh (fun w' (hr : OwnW w' g o6) => Bcut (o6.take nn) (some ⟨g, 0, none⟩) k (HWO6.out.take nn) (by rw [htk]; exact hnk) (by rw [htk]; omega) w' (hr.at.take nn))
     rw [htk] at CT2
     have hR0 : wval (o6.take nn) = lo o6 nn := rfl
     have HRT := Hh (fun w' (hr : OwnW w' g o6) => (hr.at.take nn).cut (HWO6.out.take nn))
     have hRl : (dg (wval (o6.take nn))).length ≤ 1500000 := Nat.le_trans (dg_len_le (wval_lt _ (HWO6.out.take nn))) (by rw [htk]; omega)
     have hlt0 := HLT.out
     have hU0 := HU6.out
     rw [Nat.zero_add, Nat.pow_zero, Nat.mul_one, ← hR0] at hlt0
     rw [Nat.zero_add, ← hR0] at hU0
     obtain ⟨R, hR⟩ : ∃ R, R = wval (o6.take nn) := ⟨_, rfl⟩
     rw [← hR] at CT2 HRT hRl hlt0 hU0
     clear hR0 hR
     have HQR := Hh (show U / D = wval oq ∧ U % D = R by
      rw [hU0, Nat.mul_comm]
      exact ⟨by rw [Nat.mul_add_div HD0.out, Nat.div_eq_of_lt hlt0, Nat.add_zero], by rw [Nat.mul_add_mod, Nat.mod_eq_of_lt hlt0]⟩)
     have RG2 := Hh (RG.out R hRl)
     clear hlt0 hU0 htk hRl
     go_upto_region 28 with fail
     refine wp_region_schG (fun W => OwnW W w5.heap.size oq ∧ OwnW W g o6 ∧ Within wr W) 9 (.firm 0 (.firm 2 (.firm 3 (.firm 4 (.firm 6 (.one 1 (.one 5 (.one 7 (.firm 8 (.one 9 .nil)))))))))) kr kr ⟨hoq, hown6, Within.refl _⟩ ?_
     rintro w0 ⟨hq_, ho_, hw0⟩
     try simp only [pu]
     iterate 5
      apply sch_firm rfl rfl wi
      ·intro wq hq
       have hcq := hq.cells
       clear hq
       go_simp
       rfl
      try simp only [pu]
     refine sch_one rfl rfl (fun K hK => ?_)
     go_simp
     refine (CT1.out _ (OwnW.drew hq_)).mono ?_; rintro ea wa ⟨rfl, rfl⟩
     refine hK _ _ (fun _ => wi) ?_
     clear hK K
     try simp only [pu]
     refine sch_one rfl rfl (fun K hK => ?_)
     go_simp
     refine (CT2.out _ (OwnW.drew ho_)).mono ?_; rintro eb wb ⟨rfl, rfl⟩
     refine hK _ _ (fun _ => wi) ?_
     clear hK K
     try simp only [pu]
     refine sch_one rfl rfl (fun K hK => ?_)
     go_simp
     refine (RG2.out _ _ _ (HRT.out _ (OwnW.drew ho_))).mono ?_; rintro ec wc ⟨A7, c7, rfl, hc7, hr7, hb7⟩
     have h7 : Within w0 wc := Within.trans (Within.refl w0).drew hb7
     refine hK _ _ (fun _ => wi) ?_
     clear hK K
     try simp only [pu]
     apply sch_firm rfl rfl wi
     ·intro wq hq
      have hcq := hq.cells
      clear hq
      go_simp
      rfl
     try simp only [pu]
     refine sch_one rfl rfl (fun K hK => ?_)
     go_simp
     refine hK _ _ ab ?_
     clear hK K
     try simp only [pu]
     refine sch_nil ?_
     go_wp2
     go_ret2
     rw [HQR.out.1, HQR.out.2]
     exact ⟨_, _, _, _, rfl, Nat.le_trans (dg_len_le (wval_lt oq HWOQ.out)) (by rw [HOQ.out]; exact Nat.le_refl _), hc7, (hq_.at.cut HWOQ.out).of h7, hr7, (hb1.trans hb3).trans (hin6.trans (hw0.trans h7))⟩
    ·rw [show ((j + 1 : Nat) : Int) - 1 = (j : Int) by omega]
     have hjM : j < M := by omega
     have hgq : g ≠ w5.heap.size := by omega
     have hgw : W2.heap.size ≤ w5.heap.size := by omega
     obtain ⟨w6, rfl⟩ : ∃ w6 : World, w6 = wr := ⟨_, rfl⟩
     have KS0 := kn_state (o := o6) (ld := dg D) (j := j) (n := n) HWO6.out (words_dg D) HDL.out HTOP.out (by rw [wval_dg]; have := HLT.out; rw [show j + 1 + nn = j + n + 3 by have := HH.out.1.1; omega] at this; exact this)
     unfold KnS at KS0
     rw [wval_dg, ← HTP.out] at KS0
     have hjn : j + nn < k := by have := HH.out.2.2; omega
     have hx0 : j + nn = j + n + 2 := by have := HH.out.1.1; omega
     have hx1 : j + n1 = j + n + 1 := by have := HH.out.1.2; omega
     have c0 := hown6.cell (i := j + nn) (by rw [HO6.out]; exact hjn)
     have c1 := hown6.cell (i := j + n1) (by rw [HO6.out]; omega)
     rw [hx0] at c0; rw [hx1] at c1
     obtain ⟨u0, hu0⟩ : ∃ u, u = o6.getD (j + n + 2) 0 := ⟨_, rfl⟩
     obtain ⟨u1, hu1⟩ : ∃ u, u = o6.getD (j + n + 1) 0 := ⟨_, rfl⟩
     obtain ⟨u2, hu2⟩ : ∃ u, u = o6.getD (j + n) 0 := ⟨_, rfl⟩
     obtain ⟨dv, hdv⟩ : ∃ u, u = (dg D).getD n 0 := ⟨_, rfl⟩
     rw [← hu0] at c0 KS0; rw [← hu1] at c1 KS0; rw [← hu2] at KS0; rw [← hdv] at KS0
     rw [← hx0] at c0; rw [← hx1] at c1
     have l0 : u0 < 4294967296 := by rw [hu0]; exact HWO6.out.getD _
     have l1 : u1 < 4294967296 := by rw [hu1]; exact HWO6.out.getD _
     have l2 : u2 < 4294967296 := by rw [hu2]; exact HWO6.out.getD _
     have hd2 : dv < 4294967296 := by rw [hdv]; exact (words_dg D).getD _
     have HU2 := Hh (And.intro hu2 hdv)
     clear hu0 hu1 hu2 hdv hx0 hx1
     obtain ⟨t, ht⟩ : ∃ t, t = u0 * 4294967296 + u1 := ⟨_, rfl⟩
     have gsh : IntKind.u64.wrap ((u0 : Int) * 4294967296) = (u0 : Int) * 4294967296 := by rw [IntKind.wrap_u64]; omega
     have gor := shl_or l0 l1 ht
     rw [← ht] at KS0
     obtain ⟨Q, hQ⟩ : ∃ Q, Q = lo o6 (j + n + 3) / (4294967296 ^ j * D) := ⟨_, rfl⟩
     rw [← hQ] at KS0
     have KS := Hh (And.intro hQ KS0.2)
     have KG := kn_start ht2 l2 KS0.2.1 KS0.2.2.1
     clear hQ KS0 ht
     have ed : (t : Int) / (top : Int) = ((t / top : Nat) : Int) := by simp
     have em : (t : Int) % (top : Int) = ((t % top : Nat) : Int) := by simp
     have r1 := Nat.mod_lt t (show 0 < top by omega)
     obtain ⟨q0, hq0⟩ : ∃ q, q = t / top := ⟨_, rfl⟩
     obtain ⟨r0, hr0⟩ : ∃ r, r = t % top := ⟨_, rfl⟩
     rw [← hq0] at ed KG; rw [← hr0] at em KG r1
     have HKG := Hh KG
     have wq0 : IntKind.u64.wrap (q0 : Int) = (q0 : Int) := IntWalk.u64_in _ ⟨by omega, by have := KG.2.2; omega⟩
     clear hq0 hr0 KG
     have dz : ((top : Int) == 0) = false := beq_eq_false_iff_ne.2 om
     have f3 : ((j : Int) + (nn : Int)).toNat = j + nn := by omega
     have f4 : IntKind.i64.wrap ((j : Int) + (nn : Int)) = (j : Int) + (nn : Int) := IntWalk.i64_in _ om
     have f5 : IntKind.i64.wrap ((j : Int) + (nn : Int) - 1) = (j : Int) + (n1 : Int) := by rw [IntWalk.i64_in _ om]; omega
     have f6 : ((j : Int) + (n1 : Int)).toNat = j + n1 := by omega
     have f7 : IntKind.i64.wrap ((j : Int) + (nn : Int) - 2) = (j : Int) + (n : Int) := by rw [IntWalk.i64_in _ om]; omega
     have f8 : ((j : Int) + (n : Int)).toNat = j + n := by omega
     have f9 : IntKind.i64.wrap ((nn : Int) - 2) = (n : Int) := by rw [IntWalk.i64_in _ om]; omega
     have LS := Hh (fun (wq : World) (q : Nat) (hq : q < 4294967296) (hin : Within W2 wq) (hown : OwnW wq g o6) => Bless o6 (dg D) g k cd j q (some ⟨gd, 0, none⟩) HWO6.out (words_dg D) (by rw [HO6.out]; omega) (by rw [HO6.out, HDL2.out]; exact hjn) (by rw [HO6.out]; exact Nat.le_refl _) hq W2 wq hin hg4 hown HRD.out)
     rw [HO6.out, HDL2.out, wval_dg] at LS
     have MR := Hh (fun (wq : World) (o8 : List Nat) (hwo8 : Words o8) (ho8 : o8.length = k) (hin : Within W2 wq) (hown : OwnW wq g o8) => by
      have h := Bmore o8 (dg D) g k cd j (some ⟨gd, 0, none⟩) hwo8 (words_dg D) (by rw [ho8]; omega) (by rw [ho8, HDL2.out]; exact hjn) W2 wq hin hg4 hown HRD.out
      rw [ho8, HDL2.out, wval_dg] at h
      exact h)
     go_wp2
     go_quiet (fail)
     go_wp2
     rw [em]
     go_loopw [16, 17] (fun gv rv wr => KnRel W2 g w5.heap.size o6 oq top t Q gv rv wr) (fun gv _ _ => (intOf gv).toNat)
     case atStart => exact ⟨q0, r0, by first | rfl | rw [wq0], by first | rfl | rw [wq0], HKG.out, by omega, hown6, hoq, hin6.drewN _⟩
     case round =>
      obtain ⟨q, r, rfl, rfl, ⟨K1, K2, K3⟩, hr, hown7, hoq7, hin7⟩ := hrel
      have HOW7 := Hh hown7; have HOQ7 := Hh hoq7; have HIN7 := Hh hin7
      have c2 := hown7.cell (i := j + n) (by rw [HO6.out]; omega)
      rw [← HU2.out.1] at c2
      obtain ⟨gd', eg, hgd', cd0⟩ := (HRD.out.of hin7).cell (i := n) (by rw [HDL2.out]; omega)
      injection eg with eg; injection eg with eg; subst eg
      rw [← HU2.out.2] at cd0
      clear hown7 hoq7 hin7 hown6 hoq hin6
      rcases Nat.lt_or_ge q 4294967296 with hq | hq
      ·have dq : decide ((q : Int) ≥ 4294967296) = false := decide_eq_false om
       have hm := word_mul hq hd2
       obtain ⟨m, hme⟩ : ∃ m, m = q * dv := ⟨_, rfl⟩
       have e0 : (q : Int) * dv = (m : Int) := by rw [hme]; simp
       rw [← hme] at hm
       have e1 : IntKind.u64.wrap (m : Int) = m := by rw [IntKind.wrap_u64]; omega
       obtain ⟨v, hve⟩ : ∃ v, v = r * 4294967296 + u2 := ⟨_, rfl⟩
       have gs2 : IntKind.u64.wrap ((r : Int) * 4294967296) = (r : Int) * 4294967296 := by rw [IntKind.wrap_u64]; omega
       have go2 := shl_or hr l2 hve
       have HMV := Hh (And.intro hme hve); clear hme hve hm
       rcases Nat.lt_or_ge v m with hv | hv
       ·have dv2 : decide ((m : Int) > (v : Int)) = true := decide_eq_true om
        have TST : 4294967296 ≤ q ∨ r * 4294967296 + u2 < q * dv := .inr (by rw [← HMV.out.1, ← HMV.out.2]; exact hv)
        exact zz4
       ·have dv2 : decide ((m : Int) > (v : Int)) = false := decide_eq_false om
        have KE := Hh (kn_false (d2 := dv) (u2 := u2) ⟨K1, K2, K3⟩ hq (by rw [← HMV.out.1, ← HMV.out.2]; exact hv))
        clear K1 K2 K3
        go_wp2
        go_quiet (fail)
        obtain ⟨k1, k2⟩ := kn_digit KS.out.2.2.2.2.2.2.2.1 KS.out.2.2.2.2.1 KS.out.2.2.2.2.2.1 KS.out.2.2.2.2.2.2.1 (by rw [← KS.out.1]; exact KE.out) ht2
        rw [← KS.out.1] at k1 k2
        have hq32 : q < 4294967296 := KE.out.2.1
        go_wp2_with fail
        refine (LS.out _ q hq32 (HIN7.out.drewN nq) (show OwnW (wr.drewN nq) g o6 from HOW7.out)).mono ?_; rintro e6 w8 ⟨b, o8, hb8, rfl, ho8, hwo8, hown8, hval8, hlow8, hrest8, hgr8⟩
        have hoq7 : OwnW (wr.drewN nq) w5.heap.size oq := HOQ7.out
        have hin8 := Within.grown (HIN7.out.drewN nq) hgr8 hg4
        have hoq8 : OwnW w8 w5.heap.size oq := hoq7.of_block (hgr8.block _ hoq7.lt (fun e => by injection e with e; omega))
        clear hoq7
        rw [HH.out.1.1, show j + (n + 2) + 1 = j + n + 2 + 1 by omega] at hval8
        have LL8 := lo_lt o8 hwo8 (j + n + 2 + 1)
        have HV8 := Hh (And.intro hval8 (And.intro hlow8 hrest8)); clear hval8 hlow8 hrest8
        obtain rfl | rfl : b = 0 ∨ b = 1 := by omega
        ·obtain ⟨r1, r2⟩ := kn_right (L := lo o8 (j + n + 2 + 1)) (S := lo o6 (j + n + 3)) (D := 4294967296 ^ j * D) (g := q) KS.out.2.2.2.2.2.2.2.2.2.1 (by rw [← KS.out.1]; exact k1) (by rw [← KS.out.1]; exact k2) KS.out.2.2.2.2.2.2.2.2.1 LL8 (by have := HV8.out.1; rw [Nat.mul_zero, Nat.add_zero, Nat.mul_left_comm] at this; exact this)
         have d8 : decide ((0 : Nat) = 1) = false := rfl
         have wq32 : IntKind.u32.wrap (q : Int) = (q : Int) := IntWalk.u32_in _ ⟨by omega, by omega⟩
         have hcq := hoq8.cell (i := j) (by rw [HOQ.out]; omega)
         have hfq := hoq8.frozen j
         have FIN := Hh (ov_step (o := o6) (oq := oq) (o2 := o8) (k := j) (n := nn) (D := D) (U := U) (Q := q) hwo8 HD0.out (by rw [HH.out.1.1]; exact HDN.out) (by rw [HOQ.out]; exact hjM) HZ.out HZO.out HU6.out (by rw [HH.out.1.1]; exact r1) (by rw [HH.out.1.1]; exact r2) (fun i hi => HV8.out.2.2 i (by have := HH.out.1.1; omega)))
         clear k1 k2 r1 r2 LL8
         go_wp2
         go_roundw
         case rel =>
          have S1 : OwnW (w8.setCell ⟨w5.heap.size, j, none⟩ (.int .u32 (q : Int))) g o8 := hown8.of_block (Below.heap_setCell _ _ _ _ hgq)
          have S2 : Within W2 (w8.setCell ⟨w5.heap.size, j, none⟩ (.int .u32 (q : Int))) := hin8.setCell hgw _
          exact ⟨j, o8, oq.set j q, by omega, by first | rfl | go_num, ho8.trans HO6.out, hwo8, S1, by rw [List.length_set]; exact HOQ.out, HWOQ.out.set _ _ hq32, hoq8.set j q (by rw [HOQ.out]; omega), FIN.out.2.2.2, FIN.out.1, FIN.out.2.1, FIN.out.2.2.1, S2⟩
         case measure => simp [intOf]
        ·have d8 : decide ((1 : Nat) = 1) = true := rfl
         have hq1 : 1 ≤ q := by
          rcases Nat.eq_zero_or_pos q with h | h
          ·exfalso
           exact zz130
          ·exact h
         obtain ⟨q', hqq⟩ : ∃ q', q = q' + 1 := ⟨q - 1, by omega⟩
         have e6' : IntKind.u64.wrap ((q : Int) - 1) = (q' : Int) := by rw [IntKind.wrap_u64]; omega
         have hq'l : q' < 4294967296 := by omega
         have wq32 : IntKind.u32.wrap (q' : Int) = (q' : Int) := IntWalk.u32_in _ ⟨by omega, by omega⟩
         have HQQ := Hh hqq; clear hqq
         go_wp2_with fail
         refine (MR.out w8 o8 hwo8 (ho8.trans HO6.out) hin8 hown8).mono ?_; rintro e7 w9 ⟨c9, o9, hc9, rfl, ho9, hwo9, hown9, hval9, hlow9, hrest9, hgr9⟩
         have hin9 := Within.grown hin8 hgr9 hg4
         have hoq9 : OwnW w9 w5.heap.size oq := hoq8.of_block (hgr9.block _ hoq8.lt (fun e => by injection e with e; omega))
         rw [HH.out.1.1, show j + (n + 2) + 1 = j + n + 2 + 1 by omega] at hval9
         have LL9 := lo_lt o9 hwo9 (j + n + 2 + 1)
         obtain ⟨r1, r2⟩ := kn_wrong (L := lo o8 (j + n + 2 + 1)) (S := lo o6 (j + n + 3)) (D := 4294967296 ^ j * D) (g := q) (L2 := lo o9 (j + n + 2 + 1)) (c := c9) KS.out.2.2.2.2.2.2.2.2.2.1 (by rw [← KS.out.1]; exact k1) (by rw [← KS.out.1]; exact k2) KS.out.2.2.2.2.2.2.2.2.1 LL8 (by have := HV8.out.1; rw [Nat.mul_one, Nat.mul_left_comm] at this; exact this) LL9 hc9 hval9
         rw [HQQ.out, Nat.add_sub_cancel] at r1
         have hcq := hoq9.cell (i := j) (by rw [HOQ.out]; omega)
         have hfq := hoq9.frozen j
         have FIN := Hh (ov_step (o := o6) (oq := oq) (o2 := o9) (k := j) (n := nn) (D := D) (U := U) (Q := q') hwo9 HD0.out (by rw [HH.out.1.1]; exact HDN.out) (by rw [HOQ.out]; exact hjM) HZ.out HZO.out HU6.out (by rw [HH.out.1.1]; exact r1) (by rw [HH.out.1.1]; exact r2) (fun i hi => (hrest9 i (by have := HH.out.1.1; omega)).trans (HV8.out.2.2 i (by have := HH.out.1.1; omega))))
         have HL9 := Hh (ho9.trans (ho8.trans HO6.out))
         clear k1 k2 r1 r2 LL8 LL9 hval9 hlow9 hrest9
         go_wp2
         go_roundw
         case rel =>
          have S1 : OwnW (w9.setCell ⟨w5.heap.size, j, none⟩ (.int .u32 (q' : Int))) g o9 := hown9.of_block (Below.heap_setCell _ _ _ _ hgq)
          have S2 : Within W2 (w9.setCell ⟨w5.heap.size, j, none⟩ (.int .u32 (q' : Int))) := hin9.setCell hgw _
          exact ⟨j, o9, oq.set j q', by omega, by first | rfl | go_num, HL9.out, hwo9, S1, by rw [List.length_set]; exact HOQ.out, HWOQ.out.set _ _ hq'l, hoq9.set j q' (by rw [HOQ.out]; omega), FIN.out.2.2.2, FIN.out.1, FIN.out.2.1, FIN.out.2.2.1, S2⟩
         case measure => simp [intOf]
      ·have dq : decide ((q : Int) ≥ 4294967296) = true := decide_eq_true om
       have TST : 4294967296 ≤ q ∨ r * 4294967296 + u2 < q * dv := .inl hq
       exact zz4
def MinusRel (W : World) (g : Nat) (la lb : List Nat) (cv iv : Value) (wr : World) : Prop :=
 ∃ (k c : Nat) (o : List Nat), k ≤ la.length ∧ c ≤ 1 ∧ cv = .int .u64 (c : Int) ∧ iv = .int .i64 (k : Int) ∧ o.length = la.length ∧ Words o ∧ OwnW wr g o ∧ lo o k + lo lb k = lo la k + 4294967296 ^ k * c ∧ Within W wr
theorem MinusRel.less {W wr : World} {g : Nat} {la lb o : List Nat} {k c x y : Nat} (v q : Int) (hk : k < la.length) (hc : c ≤ 1) (ho : o.length = la.length) (hwo : Words o) (hown : OwnW wr g o) (hval : lo o k + lo lb k = lo la k + 4294967296 ^ k * c) (hin : Within W wr)
 (hx : x = la.getD k 0) (hy : y = lb.getD k 0) (hx2 : x < 4294967296) (hy2 : y < 4294967296) (hg : W.heap.size ≤ g) (hlt : x < c + y) (hv : v = ((x + 4294967296 - (c + y) : Nat) : Int)) (hq : q = ((k + 1 : Nat) : Int)) :
 MinusRel W g la lb (.int .u64 1) (.int .i64 q) (wr.setCell ⟨g, k, none⟩ (.int .u32 v)) := by
 subst hv hq
 refine ⟨k + 1, 1, o.set k (x + 4294967296 - (c + y)), by omega, by omega, rfl, rfl, by rw [List.length_set]; exact ho, hwo.set _ _ om, hown.set _ _ om, ?_, hin.setCell hg _⟩
 rw [lo_set_succ _ _ _ om, lo_succ la, lo_succ lb, ← hx, ← hy, Nat.pow_succ]
 have := minus_less (P := 4294967296 ^ k) (a := x) (b := y) hval om
 omega
theorem MinusRel.more {W wr : World} {g : Nat} {la lb o : List Nat} {k c x y : Nat} (v q : Int) (hk : k < la.length) (ho : o.length = la.length) (hwo : Words o) (hown : OwnW wr g o) (hval : lo o k + lo lb k = lo la k + 4294967296 ^ k * c) (hin : Within W wr)
 (hx : x = la.getD k 0) (hy : y = lb.getD k 0) (hx2 : x < 4294967296) (hg : W.heap.size ≤ g) (hge : c + y ≤ x) (hv : v = ((x - (c + y) : Nat) : Int)) (hq : q = ((k + 1 : Nat) : Int)) :
 MinusRel W g la lb (.int .u64 0) (.int .i64 q) (wr.setCell ⟨g, k, none⟩ (.int .u32 v)) := by
 subst hv hq
 refine ⟨k + 1, 0, o.set k (x - (c + y)), by omega, by omega, rfl, rfl, by rw [List.length_set]; exact ho, hwo.set _ _ om, hown.set _ _ om, ?_, hin.setCell hg _⟩
 rw [lo_set_succ _ _ _ om, lo_succ la, lo_succ lb, ← hx, ← hy, Nat.pow_succ]
 have := minus_more (P := 4294967296 ^ k) (a := x) (b := y) hval om
 omega
theorem Bminus0 (la lb : List Nat) (A Bv : Option Addr) (ca cb : Nat) (hwa : Words la) (hwb : Words lb) (hla : la.length ≤ 1500000) (hll : lb.length ≤ la.length) (hge : wval lb ≤ wval la) (w : World) (hra : RowAt w A la) (hrb : RowAt w Bv lb) :
 Calls Tryz.prog 286 #[.slice A la.length ca, .slice Bv lb.length cb] w (RetW w (wval la - wval lb)) := by
 have hmk := run_make_row' (P := Tryz.prog) 92 153 (.int .u32 0) 4 kr Tryz.infoU32 rfl .i64 .i64 la.length om om
 have HWA := Hh hwa; have HWB := Hh hwb; have HRA := Hh hra; have HRB := Hh hrb; clear hwa hwb hra hrb
 have HGE := Hh hge; have HLL := Hh hll; clear hge hll
 have HM := OwnW.made w la.length
 go_enter Tryz.func286, Tryz.ntmps286
 go_wp2
 go_loopw [6, 7] (fun cv iv wr => MinusRel w w.heap.size la lb cv iv wr) (fun _ iv _ => la.length - (intOf iv).toNat)
 case atStart => exact ⟨0, 0, _, Nat.zero_le _, Nat.zero_le _, rfl, rfl, by simp, Words.zeros _, HM, by simp [lo_zero], (Within.refl w).alloc _⟩
 case round =>
  obtain ⟨k, c, o, hk, hc, rfl, rfl, ho, hwo, hown, hval, hin⟩ := hrel
  have HV := Hh hval; have HO := Hh ho; have HWO := Hh hwo; clear hval ho hwo
  rcases Nat.lt_or_ge k la.length with hlt | hlt
  ·obtain ⟨ga, rfl, hga, hca⟩ := (HRA.out.of hin).cell hlt
   obtain ⟨x, hxe⟩ : ∃ x, x = la.getD k 0 := ⟨_, rfl⟩
   have hx : x < 4294967296 := by rw [hxe]; exact HWA.out.getD k
   rw [← hxe] at hca
   have HXE := Hh hxe; clear hxe
   have hco := hown.cell (i := k) (by rw [HO.out]; omega)
   have hfo := hown.frozen k
   rcases Nat.lt_or_ge k lb.length with hlb | hlb
   ·obtain ⟨gb, rfl, hgb, hcb⟩ := (HRB.out.of hin).cell hlb
    obtain ⟨y, hye⟩ : ∃ y, y = lb.getD k 0 := ⟨_, rfl⟩
    have hy : y < 4294967296 := by rw [hye]; exact HWB.out.getD k
    rw [← hye] at hcb
    have HYE := Hh hye; clear hye
    rcases Nat.lt_or_ge x (c + y) with hxy | hxy
    ·have dx : decide ((x : Int) < c + y) = true := decide_eq_true om
     go_wp2
     go_roundw
     case rel => exact MinusRel.less (x := x) (y := y) _ _ hlt hc HO.out HWO.out hown HV.out hin HXE.out HYE.out hx hy (Nat.le_refl _) hxy om om
     case measure => simp [intOf]; omega
    ·have dx : decide ((x : Int) < c + y) = false := decide_eq_false om
     go_wp2
     go_roundw
     case rel => exact MinusRel.more (x := x) (y := y) _ _ hlt HO.out HWO.out hown HV.out hin HXE.out HYE.out hx (Nat.le_refl _) hxy om om
     case measure => simp [intOf]; omega
   ·have hy0 : 0 = lb.getD k 0 := by simp [List.getD_eq_getElem?_getD, hlb]
    have HY0 := Hh hy0; clear hy0
    rcases Nat.lt_or_ge x (c) with hxy | hxy
    ·have dx : decide ((x : Int) < c) = true := decide_eq_true om
     go_wp2
     go_roundw
     case rel => exact MinusRel.less (x := x) (y := 0) _ _ hlt hc HO.out HWO.out hown HV.out hin HXE.out HY0.out hx dc (Nat.le_refl _) hxy om om
     case measure => simp [intOf]; omega
    ·have dx : decide ((x : Int) < c) = false := decide_eq_false om
     go_wp2
     go_roundw
     case rel => exact MinusRel.more (x := x) (y := 0) _ _ hlt HO.out HWO.out hown HV.out hin HXE.out HY0.out hx (Nat.le_refl _) hxy om om
     case measure => simp [intOf]; omega
  ·obtain rfl : k = la.length := by omega
   have CT := Hh (Bcut o (some ⟨w.heap.size, 0, none⟩) la.length HWO.out (by rw [HO.out]; exact Nat.le_refl _) (by rw [HO.out]; omega) _ hown.at)
   rw [HO.out] at CT
   go_wp2_with fail
   refine (CT.out).mono ?_; rintro e1 w1 ⟨rfl, rfl⟩
   go_wp2
   go_ret
   refine retW_cut hown.at HWO.out (by rw [HO.out]; exact Nat.le_refl _) hin ?_
   have h1 := HV.out
   have h2 := lo_lt o HWO.out la.length
   rw [lo_all o (Nat.le_of_eq HO.out), lo_all la (Nat.le_refl _), lo_all lb HLL.out] at h1
   rw [lo_all o (Nat.le_of_eq HO.out)] at h2
   exact (minus_end h1 h2 HGE.out).2
theorem Bminus (a b : Nat) (A Bv : Option Addr) (ca cb : Nat) (ha : (dg a).length ≤ 1500000) (hge : b ≤ a) (w : World) (hra : RowAt w A (dg a)) (hrb : RowAt w Bv (dg b)) :
 Calls Tryz.prog 286 #[.slice A (dg a).length ca, .slice Bv (dg b).length cb] w (RetW w (a - b)) := by
 have := Bminus0 (dg a) (dg b) A Bv ca cb (words_dg a) (words_dg b) ha (dg_len_mono hge) (by rw [wval_dg, wval_dg]; exact hge) w hra hrb
 rw [wval_dg, wval_dg] at this
 exact this
theorem dg_add_len {a b n : Nat} (ha : (dg a).length ≤ n) (hb : (dg b).length ≤ n) : (dg (a + b)).length ≤ n + 1 := by
 refine dg_len_le ?_
 have h1 := lt_of_dg a
 have h2 := lt_of_dg b
 have h3 : 4294967296 ^ (dg a).length ≤ 4294967296 ^ n := Nat.pow_le_pow_right dc ha
 have h4 : 4294967296 ^ (dg b).length ≤ 4294967296 ^ n := Nat.pow_le_pow_right dc hb
 rw [Nat.pow_succ]
 generalize 4294967296 ^ n = Z at *
 omega
theorem dg_add_le {a b : Nat} (ha : (dg a).length ≤ 1000000) (hb : (dg b).length ≤ 1000000) : (dg (a + b)).length ≤ 1500000 := Nat.le_trans (dg_add_len ha hb) dc
theorem zz12 {p : Prop} (h : p := by
 rintro e3 w3 ⟨rfl, hI, hG⟩
 refine hK _ _ ab ?_
 clear hK K
 try simp only [pu]
 refine sched_one rfl rfl (fun K hK => ?_)
 go_simp
 refine hK _ _ ab ?_
 clear hK K
 try simp only [pu]
 refine sched_nil ?_
 go_wp2
 go_ret
 rw [wval_dg] at hI
 exact ⟨rfl, hI, grown_trans (grown_within z hb2) hG⟩) : p := h
theorem zz113 {p : Prop} (h : p := by
 have HZ := Hh hz; have HRA := Hh hra; have HRB := Hh hrb; clear hz hra hrb
 have hlx := World.block_lt_of_cell? w _ a0
 have hly := World.block_lt_of_cell? w _ b0
 go_enter Tryz.func213, Tryz.ntmps213
 go_wp2
 refine wp_region_sched (fun W => W.cell? ⟨x, 1, none⟩ = some (.slice A (dg na).length ca) ∧ W.cell? ⟨y, 1, none⟩ = some (.slice Bv (dg nb).length cb)) 11 [(0, true), (1, true), (2, true), (3, true), (4, true), (5, true), (6, true), (7, true), (8, true), (9, true), (10, false), (11, false), (12, false)] kr kr ⟨a1, b1⟩ ?_
 intro hS
 repeat
  apply sched_firm rfl rfl hS
  ·exact zz22
  try simp only [pu]
 refine sched_one rfl rfl (fun K hK => ?_)
 go_simp
 refine (Bplus na nb A Bv ca cb om om w.drew (RowAt.drew HRA.out) (RowAt.drew HRB.out)).mono ?_
 rintro e2 w2 ⟨A', c', rfl, hc', hr', hb'⟩
 have hb2 : Within w w2 := (Within.refl w).drew.trans hb'
 have hlA : (dg (na + nb)).length ≤ 1500000 := by first | exact Nat.le_trans (dg_len_mono (Nat.sub_le _ _)) om | exact dg_add_le ha hb
 refine hK _ _ (fun h => ⟨(hb2.cells _ _ hlx).trans a1, (hb2.cells _ _ hly).trans b1⟩) ?_
 clear hK K
 try simp only [pu]
 refine sched_one rfl rfl (fun K hK => ?_)
 go_simp
 refine (Bput z false (dg (na + nb)) A' c' (words_dg _) hc' om w2 hr' (HZ.out.of hb2)).mono ?_
 exact zz12) : p := h
theorem Bsum_same000 (z x y : Nat) (na nb : Nat) (A Bv : Option Addr) (ca cb : Nat) (ha : (dg na).length ≤ 1000000) (hb : (dg nb).length ≤ 1000000) (w : World) (hz : IntTy w z) (a0 : w.cell? ⟨x, 0, none⟩ = some (.bool false)) (a1 : w.cell? ⟨x, 1, none⟩ = some (.slice A (dg na).length ca)) (hra : RowAt w A (dg na)) (b0 : w.cell? ⟨y, 0, none⟩ = some (.bool false)) (b1 : w.cell? ⟨y, 1, none⟩ = some (.slice Bv (dg nb).length cb)) (hrb : RowAt w Bv (dg nb)) : Calls Tryz.prog 213 #[.pointer (some ⟨z, 0, none⟩), .pointer (some ⟨x, 0, none⟩), .pointer (some ⟨y, 0, none⟩), .bool false] w (PutI w z (sgv false (na + nb))) := by
 exact zz113
theorem zz62 {p : Prop} (h : p := by
 intro wq hq
 have hq0 := hq.1; have hq1 := hq.2.1; have hq2 := hq.2.2
 clear hq
 go_simp
 rfl) : p := h
theorem zz109 {p : Prop} (h : p := by
 have HZ := Hh hz; have HRA := Hh hra; have HRB := Hh hrb; clear hz hra hrb
 have hlx := World.block_lt_of_cell? w _ a0
 have hly := World.block_lt_of_cell? w _ b0
 have hc : decide (cmpN na nb ≥ 0) = true := by unfold cmpN; rw [if_neg om]; split <;> rfl
 obtain ⟨cm, hcm⟩ : ∃ cm, cm = cmpN na nb := ⟨_, rfl⟩
 rw [← hcm] at hc
 have HC := Hh hcm; clear hcm
 go_enter Tryz.func213, Tryz.ntmps213
 go_wp2
 refine wp_region_sched (fun W => W.cell? ⟨x, 1, none⟩ = some (.slice A (dg na).length ca) ∧ W.cell? ⟨y, 1, none⟩ = some (.slice Bv (dg nb).length cb)) 8 [(0, true), (1, true), (2, true), (3, true), (4, true), (5, true), (6, true), (7, true), (8, false), (9, false)] kr kr ⟨a1, b1⟩ ?_
 intro hS
 repeat
  apply sched_firm rfl rfl hS
  ·exact zz22
  try simp only [pu]
 refine sched_one rfl rfl (fun K hK => ?_)
 go_simp
 refine (Bcompare na nb A Bv ca cb om om w.drew (RowAt.drew HRA.out) (RowAt.drew HRB.out)).mono ?_
 rintro e1 w1 ⟨rfl, hb1'⟩
 rw [← HC.out]
 have hb1 : Within w w1 := (Within.refl w).drew.trans hb1'
 refine hK _ _ ab ?_
 clear hK K
 try simp only [pu]
 refine sched_one rfl rfl (fun K hK => ?_)
 go_simp
 refine hK _ _ ab ?_
 clear hK K
 try simp only [pu]
 refine sched_nil ?_
 have a0' := (hb1.cells _ 0 hlx).trans a0; have a1' := (hb1.cells _ 1 hlx).trans a1; have b0' := (hb1.cells _ 0 hly).trans b0; have b1' := (hb1.cells _ 1 hly).trans b1
 clear hS
 go_wp2
 refine wp_region_sched (fun W => W.cell? ⟨x, 0, none⟩ = some (.bool false) ∧ W.cell? ⟨x, 1, none⟩ = some (.slice A (dg na).length ca) ∧ W.cell? ⟨y, 1, none⟩ = some (.slice Bv (dg nb).length cb)) 14 [(0, true), (1, true), (2, true), (3, true), (4, true), (5, true), (6, true), (7, true), (8, true), (9, true), (10, true), (11, true), (12, true), (13, false), (14, false), (15, false)] kr kr ⟨a0', a1', b1'⟩ ?_
 intro hS
 repeat
  apply sched_firm rfl rfl hS
  ·exact zz62
  try simp only [pu]
 refine sched_one rfl rfl (fun K hK => ?_)
 go_simp
 refine (Bminus na nb A Bv ca cb om hge w1.drew (RowAt.drew (HRA.out.of hb1)) (RowAt.drew (HRB.out.of hb1))).mono ?_
 rintro e2 w2 ⟨A', c', rfl, hc', hr', hb'⟩
 have hb2 : Within w w2 := hb1.drew.trans hb'
 have hlA : (dg (na - nb)).length ≤ 1500000 := by first | exact Nat.le_trans (dg_len_mono (Nat.sub_le _ _)) om | exact dg_add_le ha hb
 refine hK _ _ (fun h => ⟨(hb2.cells _ _ hlx).trans a0, (hb2.cells _ _ hlx).trans a1, (hb2.cells _ _ hly).trans b1⟩) ?_
 clear hK K
 try simp only [pu]
 refine sched_one rfl rfl (fun K hK => ?_)
 go_simp
 refine (Bput z false (dg (na - nb)) A' c' (words_dg _) hc' om w2 hr' (HZ.out.of hb2)).mono ?_
 exact zz12) : p := h
theorem Bsum_ge001 (z x y : Nat) (na nb : Nat) (A Bv : Option Addr) (ca cb : Nat) (ha : (dg na).length ≤ 1000000) (hb : (dg nb).length ≤ 1000000) (w : World) (hz : IntTy w z) (a0 : w.cell? ⟨x, 0, none⟩ = some (.bool false)) (a1 : w.cell? ⟨x, 1, none⟩ = some (.slice A (dg na).length ca)) (hra : RowAt w A (dg na)) (b0 : w.cell? ⟨y, 0, none⟩ = some (.bool false)) (b1 : w.cell? ⟨y, 1, none⟩ = some (.slice Bv (dg nb).length cb)) (hrb : RowAt w Bv (dg nb)) (hge : nb ≤ na) : Calls Tryz.prog 213 #[.pointer (some ⟨z, 0, none⟩), .pointer (some ⟨x, 0, none⟩), .pointer (some ⟨y, 0, none⟩), .bool true] w (PutI w z (sgv false (na - nb))) := by
 exact zz109
theorem zz112 {p : Prop} (h : p := by
 have HZ := Hh hz; have HRA := Hh hra; have HRB := Hh hrb; clear hz hra hrb
 have hlx := World.block_lt_of_cell? w _ a0
 have hly := World.block_lt_of_cell? w _ b0
 have hc : decide (cmpN na nb ≥ 0) = false := by unfold cmpN; rw [if_pos hge]; rfl
 obtain ⟨cm, hcm⟩ : ∃ cm, cm = cmpN na nb := ⟨_, rfl⟩
 rw [← hcm] at hc
 have HC := Hh hcm; clear hcm
 go_enter Tryz.func213, Tryz.ntmps213
 go_wp2
 refine wp_region_sched (fun W => W.cell? ⟨x, 1, none⟩ = some (.slice A (dg na).length ca) ∧ W.cell? ⟨y, 1, none⟩ = some (.slice Bv (dg nb).length cb)) 8 [(0, true), (1, true), (2, true), (3, true), (4, true), (5, true), (6, true), (7, true), (8, false), (9, false)] kr kr ⟨a1, b1⟩ ?_
 intro hS
 repeat
  apply sched_firm rfl rfl hS
  ·exact zz22
  try simp only [pu]
 refine sched_one rfl rfl (fun K hK => ?_)
 go_simp
 refine (Bcompare na nb A Bv ca cb om om w.drew (RowAt.drew HRA.out) (RowAt.drew HRB.out)).mono ?_
 rintro e1 w1 ⟨rfl, hb1'⟩
 rw [← HC.out]
 have hb1 : Within w w1 := (Within.refl w).drew.trans hb1'
 refine hK _ _ ab ?_
 clear hK K
 try simp only [pu]
 refine sched_one rfl rfl (fun K hK => ?_)
 go_simp
 refine hK _ _ ab ?_
 clear hK K
 try simp only [pu]
 refine sched_nil ?_
 have a0' := (hb1.cells _ 0 hlx).trans a0; have a1' := (hb1.cells _ 1 hlx).trans a1; have b0' := (hb1.cells _ 0 hly).trans b0; have b1' := (hb1.cells _ 1 hly).trans b1
 clear hS
 go_wp2
 refine wp_region_sched (fun W => W.cell? ⟨y, 1, none⟩ = some (.slice Bv (dg nb).length cb) ∧ W.cell? ⟨x, 1, none⟩ = some (.slice A (dg na).length ca)) 11 [(0, true), (1, true), (2, true), (3, true), (4, true), (5, true), (6, true), (7, true), (8, true), (9, true), (10, false), (11, false), (12, false)] kr kr ⟨b1', a1'⟩ ?_
 intro hS
 repeat
  apply sched_firm rfl rfl hS
  ·exact zz22
  try simp only [pu]
 refine sched_one rfl rfl (fun K hK => ?_)
 go_simp
 refine (Bminus nb na Bv A cb ca om om w1.drew (RowAt.drew (HRB.out.of hb1)) (RowAt.drew (HRA.out.of hb1))).mono ?_
 rintro e2 w2 ⟨A', c', rfl, hc', hr', hb'⟩
 have hb2 : Within w w2 := hb1.drew.trans hb'
 have hlA : (dg (nb - na)).length ≤ 1500000 := by first | exact Nat.le_trans (dg_len_mono (Nat.sub_le _ _)) om | exact dg_add_le ha hb
 refine hK _ _ (fun h => ⟨(hb2.cells _ _ hly).trans b1, (hb2.cells _ _ hlx).trans a1⟩) ?_
 clear hK K
 try simp only [pu]
 refine sched_one rfl rfl (fun K hK => ?_)
 go_simp
 refine (Bput z true (dg (nb - na)) A' c' (words_dg _) hc' om w2 hr' (HZ.out.of hb2)).mono ?_
 exact zz12) : p := h
theorem Bsum_lt001 (z x y : Nat) (na nb : Nat) (A Bv : Option Addr) (ca cb : Nat) (ha : (dg na).length ≤ 1000000) (hb : (dg nb).length ≤ 1000000) (w : World) (hz : IntTy w z) (a0 : w.cell? ⟨x, 0, none⟩ = some (.bool false)) (a1 : w.cell? ⟨x, 1, none⟩ = some (.slice A (dg na).length ca)) (hra : RowAt w A (dg na)) (b0 : w.cell? ⟨y, 0, none⟩ = some (.bool false)) (b1 : w.cell? ⟨y, 1, none⟩ = some (.slice Bv (dg nb).length cb)) (hrb : RowAt w Bv (dg nb)) (hge : na < nb) : Calls Tryz.prog 213 #[.pointer (some ⟨z, 0, none⟩), .pointer (some ⟨x, 0, none⟩), .pointer (some ⟨y, 0, none⟩), .bool true] w (PutI w z (sgv true (nb - na))) := by
 exact zz112
theorem Bsum_ge010 (z x y : Nat) (na nb : Nat) (A Bv : Option Addr) (ca cb : Nat) (ha : (dg na).length ≤ 1000000) (hb : (dg nb).length ≤ 1000000) (w : World) (hz : IntTy w z) (a0 : w.cell? ⟨x, 0, none⟩ = some (.bool false)) (a1 : w.cell? ⟨x, 1, none⟩ = some (.slice A (dg na).length ca)) (hra : RowAt w A (dg na)) (b0 : w.cell? ⟨y, 0, none⟩ = some (.bool true)) (b1 : w.cell? ⟨y, 1, none⟩ = some (.slice Bv (dg nb).length cb)) (hrb : RowAt w Bv (dg nb)) (hge : nb ≤ na) : Calls Tryz.prog 213 #[.pointer (some ⟨z, 0, none⟩), .pointer (some ⟨x, 0, none⟩), .pointer (some ⟨y, 0, none⟩), .bool false] w (PutI w z (sgv false (na - nb))) := by
 exact zz109
theorem Bsum_lt010 (z x y : Nat) (na nb : Nat) (A Bv : Option Addr) (ca cb : Nat) (ha : (dg na).length ≤ 1000000) (hb : (dg nb).length ≤ 1000000) (w : World) (hz : IntTy w z) (a0 : w.cell? ⟨x, 0, none⟩ = some (.bool false)) (a1 : w.cell? ⟨x, 1, none⟩ = some (.slice A (dg na).length ca)) (hra : RowAt w A (dg na)) (b0 : w.cell? ⟨y, 0, none⟩ = some (.bool true)) (b1 : w.cell? ⟨y, 1, none⟩ = some (.slice Bv (dg nb).length cb)) (hrb : RowAt w Bv (dg nb)) (hge : na < nb) : Calls Tryz.prog 213 #[.pointer (some ⟨z, 0, none⟩), .pointer (some ⟨x, 0, none⟩), .pointer (some ⟨y, 0, none⟩), .bool false] w (PutI w z (sgv true (nb - na))) := by
 exact zz112
theorem Bsum_same011 (z x y : Nat) (na nb : Nat) (A Bv : Option Addr) (ca cb : Nat) (ha : (dg na).length ≤ 1000000) (hb : (dg nb).length ≤ 1000000) (w : World) (hz : IntTy w z) (a0 : w.cell? ⟨x, 0, none⟩ = some (.bool false)) (a1 : w.cell? ⟨x, 1, none⟩ = some (.slice A (dg na).length ca)) (hra : RowAt w A (dg na)) (b0 : w.cell? ⟨y, 0, none⟩ = some (.bool true)) (b1 : w.cell? ⟨y, 1, none⟩ = some (.slice Bv (dg nb).length cb)) (hrb : RowAt w Bv (dg nb)) : Calls Tryz.prog 213 #[.pointer (some ⟨z, 0, none⟩), .pointer (some ⟨x, 0, none⟩), .pointer (some ⟨y, 0, none⟩), .bool true] w (PutI w z (sgv false (na + nb))) := by
 exact zz113
theorem zz110 {p : Prop} (h : p := by
 have HZ := Hh hz; have HRA := Hh hra; have HRB := Hh hrb; clear hz hra hrb
 have hlx := World.block_lt_of_cell? w _ a0
 have hly := World.block_lt_of_cell? w _ b0
 have hc : decide (cmpN na nb ≥ 0) = true := by unfold cmpN; rw [if_neg om]; split <;> rfl
 obtain ⟨cm, hcm⟩ : ∃ cm, cm = cmpN na nb := ⟨_, rfl⟩
 rw [← hcm] at hc
 have HC := Hh hcm; clear hcm
 go_enter Tryz.func213, Tryz.ntmps213
 go_wp2
 refine wp_region_sched (fun W => W.cell? ⟨x, 1, none⟩ = some (.slice A (dg na).length ca) ∧ W.cell? ⟨y, 1, none⟩ = some (.slice Bv (dg nb).length cb)) 8 [(0, true), (1, true), (2, true), (3, true), (4, true), (5, true), (6, true), (7, true), (8, false), (9, false)] kr kr ⟨a1, b1⟩ ?_
 intro hS
 repeat
  apply sched_firm rfl rfl hS
  ·exact zz22
  try simp only [pu]
 refine sched_one rfl rfl (fun K hK => ?_)
 go_simp
 refine (Bcompare na nb A Bv ca cb om om w.drew (RowAt.drew HRA.out) (RowAt.drew HRB.out)).mono ?_
 rintro e1 w1 ⟨rfl, hb1'⟩
 rw [← HC.out]
 have hb1 : Within w w1 := (Within.refl w).drew.trans hb1'
 refine hK _ _ ab ?_
 clear hK K
 try simp only [pu]
 refine sched_one rfl rfl (fun K hK => ?_)
 go_simp
 refine hK _ _ ab ?_
 clear hK K
 try simp only [pu]
 refine sched_nil ?_
 have a0' := (hb1.cells _ 0 hlx).trans a0; have a1' := (hb1.cells _ 1 hlx).trans a1; have b0' := (hb1.cells _ 0 hly).trans b0; have b1' := (hb1.cells _ 1 hly).trans b1
 clear hS
 go_wp2
 refine wp_region_sched (fun W => W.cell? ⟨x, 0, none⟩ = some (.bool true) ∧ W.cell? ⟨x, 1, none⟩ = some (.slice A (dg na).length ca) ∧ W.cell? ⟨y, 1, none⟩ = some (.slice Bv (dg nb).length cb)) 14 [(0, true), (1, true), (2, true), (3, true), (4, true), (5, true), (6, true), (7, true), (8, true), (9, true), (10, true), (11, true), (12, true), (13, false), (14, false), (15, false)] kr kr ⟨a0', a1', b1'⟩ ?_
 intro hS
 repeat
  apply sched_firm rfl rfl hS
  ·exact zz62
  try simp only [pu]
 refine sched_one rfl rfl (fun K hK => ?_)
 go_simp
 refine (Bminus na nb A Bv ca cb om hge w1.drew (RowAt.drew (HRA.out.of hb1)) (RowAt.drew (HRB.out.of hb1))).mono ?_
 rintro e2 w2 ⟨A', c', rfl, hc', hr', hb'⟩
 have hb2 : Within w w2 := hb1.drew.trans hb'
 have hlA : (dg (na - nb)).length ≤ 1500000 := by first | exact Nat.le_trans (dg_len_mono (Nat.sub_le _ _)) om | exact dg_add_le ha hb
 refine hK _ _ (fun h => ⟨(hb2.cells _ _ hlx).trans a0, (hb2.cells _ _ hlx).trans a1, (hb2.cells _ _ hly).trans b1⟩) ?_
 clear hK K
 try simp only [pu]
 refine sched_one rfl rfl (fun K hK => ?_)
 go_simp
 refine (Bput z true (dg (na - nb)) A' c' (words_dg _) hc' om w2 hr' (HZ.out.of hb2)).mono ?_
 exact zz12) : p := h
theorem Bsum_ge100 (z x y : Nat) (na nb : Nat) (A Bv : Option Addr) (ca cb : Nat) (ha : (dg na).length ≤ 1000000) (hb : (dg nb).length ≤ 1000000) (w : World) (hz : IntTy w z) (a0 : w.cell? ⟨x, 0, none⟩ = some (.bool true)) (a1 : w.cell? ⟨x, 1, none⟩ = some (.slice A (dg na).length ca)) (hra : RowAt w A (dg na)) (b0 : w.cell? ⟨y, 0, none⟩ = some (.bool false)) (b1 : w.cell? ⟨y, 1, none⟩ = some (.slice Bv (dg nb).length cb)) (hrb : RowAt w Bv (dg nb)) (hge : nb ≤ na) : Calls Tryz.prog 213 #[.pointer (some ⟨z, 0, none⟩), .pointer (some ⟨x, 0, none⟩), .pointer (some ⟨y, 0, none⟩), .bool false] w (PutI w z (sgv true (na - nb))) := by
 exact zz110
theorem zz111 {p : Prop} (h : p := by
 have HZ := Hh hz; have HRA := Hh hra; have HRB := Hh hrb; clear hz hra hrb
 have hlx := World.block_lt_of_cell? w _ a0
 have hly := World.block_lt_of_cell? w _ b0
 have hc : decide (cmpN na nb ≥ 0) = false := by unfold cmpN; rw [if_pos hge]; rfl
 obtain ⟨cm, hcm⟩ : ∃ cm, cm = cmpN na nb := ⟨_, rfl⟩
 rw [← hcm] at hc
 have HC := Hh hcm; clear hcm
 go_enter Tryz.func213, Tryz.ntmps213
 go_wp2
 refine wp_region_sched (fun W => W.cell? ⟨x, 1, none⟩ = some (.slice A (dg na).length ca) ∧ W.cell? ⟨y, 1, none⟩ = some (.slice Bv (dg nb).length cb)) 8 [(0, true), (1, true), (2, true), (3, true), (4, true), (5, true), (6, true), (7, true), (8, false), (9, false)] kr kr ⟨a1, b1⟩ ?_
 intro hS
 repeat
  apply sched_firm rfl rfl hS
  ·exact zz22
  try simp only [pu]
 refine sched_one rfl rfl (fun K hK => ?_)
 go_simp
 refine (Bcompare na nb A Bv ca cb om om w.drew (RowAt.drew HRA.out) (RowAt.drew HRB.out)).mono ?_
 rintro e1 w1 ⟨rfl, hb1'⟩
 rw [← HC.out]
 have hb1 : Within w w1 := (Within.refl w).drew.trans hb1'
 refine hK _ _ ab ?_
 clear hK K
 try simp only [pu]
 refine sched_one rfl rfl (fun K hK => ?_)
 go_simp
 refine hK _ _ ab ?_
 clear hK K
 try simp only [pu]
 refine sched_nil ?_
 have a0' := (hb1.cells _ 0 hlx).trans a0; have a1' := (hb1.cells _ 1 hlx).trans a1; have b0' := (hb1.cells _ 0 hly).trans b0; have b1' := (hb1.cells _ 1 hly).trans b1
 clear hS
 go_wp2
 refine wp_region_sched (fun W => W.cell? ⟨y, 1, none⟩ = some (.slice Bv (dg nb).length cb) ∧ W.cell? ⟨x, 1, none⟩ = some (.slice A (dg na).length ca)) 11 [(0, true), (1, true), (2, true), (3, true), (4, true), (5, true), (6, true), (7, true), (8, true), (9, true), (10, false), (11, false), (12, false)] kr kr ⟨b1', a1'⟩ ?_
 intro hS
 repeat
  apply sched_firm rfl rfl hS
  ·exact zz22
  try simp only [pu]
 refine sched_one rfl rfl (fun K hK => ?_)
 go_simp
 refine (Bminus nb na Bv A cb ca om om w1.drew (RowAt.drew (HRB.out.of hb1)) (RowAt.drew (HRA.out.of hb1))).mono ?_
 rintro e2 w2 ⟨A', c', rfl, hc', hr', hb'⟩
 have hb2 : Within w w2 := hb1.drew.trans hb'
 have hlA : (dg (nb - na)).length ≤ 1500000 := by first | exact Nat.le_trans (dg_len_mono (Nat.sub_le _ _)) om | exact dg_add_le ha hb
 refine hK _ _ (fun h => ⟨(hb2.cells _ _ hly).trans b1, (hb2.cells _ _ hlx).trans a1⟩) ?_
 clear hK K
 try simp only [pu]
 refine sched_one rfl rfl (fun K hK => ?_)
 go_simp
 refine (Bput z false (dg (nb - na)) A' c' (words_dg _) hc' om w2 hr' (HZ.out.of hb2)).mono ?_
 exact zz12) : p := h
theorem Bsum_lt100 (z x y : Nat) (na nb : Nat) (A Bv : Option Addr) (ca cb : Nat) (ha : (dg na).length ≤ 1000000) (hb : (dg nb).length ≤ 1000000) (w : World) (hz : IntTy w z) (a0 : w.cell? ⟨x, 0, none⟩ = some (.bool true)) (a1 : w.cell? ⟨x, 1, none⟩ = some (.slice A (dg na).length ca)) (hra : RowAt w A (dg na)) (b0 : w.cell? ⟨y, 0, none⟩ = some (.bool false)) (b1 : w.cell? ⟨y, 1, none⟩ = some (.slice Bv (dg nb).length cb)) (hrb : RowAt w Bv (dg nb)) (hge : na < nb) : Calls Tryz.prog 213 #[.pointer (some ⟨z, 0, none⟩), .pointer (some ⟨x, 0, none⟩), .pointer (some ⟨y, 0, none⟩), .bool false] w (PutI w z (sgv false (nb - na))) := by
 exact zz111
theorem zz114 {p : Prop} (h : p := by
 have HZ := Hh hz; have HRA := Hh hra; have HRB := Hh hrb; clear hz hra hrb
 have hlx := World.block_lt_of_cell? w _ a0
 have hly := World.block_lt_of_cell? w _ b0
 go_enter Tryz.func213, Tryz.ntmps213
 go_wp2
 refine wp_region_sched (fun W => W.cell? ⟨x, 1, none⟩ = some (.slice A (dg na).length ca) ∧ W.cell? ⟨y, 1, none⟩ = some (.slice Bv (dg nb).length cb)) 11 [(0, true), (1, true), (2, true), (3, true), (4, true), (5, true), (6, true), (7, true), (8, true), (9, true), (10, false), (11, false), (12, false)] kr kr ⟨a1, b1⟩ ?_
 intro hS
 repeat
  apply sched_firm rfl rfl hS
  ·exact zz22
  try simp only [pu]
 refine sched_one rfl rfl (fun K hK => ?_)
 go_simp
 refine (Bplus na nb A Bv ca cb om om w.drew (RowAt.drew HRA.out) (RowAt.drew HRB.out)).mono ?_
 rintro e2 w2 ⟨A', c', rfl, hc', hr', hb'⟩
 have hb2 : Within w w2 := (Within.refl w).drew.trans hb'
 have hlA : (dg (na + nb)).length ≤ 1500000 := by first | exact Nat.le_trans (dg_len_mono (Nat.sub_le _ _)) om | exact dg_add_le ha hb
 refine hK _ _ (fun h => ⟨(hb2.cells _ _ hlx).trans a1, (hb2.cells _ _ hly).trans b1⟩) ?_
 clear hK K
 try simp only [pu]
 refine sched_one rfl rfl (fun K hK => ?_)
 go_simp
 refine (Bput z true (dg (na + nb)) A' c' (words_dg _) hc' om w2 hr' (HZ.out.of hb2)).mono ?_
 exact zz12) : p := h
theorem Bsum_same101 (z x y : Nat) (na nb : Nat) (A Bv : Option Addr) (ca cb : Nat) (ha : (dg na).length ≤ 1000000) (hb : (dg nb).length ≤ 1000000) (w : World) (hz : IntTy w z) (a0 : w.cell? ⟨x, 0, none⟩ = some (.bool true)) (a1 : w.cell? ⟨x, 1, none⟩ = some (.slice A (dg na).length ca)) (hra : RowAt w A (dg na)) (b0 : w.cell? ⟨y, 0, none⟩ = some (.bool false)) (b1 : w.cell? ⟨y, 1, none⟩ = some (.slice Bv (dg nb).length cb)) (hrb : RowAt w Bv (dg nb)) : Calls Tryz.prog 213 #[.pointer (some ⟨z, 0, none⟩), .pointer (some ⟨x, 0, none⟩), .pointer (some ⟨y, 0, none⟩), .bool true] w (PutI w z (sgv true (na + nb))) := by
 exact zz114
theorem Bsum_same110 (z x y : Nat) (na nb : Nat) (A Bv : Option Addr) (ca cb : Nat) (ha : (dg na).length ≤ 1000000) (hb : (dg nb).length ≤ 1000000) (w : World) (hz : IntTy w z) (a0 : w.cell? ⟨x, 0, none⟩ = some (.bool true)) (a1 : w.cell? ⟨x, 1, none⟩ = some (.slice A (dg na).length ca)) (hra : RowAt w A (dg na)) (b0 : w.cell? ⟨y, 0, none⟩ = some (.bool true)) (b1 : w.cell? ⟨y, 1, none⟩ = some (.slice Bv (dg nb).length cb)) (hrb : RowAt w Bv (dg nb)) : Calls Tryz.prog 213 #[.pointer (some ⟨z, 0, none⟩), .pointer (some ⟨x, 0, none⟩), .pointer (some ⟨y, 0, none⟩), .bool false] w (PutI w z (sgv true (na + nb))) := by
 exact zz114
theorem Bsum_ge111 (z x y : Nat) (na nb : Nat) (A Bv : Option Addr) (ca cb : Nat) (ha : (dg na).length ≤ 1000000) (hb : (dg nb).length ≤ 1000000) (w : World) (hz : IntTy w z) (a0 : w.cell? ⟨x, 0, none⟩ = some (.bool true)) (a1 : w.cell? ⟨x, 1, none⟩ = some (.slice A (dg na).length ca)) (hra : RowAt w A (dg na)) (b0 : w.cell? ⟨y, 0, none⟩ = some (.bool true)) (b1 : w.cell? ⟨y, 1, none⟩ = some (.slice Bv (dg nb).length cb)) (hrb : RowAt w Bv (dg nb)) (hge : nb ≤ na) : Calls Tryz.prog 213 #[.pointer (some ⟨z, 0, none⟩), .pointer (some ⟨x, 0, none⟩), .pointer (some ⟨y, 0, none⟩), .bool true] w (PutI w z (sgv true (na - nb))) := by
 exact zz110
theorem Bsum_lt111 (z x y : Nat) (na nb : Nat) (A Bv : Option Addr) (ca cb : Nat) (ha : (dg na).length ≤ 1000000) (hb : (dg nb).length ≤ 1000000) (w : World) (hz : IntTy w z) (a0 : w.cell? ⟨x, 0, none⟩ = some (.bool true)) (a1 : w.cell? ⟨x, 1, none⟩ = some (.slice A (dg na).length ca)) (hra : RowAt w A (dg na)) (b0 : w.cell? ⟨y, 0, none⟩ = some (.bool true)) (b1 : w.cell? ⟨y, 1, none⟩ = some (.slice Bv (dg nb).length cb)) (hrb : RowAt w Bv (dg nb)) (hge : na < nb) : Calls Tryz.prog 213 #[.pointer (some ⟨z, 0, none⟩), .pointer (some ⟨x, 0, none⟩), .pointer (some ⟨y, 0, none⟩), .bool true] w (PutI w z (sgv false (nb - na))) := by
 exact zz111
theorem PutI_eq {W w' : World} {z : Nat} {v v' : Int} {e : Ending} (h : PutI W z v e w') (k : v = v') : PutI W z v' e w' := k ▸ h
theorem Bsum (z x y : Nat) (a b : Int) (turn : Bool) (ha : (dg a.natAbs).length ≤ 1000000) (hb : (dg b.natAbs).length ≤ 1000000) (w : World) (hz : IntTy w z) (hx : IntB w x a) (hy : IntB w y b) : Calls Tryz.prog 213 #[.pointer (some ⟨z, 0, none⟩), .pointer (some ⟨x, 0, none⟩), .pointer (some ⟨y, 0, none⟩), .bool turn] w (PutI w z (a + (if turn then -b else b))) := by
 obtain ⟨A, ca, a0, a1, hra⟩ := hx.rd
 obtain ⟨Bv, cb, b0, b1, hrb⟩ := hy.rd
 by_cases ha0 : a < 0 <;> by_cases hb0 : b < 0 <;> cases turn
 ·have q1 : decide (a < 0) = true := decide_eq_true om
  have q2 : decide (b < 0) = true := decide_eq_true om
  rw [q1] at a0; rw [q2] at b0
  exact Calls.mono (Bsum_same110 z x y _ _ A Bv ca cb ha hb w hz a0 a1 hra b0 b1 hrb) (fun _ _ h => PutI_eq h (by unfold sgv; simp; omega))
 ·have q1 : decide (a < 0) = true := decide_eq_true om
  have q2 : decide (b < 0) = true := decide_eq_true om
  rw [q1] at a0; rw [q2] at b0
  rcases Nat.lt_or_ge a.natAbs b.natAbs with h | h
  ·exact Calls.mono (Bsum_lt111 z x y _ _ A Bv ca cb ha hb w hz a0 a1 hra b0 b1 hrb h) (fun _ _ h => PutI_eq h (by unfold sgv; simp; omega))
  ·exact Calls.mono (Bsum_ge111 z x y _ _ A Bv ca cb ha hb w hz a0 a1 hra b0 b1 hrb h) (fun _ _ h => PutI_eq h (by unfold sgv; simp; omega))
 ·have q1 : decide (a < 0) = true := decide_eq_true om
  have q2 : decide (b < 0) = false := decide_eq_false om
  rw [q1] at a0; rw [q2] at b0
  rcases Nat.lt_or_ge a.natAbs b.natAbs with h | h
  ·exact Calls.mono (Bsum_lt100 z x y _ _ A Bv ca cb ha hb w hz a0 a1 hra b0 b1 hrb h) (fun _ _ h => PutI_eq h (by unfold sgv; simp; omega))
  ·exact Calls.mono (Bsum_ge100 z x y _ _ A Bv ca cb ha hb w hz a0 a1 hra b0 b1 hrb h) (fun _ _ h => PutI_eq h (by unfold sgv; simp; omega))
 ·have q1 : decide (a < 0) = true := decide_eq_true om
  have q2 : decide (b < 0) = false := decide_eq_false om
  rw [q1] at a0; rw [q2] at b0
  exact Calls.mono (Bsum_same101 z x y _ _ A Bv ca cb ha hb w hz a0 a1 hra b0 b1 hrb) (fun _ _ h => PutI_eq h (by unfold sgv; simp; omega))
 ·have q1 : decide (a < 0) = false := decide_eq_false om
  have q2 : decide (b < 0) = true := decide_eq_true om
  rw [q1] at a0; rw [q2] at b0
  rcases Nat.lt_or_ge a.natAbs b.natAbs with h | h
  ·exact Calls.mono (Bsum_lt010 z x y _ _ A Bv ca cb ha hb w hz a0 a1 hra b0 b1 hrb h) (fun _ _ h => PutI_eq h (by unfold sgv; simp; omega))
  ·exact Calls.mono (Bsum_ge010 z x y _ _ A Bv ca cb ha hb w hz a0 a1 hra b0 b1 hrb h) (fun _ _ h => PutI_eq h (by unfold sgv; simp; omega))
 ·have q1 : decide (a < 0) = false := decide_eq_false om
  have q2 : decide (b < 0) = true := decide_eq_true om
  rw [q1] at a0; rw [q2] at b0
  exact Calls.mono (Bsum_same011 z x y _ _ A Bv ca cb ha hb w hz a0 a1 hra b0 b1 hrb) (fun _ _ h => PutI_eq h (by unfold sgv; simp; omega))
 ·have q1 : decide (a < 0) = false := decide_eq_false om
  have q2 : decide (b < 0) = false := decide_eq_false om
  rw [q1] at a0; rw [q2] at b0
  exact Calls.mono (Bsum_same000 z x y _ _ A Bv ca cb ha hb w hz a0 a1 hra b0 b1 hrb) (fun _ _ h => PutI_eq h (by unfold sgv; simp; omega))
 ·have q1 : decide (a < 0) = false := decide_eq_false om
  have q2 : decide (b < 0) = false := decide_eq_false om
  rw [q1] at a0; rw [q2] at b0
  rcases Nat.lt_or_ge a.natAbs b.natAbs with h | h
  ·exact Calls.mono (Bsum_lt001 z x y _ _ A Bv ca cb ha hb w hz a0 a1 hra b0 b1 hrb h) (fun _ _ h => PutI_eq h (by unfold sgv; simp; omega))
  ·exact Calls.mono (Bsum_ge001 z x y _ _ A Bv ca cb ha hb w hz a0 a1 hra b0 b1 hrb h) (fun _ _ h => PutI_eq h (by unfold sgv; simp; omega))
theorem BAdd (z x y : Nat) (a b : Int) (ha : (dg a.natAbs).length ≤ 1000000) (hb : (dg b.natAbs).length ≤ 1000000) (w : World) (hz : IntTy w z) (hx : IntB w x a) (hy : IntB w y b) : Calls Tryz.prog 118 #[.pointer (some ⟨z, 0, none⟩), .pointer (some ⟨x, 0, none⟩), .pointer (some ⟨y, 0, none⟩)] w (PutI w z (a + b)) := by
 have HS := Hh (Bsum z x y a b false ha hb w hz hx hy)
 clear ha hb hz hx hy
 go_enter Tryz.func118, Tryz.ntmps118
 go_wp2_with fail
 refine HS.out.mono ?_; rintro e1 w1 ⟨rfl, hI, hG⟩
 go_wp2
 go_ret
 exact ⟨rfl, by simpa using hI, hG⟩
theorem BSub (z x y : Nat) (a b : Int) (ha : (dg a.natAbs).length ≤ 1000000) (hb : (dg b.natAbs).length ≤ 1000000) (w : World) (hz : IntTy w z) (hx : IntB w x a) (hy : IntB w y b) : Calls Tryz.prog 121 #[.pointer (some ⟨z, 0, none⟩), .pointer (some ⟨x, 0, none⟩), .pointer (some ⟨y, 0, none⟩)] w (PutI w z (a - b)) := by
 have HS := Hh (Bsum z x y a b true ha hb w hz hx hy)
 clear ha hb hz hx hy
 go_enter Tryz.func121, Tryz.ntmps121
 go_wp2_with fail
 refine HS.out.mono ?_; rintro e1 w1 ⟨rfl, hI, hG⟩
 go_wp2
 go_ret
 exact ⟨rfl, by simpa [Int.sub_eq_add_neg] using hI, hG⟩
def TimesOut (W : World) (g : Nat) (la lb : List Nat) (iv : Value) (wr : World) : Prop :=
 ∃ (i : Nat) (o : List Nat), i ≤ la.length ∧ iv = .int .i64 (i : Int) ∧ o.length = la.length + lb.length ∧ Words o ∧ OwnW wr g o ∧ lo o (i + lb.length) = lo la i * wval lb ∧ Within W wr
def TimesIn (W : World) (g : Nat) (lb o0 : List Nat) (x i : Nat) (cv kv : Value) (wr : World) : Prop :=
 ∃ (k c : Nat) (o : List Nat), k ≤ lb.length ∧ c < 4294967296 ∧ cv = .int .u64 (c : Int) ∧ kv = .int .i64 (k : Int) ∧ o.length = o0.length ∧ Words o ∧ OwnW wr g o ∧ lo o (i + k) + 4294967296 ^ (i + k) * c = lo o0 (i + k) + 4294967296 ^ i * (x * lo lb k) ∧ (∀ j, i + k ≤ j → o.getD j 0 = o0.getD j 0) ∧ Within W wr
theorem TimesIn.step {W wr : World} {g : Nat} {lb o0 o : List Nat} {x i k c y z n : Nat} (u v q : Int) (hn : i + k < o.length) (hk : k < lb.length) (hc : c < 4294967296) (ho : o.length = o0.length) (hwo : Words o) (hown : OwnW wr g o)
 (hval : lo o (i + k) + 4294967296 ^ (i + k) * c = lo o0 (i + k) + 4294967296 ^ i * (x * lo lb k)) (hrest : ∀ j, i + k ≤ j → o.getD j 0 = o0.getD j 0) (hin : Within W wr) (hg : W.heap.size ≤ g)
 (hx : x < 4294967296) (hy : y = lb.getD k 0) (hy2 : y < 4294967296) (hz : z = o.getD (i + k) 0) (hz2 : z < 4294967296) (n' : Nat)
 (hu : u = (((x * y + z + c) / 4294967296 : Nat) : Int)) (hv : v = (((x * y + z + c) % 4294967296 : Nat) : Int)) (hq : q = ((k + 1 : Nat) : Int)) :
 TimesIn W g lb o0 x i (.int .u64 u) (.int .i64 q) ((wr.drewN n).setCell ⟨g, i + k, none⟩ (.int .u32 v)) := by
 subst hu hv hq
 have hm := word_mul hx hy2
 refine ⟨k + 1, (x * y + z + c) / 4294967296, o.set (i + k) ((x * y + z + c) % 4294967296), by omega, by omega, rfl, rfl, by rw [List.length_set]; exact ho, hwo.set _ _ om, OwnW.set (w := wr.drewN n) hown _ _ hn, ?_, ?_, (hin.drewN n).setCell hg _⟩
 ·rw [show i + (k + 1) = i + k + 1 by omega, lo_set_succ _ _ _ hn, lo_succ o0, lo_succ lb, ← hy, ← hrest (i + k) (Nat.le_refl _), ← hz, Nat.pow_succ]
  have := times_step (P := 4294967296 ^ (i + k)) (Q := 4294967296 ^ i * (x * (4294967296 ^ k * y))) (x := x) (y := y) (z := z) hval _ rfl (by rw [Nat.pow_add, Nat.mul_assoc]; congr 1; rw [Nat.mul_left_comm])
  rw [Nat.mul_add x, Nat.mul_add]
  exact this
 ·intro j hj
  rw [lset_ne _ _ _ _ om]
  exact hrest j om
theorem Btimes0 (la lb : List Nat) (A Bv : Option Addr) (ca cb : Nat) (hwa : Words la) (hwb : Words lb) (hla : la.length ≤ 700000) (hlb : lb.length ≤ 700000) (w : World) (hra : RowAt w A la) (hrb : RowAt w Bv lb) :
 Calls Tryz.prog 117 #[.slice A la.length ca, .slice Bv lb.length cb] w (RetW w (wval la * wval lb)) := by
 have hmk := run_make_row' (P := Tryz.prog) 92 153 (.int .u32 0) 4 kr Tryz.infoU32 rfl .i64 .i64 (la.length + lb.length) om om
 rw [show ((la.length + lb.length : Nat) : Int) = (la.length : Int) + (lb.length : Int) by omega] at hmk
 have HWA := Hh hwa; have HWB := Hh hwb; have HRA := Hh hra; have HRB := Hh hrb; clear hwa hwb hra hrb
 have HM := OwnW.made w (la.length + lb.length)
 go_enter Tryz.func117, Tryz.ntmps117
 go_wp2
 go_loopw [6] (fun iv wr => TimesOut w w.heap.size la lb iv wr) (fun iv _ => la.length - (intOf iv).toNat)
 case atStart => exact ⟨0, _, Nat.zero_le _, rfl, by simp, Words.zeros _, HM, by
  rw [lo_zero, lo, show (List.replicate (la.length + lb.length) 0).take (0 + lb.length) = List.replicate (0 + lb.length) 0 by rw [List.take_replicate]; congr 1; omega, wval_zeros]; simp, (Within.refl w).alloc _⟩
 case round =>
  obtain ⟨i, o, hi, rfl, ho, hwo, hown, hval, hin⟩ := hrel
  have HV := Hh hval; have HO := Hh ho; have HWO := Hh hwo; clear hval ho hwo
  rcases Nat.lt_or_ge i la.length with hlt | hlt
  ·go_wp2
   obtain ⟨wo, rfl⟩ : ∃ wo : World, wo = wr := ⟨_, rfl⟩
   obtain ⟨x, hxe⟩ : ∃ x, x = la.getD i 0 := ⟨_, rfl⟩
   have hx : x < 4294967296 := by rw [hxe]; exact HWA.out.getD _
   have HXE := Hh hxe; clear hxe
   go_loopw [7, 8] (fun cv kv wr => TimesIn w w.heap.size lb o x i cv kv wr) (fun _ kv _ => lb.length - (intOf kv).toNat)
   case atStart => exact ⟨0, 0, o, Nat.zero_le _, by decide, rfl, rfl, rfl, HWO.out, hown, by simp [lo_zero], fun _ _ => rfl, hin⟩
   case round =>
    obtain ⟨k, c, o1, hk, hc, rfl, rfl, ho1, hwo1, hown1, hval1, hrest, hin1⟩ := hrel
    have HV1 := Hh hval1; have HO1 := Hh (ho1.trans HO.out); have HO2 := Hh ho1; have HWO1 := Hh hwo1; have HR := Hh hrest; clear hval1 ho1 hwo1 hrest
    rcases Nat.lt_or_ge k lb.length with hlk | hlk
    ·obtain ⟨ga, rfl, hga, hca⟩ := (HRA.out.of hin1).cell hlt
     rw [← HXE.out] at hca
     obtain ⟨gb, rfl, hgb, hcb⟩ := (HRB.out.of hin1).cell hlk
     obtain ⟨y, hye⟩ : ∃ y, y = lb.getD k 0 := ⟨_, rfl⟩
     have hy : y < 4294967296 := by rw [hye]; exact HWB.out.getD _
     rw [← hye] at hcb
     have HYE := Hh hye; clear hye
     have hco := hown1.cell (i := i + k) (by rw [HO1.out]; omega)
     have hfo := hown1.frozen (i + k)
     obtain ⟨z, hze⟩ : ∃ z, z = o1.getD (i + k) 0 := ⟨_, rfl⟩
     have hz : z < 4294967296 := by rw [hze]; exact HWO1.out.getD _
     rw [← hze] at hco
     have HST := Hh (fun (n : Nat) (u v q : Int) => TimesIn.step (x := x) (y := y) (z := z) (n := n) u v q (by rw [HO1.out]; omega) hlk hc HO2.out HWO1.out hown1 HV1.out HR.out hin1 (Nat.le_refl _) hx HYE.out hy hze hz 0)
     clear hze
     have hm := word_mul hx hy
     obtain ⟨p, hp⟩ : ∃ p, p = x * y := ⟨_, rfl⟩
     have e0 : (x : Int) * y = (p : Int) := by rw [hp]; simp
     rw [← hp] at hm HST
     clear hp
     have e1 : IntKind.u64.wrap (p : Int) = p := by rw [IntKind.wrap_u64]; omega
     have e2 : IntKind.u64.wrap ((p : Int) + z) = (p : Int) + z := by rw [IntKind.wrap_u64]; omega
     have e3 : IntKind.u64.wrap ((p : Int) + z + c) = (p : Int) + z + c := by rw [IntKind.wrap_u64]; omega
     have e4 : IntKind.i64.wrap ((i : Int) + k) = (i : Int) + k := IntWalk.i64_in _ om
     have e5 : ((i : Int) + k).toNat = i + k := by omega
     have HB := Hh (And.intro hm (And.intro hz hc)); clear hm
     go_wp2
     go_quiet (fail)
     go_wp2
     go_roundw
     case rel => exact HST.out _ _ _ _ (by have := HB.out; omega) (by have := HB.out; omega) om
     case measure => simp [intOf]; omega
    ·obtain rfl : k = lb.length := by omega
     have hco := hown1.cell (i := i + lb.length) (by rw [HO1.out]; omega)
     have hfo := hown1.frozen (i + lb.length)
     have HCC := Hh hc
     go_wp2
     go_roundw
     case rel =>
      refine ⟨i + 1, o1.set (i + lb.length) c, by omega, by go_num, by rw [List.length_set]; exact HO1.out, HWO1.out.set _ _ HCC.out, ?_, ?_, hin1.setCell (Nat.le_refl _) _⟩
      ·have := hown1.set (i + lb.length) c (by rw [HO1.out]; omega)
       exact this
      ·rw [show i + 1 + lb.length = i + lb.length + 1 by omega, lo_set_succ _ _ _ (by rw [HO1.out]; omega), HV1.out, HV.out, lo_succ la, ← HXE.out, lo_all lb (Nat.le_refl _), Nat.add_mul, Nat.mul_assoc]
     case measure => simp [intOf]; omega
  ·obtain rfl : i = la.length := by omega
   have CT := Hh (Bcut o (some ⟨w.heap.size, 0, none⟩) (la.length + lb.length) HWO.out (by rw [HO.out]; exact Nat.le_refl _) (by rw [HO.out]; omega) _ hown.at)
   rw [HO.out] at CT
   go_wp2_with fail
   refine (CT.out).mono ?_; rintro e1 w1 ⟨rfl, rfl⟩
   go_wp2
   go_ret
   refine retW_cut hown.at HWO.out (by rw [HO.out]; exact Nat.le_refl _) hin ?_
   rw [← lo_all o (Nat.le_of_eq HO.out), HV.out, lo_all _ (Nat.le_refl _)]
theorem Btimes (a b : Nat) (A Bv : Option Addr) (ca cb : Nat) (ha : (dg a).length ≤ 700000) (hb : (dg b).length ≤ 700000) (w : World) (hra : RowAt w A (dg a)) (hrb : RowAt w Bv (dg b)) :
 Calls Tryz.prog 117 #[.slice A (dg a).length ca, .slice Bv (dg b).length cb] w (RetW w (a * b)) := by
 have := Btimes0 (dg a) (dg b) A Bv ca cb (words_dg a) (words_dg b) ha hb w hra hrb
 rw [wval_dg, wval_dg] at this
 exact this
theorem dg_mul_len {a b n m : Nat} (ha : (dg a).length ≤ n) (hb : (dg b).length ≤ m) : (dg (a * b)).length ≤ n + m := by
 refine dg_len_le ?_
 have h1 := Nat.lt_of_lt_of_le (lt_of_dg a) (Nat.pow_le_pow_right dc ha)
 have h2 := Nat.lt_of_lt_of_le (lt_of_dg b) (Nat.pow_le_pow_right dc hb)
 rw [Nat.pow_add]
 exact Nat.mul_lt_mul_of_lt_of_le h1 (Nat.le_of_lt h2) (Nat.pow_pos dc)
theorem dg_shl_len {a n k : Nat} (ha : (dg a).length ≤ n) : (dg (a * 2 ^ (32 * k))).length ≤ n + k := by
 refine dg_len_le ?_
 have h1 := Nat.lt_of_lt_of_le (lt_of_dg a) (Nat.pow_le_pow_right dc ha)
 rw [Nat.pow_add, Nat.pow_mul]
 exact Nat.mul_lt_mul_of_pos_right h1 (Nat.pow_pos dc)
theorem dg_shl_le {a n j k : Nat} (ha : (dg a).length ≤ n) (hj : j ≤ 32 * k) : (dg (a * 2 ^ j)).length ≤ n + k :=
 Nat.le_trans (dg_len_mono (Nat.mul_le_mul_left _ (Nat.pow_le_pow_right dc hj))) (dg_shl_len ha)
theorem Blsh0 (z x n : Nat) (sa : Bool) (na : Nat) (A : Option Addr) (ca : Nat) (ha : (dg na).length ≤ 400000) (hn : n ≤ 16000000) (w : World) (hz : IntTy w z) (a0 : w.cell? ⟨x, 0, none⟩ = some (.bool sa)) (a1 : w.cell? ⟨x, 1, none⟩ = some (.slice A (dg na).length ca)) (hra : RowAt w A (dg na)) : Calls Tryz.prog 228 #[.pointer (some ⟨z, 0, none⟩), .pointer (some ⟨x, 0, none⟩), .int .u64 (n : Int)] w (PutI w z (sgv sa (na * 2 ^ n))) := by
 have HZ := Hh hz; have HRA := Hh hra; clear hz hra
 have hlx := World.block_lt_of_cell? w _ a0
 go_enter Tryz.func228, Tryz.ntmps228
 go_wp2
 refine wp_region_sched (fun W => W.cell? ⟨x, 0, none⟩ = some (.bool sa) ∧ W.cell? ⟨x, 1, none⟩ = some (.slice A (dg na).length ca)) 11 [(0, true), (1, true), (2, true), (3, true), (4, true), (5, true), (6, true), (7, true), (8, true), (9, true), (10, false), (11, false), (12, false)] kr kr ⟨a0, a1⟩ ?_
 intro hS
 repeat
  apply sched_firm rfl rfl hS
  ·exact zz22
  try simp only [pu]
 refine sched_one rfl rfl (fun K hK => ?_)
 go_simp
 refine (Bleft na A ca n om hn w.drew (RowAt.drew HRA.out)).mono ?_
 rintro e2 w2 ⟨A', c', rfl, hc', hr', hb'⟩
 have hb2 : Within w w2 := (Within.refl w).drew.trans hb'
 refine hK _ _ (fun h => ⟨(hb2.cells _ _ hlx).trans a0, (hb2.cells _ _ hlx).trans a1⟩) ?_
 clear hK K
 try simp only [pu]
 refine sched_one rfl rfl (fun K hK => ?_)
 go_simp
 refine (Bput z _ (dg (na * 2 ^ n)) A' c' (words_dg _) hc' (Nat.le_trans (dg_shl_le (k := 500000) ha om) dc) w2 hr' (HZ.out.of hb2)).mono ?_
 exact zz12
theorem Blsh (z x n : Nat) (a : Int) (ha : (dg a.natAbs).length ≤ 400000) (hn : n ≤ 16000000) (w : World) (hz : IntTy w z) (hx : IntB w x a) : Calls Tryz.prog 228 #[.pointer (some ⟨z, 0, none⟩), .pointer (some ⟨x, 0, none⟩), .int .u64 (n : Int)] w (PutI w z (a * 2 ^ n)) := by
 obtain ⟨A, ca, a0, a1, hra⟩ := hx.rd
 refine Calls.mono (Blsh0 z x n _ _ A ca ha hn w hz a0 a1 hra) (fun _ _ h => PutI_eq h ?_)
 have e : ((a.natAbs * 2 ^ n : Nat) : Int) = (a.natAbs : Int) * 2 ^ n := by simp
 unfold sgv
 by_cases ha0 : a < 0
 ·rw [if_pos (decide_eq_true ha0), e, ← Int.neg_mul]; congr 1; omega
 ·rw [decide_eq_false ha0, if_neg dc, e]; congr 1; omega
end Go.Proofs.YtgkcpnidmfejeaaGreatDoor
section
namespace Go.Proofs.YtgkcpnidmfejeaaGreatDoor
open Go.RowKit
theorem Bover (a b : Nat) (A Bv : Option Addr) (ca cb : Nat) (ha : (dg a).length ≤ 400000) (hb : (dg b).length ≤ 400000) (hb0 : 0 < b) (w : World) (hra : RowAt w A (dg a)) (hrb : RowAt w Bv (dg b)) :
 Calls Tryz.prog 218 #[.slice A (dg a).length ca, .slice Bv (dg b).length cb] w (RetQ w (a / b) (a % b)) := by
 rcases Nat.lt_or_ge a b with h | h
 ·have := Bover_lt a b A Bv ca cb ha hb h w hra hrb
  rw [Nat.div_eq_of_lt h, Nat.mod_eq_of_lt h]
  exact this
 ·rcases Nat.lt_or_ge b 4294967296 with h1 | h1
  ·exact Bover_one a b A Bv ca cb ha hb0 h1 h w hra hrb
  ·have h2 : 2 ≤ (dg b).length := by
    rcases Nat.lt_or_ge (dg b).length 2 with h3 | h3
    ·have := lt_of_dg b
     have := Nat.pow_le_pow_right (n := 4294967296) dc (show (dg b).length ≤ 1 by omega)
     omega
    ·exact h3
   exact Bover_main a b ((dg b).length - 2) A Bv ca cb ha om h w hra hrb
def MagAt (v : Value) (w : World) (n : Nat) : Prop := ∃ A c, v = .slice A (dg n).length c ∧ (dg n).length ≤ c ∧ RowAt w A (dg n)
theorem zz108 {p : Prop} (h : p := by
 injection e2 with e2; injection e2 with e2; subst e2
 rw [c1] at c2
 injection c2 with c2; injection c2 with _ c2
 omega) : p := h
theorem MagAt.uniq {v : Value} {w : World} {n m : Nat} (h : MagAt v w n) (g : MagAt v w m) : n = m := by
 obtain ⟨A, c, rfl, _, hr⟩ := h
 obtain ⟨A', c', e, _, hr'⟩ := g
 simp only [Value.slice.injEq] at e
 obtain ⟨rfl, hl, _⟩ := e
 refine eq_of_all hl (fun j => ?_)
 by_cases hj : j < (dg n).length
 ·obtain ⟨g1, rfl, _, c1⟩ := hr.cell hj
  obtain ⟨g2, e2, _, c2⟩ := hr'.cell (i := j) om
  exact zz108
 ·rw [List.getD_eq_getElem?_getD, List.getD_eq_getElem?_getD, List.getElem?_eq_none om, List.getElem?_eq_none om]
open Classical in
noncomputable def magOf (v : Value) (w : World) : Nat := if h : ∃ n, MagAt v w n then Classical.choose h else 0
theorem magOf_eq {v : Value} {w : World} {n : Nat} (h : MagAt v w n) : magOf v w = n := by
 have hex : ∃ n, MagAt v w n := ⟨n, h⟩
 unfold magOf
 rw [dif_pos hex]
 exact (Classical.choose_spec hex).uniq h
def Tab32 (w : World) : Prop := ∀ j, j < 32 → w.cell? ⟨1, j, none⟩ = some (.int .u8 (Lib.deBruijn32tab.getD j 0))
theorem Tab32.of {w w' : World} (h : Tab32 w) (k : Within w w') : Tab32 w' := fun j hj => by
 rw [k.cells _ _ (World.block_lt_of_cell? w _ (h j hj))]
 exact h j hj
theorem tz32_core (x k idx : Nat) (w : World) (hx0 : ((x : Int) == 0) = false)
 (key : IntKind.u32.wrap (bits BinOp.and IntKind.u32 (x : Int) (IntKind.u32.wrap (-(x : Int))) * 125613361) / 134217728 = (idx : Int))
 (hi : idx < 32) (hk : k < 32) (hcell : w.cell? ⟨1, idx, none⟩ = some (.int .u8 k)) :
 Calls Tryz.prog 287 #[.int .u32 x] w fun e w' => e = .returned (.int .i64 k) ∧ w = w' := by
 rw [IntKind.wrap_u32, IntKind.wrap_u32] at key
 have k2 : (bits BinOp.and IntKind.u32 (x : Int) (-(x : Int) % 4294967296) * 125613361 % 4294967296 / 134217728).toNat = idx := by rw [key]; rfl
 go_enter Tryz.func287, Tryz.ntmps287
 go_wp2_with (simp only [key])
 go_ret
 exact ⟨rfl, rfl⟩
theorem tz32_key (x a : Nat) (hx : x < 4294967296) (hx0 : x ≠ 0) (hlow : x &&& (4294967296 - x) = a) :
 IntKind.u32.wrap (bits BinOp.and IntKind.u32 (x : Int) (IntKind.u32.wrap (-(x : Int))) * 125613361) / 134217728 = ((a * 125613361 % 4294967296 / 134217728 : Nat) : Int) := by
 have e1 : IntKind.u32.wrap (-(x : Int)) = ((4294967296 - x : Nat) : Int) := by rw [IntKind.wrap_u32]; omega
 have e2 : bits BinOp.and IntKind.u32 (x : Int) ((4294967296 - x : Nat) : Int) = ((x &&& (4294967296 - x) : Nat) : Int) := u32_and_nat x _ hx om
 rw [e1, e2, hlow, IntKind.wrap_u32]
 omega
theorem bits_tz32 (x : Nat) (h0 : x ≠ 0) (hx : x < 4294967296) (w : World) (hT : Tab32 w) :
 Calls Tryz.prog 287 #[.int .u32 x] w fun e w' => e = .returned (.int .i64 (Lib.ctz 32 x)) ∧ w = w' := by
 obtain ⟨hlow, hk⟩ := Lib.lowest_bit 32 x h0 hx
 obtain ⟨hi, htab⟩ := Lib.deBruijn32_at _ hk
 have hcell := hT _ hi
 rw [htab] at hcell
 exact tz32_core x _ _ w (by simp; omega) (tz32_key x _ hx h0 hlow) hi hk hcell
theorem ctz32_split {x : Nat} (h0 : x ≠ 0) (hx : x < 4294967296) : ∃ m, x = 2 ^ Lib.ctz 32 x * (2 * m + 1) ∧ Lib.ctz 32 x < 32 := by
 have := Lib.ctzFrom_spec 32 x (Nat.pos_of_ne_zero h0) hx
 unfold Lib.ctz
 first | exact this | (rw [if_neg h0]; exact this)
theorem OwnW.one (w : World) : OwnW (w.alloc (.cells #[.int .u32 1] 153)) w.heap.size [1] := by
 have h := World.rowIs_alloc w #[.int .u32 1] 153 (fun i => .int .u32 ((([1] : List Nat).getD i 0 : Nat) : Int)) (fun i hi => by
  have : i = 0 := by simpa using hi
  subst this
  rfl)
 exact h
theorem dg_one : dg 1 = [1] := by rw [dg_pos dc, show 1 / 4294967296 = 0 by decide, dg_zero]
theorem lo_none {l : List Nat} : ∀ k, (∀ j, j < k → l.getD j 0 = 0) → lo l k = 0
 | 0, _ => lo_zero l
 | k + 1, h => by rw [lo_succ, lo_none k fun j hj => h j om, h k om, Nat.mul_zero]
theorem tzb_split {l : List Nat} (hw : Words l) {k : Nat} (hk : k < l.length) (hz : ∀ j, j < k → l.getD j 0 = 0) (h0 : l.getD k 0 ≠ 0) : ∃ m, wval l = 2 ^ (32 * k + Lib.ctz 32 (l.getD k 0)) * (2 * m + 1) := by
 obtain ⟨m, h1, h2⟩ := ctz32_split h0 (hw.getD k)
 have e : l.drop k = l.getD k 0 :: l.drop (k + 1) := by rw [List.drop_eq_getElem_cons hk, List.getD, List.getElem?_eq_getElem hk]; rfl
 have h3 := wval_split l k
 rw [lo_none k hz, Nat.zero_add, e] at h3
 have h4 : wval (l.getD k 0 :: l.drop (k + 1)) = l.getD k 0 + 4294967296 * wval (l.drop (k + 1)) := rfl
 rw [h4] at h3
 generalize Lib.ctz 32 (l.getD k 0) = c at *
 refine ⟨m + 2 ^ (31 - c) * wval (l.drop (k + 1)), ?_⟩
 rw [h3, h1, show (4294967296 : Nat) = 2 ^ c * (2 * 2 ^ (31 - c)) by rw [← Nat.pow_succ', ← Nat.pow_add, show c + (31 - c + 1) = 32 by omega], show (2 ^ c * (2 * 2 ^ (31 - c))) ^ k = 2 ^ (32 * k) by rw [← Nat.pow_succ', ← Nat.pow_add, show c + (31 - c + 1) = 32 by omega, ← Nat.pow_mul], Nat.pow_add]
 generalize 2 ^ c = X
 generalize 2 ^ (31 - c) = Y
 generalize 2 ^ (32 * k) = Z
 generalize wval (l.drop (k + 1)) = V
 grind
theorem Btzb (x : Nat) (v : Int) (h0 : v ≠ 0) (hl : (dg v.natAbs).length ≤ 1000000) (w : World) (hT : Tab32 w) (hx : IntB w x v) : Calls Tryz.prog 214 #[.pointer (some ⟨x, 0, none⟩)] w (fun e w' => ∃ t m : Nat, e = .returned (.int .u64 (t : Int)) ∧ v.natAbs = 2 ^ t * (2 * m + 1) ∧ t ≤ 32000000 ∧ w = w') := by
 obtain ⟨A, ca, a0, a1, hra⟩ := hx.rd
 have hxl := World.block_lt_of_cell? _ _ a1
 obtain ⟨l, hl'⟩ : ∃ l, l = dg v.natAbs := ⟨_, rfl⟩
 have hwl : Words l := by rw [hl']; exact words_dg _
 have hvl : wval l = v.natAbs := by rw [hl', wval_dg]
 rw [← hl'] at a1 hra hl
 clear hl' hx a0
 have HW := Hh hwl; have HV := Hh hvl; have HR := Hh hra; have HT := Hh hT; have H0 := Hh h0; clear hwl hvl hra hT h0
 go_enter Tryz.func214, Tryz.ntmps214
 go_wp2
 go_loopw [3] (fun iv wr => ∃ k : Nat, k ≤ l.length ∧ iv = .int .i64 (k : Int) ∧ (∀ j, j < k → l.getD j 0 = 0) ∧ w = wr) (fun iv _ => l.length - (intOf iv).toNat)
 case atStart => exact ⟨0, Nat.zero_le _, rfl, fun j hj => absurd hj (Nat.not_lt_zero _), rfl⟩
 case round =>
  obtain ⟨k, hk, rfl, hzs, rfl⟩ := hrel
  have HZ := Hh hzs; clear hzs
  by_cases hlt : k < l.length
  ·obtain ⟨g, rfl, hg, hc⟩ := HR.out.cell hlt
   by_cases hx0 : l.getD k 0 = 0
   ·rw [hx0] at hc
    have HZ2 := Hh (show ∀ j, j < k + 1 → l.getD j 0 = 0 from fun j hj => (Nat.lt_succ_iff_lt_or_eq.1 hj).elim (HZ.out j) (fun h => h ▸ hx0))
    clear hx0
    go_wp2
    go_roundw
    case rel => exact ⟨k + 1, hlt, by go_num, HZ2.out, (by first | rfl | trivial)⟩
    case measure => first | (simp [intOf]; done) | (simp [intOf]; omega)
   ·obtain ⟨m, hm⟩ := tzb_split HW.out hlt HZ.out hx0
    rw [HV.out] at hm
    have hx32 := HW.out.getD k
    obtain ⟨_, _, hct⟩ := ctz32_split hx0 hx32
    obtain ⟨y, hy⟩ : ∃ y, y = l.getD k 0 := ⟨_, rfl⟩
    rw [← hy] at hc hm hx0 hx32 hct
    have TZ := Hh (fun w hT => bits_tz32 y hx0 hx32 w hT)
    have n0 : ((y : Int) != 0) = true := by rw [bne_iff_ne]; omega
    obtain ⟨c, hc2⟩ : ∃ c, c = Lib.ctz 32 y := ⟨_, rfl⟩
    rw [← hc2] at TZ hm hct
    have HM := Hh hm; clear hc2 hm hy hx0 hx32
    have e1 : IntKind.i64.wrap (32 * (k : Int)) = 32 * (k : Int) := IntWalk.i64_in _ ⟨by omega, by omega⟩
    have e2 : IntKind.i64.wrap (32 * (k : Int) + (c : Int)) = 32 * (k : Int) + (c : Int) := IntWalk.i64_in _ ⟨by omega, by omega⟩
    have e3 : IntKind.u64.wrap (32 * (k : Int) + (c : Int)) = ((32 * k + c : Nat) : Int) := by rw [IntKind.wrap_u64]; omega
    go_wp2_with fail
    refine (TZ.out _ HT.out).mono ?_; rintro e5 w5 ⟨rfl, rfl⟩
    go_wp2
    go_ret
    exact ⟨32 * k + c, m, rfl, HM.out, by omega, rfl⟩
  ·obtain rfl : k = l.length := by omega
   exfalso
   have h1 := lo_none l.length HZ.out
   rw [lo_all l (Nat.le_refl _), HV.out] at h1
   exact H0.out om
end Go.Proofs.YtgkcpnidmfejeaaGreatDoor
end
namespace Go.Proofs.YtgkcpnidmfejeaaGreatDoor
open Go.RowKit
theorem dg_at0 (n : Nat) : (dg n).getD 0 0 = n % 4294967296 := by
 by_cases h : n = 0
 ·subst h; rw [dg_zero]; rfl
 ·rw [dg_pos h]; rfl
theorem dg_at1 (n : Nat) : (dg n).getD 1 0 = n / 4294967296 % 4294967296 := by
 by_cases h : n = 0
 ·subst h; rw [dg_zero]; rfl
 ·rw [dg_pos h]
  show (dg (n / 4294967296)).getD 0 0 = _
  rw [dg_at0]
theorem or_low {x y : Nat} (hx : x < 4294967296) (hy : y < 4294967296) : bits .or .u64 ((y * 4294967296 : Nat) : Int) (x : Int) = ((4294967296 * y + x : Nat) : Int) := by
 rw [u64_or_nat _ _ om om, nat_join 32 _ _ (by rw [show (2 : Nat) ^ 32 = 4294967296 from rfl]; omega) hx]
 congr 1; omega
theorem dg_small2 {n : Nat} (h : n < 18446744073709551616) : (dg n).length ≤ 2 := dg_len_le (by rw [show (4294967296 : Nat) ^ 2 = 18446744073709551616 from rfl]; exact h)
theorem lead_step {n k : Nat} (hk : k < 2) : n / 4294967296 ^ k = 4294967296 * (n / 4294967296 ^ (k + 1)) + (dg n).getD k 0 := by
 rcases k with _ | _ | k
 ·rw [dg_at0]; simp; omega
 ·rw [dg_at1]; simp; omega
 ·omega
theorem lead_top {n k : Nat} (h : (dg n).length ≤ k) : n / 4294967296 ^ k = 0 := by
 apply Nat.div_eq_of_lt
 exact Nat.lt_of_lt_of_le (lt_of_dg n) (Nat.pow_le_pow_right dc h)
def LeadRel (W : World) (x : Nat) (uv iv : Value) (wr : World) : Prop :=
 ∃ (k u : Nat) (j : Int), k ≤ (dg x).length ∧ iv = .int .i64 j ∧ j + 1 = (k : Int) ∧ uv = .int .u64 (u : Int) ∧ u = x / 4294967296 ^ k ∧ W = wr
theorem Blead (a : Nat) (A : Option Addr) (ca n : Nat) (ha : (dg a).length ≤ 1500000) (hn : n ≤ 40000000) (hx : a / 2 ^ n < 18446744073709551616) (w : World) (hra : RowAt w A (dg a)) :
 Calls Tryz.prog 289 #[.slice A (dg a).length ca, .int .i64 (n : Int)] w (fun e w' => e = .returned (.int .u64 ((a / 2 ^ n : Nat) : Int)) ∧ Within w w') := by
 have RI := Hh (Bright a A ca n ha hn w hra)
 obtain ⟨x, hxe⟩ : ∃ x, x = a / 2 ^ n := ⟨_, rfl⟩
 rw [← hxe] at hx RI ⊢
 have hl := dg_small2 hx
 have wn : IntKind.u64.wrap (n : Int) = (n : Int) := IntWalk.u64_in _ ⟨by omega, by omega⟩
 have HX := Hh hx
 clear ha hn hra hxe hx
 obtain ⟨L, hL⟩ : ∃ L, L = (dg x).length := ⟨_, rfl⟩
 have wl : IntKind.i64.wrap ((L : Int) - 1) = (L : Int) - 1 := i64_is om om
 rw [hL] at wl
 go_enter Tryz.func289, Tryz.ntmps289
 go_wp2_with fail
 refine (RI.out).mono ?_; rintro e1 w1 ⟨A1, c1, rfl, hc1, hr1, hb1⟩
 have HR := Hh hr1; clear hr1
 go_wp2
 go_loopw [6, 7] (fun uv iv wr => LeadRel w1 x uv iv wr) (fun _ iv _ => (intOf iv + 1).toNat)
 case atStart => exact ⟨(dg x).length, 0, ((dg x).length : Int) - 1, Nat.le_refl _, rfl, by omega, rfl, (lead_top (Nat.le_refl _)).symm, rfl⟩
 case round =>
  obtain ⟨k, u, j, hk, rfl, hj, rfl, hu, rfl⟩ := hrel
  rcases Nat.eq_zero_or_pos k with h0 | h0
  ·subst h0
   obtain rfl : j = -1 := by omega
   rw [Nat.pow_zero, Nat.div_one] at hu
   subst hu
   go_wp2
   go_ret
   exact ⟨rfl, hb1⟩
  ·obtain ⟨i, rfl⟩ : ∃ i, k = i + 1 := ⟨k - 1, by omega⟩
   obtain rfl : j = (i : Int) := by omega
   obtain ⟨g, rfl, _, hc⟩ := HR.out.cell (i := i) om
   have hs := lead_step (n := x) (k := i) om
   rw [← hu] at hs
   have hw : (dg x).getD i 0 < 4294967296 := (words_dg x).getD i
   obtain ⟨d, hd⟩ : ∃ d, d = (dg x).getD i 0 := ⟨_, rfl⟩
   rw [← hd] at hc hs hw
   have hu2 : u < 4294967296 := by
    have h1 : x / 4294967296 ^ i ≤ x := Nat.div_le_self _ _
    have := HX.out
    omega
   have gor := or_low hw hu2
   have gsh : IntKind.u64.wrap ((u : Int) * 4294967296) = ((u * 4294967296 : Nat) : Int) := by rw [IntKind.wrap_u64]; omega
   have gj : IntKind.i64.wrap ((i : Int) - 1) = (i : Int) - 1 := i64_is om om
   have gi : decide ((i : Int) ≥ 0) = true := decide_eq_true om
   have gwd : IntKind.u64.wrap (d : Int) = (d : Int) := by rw [IntKind.wrap_u64]; omega
   have HS := Hh hs
   have GO := Hh gor
   clear hs hw hu2 hu hd gor
   go_wp2
   go_roundw
   case rel => exact ⟨i, x / 4294967296 ^ i, (i : Int) - 1, by omega, rfl, by omega, by rw [HS.out, ← GO.out]; first | rfl | (rw [Int.natCast_mul]; rfl) | (congr 1; rw [Int.natCast_mul]; rfl) | (trace_state; fail), rfl, rfl⟩
   case measure => first | (simp [intOf]; done) | (simp [intOf]; omega)
theorem Bspread (a b u v : Nat) (A Bv : Option Addr) (ca cb : Nat) (ha : (dg a).length ≤ 600000) (hb : (dg b).length ≤ 600000) (hu : u < 18446744073709551616) (hv : v < 18446744073709551616) (hle : b * v ≤ a * u) (w : World) (hra : RowAt w A (dg a)) (hrb : RowAt w Bv (dg b)) :
 Calls Tryz.prog 335 #[.slice A (dg a).length ca, .int .u64 (u : Int), .slice Bv (dg b).length cb, .int .u64 (v : Int)] w (RetW w (a * u - b * v)) := by
 have lu := dg_small2 hu
 have lv := dg_small2 hv
 have WU := Hh (fun w => Bwords u hu w)
 have WV := Hh (fun w => Bwords v hv w)
 have TA := Hh (fun w (B2 : Option Addr) (c2 : Nat) h1 h2 => Btimes a u A B2 ca c2 om om w h1 h2)
 have TB := Hh (fun w (B2 : Option Addr) (c2 : Nat) h1 h2 => Btimes b v Bv B2 cb c2 om om w h1 h2)
 have hl1 : (dg (a * u)).length ≤ 700000 := Nat.le_trans (dg_mul_len ha lu) dc
 have MI := Hh (fun w (A2 B2 : Option Addr) (c1 c2 : Nat) h1 h2 => Bminus (a * u) (b * v) A2 B2 c1 c2 om hle w h1 h2)
 have RA := Hh hra; have RB := Hh hrb
 clear hra hrb hu hv lu lv ha hb hl1 hle
 generalize (dg a).length = la at *
 generalize (dg b).length = lb at *
 go_enter Tryz.func335, Tryz.ntmps335
 go_wp2_with fail
 refine (WU.out _).mono ?_; rintro e1 w1 ⟨A1, c1, rfl, hc1, hr1, hb1⟩
 go_wp2_with fail
 refine (TA.out _ A1 c1 (RA.out.of hb1) hr1).mono ?_; rintro e2 w2 ⟨A2, c2, rfl, hc2, hr2, hb2⟩
 go_wp2_with fail
 refine (WV.out _).mono ?_; rintro e3 w3 ⟨A3, c3, rfl, hc3, hr3, hb3⟩
 go_wp2_with fail
 refine (TB.out _ A3 c3 (RB.out.of ((hb1.trans hb2).trans hb3)) hr3).mono ?_; rintro e4 w4 ⟨A4, c4, rfl, hc4, hr4, hb4⟩
 go_wp2_with fail
 refine (MI.out _ A2 A4 c2 c4 (hr2.of (hb3.trans hb4)) hr4).mono ?_; rintro e5 w5 ⟨A5, c5, rfl, hc5, hr5, hb5⟩
 go_wp2
 go_ret
 exact ⟨A5, c5, rfl, hc5, hr5, (((hb1.trans hb2).trans hb3).trans hb4).trans hb5⟩
theorem zz72 {p : Prop} (h : p := by
 generalize (dg a).length = la at *
 generalize (dg b).length = lb at *
 go_enter Tryz.func290, Tryz.ntmps290
 go_wp2_with fail
 refine (SP.out).mono ?_; rintro e1 w1 ⟨A1, c1, rfl, hc1, hr1, hb1⟩
 go_wp2
 go_ret
 exact ⟨A1, c1, rfl, hc1, hr1, hb1⟩) : p := h
theorem Bmix_neg (a b : Nat) (U V : Int) (u v : Nat) (A Bv : Option Addr) (ca cb : Nat) (hU : U = u) (hV : V = -(v : Int)) (hu : u ≤ 1073741824) (hv : v ≤ 1073741824) (ha : (dg a).length ≤ 600000) (hb : (dg b).length ≤ 600000) (hle : b * v ≤ a * u) (w : World) (hra : RowAt w A (dg a)) (hrb : RowAt w Bv (dg b)) :
 Calls Tryz.prog 290 #[.slice A (dg a).length ca, .int .i64 U, .slice Bv (dg b).length cb, .int .i64 V] w (RetW w (a * u - b * v)) := by
 have SP := Hh (Bspread a b u v A Bv ca cb ha hb om om hle w hra hrb)
 have d : decide (V ≤ 0) = true := decide_eq_true om
 have w1 : IntKind.u64.wrap U = (u : Int) := by rw [hU]; exact IntWalk.u64_in _ ⟨by omega, by omega⟩
 have w2 : IntKind.i64.wrap (-V) = (v : Int) := by rw [hV, Int.neg_neg]; exact i64_is om om
 have w3 : IntKind.u64.wrap (v : Int) = (v : Int) := IntWalk.u64_in _ ⟨by omega, by omega⟩
 clear hra hrb hU hV hu hv ha hb hle
 exact zz72
theorem Bmix_pos (a b : Nat) (U V : Int) (u v : Nat) (A Bv : Option Addr) (ca cb : Nat) (hU : U = -(u : Int)) (hV : V = v) (h0 : 0 < v) (hu : u ≤ 1073741824) (hv : v ≤ 1073741824) (ha : (dg a).length ≤ 600000) (hb : (dg b).length ≤ 600000) (hle : a * u ≤ b * v) (w : World) (hra : RowAt w A (dg a)) (hrb : RowAt w Bv (dg b)) :
 Calls Tryz.prog 290 #[.slice A (dg a).length ca, .int .i64 U, .slice Bv (dg b).length cb, .int .i64 V] w (RetW w (b * v - a * u)) := by
 have SP := Hh (Bspread b a v u Bv A cb ca hb ha om om hle w hrb hra)
 have d : decide (V ≤ 0) = false := decide_eq_false om
 have w1 : IntKind.u64.wrap V = (v : Int) := by rw [hV]; exact IntWalk.u64_in _ ⟨by omega, by omega⟩
 have w2 : IntKind.i64.wrap (-U) = (u : Int) := by rw [hU, Int.neg_neg]; exact i64_is om om
 have w3 : IntKind.u64.wrap (u : Int) = (u : Int) := IntWalk.u64_in _ ⟨by omega, by omega⟩
 clear hra hrb hU hV hu hv ha hb hle h0
 exact zz72
theorem Bmix (a b : Nat) (U V : Int) (n : Nat) (A Bv : Option Addr) (ca cb : Nat) (h1 : V ≤ 0 → 0 ≤ U) (h2 : 0 < V → U ≤ 0) (hU : -1073741824 ≤ U ∧ U ≤ 1073741824) (hV : -1073741824 ≤ V ∧ V ≤ 1073741824) (ha : (dg a).length ≤ 600000) (hb : (dg b).length ≤ 600000) (hn : U * (a : Int) + V * (b : Int) = (n : Int)) (w : World) (hra : RowAt w A (dg a)) (hrb : RowAt w Bv (dg b)) :
 Calls Tryz.prog 290 #[.slice A (dg a).length ca, .int .i64 U, .slice Bv (dg b).length cb, .int .i64 V] w (RetW w n) := by
 by_cases hv : V ≤ 0
 ·obtain ⟨u, hu⟩ : ∃ u : Nat, U = u := ⟨U.toNat, by have := h1 hv; omega⟩
  obtain ⟨v, hv2⟩ : ∃ v : Nat, V = -(v : Int) := ⟨(-V).toNat, by omega⟩
  rw [hu, hv2, Int.neg_mul] at hn
  have e1 : ((a * u : Nat) : Int) = (u : Int) * a := by push_cast; exact Int.mul_comm _ _
  have e2 : ((b * v : Nat) : Int) = (v : Int) * b := by push_cast; exact Int.mul_comm _ _
  rw [← e1, ← e2] at hn
  have := Bmix_neg a b U V u v A Bv ca cb hu hv2 om om ha hb om w hra hrb
  rw [show a * u - b * v = n by omega] at this
  exact this
 ·obtain ⟨u, hu⟩ : ∃ u : Nat, U = -(u : Int) := ⟨(-U).toNat, by have := h2 om; omega⟩
  obtain ⟨v, hv2⟩ : ∃ v : Nat, V = v := ⟨V.toNat, by omega⟩
  rw [hu, hv2, Int.neg_mul] at hn
  have e1 : ((a * u : Nat) : Int) = (u : Int) * a := by push_cast; exact Int.mul_comm _ _
  have e2 : ((b * v : Nat) : Int) = (v : Int) * b := by push_cast; exact Int.mul_comm _ _
  rw [← e1, ← e2] at hn
  have := Bmix_pos a b U V u v A Bv ca cb hu hv2 om om om ha hb om w hra hrb
  rw [show b * v - a * u = n by omega] at this
  exact this
theorem blen_pow (n : Nat) : n < 2 ^ blen n := by
 by_cases h : n = 0
 ·subst h; decide
 ·rw [blen_pos h]; exact Nat.lt_log2_self
theorem blen_ge {n k : Nat} (h : 2 ^ k ≤ n) : k + 1 ≤ blen n := by
 have hp := Nat.two_pow_pos k
 rw [blen_pos om]
 have := (Nat.le_log2 om).2 h
 omega
theorem blen_up {n k : Nat} (h : n < 2 ^ k) : blen n ≤ k := by
 by_cases h0 : n = 0
 ·subst h0; rw [blen_zero]; exact Nat.zero_le _
 ·rw [blen_pos h0]
  have := (Nat.log2_lt h0).2 h
  omega
theorem int_box (w : World) (n : Nat) (A : Option Addr) (c : Nat) (hc : (dg n).length ≤ c) (hr : RowAt w A (dg n)) :
 IntB (w.alloc (.cells #[.bool false, .slice A (dg n).length c] 94)) w.heap.size (n : Int) := by
 refine ⟨A, c, ?_, by rw [Int.natAbs_natCast]; exact hc, by rw [Int.natAbs_natCast]; exact hr.of ((Within.refl w).alloc _)⟩
 rw [Int.natAbs_natCast, decide_eq_false om]
 exact heap_alloc_new w _
def CoRel (W : World) (a0 b0 N : Nat) (av bv : Value) (wr : World) : Prop :=
 ∃ a b A ca Bv cb, av = .slice A (dg a).length ca ∧ bv = .slice Bv (dg b).length cb ∧ (dg a).length ≤ ca ∧ (dg b).length ≤ cb ∧ RowAt wr A (dg a) ∧ RowAt wr Bv (dg b) ∧ 0 < a ∧ a ≤ N ∧ b ≤ a ∧ (∀ d : Nat, d ∣ a → d ∣ b → d ∣ a0 ∧ d ∣ b0) ∧ Within W wr
theorem mag_is {A : Option Addr} {c n : Nat} {w : World} (hc : (dg n).length ≤ c) (hr : RowAt w A (dg n)) : magOf (.slice A (dg n).length c) w = n := magOf_eq ⟨A, c, rfl, hc, hr⟩
theorem dvd_step {a b a0 b0 : Nat} (h : ∀ d : Nat, d ∣ a → d ∣ b → d ∣ a0 ∧ d ∣ b0) : ∀ d : Nat, d ∣ b → d ∣ a % b → d ∣ a0 ∧ d ∣ b0 := by
 intro d h1 h2
 refine h d ?_ h1
 have := Nat.div_add_mod a b
 rw [← this]
 exact Nat.dvd_add (Nat.dvd_trans h1 (Nat.dvd_mul_right _ _)) h2
theorem mix_vals {a b n p q r s x y a0 b0 : Nat} {P Q R S : Int} (hx : x = a / 2 ^ n) (hy : y = b / 2 ^ n) (hO : LehO x y P Q R S) (hQ : Q ≠ 0) (ha : 0 < a) (h : ∀ d : Nat, d ∣ a → d ∣ b → d ∣ a0 ∧ d ∣ b0) :
 ∃ u v : Nat, P * (a : Int) + Q * (b : Int) = (u : Int) ∧ R * (a : Int) + S * (b : Int) = (v : Int) ∧ v < u ∧ v < b ∧ u ≤ b ∧ (∀ d : Nat, d ∣ u → d ∣ v → d ∣ a0 ∧ d ∣ b0) ∧ (Q ≤ 0 → 0 ≤ P) ∧ (0 < Q → P ≤ 0) ∧ (S ≤ 0 → 0 ≤ R) ∧ (0 < S → R ≤ 0) := by
 obtain ⟨h1, h2, h3⟩ := hO
 have hp := Nat.two_pow_pos n
 have t := h3 hQ ((2 ^ n : Nat) : Int) ((a % 2 ^ n : Nat) : Int) ((b % 2 ^ n : Nat) : Int) om om (by have := Nat.mod_lt a hp; omega) om (by have := Nat.mod_lt b hp; omega)
 have ea : (x : Int) * ((2 ^ n : Nat) : Int) + ((a % 2 ^ n : Nat) : Int) = (a : Int) := by
  have := Nat.div_add_mod a (2 ^ n)
  rw [← hx, Nat.mul_comm] at this
  exact_mod_cast this
 have eb : (y : Int) * ((2 ^ n : Nat) : Int) + ((b % 2 ^ n : Nat) : Int) = (b : Int) := by
  have := Nat.div_add_mod b (2 ^ n)
  rw [← hy, Nat.mul_comm] at this
  exact_mod_cast this
 rw [ea, eb] at t
 obtain ⟨t1, t2, t3, t4⟩ := t
 obtain ⟨v, hv⟩ : ∃ v : Nat, R * (a : Int) + S * (b : Int) = (v : Int) := ⟨_, (Int.toNat_of_nonneg t1).symm⟩
 obtain ⟨u, hu⟩ : ∃ u : Nat, P * (a : Int) + Q * (b : Int) = (u : Int) := ⟨_, (Int.toNat_of_nonneg om).symm⟩
 have m1 := leh_mix1 h2 hQ
 have m2 := leh_mix2 (A := (a : Int)) (B := (b : Int)) h2 om t1
 refine ⟨u, v, hu, hv, by omega, by omega, by omega, fun d g1 g2 => ?_, m1.1, m1.2, m2.1, m2.2⟩
 have k := uni_dvd (g := (d : Int)) (A := (a : Int)) (B := (b : Int)) h1 (by rw [hu]; exact Int.natCast_dvd_natCast.2 g1) (by rw [hv]; exact Int.natCast_dvd_natCast.2 g2)
 exact h d (Int.natCast_dvd_natCast.1 k.1) (Int.natCast_dvd_natCast.1 k.2)
theorem zz3 {p : Prop} (h : p := by
 clear hcm la lb hn hra hrb hca hcb hN hab h0 hb0
 go_enter Tryz.func216, Tryz.ntmps216
 go_wp2_with fail
 refine (CM.out _ RA.out RB.out).mono ?_; rintro e0 w0 ⟨rfl, hb0⟩
 have HREL := Hh (REL.out w0 hb0)
 have HB0 := Hh hb0
 clear REL
 go_wp2
 go_loopw [0, 1] (fun av bv wr => CoRel w0 a0 b0 N av bv wr) (fun _ bv wr => magOf bv wr)
 case atStart => exact HREL.out
 case round =>
  obtain ⟨a, b, A, ca, Bv, cb, rfl, rfl, hca, hcb, hra, hrb, ha0, haN, hba, hdv, hin⟩ := hrel
  have lb := Nat.le_trans (dg_len_mono hba) (Nat.le_trans (dg_len_mono haN) HN.out)
  have la := Nat.le_trans (dg_len_mono haN) HN.out
  by_cases h2 : (dg b).length ≤ 2
  ·have d0 : decide (((dg b).length : Int) > 2) = false := decide_eq_false om
   have h2n : ¬ 2 < (dg b).length := by omega
   have HREL := Hh (show CoRel w0 a0 b0 N (.slice A (dg a).length ca) (.slice Bv (dg b).length cb) wr from ⟨a, b, A, ca, Bv, cb, rfl, rfl, hca, hcb, hra, hrb, ha0, haN, hba, hdv, hin⟩)
   clear hra hrb hdv hin la lb ha0 haN hba hca hcb h2
   go_wp2
   go_loopw [0, 1] (fun av bv wr => CoRel w0 a0 b0 N av bv wr) (fun _ bv wr => magOf bv wr)
   case atStart => exact HREL.out
   case round =>
    obtain ⟨a, b, A, ca, Bv, cb, rfl, rfl, hca, hcb, hra, hrb, ha0, haN, hba, hdv, hin⟩ := hrel
    have lb := Nat.le_trans (dg_len_mono hba) (Nat.le_trans (dg_len_mono haN) HN.out)
    have la := Nat.le_trans (dg_len_mono haN) HN.out
    have MB := Hh (mag_is hcb hrb)
    by_cases hb0 : b = 0
    ·subst hb0
     rw [dg_zero]
     have RA := Hh hra; have DV := Hh hdv; have LA := Hh la; have A0 := Hh ha0; clear hra hdv la ha0
     clear hrb hcb lb MB haN hba hca
     go_wp2_with (refine wpList_plain rfl fun K hK => ?_; refine wp_copy (.const (.slice none 0 0)) (.tmp 77) A (dg a) ca rfl rfl rfl rfl RA.out (Nat.le_trans LA.out dc) ?_; intro A' c' w2 hc' hr' hb'; refine hK _ _ ?_)
     go_ret
     exact ⟨a, A0.out, (DV.out a (Nat.dvd_refl a) (Nat.dvd_zero a)).1, (DV.out a (Nat.dvd_refl a) (Nat.dvd_zero a)).2, A', c', rfl, hc', hr', (HB0.out.trans hin).trans hb'⟩
    ·have hlen := dg_len_pos (n := b) hb0
     have d0 : decide (((dg b).length : Int) > 0) = true := decide_eq_true om
     have OV := Hh (Bover a b A Bv ca cb om om om wr hra hrb)
     have RB := Hh hrb; have DV := Hh hdv; have HIN := Hh hin
     have NX := Hh (show 0 < b ∧ b ≤ N ∧ a % b ≤ b ∧ a % b < b from ⟨by omega, by omega, Nat.le_of_lt (Nat.mod_lt a om), Nat.mod_lt a om⟩)
     have HCB := Hh hcb
     clear hra hrb hdv hin la lb hb0 ha0 haN hba hca hcb
     go_wp2_with fail
     refine (OV.out).mono ?_; rintro e1 w1 ⟨A1, c1, A2, c2, rfl, hc1, hc2, hr1, hr2, hb1⟩
     have RB1 := Hh (RB.out.of hb1); have R2 := Hh hr2; have MR := Hh (mag_is hc2 hr2)
     have HC2 := Hh hc2
     clear hr1 hr2 hc1 hc2
     go_wp2
     go_roundw
     case rel => exact ⟨b, a % b, Bv, cb, A2, c2, rfl, rfl, HCB.out, HC2.out, RB1.out, R2.out, NX.out.1, NX.out.2.1, NX.out.2.2.1, dvd_step DV.out, HIN.out.trans hb1⟩
     case measure =>
      show magOf (.slice A2 (dg (a % b)).length c2) w1 < magOf (.slice Bv (dg b).length cb) wr
      rw [MR.out, MB.out]
      exact NX.out.2.2.2
  ·have d0 : decide (((dg b).length : Int) > 2) = true := decide_eq_true om
   have h2n : 2 < (dg b).length := by omega
   have hb64 : 2 ^ 64 ≤ b := by
    have h3 := le_of_dg (n := b) (fun h => by rw [h, dg_zero] at h2; simp at h2)
    have h4 : 4294967296 ^ 2 ≤ 4294967296 ^ ((dg b).length - 1) := Nat.pow_le_pow_right dc om
    rw [show (2 : Nat) ^ 64 = 4294967296 ^ 2 from rfl]
    omega
   have hbl := blen_ge (Nat.le_trans hb64 hba)
   have hbu : blen a ≤ 9600000 := Nat.le_trans (blen_up (Nat.lt_of_lt_of_le (lt_of_dg a) (by rw [show (4294967296 : Nat) = 2 ^ 32 from rfl, ← Nat.pow_mul]; exact Nat.le_refl _))) om
   obtain ⟨n, hn⟩ : ∃ n, n = blen a - 62 := ⟨_, rfl⟩
   have hxa : a / 2 ^ n < 4611686018427387904 := by
    rw [Nat.div_lt_iff_lt_mul (Nat.two_pow_pos _), show (4611686018427387904 : Nat) = 2 ^ 62 from rfl, ← Nat.pow_add, show 62 + n = blen a by omega]
    exact blen_pow a
   have hyb : b / 2 ^ n < 4611686018427387904 := Nat.lt_of_le_of_lt (Nat.div_le_div_right hba) hxa
   have BX := Hh (int_box wr a A ca hca hra)
   have BL := Hh (fun w h => Bbitlen wr.heap.size (a : Int) (by rw [Int.natAbs_natCast]; omega) w h)
   rw [Int.natAbs_natCast] at BL
   have wn : IntKind.i64.wrap ((blen a : Int) - 62) = (n : Int) := by rw [i64_is om om]; omega
   have LDA := Hh (fun w h => Blead a A ca n om om om w h)
   have LDB := Hh (fun w h => Blead b Bv cb n om om om w h)
   have ST := Hh (fun w => Bsteps (a / 2 ^ n) (b / 2 ^ n) hxa hyb w)
   have OV := Hh (fun w h1 h2 => Bover a b A Bv ca cb om om om w h1 h2)
   have MX := Hh (fun (U V : Int) (m : Nat) w h1 h2 hU hV hn h3 h4 => Bmix a b U V m A Bv ca cb h1 h2 hU hV om om hn w h3 h4)
   have MV := Hh (fun (P Q R S : Int) hO hQ => mix_vals (a := a) (b := b) (n := n) (p := 0) (q := 0) (r := 0) (s := 0) (P := P) (Q := Q) (R := R) (S := S) rfl rfl hO hQ ha0 hdv)
   have MB := Hh (mag_is hcb hrb)
   have RA := Hh hra; have RB := Hh hrb; have DV := Hh hdv; have HIN := Hh hin
   have NX := Hh (show 0 < b ∧ b ≤ N ∧ a % b ≤ b ∧ a % b < b from ⟨by omega, by omega, Nat.le_of_lt (Nat.mod_lt a om), Nat.mod_lt a om⟩)
   have HCB := Hh hcb; have LAB := Hh (And.intro la lb); have HBA := Hh (show b ≤ N by omega)
   obtain ⟨bl, hble⟩ : ∃ bl, bl = blen a := ⟨_, rfl⟩
   rw [← hble] at BL wn
   generalize a / 2 ^ n = x at *
   generalize b / 2 ^ n = y at *
   clear hra hrb hdv hin la lb ha0 haN hba hca hcb h2 hb64 hbl hbu hn hxa hyb hble
   have hw1 : Within wr (wr.alloc (.cells #[.bool false, .slice A (dg a).length ca] 94)) := (Within.refl wr).alloc _
   go_wp2_with fail
   refine (BL.out _ BX.out).mono ?_; rintro e1 w1 ⟨rfl, hb1⟩
   have hw2 := hw1.trans hb1
   go_wp2_with fail
   refine (LDA.out _ (RA.out.of hw2)).mono ?_; rintro e2 w2 ⟨rfl, hb2⟩
   have hw3 := hw2.trans hb2
   go_wp2_with fail
   refine (LDB.out _ (RB.out.of hw3)).mono ?_; rintro e3 w3 ⟨rfl, hb3⟩
   have hw4 := hw3.trans hb3
   go_wp2_with fail
   refine (ST.out _).mono ?_; rintro e4 w4 ⟨P, Q, R, S, rfl, hO, hbd, rfl⟩
   have HO := Hh hO; have HBD := Hh hbd
   clear hO hbd
   by_cases hQ : Q = 0
   ·have dq : (Q == 0) = true := beq_iff_eq.2 hQ
    clear hQ
    go_wp2_with fail
    refine (OV.out _ (RA.out.of hw4) (RB.out.of hw4)).mono ?_; rintro e5 w5 ⟨A1, c1, A2, c2, rfl, hc1, hc2, hr1, hr2, hb5⟩
    have hw5 := hw4.trans hb5
    have RB1 := Hh (RB.out.of hw5); have R2 := Hh hr2; have MR := Hh (mag_is hc2 hr2)
    have HC2 := Hh hc2
    clear hr1 hr2 hc1 hc2
    go_wp2
    go_roundw
    case rel => exact ⟨b, a % b, Bv, cb, A2, c2, rfl, rfl, HCB.out, HC2.out, RB1.out, R2.out, NX.out.1, NX.out.2.1, NX.out.2.2.1, dvd_step DV.out, HIN.out.trans hw5⟩
    case measure =>
     show magOf (.slice A2 (dg (a % b)).length c2) w5 < magOf (.slice Bv (dg b).length cb) wr
     rw [MR.out, MB.out]
     exact NX.out.2.2.2
   ·have dq : (Q == 0) = false := beq_eq_false_iff_ne.2 hQ
    obtain ⟨u, v, hu, hv, hvu, hvb, hub, hdv, k1, k2, k3, k4⟩ := MV.out P Q R S HO.out hQ
    have hbd := HBD.out
    have M1 := Hh (fun w h3 h4 => MX.out P Q u w k1 k2 om om hu h3 h4)
    have M2 := Hh (fun w h3 h4 => MX.out R S v w k3 k4 om om hv h3 h4)
    have KK := Hh (show 0 < u ∧ v ≤ u ∧ v < b ∧ u ≤ N by have := HBA.out; omega)
    have DV2 := Hh hdv
    clear hQ hu hv hvu hvb hub hdv k1 k2 k3 k4 hbd
    go_wp2_with fail
    refine (M1.out _ (RA.out.of hw4) (RB.out.of hw4)).mono ?_; rintro e5 w5 ⟨A1, c1, rfl, hc1, hr1, hb5⟩
    have hw5 := hw4.trans hb5
    have R1 := Hh hr1; have HC1 := Hh hc1
    clear hr1 hc1
    go_wp2_with fail
    refine (M2.out _ (RA.out.of hw5) (RB.out.of hw5)).mono ?_; rintro e6 w6 ⟨A2, c2, rfl, hc2, hr2, hb6⟩
    have hw6 := hw5.trans hb6
    have R2 := Hh hr2; have HC2 := Hh hc2; have MR := Hh (mag_is hc2 hr2); have R1' := Hh (R1.out.of hb6)
    clear hr2 hc2
    go_wp2
    go_roundw
    case rel => exact ⟨u, v, A1, c1, A2, c2, rfl, rfl, HC1.out, HC2.out, R1'.out, R2.out, KK.out.1, KK.out.2.2.2, KK.out.2.1, DV2.out, HIN.out.trans hw6⟩
    case measure =>
     show magOf (.slice A2 (dg v).length c2) w6 < magOf (.slice Bv (dg b).length cb) wr
     rw [MR.out, MB.out]
     exact KK.out.2.2.1) : p := h
theorem Bcommon_lt (a0 b0 N : Nat) (a b : Nat) (A Bv : Option Addr) (ca cb : Nat) (hab : a0 < b0) (h0 : 0 < a0) (hb0 : 0 < b0) (hN : a0 ≤ N ∧ b0 ≤ N) (hn : (dg N).length ≤ 300000) (hca : (dg a0).length ≤ ca) (hcb : (dg b0).length ≤ cb) (w : World) (hra : RowAt w A (dg a0)) (hrb : RowAt w Bv (dg b0)) :
 Calls Tryz.prog 216 #[.slice A (dg a0).length ca, .slice Bv (dg b0).length cb] w (fun e w' => ∃ g : Nat, 0 < g ∧ g ∣ a0 ∧ g ∣ b0 ∧ RetW w g e w') := by
 have la := Nat.le_trans (dg_len_mono hN.1) hn
 have lb := Nat.le_trans (dg_len_mono hN.2) hn
 have CM := Hh (fun w h1 h2 => Bcompare a0 b0 A Bv ca cb om om w h1 h2)
 obtain ⟨cm, hcm⟩ : ∃ cm, cm = cmpN a0 b0 := ⟨_, rfl⟩
 have d1 : decide (cm < 0) = true := by rw [hcm]; unfold cmpN; rw [if_pos hab]; decide
 rw [← hcm] at CM
 have HN := Hh hn
 have RA := Hh hra; have RB := Hh hrb
 have REL := Hh (fun wr (hw : Within w wr) => show CoRel wr a0 b0 N (.slice Bv (dg b0).length cb) (.slice A (dg a0).length ca) wr from ⟨b0, a0, Bv, cb, A, ca, rfl, rfl, hcb, hca, hrb.of hw, hra.of hw, hb0, hN.2, by omega, fun d h1 h2 => ⟨h2, h1⟩, Within.refl _⟩)
 exact zz3
theorem Bcommon_ge (a0 b0 N : Nat) (a b : Nat) (A Bv : Option Addr) (ca cb : Nat) (hab : b0 ≤ a0) (h0 : 0 < a0) (hb0 : 0 < b0) (hN : a0 ≤ N ∧ b0 ≤ N) (hn : (dg N).length ≤ 300000) (hca : (dg a0).length ≤ ca) (hcb : (dg b0).length ≤ cb) (w : World) (hra : RowAt w A (dg a0)) (hrb : RowAt w Bv (dg b0)) :
 Calls Tryz.prog 216 #[.slice A (dg a0).length ca, .slice Bv (dg b0).length cb] w (fun e w' => ∃ g : Nat, 0 < g ∧ g ∣ a0 ∧ g ∣ b0 ∧ RetW w g e w') := by
 have la := Nat.le_trans (dg_len_mono hN.1) hn
 have lb := Nat.le_trans (dg_len_mono hN.2) hn
 have CM := Hh (fun w h1 h2 => Bcompare a0 b0 A Bv ca cb om om w h1 h2)
 obtain ⟨cm, hcm⟩ : ∃ cm, cm = cmpN a0 b0 := ⟨_, rfl⟩
 have d1 : decide (cm < 0) = false := by rw [hcm]; unfold cmpN; rw [if_neg om]; split <;> decide
 rw [← hcm] at CM
 have HN := Hh hn
 have RA := Hh hra; have RB := Hh hrb
 have REL := Hh (fun wr (hw : Within w wr) => show CoRel wr a0 b0 N (.slice A (dg a0).length ca) (.slice Bv (dg b0).length cb) wr from ⟨a0, b0, A, ca, Bv, cb, rfl, rfl, hca, hcb, hra.of hw, hrb.of hw, h0, hN.1, hab, fun d h1 h2 => ⟨h1, h2⟩, Within.refl _⟩)
 exact zz3
theorem Bcommon (a b N : Nat) (A Bv : Option Addr) (ca cb : Nat) (h0 : 0 < a) (hb0 : 0 < b) (hN : a ≤ N ∧ b ≤ N) (hn : (dg N).length ≤ 300000) (hca : (dg a).length ≤ ca) (hcb : (dg b).length ≤ cb) (w : World) (hra : RowAt w A (dg a)) (hrb : RowAt w Bv (dg b)) :
 Calls Tryz.prog 216 #[.slice A (dg a).length ca, .slice Bv (dg b).length cb] w (fun e w' => ∃ g : Nat, 0 < g ∧ g ∣ a ∧ g ∣ b ∧ RetW w g e w') := by
 rcases Nat.lt_or_ge a b with h | h
 ·exact Bcommon_lt a b N a b A Bv ca cb h h0 hb0 hN hn hca hcb w hra hrb
 ·exact Bcommon_ge a b N a b A Bv ca cb h h0 hb0 hN hn hca hcb w hra hrb
end Go.Proofs.YtgkcpnidmfejeaaGreatDoor
section
namespace Go.Proofs.YtgkcpnidmfejeaaGreatDoor.P64
open Go.RowKit
theorem blen_top {n k : Nat} (hk : (dg n).length = k + 1) : blen n = 64 * k + Lib.bitLen ((dg n).getD k 0) ∧ (dg n).getD k 0 ≠ 0 ∧ (dg n).getD k 0 < 18446744073709551616 := by
 have h0 : n ≠ 0 := fun h => by rw [h, dg_zero] at hk; simp at hk
 have ht := dg_last h0
 rw [hk, Nat.add_sub_cancel] at ht
 have hw := (words_dg n).getD k
 refine ⟨?_, ht, hw⟩
 have hs := lo_succ (dg n) k
 rw [lo_all _ (Nat.le_of_eq hk), wval_dg] at hs
 have hl := lo_lt (dg n) (words_dg n) k
 rw [blen_pos h0, bitLen_log2 _ ht om]
 generalize (dg n).getD k 0 = t at *
 have e : (18446744073709551616 : Nat) ^ k = 2 ^ (64 * k) := by rw [show (18446744073709551616 : Nat) = 2 ^ 64 from rfl, ← Nat.pow_mul]
 rw [e] at hs hl
 have h1 : n / 2 ^ (64 * k) = t := by
  rw [hs, Nat.add_mul_div_left _ _ (Nat.two_pow_pos _), Nat.div_eq_of_lt hl, Nat.zero_add]
 have h2 : n.log2 = 64 * k + t.log2 := by
  rw [Nat.log2_eq_iff h0]
  have a1 := Nat.log2_self_le ht
  have a2 := Nat.lt_log2_self (n := t)
  constructor
  ·rw [Nat.pow_add]
   calc 2 ^ (64 * k) * 2 ^ t.log2 ≤ 2 ^ (64 * k) * t := Nat.mul_le_mul_left _ a1
    _ ≤ n := by rw [← h1]; exact Nat.mul_div_le _ _
  ·rw [Nat.add_assoc, Nat.pow_add]
   have : n < 2 ^ (64 * k) * (t + 1) := by rw [← h1]; exact Nat.lt_mul_div_succ _ (Nat.two_pow_pos _)
   exact Nat.lt_of_lt_of_le this (Nat.mul_le_mul_left _ a2)
 omega
theorem lo_none {l : List Nat} : ∀ k, (∀ j, j < k → l.getD j 0 = 0) → lo l k = 0
 | 0, _ => lo_zero l
 | k + 1, h => by rw [lo_succ, lo_none k fun j hj => h j om, h k om, Nat.mul_zero]
theorem tzb_split {l : List Nat} (hw : Words l) {k : Nat} (hk : k < l.length) (hz : ∀ j, j < k → l.getD j 0 = 0) (h0 : l.getD k 0 ≠ 0) : ∃ m, wval l = 2 ^ (64 * k + Lib.ctz 64 (l.getD k 0)) * (2 * m + 1) := by
 obtain ⟨m, h1, h2⟩ := ctz_split _ h0 (hw.getD k)
 have e : l.drop k = l.getD k 0 :: l.drop (k + 1) := by rw [List.drop_eq_getElem_cons hk, List.getD, List.getElem?_eq_getElem hk]; rfl
 have h3 := wval_split l k
 rw [lo_none k hz, Nat.zero_add, e] at h3
 have h4 : wval (l.getD k 0 :: l.drop (k + 1)) = l.getD k 0 + 18446744073709551616 * wval (l.drop (k + 1)) := rfl
 rw [h4] at h3
 generalize Lib.ctz 64 (l.getD k 0) = c at *
 refine ⟨m + 2 ^ (63 - c) * wval (l.drop (k + 1)), ?_⟩
 rw [h3, h1, show (18446744073709551616 : Nat) = 2 ^ c * (2 * 2 ^ (63 - c)) by rw [← Nat.pow_succ', ← Nat.pow_add, show c + (63 - c + 1) = 64 by omega], show (2 ^ c * (2 * 2 ^ (63 - c))) ^ k = 2 ^ (64 * k) by rw [← Nat.pow_succ', ← Nat.pow_add, show c + (63 - c + 1) = 64 by omega, ← Nat.pow_mul], Nat.pow_add]
 generalize 2 ^ c = X
 generalize 2 ^ (63 - c) = Y
 generalize 2 ^ (64 * k) = Z
 generalize wval (l.drop (k + 1)) = V
 grind
theorem Ptzb (x : Nat) (v : Int) (h0 : v ≠ 0) (hl : (dg v.natAbs).length ≤ 1000000) (w : World) (hT : Tab w) (hx : IntB w x v) : Calls Tryz.prog 322 #[.pointer (some ⟨x, 0, none⟩)] w (fun e w' => ∃ t m : Nat, e = .returned (.int .u64 (t : Int)) ∧ v.natAbs = 2 ^ t * (2 * m + 1) ∧ t ≤ 64000000 ∧ w = w') := by
 obtain ⟨A, ca, a0, a1, hra⟩ := hx.rd
 have hxl := World.block_lt_of_cell? _ _ a1
 obtain ⟨l, hl'⟩ : ∃ l, l = dg v.natAbs := ⟨_, rfl⟩
 have hwl : Words l := by rw [hl']; exact words_dg _
 have hvl : wval l = v.natAbs := by rw [hl', wval_dg]
 rw [← hl'] at a1 hra hl
 clear hl' hx a0
 have HW := Hh hwl; have HV := Hh hvl; have HR := Hh hra; have HT := Hh hT; have H0 := Hh h0; clear hwl hvl hra hT h0
 go_enter Tryz.func322, Tryz.ntmps322
 go_wp2
 go_loopw [10] (fun iv wr => ∃ k : Nat, k ≤ l.length ∧ iv = .int .i64 (k : Int) ∧ (∀ j, j < k → l.getD j 0 = 0) ∧ w = wr) (fun iv _ => l.length - (intOf iv).toNat)
 case atStart => exact ⟨0, Nat.zero_le _, rfl, fun j hj => absurd hj (Nat.not_lt_zero _), rfl⟩
 case round =>
  obtain ⟨k, hk, rfl, hzs, rfl⟩ := hrel
  have HZ := Hh hzs; clear hzs
  by_cases hlt : k < l.length
  ·obtain ⟨g, rfl, hg, hc⟩ := HR.out.cell hlt
   by_cases hx0 : l.getD k 0 = 0
   ·rw [hx0] at hc
    have HZ2 := Hh (show ∀ j, j < k + 1 → l.getD j 0 = 0 from fun j hj => (Nat.lt_succ_iff_lt_or_eq.1 hj).elim (HZ.out j) (fun h => h ▸ hx0))
    clear hx0
    go_wp2
    go_roundw
    case rel => exact ⟨k + 1, hlt, by go_num, HZ2.out, (by first | rfl | trivial)⟩
    case measure => first | (simp [intOf]; done) | (simp [intOf]; omega)
   ·obtain ⟨m, hm⟩ := tzb_split HW.out hlt HZ.out hx0
    rw [HV.out] at hm
    have hx32 := HW.out.getD k
    obtain ⟨_, _, hct⟩ := ctz_split _ hx0 hx32
    obtain ⟨y, hy⟩ : ∃ y, y = l.getD k 0 := ⟨_, rfl⟩
    rw [← hy] at hc hm hx0 hx32 hct
    have TZ := Hh (fun w hT => bits_tz64 y hx32 w hT)
    have n0 : ((y : Int) != 0) = true := by rw [bne_iff_ne]; omega
    obtain ⟨c, hc2⟩ : ∃ c, c = Lib.ctz 64 y := ⟨_, rfl⟩
    rw [← hc2] at TZ hm hct
    have HM := Hh hm; clear hc2 hm hy hx0 hx32
    have e1 : IntKind.i64.wrap (64 * (k : Int)) = 64 * (k : Int) := IntWalk.i64_in _ ⟨by omega, by omega⟩
    have e2 : IntKind.i64.wrap (64 * (k : Int) + (c : Int)) = 64 * (k : Int) + (c : Int) := IntWalk.i64_in _ ⟨by omega, by omega⟩
    have e3 : IntKind.u64.wrap (64 * (k : Int) + (c : Int)) = ((64 * k + c : Nat) : Int) := by rw [IntKind.wrap_u64]; omega
    go_wp2_with fail
    refine (TZ.out _ HT.out).mono ?_; rintro e5 w5 ⟨rfl, rfl⟩
    go_wp2
    go_ret
    exact ⟨64 * k + c, m, rfl, HM.out, by omega, rfl⟩
  ·obtain rfl : k = l.length := by omega
   exfalso
   have h1 := lo_none l.length HZ.out
   rw [lo_all l (Nat.le_refl _), HV.out] at h1
   exact H0.out om
theorem Plength_zero (A : Option Addr) (c : Nat) (w : World) : Calls Tryz.prog 323 #[.slice A 0 c] w (fun e w' => e = .returned (.int .i64 0) ∧ w = w') := by
 go_enter Tryz.func323, Tryz.ntmps323
 go_wp2
 go_ret
 exact ⟨rfl, rfl⟩
theorem Plength_pos (k t gm c L : Nat) (hk : k ≤ 1000000) (hL : L ≤ 64) (w : World) (ct : w.cell? ⟨gm, k, none⟩ = some (.int .u64 (t : Int))) (LN : Hid (∀ w, Calls Tryz.prog 353 #[.int .u64 (t : Int)] w (fun e w' => e = .returned (.int .i64 (L : Int)) ∧ w = w'))) : Calls Tryz.prog 323 #[.slice (some ⟨gm, 0, none⟩) (k + 1) c] w (fun e w' => e = .returned (.int .i64 (64 * (k : Int) + (L : Int))) ∧ w = w') := by
 have e1 : IntKind.i64.wrap (k : Int) = (k : Int) := by rw [IntKind.wrap_i64]; omega
 have e2 : IntKind.i64.wrap (64 * (k : Int)) = 64 * (k : Int) := by rw [IntKind.wrap_i64]; omega
 have e3 : IntKind.i64.wrap (64 * (k : Int) + (L : Int)) = 64 * (k : Int) + (L : Int) := by rw [IntKind.wrap_i64]; omega
 have e4 : (k : Int) < (k : Int) + 1 := by omega
 go_enter Tryz.func323, Tryz.ntmps323
 go_wp2_with fail
 refine (LN.out _).mono ?_; rintro e1 w1 ⟨rfl, rfl⟩
 go_wp2
 go_ret
 exact ⟨rfl, rfl⟩
theorem Plength (n : Nat) (A : Option Addr) (c : Nat) (hl : (dg n).length ≤ 1000000) (w : World) (hr : RowAt w A (dg n)) : Calls Tryz.prog 323 #[.slice A (dg n).length c] w (fun e w' => e = .returned (.int .i64 (blen n : Nat)) ∧ w = w') := by
 by_cases h : n = 0
 ·subst h
  rw [show (dg 0).length = 0 by rw [dg_zero]; rfl]
  exact Plength_zero A c w
 ·obtain ⟨k, hk⟩ : ∃ k, (dg n).length = k + 1 := ⟨_, (Nat.succ_pred_eq_of_pos (dg_len_pos h)).symm⟩
  obtain ⟨g, rfl, _, ct⟩ := hr.cell (i := k) om
  obtain ⟨hb, h0, hlt⟩ := blen_top hk
  have hL : Lib.bitLen ((dg n).getD k 0) ≤ 64 := by
   rw [bitLen_log2 _ h0 hlt]
   have := (Nat.log2_lt h0 (k := 64)).2 hlt
   omega
  rw [hk]
  refine (Plength_pos k _ g c _ om hL w ct (Hh fun w => bits_len64 _ hlt w)).mono fun e w' h => ⟨h.1.trans (ret_int ?_), h.2⟩
  rw [hb]; omega
theorem Pbitlen0 (x n : Nat) (A : Option Addr) (c : Nat) (hl : (dg n).length ≤ 1000000) (w : World) (a1 : w.cell? ⟨x, 1, none⟩ = some (.slice A (dg n).length c)) (hr : RowAt w A (dg n)) : Calls Tryz.prog 258 #[.pointer (some ⟨x, 0, none⟩)] w (fun e w' => e = .returned (.int .i64 (blen n : Nat)) ∧ w = w') := by
 have LN := Hh (fun w h => Plength n A c hl w h)
 have HR := Hh hr; clear hr hl
 generalize hB : blen n = bl at *; generalize hL : (dg n).length = L at *
 clear hB hL
 go_enter Tryz.func258, Tryz.ntmps258
 go_wp2_with fail
 refine (LN.out _ HR.out).mono ?_; rintro e1 w1 ⟨rfl, rfl⟩
 go_wp2
 go_ret
 exact ⟨rfl, rfl⟩
theorem Pbitlen (x : Nat) (v : Int) (hl : (dg v.natAbs).length ≤ 1000000) (w : World) (hx : IntB w x v) : Calls Tryz.prog 258 #[.pointer (some ⟨x, 0, none⟩)] w (fun e w' => e = .returned (.int .i64 (blen v.natAbs : Nat)) ∧ w = w') := by
 obtain ⟨A, c, c0, c1, hr⟩ := hx.rd
 exact Pbitlen0 x v.natAbs A c hl w c1 hr
end Go.Proofs.YtgkcpnidmfejeaaGreatDoor.P64
end
section
namespace Go.Proofs.YtgkcpnidmfejeaaGreatDoor
def Fi (x : Nat) : Prop := x < 18446744073709551616 ∧ x % 9223372036854775808 < 9218868437227405312
def rn (z : Int) : Int := if z < 0 then -((Fp.mag Ieee.double (Fp.grid Ieee.double z.natAbs 0) : Nat) : Int) else ((Fp.mag Ieee.double (Fp.grid Ieee.double z.natAbs 0) : Nat) : Int)
theorem rn_zero : rn 0 = 0 := by unfold rn; rw [if_neg dc, Int.natAbs_zero, Fp.grid_zero, Fp.mag_zero]; rfl
theorem word_fi (b : Bool) {r : Nat} (h : r < 9218868437227405312) : Fi (Ieee.double.word b r) ∧ Fp.un Ieee.double (Ieee.double.word b r) = if b then -((Fp.mag Ieee.double r : Nat) : Int) else ((Fp.mag Ieee.double r : Nat) : Int) := by
 have hs : r < Ieee.double.signWeight := by rw [Fp.dS]; omega
 have h1 := Fp.rg_word Ieee.double b r hs
 have h2 := Fp.sg_word Ieee.double b r hs
 refine ⟨⟨?_, ?_⟩, ?_⟩
 ·unfold Ieee.Format.word; rw [Fp.dS]; split <;> omega
 ·rw [← Fp.rg64, h1]; exact h
 ·unfold Fp.un; rw [h1, h2]
theorem Fi.rg {x : Nat} (h : Fi x) : Fp.rg Ieee.double x < Ieee.double.infRung := by rw [Fp.rg64, Fp.dI]; exact h.2
theorem Fi.le {x : Nat} (h : Fi x) : x % 9223372036854775808 ≤ 9218868437227405312 := Nat.le_of_lt h.2
/-! the steps of a sum -/
def sumS (A B : Int) : Int := rn (A + B)
def sumT (A B : Int) : Int := rn (sumS A B - A)
def sumL (A B : Int) : Int := rn (rn (A - rn (sumS A B - sumT A B)) + rn (B - sumT A B))
end Go.Proofs.YtgkcpnidmfejeaaGreatDoor
end
section
namespace Go.Proofs.YtgkcpnidmfejeaaGreatDoor
inductive En where
 | lo
 | fn (r : Rat)
 | hi
def En.le : En → En → Prop
 | .lo, _ => True
 | _, .hi => True
 | .fn a, .fn b => a ≤ b
 | _, _ => False
def En.mul : En → En → En
 | .fn a, .fn b => .fn (a * b)
 | .fn a, .lo => if a = 0 then .fn 0 else if 0 < a then .lo else .hi
 | .fn a, .hi => if a = 0 then .fn 0 else if 0 < a then .hi else .lo
 | .lo, .fn a => if a = 0 then .fn 0 else if 0 < a then .lo else .hi
 | .hi, .fn a => if a = 0 then .fn 0 else if 0 < a then .hi else .lo
 | .lo, .lo => .hi
 | .hi, .hi => .hi
 | .lo, .hi => .lo
 | .hi, .lo => .lo
def En.neg : En → En
 | .lo => .hi
 | .hi => .lo
 | .fn a => .fn (-a)
theorem En.le_fn (a b : Rat) : (En.fn a).le (.fn b) ↔ a ≤ b := Iff.rfl
theorem En.le_self (a : En) : a.le a := by
 cases a <;> simp [En.le]
theorem En.trans {a b c : En} (h : a.le b) (g : b.le c) : a.le c := by
 cases a <;> cases b <;> cases c <;> simp_all [En.le] <;> grind
theorem En.mul_neg (a b : En) : a.mul b.neg = (a.mul b).neg := by
 cases a <;> cases b <;> simp [En.mul, En.neg] <;> grind [En.neg]
theorem En.mul_comm (a b : En) : a.mul b = b.mul a := by
 cases a <;> cases b <;> simp [En.mul] <;> grind
theorem En.neg_neg (a : En) : a.neg.neg = a := by cases a <;> simp [En.neg]
theorem En.neg_le (a b : En) : a.neg.le b.neg ↔ b.le a := by
 cases a <;> cases b <;> simp [En.neg, En.le] <;> grind
theorem rat_or (a b : Rat) : a < b ∨ b ≤ a := by
 by_cases e : b ≤ a
 ·exact .inr e
 ·exact .inl (by grind)
theorem rmul_le {a b c : Rat} (h : a ≤ b) (hc : 0 ≤ c) : a * c ≤ b * c := Rat.mul_le_mul_of_nonneg_right h hc
theorem En.mul_pos {x : En} {p q : Rat} (h : x.le (.fn p)) (hq : 0 ≤ q) : (x.mul (.fn q)).le (.fn (p * q)) := by
 cases x with
 | lo =>
  simp only [En.mul]
  by_cases h0 : q = 0
  ·subst h0; simp [En.le]
  ·rw [if_neg h0, if_pos (by grind)]; simp [En.le]
 | fn r => exact rmul_le h hq
 | hi => simp [En.le] at h
theorem En.mul_end {e M N : En} {q : Rat} (h1 : M.le (.fn q)) (h2 : (En.fn q).le N) : (e.mul M).le (e.mul (.fn q)) ∨ (e.mul N).le (e.mul (.fn q)) := by
 cases e with
 | lo =>
  rcases rat_or 0 q with hq | hq
  ·right
   have e1 : En.mul .lo N = .lo := by
    cases N with
    | lo => simp [En.le] at h2
    | fn n => simp only [En.mul]; have := (En.le_fn _ _).1 h2; rw [if_neg (by grind), if_pos (by grind)]
    | hi => rfl
   rw [e1]; simp [En.le]
  ·by_cases h0 : q = 0
   ·subst h0
    right
    cases N with
    | lo => simp [En.le] at h2
    | fn n =>
     simp only [En.mul]
     have := (En.le_fn _ _).1 h2
     by_cases hn : n = 0
     ·rw [if_pos hn]; simp [En.le]
     ·rw [if_neg hn, if_pos (by grind)]; simp [En.le]
    | hi => simp [En.mul, En.le]
   ·left
    simp only [En.mul]
    rw [if_neg h0, if_neg (by grind)]
    cases M <;> simp [En.le] <;> grind [En.le]
 | hi =>
  rcases rat_or 0 q with hq | hq
  ·left
   simp only [En.mul]
   rw [if_neg (by grind), if_pos hq]
   cases M <;> simp [En.le] <;> grind [En.le]
  ·left
   by_cases h0 : q = 0
   ·subst h0
    cases M with
    | hi => simp [En.le] at h1
    | fn n =>
     simp only [En.mul]
     have := (En.le_fn _ _).1 h1
     by_cases hn : n = 0
     ·rw [if_pos hn]; simp [En.le]
     ·rw [if_neg hn, if_neg (by grind)]; simp [En.le]
    | lo => simp [En.mul, En.le]
   ·have e1 : En.mul .hi M = .lo := by
     cases M with
     | hi => simp [En.le] at h1
     | fn n => simp only [En.mul]; have := (En.le_fn _ _).1 h1; rw [if_neg (by grind), if_neg (by grind)]
     | lo => rfl
    rw [e1]; simp [En.le]
 | fn r =>
  rcases rat_or r 0 with hr | hr
  ·right
   cases N with
   | lo => simp [En.le] at h2
   | fn n =>
    have h3 := (En.le_fn _ _).1 h2
    have := rmul_le h3 (show (0 : Rat) ≤ -r by grind)
    show r * n ≤ r * q
    grind
   | hi => simp only [En.mul]; rw [if_neg (by grind), if_neg (by grind)]; simp [En.le]
  ·left
   cases M with
   | hi => simp [En.le] at h1
   | fn n =>
    have h3 := (En.le_fn _ _).1 h1
    have := rmul_le h3 hr
    show r * n ≤ r * q
    grind
   | lo =>
    simp only [En.mul]
    by_cases h0 : r = 0
    ·rw [if_pos h0]; subst h0; simp [En.le]
    ·rw [if_neg h0, if_pos (by grind)]; simp [En.le]
theorem En.corner {L H M N : En} {p q : Rat} (h1 : L.le (.fn p)) (h2 : (En.fn p).le H) (h3 : M.le (.fn q)) (h4 : (En.fn q).le N) :
 (L.mul M).le (.fn (p * q)) ∨ (L.mul N).le (.fn (p * q)) ∨ (H.mul M).le (.fn (p * q)) ∨ (H.mul N).le (.fn (p * q)) := by
 rcases rat_or q 0 with hq | hq
 ·have a : (H.mul (.fn q)).le (.fn (p * q)) := by
   have := En.mul_pos (x := H.neg) (p := -p) (q := -q) (by have := (En.neg_le H (.fn p)).2 h2; simpa [En.neg] using this) (by grind)
   have e1 : En.mul H.neg (.fn (-q)) = H.mul (.fn q) := by
    have : (En.fn (-q)) = (En.fn q).neg := rfl
    rw [this, En.mul_neg, En.mul_comm H.neg, En.mul_neg, En.neg_neg, En.mul_comm]
   rw [e1] at this
   have e2 : -p * -q = p * q := by grind
   rwa [e2] at this
  rcases En.mul_end (e := H) h3 h4 with b | b
  ·exact .inr (.inr (.inl (En.trans b a)))
  ·exact .inr (.inr (.inr (En.trans b a)))
 ·have a := En.mul_pos (x := L) h1 hq
  rcases En.mul_end (e := L) h3 h4 with b | b
  ·exact .inl (En.trans b a)
  ·exact .inr (.inl (En.trans b a))
theorem En.corner_hi {L H M N : En} {p q : Rat} (h1 : L.le (.fn p)) (h2 : (En.fn p).le H) (h3 : M.le (.fn q)) (h4 : (En.fn q).le N) :
 (En.fn (p * q)).le (L.mul M) ∨ (En.fn (p * q)).le (L.mul N) ∨ (En.fn (p * q)).le (H.mul M) ∨ (En.fn (p * q)).le (H.mul N) := by
 have h3' : (En.fn (-q)).le M.neg := (En.neg_le (.fn q) M).2 h3
 have h4' : N.neg.le (.fn (-q)) := (En.neg_le N (.fn q)).2 h4
 have k := En.corner h1 h2 h4' h3'
 have e (x : En) : ((x.neg).le (.fn (p * -q))) ↔ (En.fn (p * q)).le x := by
  have : (En.fn (p * -q)) = (En.fn (p * q)).neg := by show En.fn _ = En.fn _; congr 1; grind
  rw [this, En.neg_le]
 simp only [En.mul_neg, e] at k
 grind
def En.quo : En → En → En
 | .fn a, .fn b => if a = 0 then .fn 0 else if b = 0 then (if 0 < a then .hi else .lo) else .fn (a / b)
 | .lo, .fn _ => .lo
 | .hi, .fn _ => .hi
 | _, _ => .fn 0
def En.isNeg : En → Bool
 | .lo => true
 | .fn a => decide (a < 0)
 | .hi => false
theorem le_of_mul {x y m : Rat} (hm : 0 < m) (h : x * m ≤ y * m) : x ≤ y := by
 rcases rat_or y x with g | g
 ·have := Rat.mul_lt_mul_of_pos_right g hm
  grind
 ·exact g
theorem div_mul {a b : Rat} (hb : 0 < b) : a / b * b = a := by grind
theorem quo_least {l p m q n : Rat} (h : l ≤ p) (hm : 0 < m) (hq : 0 < q) (hn : 0 < n) (h1 : l < 0 → m ≤ q) (h2 : 0 ≤ l → q ≤ n) : (l < 0 → l / m ≤ p / q) ∧ (0 ≤ l → l / n ≤ p / q) := by
 have e1 := div_mul (a := l) hm
 have e2 := div_mul (a := p) hq
 have e3 := div_mul (a := l) hn
 refine ⟨fun g => ?_, fun g => ?_⟩
 ·apply le_of_mul hq
  rw [e2]
  have k : l / m < 0 := by
   rcases rat_or (l / m) 0 with k | k
   ·exact k
   ·have := Rat.mul_nonneg k (Rat.le_of_lt hm); grind
  have := rmul_le (h1 g) (show (0 : Rat) ≤ -(l / m) by grind)
  grind
 ·apply le_of_mul hq
  rw [e2]
  have k : 0 ≤ l / n := by
   rcases rat_or (l / n) 0 with k | k
   ·have := Rat.mul_lt_mul_of_pos_right k hn; grind
   ·exact k
  have := rmul_le (h2 g) k
  grind
theorem En.over_lo {L M N : En} {p q : Rat} (h : L.le (.fn p)) (hM : (En.fn 0).le M) (h1 : M.le (.fn q)) (h2 : (En.fn q).le N) (hq : 0 < q) :
 (L.quo (if L.isNeg then M else N)).le (.fn (p / q)) := by
 cases L with
 | hi => simp [En.le] at h
 | lo =>
  cases M with
  | lo => simp [En.le] at hM
  | hi => simp [En.le] at h1
  | fn m => simp [En.isNeg, En.quo, En.le]
 | fn l =>
  have hl := (En.le_fn _ _).1 h
  rcases rat_or l 0 with g | g
  ·have e : En.isNeg (.fn l) = true := by simp [En.isNeg, g]
   rw [e, if_pos rfl]
   cases M with
   | lo => simp [En.le] at hM
   | hi => simp [En.le] at h1
   | fn m =>
    have hm := (En.le_fn _ _).1 hM
    have hm2 := (En.le_fn _ _).1 h1
    simp only [En.quo]
    rw [if_neg (by grind)]
    by_cases h0 : m = 0
    ·rw [if_pos h0, if_neg (by grind)]; simp [En.le]
    ·rw [if_neg h0]
     exact (quo_least (n := q) hl (by grind) hq hq (fun _ => hm2) (fun _ => Rat.le_refl)).1 g
  ·have e : En.isNeg (.fn l) = false := by simp [En.isNeg]; grind
   rw [e, if_neg (by simp)]
   have pos : 0 ≤ p / q := by
    apply le_of_mul hq
    rw [div_mul hq]; grind
   cases N with
   | lo => simp [En.le] at h2
   | hi => simpa [En.quo, En.le] using pos
   | fn n =>
    have hn := (En.le_fn _ _).1 h2
    simp only [En.quo]
    by_cases h0 : l = 0
    ·rw [if_pos h0]; exact pos
    ·rw [if_neg h0, if_neg (by grind)]
     exact (quo_least (m := q) hl hq hq (by grind) (fun _ => Rat.le_refl) (fun _ => hn)).2 g
theorem En.quo_neg {e y : En} : e.neg.quo y = (e.quo y).neg := by
 cases e <;> cases y <;> simp [En.quo, En.neg] <;> grind [En.neg]
theorem En.over_hi {H M N : En} {p q : Rat} (h : (En.fn p).le H) (hM : (En.fn 0).le M) (h1 : M.le (.fn q)) (h2 : (En.fn q).le N) (hq : 0 < q) :
 (En.fn (p / q)).le (H.quo (if H.neg.isNeg then M else N)) := by
 have k := En.over_lo (L := H.neg) (p := -p) ((En.neg_le H (.fn p)).2 h) hM h1 h2 hq
 rw [En.quo_neg] at k
 have e : (En.fn (-p / q)) = (En.fn (p / q)).neg := by show En.fn _ = En.fn _; congr 1; grind
 rw [e, En.neg_le] at k
 exact k
end Go.Proofs.YtgkcpnidmfejeaaGreatDoor
end
section
namespace Go.Proofs.YtgkcpnidmfejeaaGreatDoor
def Sane (x : Nat) : Prop := x < 18446744073709551616 ∧ x % 9223372036854775808 ≤ 9218868437227405312
theorem Fi.sane {x : Nat} (h : Fi x) : Sane x := ⟨h.1, Nat.le_of_lt h.2⟩
def uE : Nat := 1074
def u1 : Nat := 2 ^ uE
theorem u1_pos : 0 < u1 := Nat.two_pow_pos uE
def rvD (x : Nat) : Rat := (Fp.un Ieee.double x : Rat) / (u1 : Rat)
def RnO (q : Nat) (e : Rat) : Prop := Sane q ∧ ∀ y, Fi y → (rvD y ≤ e → Fp.un Ieee.double y ≤ Fp.un Ieee.double q) ∧ (e ≤ rvD y → Fp.un Ieee.double q ≤ Fp.un Ieee.double y)
theorem word_sane (b : Bool) {r : Nat} (h : r ≤ 9218868437227405312) : Sane (Ieee.double.word b r) ∧ Fp.un Ieee.double (Ieee.double.word b r) = Fp.val b (Fp.mag Ieee.double r) := by
 have hs : r < Ieee.double.signWeight := by rw [Fp.dS]; omega
 have h1 := Fp.rg_word Ieee.double b r hs
 have h2 := Fp.sg_word Ieee.double b r hs
 refine ⟨⟨?_, ?_⟩, ?_⟩
 ·unfold Ieee.Format.word; rw [Fp.dS]; split <;> omega
 ·rw [← Fp.rg64, h1]; exact h
 ·unfold Fp.un Fp.val; rw [h1, h2]
theorem un_val (x : Nat) : Fp.un Ieee.double x = Fp.val (Fp.sg Ieee.double x) (Fp.mag Ieee.double (Fp.rg Ieee.double x)) := by
 unfold Fp.un Fp.val; rfl
theorem zz101 {p : Prop} (h : p := by
 intro h
 have g := Fp.grid_mono Ieee.double Fp.dF s h
 rw [Fp.grid_mag Ieee.double Fp.dF] at g
 exact Fp.mag_mono Ieee.double om) : p := h
theorem near_core (neg sy : Bool) (V s ry : Nat) (hr : ry ≤ Ieee.double.infRung) :
 (Fp.val sy (Fp.mag Ieee.double ry) * (2 ^ s : Nat) ≤ Fp.val neg V → Fp.val sy (Fp.mag Ieee.double ry) ≤ Fp.val neg (Fp.mag Ieee.double (min (Fp.grid Ieee.double V s) Ieee.double.infRung))) ∧
 (Fp.val neg V ≤ Fp.val sy (Fp.mag Ieee.double ry) * (2 ^ s : Nat) → Fp.val neg (Fp.mag Ieee.double (min (Fp.grid Ieee.double V s) Ieee.double.infRung)) ≤ Fp.val sy (Fp.mag Ieee.double ry)) := by
 have up : Fp.mag Ieee.double ry * 2 ^ s ≤ V → Fp.mag Ieee.double ry ≤ Fp.mag Ieee.double (min (Fp.grid Ieee.double V s) Ieee.double.infRung) := by
  exact zz101
 have dn : V ≤ Fp.mag Ieee.double ry * 2 ^ s → Fp.mag Ieee.double (min (Fp.grid Ieee.double V s) Ieee.double.infRung) ≤ Fp.mag Ieee.double ry := by
  exact zz101
 have zr : V = 0 → Fp.mag Ieee.double (min (Fp.grid Ieee.double V s) Ieee.double.infRung) = 0 := by
  intro h
  rw [h, Fp.grid_zero, Nat.zero_min, Fp.mag_zero]
 have hp : 0 < 2 ^ s := Nat.two_pow_pos s
 have z0 : Fp.mag Ieee.double ry * 2 ^ s = 0 → Fp.mag Ieee.double ry = 0 := fun h => (Nat.mul_eq_zero.1 h).resolve_right om
 generalize Fp.mag Ieee.double (min (Fp.grid Ieee.double V s) Ieee.double.infRung) = R at *
 generalize hY : Fp.mag Ieee.double ry = Y at *
 have cst : ((Y * 2 ^ s : Nat) : Int) = (Y : Int) * ((2 ^ s : Nat) : Int) := Int.natCast_mul _ _
 generalize ((2 ^ s : Nat) : Int) = P at *
 generalize Y * 2 ^ s = Z at *
 cases neg <;> cases sy <;> simp only [Fp.val, if_true, Bool.false_eq_true, if_false, Int.neg_mul, ← cst] <;> constructor <;> intro h
 ·have := up om; omega
 ·have := dn om; omega
 ·omega
 ·have := zr om; have := z0 om; omega
 ·have := zr om; have := z0 om; omega
 ·omega
 ·have := dn om; omega
 ·have := up om; omega
theorem zz49 {p : Prop} (h : p := by
 have c0 : (0 : Rat) < (c : Rat) := by exact_mod_cast hc
 have cd0 : (0 : Rat) < ((c * d : Nat) : Rat) := by exact_mod_cast Nat.mul_pos hc hd
 have e1 : (a : Rat) / (c : Rat) * ((c * d : Nat) : Rat) = ((a * (d : Int) : Int) : Rat) := by push_cast; grind
 have e2 : (b : Rat) / ((c * d : Nat) : Rat) * ((c * d : Nat) : Rat) = (b : Rat) := div_mul cd0
 constructor
 ·intro h
  have := rmul_le h (Rat.le_of_lt cd0)
  rw [e1, e2] at this
  exact_mod_cast this
 ·intro h
  apply le_of_mul cd0
  rw [e1, e2]
  exact_mod_cast h) : p := h
theorem rat_int_le {a b : Int} {c d : Nat} (hc : 0 < c) (hd : 0 < d) : ((a : Rat) / (c : Rat) ≤ (b : Rat) / ((c * d : Nat) : Rat)) ↔ a * (d : Int) ≤ b := by
 exact zz49
theorem rat_int_ge {a b : Int} {c d : Nat} (hc : 0 < c) (hd : 0 < d) : ((b : Rat) / ((c * d : Nat) : Rat) ≤ (a : Rat) / (c : Rat)) ↔ b ≤ a * (d : Int) := by
 exact zz49
end Go.Proofs.YtgkcpnidmfejeaaGreatDoor
end
section
namespace Go.Proofs.YtgkcpnidmfejeaaGreatDoor
theorem sane_un {x : Nat} (h : Sane x) : -((2 ^ Fp.dtop : Nat) : Int) ≤ Fp.un Ieee.double x ∧ Fp.un Ieee.double x ≤ ((2 ^ Fp.dtop : Nat) : Int) := by
 have k : Fp.mag Ieee.double (Fp.rg Ieee.double x) ≤ 2 ^ Fp.dtop := by
  rw [← Fp.mag_infD]
  exact Fp.mag_mono Ieee.double (by rw [Fp.dI, Fp.rg64]; exact h.2)
 rw [un_val]
 unfold Fp.val
 generalize 2 ^ Fp.dtop = T at *
 split <;> omega
theorem val_abs (b : Bool) (z : Int) (h : z ≠ 0 → b = decide (z < 0)) : Fp.val b z.natAbs = z := by
 unfold Fp.val
 by_cases h0 : z = 0
 ·subst h0; cases b <;> rfl
 ·rw [h h0]
  by_cases hn : z < 0
  ·rw [decide_eq_true hn, if_pos rfl]; omega
  ·rw [decide_eq_false hn, if_neg Bool.false_ne_true]; omega
theorem rat_one {a b : Int} : ((a : Rat) / (u1 : Rat) ≤ (b : Rat) / (u1 : Rat)) ↔ a ≤ b := by
 have := @rat_int_le a b u1 1 u1_pos dc
 rw [Nat.mul_one] at this
 simpa using this
theorem units_rno (b : Bool) (z : Int) (h : z ≠ 0 → b = decide (z < 0)) : RnO (Ieee.double.word b (Fp.rung Ieee.double z.natAbs)) ((z : Rat) / (u1 : Rat)) := by
 have h1 := word_sane b (r := Fp.rung Ieee.double z.natAbs) (by unfold Fp.rung; rw [Fp.dI]; omega)
 refine ⟨h1.1, fun y hy => ?_⟩
 rw [h1.2, un_val y]
 unfold rvD
 rw [rat_one, rat_one, un_val y]
 have k := near_core b (Fp.sg Ieee.double y) z.natAbs 0 (Fp.rg Ieee.double y) (Nat.le_of_lt hy.rg)
 rw [val_abs b z h] at k
 have e : ((2 ^ 0 : Nat) : Int) = 1 := rfl
 rw [e, Int.mul_one] at k
 exact k
theorem add_rno {a b : Nat} (ha : Fi a) (hb : Fi b) : ∃ r, Ieee.double.add a b = some r ∧ RnO r (rvD a + rvD b) := by
 refine ⟨_, Fp.add_fin Ieee.double a b ha.rg hb.rg, ?_⟩
 have e : rvD a + rvD b = (((Fp.un Ieee.double a + Fp.un Ieee.double b : Int)) : Rat) / (u1 : Rat) := by unfold rvD; push_cast; grind
 rw [e]
 refine units_rno _ _ fun h => ?_
 rw [if_neg h]
theorem sub_rno {a b : Nat} (ha : Fi a) (hb : Fi b) : ∃ r, Ieee.double.sub a b = some r ∧ RnO r (rvD a - rvD b) := by
 refine ⟨_, Fp.sub_fin Ieee.double a b ha.rg hb.rg, ?_⟩
 have e : rvD a - rvD b = (((Fp.un Ieee.double a - Fp.un Ieee.double b : Int)) : Rat) / (u1 : Rat) := by unfold rvD; push_cast; grind
 rw [e]
 refine units_rno _ _ fun h => ?_
 rw [if_neg h]
theorem val_mul (s t : Bool) (m n : Nat) : Fp.val (s ^^ t) (m * n) = Fp.val s m * Fp.val t n := by
 unfold Fp.val
 cases s <;> cases t <;> simp [Int.natCast_mul, Int.neg_mul, Int.mul_neg]
theorem deep_u1 : 2 ^ Fp.deep Ieee.double = u1 := by
 have : Fp.deep Ieee.double = uE := by decide
 rw [this]; rfl
theorem mul_rno {a b : Nat} (ha : Fi a) (hb : Fi b) : ∃ r, Ieee.double.mul a b = some r ∧ RnO r (rvD a * rvD b) := by
 refine ⟨_, Fp.mul_fin Ieee.double dc a b ha.rg hb.rg, ?_⟩
 have h1 := word_sane (Fp.sg Ieee.double a ^^ Fp.sg Ieee.double b) (r := min (Fp.grid Ieee.double (Fp.mag Ieee.double (Fp.rg Ieee.double a) * Fp.mag Ieee.double (Fp.rg Ieee.double b)) (Fp.deep Ieee.double)) Ieee.double.infRung) (by rw [Fp.dI]; omega)
 have e : rvD a * rvD b = ((Fp.val (Fp.sg Ieee.double a ^^ Fp.sg Ieee.double b) (Fp.mag Ieee.double (Fp.rg Ieee.double a) * Fp.mag Ieee.double (Fp.rg Ieee.double b)) : Int) : Rat) / ((u1 * 2 ^ Fp.deep Ieee.double : Nat) : Rat) := by
  rw [val_mul, ← un_val, ← un_val, deep_u1]
  have c0 : (u1 : Rat) ≠ 0 := by have := u1_pos; exact_mod_cast (by omega : u1 ≠ 0)
  unfold rvD; push_cast; grind
 refine ⟨h1.1, fun y hy => ?_⟩
 rw [h1.2, e]
 unfold rvD
 rw [rat_int_le u1_pos (Nat.two_pow_pos _), rat_int_ge u1_pos (Nat.two_pow_pos _), un_val y]
 exact near_core _ _ _ _ _ (Nat.le_of_lt hy.rg)
end Go.Proofs.YtgkcpnidmfejeaaGreatDoor
end
section
namespace Go.Proofs.YtgkcpnidmfejeaaGreatDoor
theorem is_parts2 {a : Nat} (h : Fi a) : ∃ m e, Ieee.double.read a = .number (Fp.sg Ieee.double a) m e ∧ -1074 ≤ e ∧ e ≤ 971 ∧ m < 9007199254740992 ∧ m * 2 ^ (e + 1074).toNat = Fp.mag Ieee.double (Fp.rg Ieee.double a) := by
 have h2 := h.rg
 have e0 : a % Ieee.double.signWeight = Fp.rg Ieee.double a := rfl
 have e1 : (a / Ieee.double.signWeight % 2 == 1) = Fp.sg Ieee.double a := rfl
 rw [Fp.dI] at h2
 unfold Ieee.Format.read
 dsimp only
 rw [e0, e1, Fp.dB, Fp.dI, Fp.dL]
 by_cases h1 : Fp.rg Ieee.double a < 4503599627370496
 ·rw [if_pos h1]
  exact ⟨_, _, rfl, Int.le_refl _, by omega, by omega, by rw [Fp.mag_lt Ieee.double _ (by rw [Fp.dB]; exact h1)]; simp⟩
 ·rw [if_neg h1, if_pos h2]
  refine ⟨_, _, rfl, by omega, by omega, by omega, ?_⟩
  unfold Fp.mag
  rw [Fp.dB, if_neg h1]
  congr 2
  omega
theorem mag_digits {r : Nat} (h : r < Ieee.double.infRung) : ∃ c i, c < 9007199254740992 ∧ i ≤ 2045 ∧ Fp.mag Ieee.double r = c * 2 ^ i := by
 have h2 := h
 rw [Fp.dI] at h2
 have hs := word_sane false (r := r) om
 have hf : Fi (Ieee.double.word false r) := (word_fi false h2).1
 obtain ⟨m, e, _, h3, h4, h5, h6⟩ := is_parts2 hf
 have e1 : Fp.rg Ieee.double (Ieee.double.word false r) = r := Fp.rg_word Ieee.double false r (by rw [Fp.dS]; omega)
 rw [e1] at h6
 exact ⟨m, (e + 1074).toNat, h5, by omega, h6.symm⟩
theorem rno_of (neg : Bool) (m : Nat) (e : Int) (s : Nat) (he : -1074 - (s : Int) ≤ e) (X : Rat) (hX : 0 ≤ X)
 (H : ∀ r, r < Ieee.double.infRung → ((Fp.mag Ieee.double r : Rat) / (u1 : Rat) ≤ X → Fp.mag Ieee.double r * 2 ^ s ≤ m * 2 ^ (e + 1074 + s).toNat) ∧ (X ≤ (Fp.mag Ieee.double r : Rat) / (u1 : Rat) → m * 2 ^ (e + 1074 + s).toNat ≤ Fp.mag Ieee.double r * 2 ^ s)) :
 RnO (Ieee.double.nearest neg m e) (if neg then -X else X) := by
 have hl : Ieee.double.leastPlace = -1074 := by decide
 rw [Fp.nearest_deep Ieee.double neg m e s (by rw [hl]; exact he), hl]
 have e1 : (e - (-1074 - (s : Int))).toNat = (e + 1074 + s).toNat := by omega
 rw [e1]
 generalize m * 2 ^ (e + 1074 + s).toNat = V at *
 have h12 := word_sane neg (r := min (Fp.grid Ieee.double V s) Ieee.double.infRung) (by rw [Fp.dI]; omega)
 refine ⟨h12.1, fun y hy => ?_⟩
 rw [h12.2, un_val y]
 have k := near_core neg (Fp.sg Ieee.double y) V s (Fp.rg Ieee.double y) (Nat.le_of_lt hy.rg)
 have Hy := H _ hy.rg
 have H0 := (H 0 (by rw [Fp.dI]; decide)).2
 rw [Fp.mag_zero, Nat.zero_mul] at H0
 have u0 : (0 : Rat) < (u1 : Rat) := by exact_mod_cast u1_pos
 have z0 : ((0 : Nat) : Rat) / (u1 : Rat) = 0 := by grind
 rw [z0] at H0
 unfold rvD
 rw [un_val y]
 generalize Fp.mag Ieee.double (Fp.rg Ieee.double y) = Y at *
 have cst : ((Y * 2 ^ s : Nat) : Int) = (Y : Int) * ((2 ^ s : Nat) : Int) := Int.natCast_mul _ _
 have yp : 0 ≤ (Y : Rat) / (u1 : Rat) := by
  apply le_of_mul u0
  rw [div_mul u0, Rat.zero_mul]
  exact_mod_cast Nat.zero_le Y
 have sp : 0 < 2 ^ s := Nat.two_pow_pos s
 have Z0 : (Y : Rat) / (u1 : Rat) = 0 → Y = 0 := by
  intro h
  have := div_mul (a := (Y : Rat)) u0
  rw [h, Rat.zero_mul] at this
  exact_mod_cast this.symm
 cases neg <;> cases hsy : Fp.sg Ieee.double y <;> rw [hsy] at k <;> simp only [Fp.val, if_true, Bool.false_eq_true, if_false, Int.neg_mul, ← cst] at k ⊢ <;> push_cast <;> refine ⟨fun h => k.1 ?_, fun h => k.2 ?_⟩
 ·exact_mod_cast Hy.1 h
 ·exact_mod_cast Hy.2 h
 ·omega
 ·have := H0 (by grind)
  have := Z0 (by grind)
  subst this
  simp only [Nat.zero_mul]
  omega
 ·have := H0 (by grind)
  have := Z0 (by grind)
  subst this
  simp only [Nat.zero_mul]
  omega
 ·omega
 ·have := Hy.2 (by grind)
  omega
 ·have := Hy.1 (by grind)
  omega
end Go.Proofs.YtgkcpnidmfejeaaGreatDoor
end
section
namespace Go.Proofs.YtgkcpnidmfejeaaGreatDoor
theorem quo_core {A n c I t : Nat} (hn : 0 < n) (hA : 9007199254740992 * n ≤ A) (hc : c < 9007199254740992) :
 (c * 2 ^ I * n ≤ 2 * A * 2 ^ t → c * 2 ^ I ≤ (2 * (A / n) + (A % n != 0).toNat) * 2 ^ t) ∧ (2 * A * 2 ^ t ≤ c * 2 ^ I * n → (2 * (A / n) + (A % n != 0).toNat) * 2 ^ t ≤ c * 2 ^ I) := by
 have hQ : 9007199254740992 ≤ A / n := (Nat.le_div_iff_mul_le hn).2 hA
 have hd := Nat.div_add_mod A n
 have hm := Nat.mod_lt A hn
 have hb : (A % n != 0).toNat = if A % n = 0 then 0 else 1 := by
  by_cases h : A % n = 0
  ·rw [if_pos h, h]; rfl
  ·rw [if_neg h]; simp [h]
 rw [hb]
 generalize A / n = Q at *
 generalize A % n = R at *
 by_cases hI : t + 1 ≤ I
 ·obtain ⟨d, rfl⟩ : ∃ d, I = t + 1 + d := ⟨I - (t + 1), by omega⟩
  have e1 : c * 2 ^ (t + 1 + d) = (2 * (c * 2 ^ d)) * 2 ^ t := by rw [Nat.pow_add, Nat.pow_add]; grind
  rw [e1]
  generalize c * 2 ^ d = T at *
  have e2 : 2 * T * 2 ^ t * n = (2 * (T * n)) * 2 ^ t := by grind
  rw [e2]
  have pt : 0 < 2 ^ t := Nat.two_pow_pos t
  refine ⟨fun h => ?_, fun h => ?_⟩
  ·have h1 := Nat.le_of_mul_le_mul_right h pt
   have h2 : T ≤ Q := by
    rcases Nat.lt_or_ge Q T with g | g
    ·have g2 : (Q + 1) * n ≤ T * n := Nat.mul_le_mul_right n g
     rw [Nat.add_mul, Nat.mul_comm Q n] at g2
     omega
    ·exact g
   exact Nat.mul_le_mul_right _ om
  ·have h1 := Nat.le_of_mul_le_mul_right h pt
   have h2 : Q + (if R = 0 then 0 else 1) ≤ T := by
    split
    ·rcases Nat.lt_or_ge T Q with g | g
     ·have g2 : (T + 1) * n ≤ Q * n := Nat.mul_le_mul_right n g
      rw [Nat.add_mul, Nat.mul_comm Q n] at g2
      omega
     ·exact g
    ·rcases Nat.lt_or_ge Q T with g | g
     ·omega
     ·have g2 : T * n ≤ Q * n := Nat.mul_le_mul_right n g
      rw [Nat.mul_comm Q n] at g2
      omega
   refine Nat.mul_le_mul_right _ ?_
   split at h2 <;> split <;> omega
 ·obtain ⟨d, rfl⟩ : ∃ d, t = I + d := ⟨t - I, by omega⟩
  have hp : 2 ^ I ≤ 2 ^ (I + d) := Nat.pow_le_pow_right dc om
  have h1 : c * 2 ^ I ≤ 9007199254740991 * 2 ^ (I + d) := Nat.mul_le_mul om hp
  have h2 : 9007199254740991 * 2 ^ (I + d) < Q * 2 ^ (I + d) := Nat.mul_lt_mul_of_pos_right om (Nat.two_pow_pos _)
  refine ⟨fun _ => ?_, fun h => ?_⟩
  ·refine Nat.le_trans (Nat.le_of_lt (Nat.lt_of_le_of_lt h1 h2)) (Nat.mul_le_mul_right _ ?_)
   omega
  ·exfalso
   have h3 : c * 2 ^ I * n ≤ 9007199254740991 * 2 ^ (I + d) * n := Nat.mul_le_mul_right n h1
   have h4 : 9007199254740992 * n * 2 ^ (I + d) ≤ A * 2 ^ (I + d) := Nat.mul_le_mul_right _ hA
   have e3 : 9007199254740991 * 2 ^ (I + d) * n = 9007199254740991 * (n * 2 ^ (I + d)) := by grind
   have e4 : 9007199254740992 * n * 2 ^ (I + d) = 9007199254740992 * (n * 2 ^ (I + d)) := by grind
   have e5 : 2 * A * 2 ^ (I + d) = 2 * (A * 2 ^ (I + d)) := by grind
   have p : 0 < n * 2 ^ (I + d) := Nat.mul_pos hn (Nat.two_pow_pos _)
   rw [e3] at h3
   rw [e4] at h4
   rw [e5] at h
   generalize n * 2 ^ (I + d) = Z at *
   generalize A * 2 ^ (I + d) = W at *
   omega
theorem div_is {a b m n : Nat} {s t : Bool} {e j : Int} (ha : Ieee.double.read a = .number s m e) (hb : Ieee.double.read b = .number t n j) (hn : n ≠ 0) :
 Ieee.double.div a b = some (Ieee.double.nearest (s ^^ t) (2 * (m * 2 ^ (54 + n.log2 - m.log2) / n) + (m * 2 ^ (54 + n.log2 - m.log2) % n != 0).toNat) (e - j - (54 + n.log2 - m.log2 : Nat) - 1)) := by
 unfold Ieee.Format.div
 rw [ha, hb]
 show (if n = 0 then if m = 0 then none else some (Ieee.Datum.infinity (s ^^ t)) else some (Ieee.Datum.number (s ^^ t) (2 * (m <<< (54 + n.log2 - m.log2) / n) + (m <<< (54 + n.log2 - m.log2) % n != 0).toNat) (e - j - (54 + n.log2 - m.log2 : Nat) - 1))).map Ieee.double.write = _
 rw [if_neg hn, Nat.shiftLeft_eq]
 rfl
def sQ : Nat := 3000
theorem sQ_is : sQ = 3000 := rfl
theorem rat_quo {Y M N : Nat} (hN : 0 < N) : ((Y : Rat) / (u1 : Rat) ≤ (M : Rat) / (N : Rat) ↔ Y * N ≤ M * u1) ∧ ((M : Rat) / (N : Rat) ≤ (Y : Rat) / (u1 : Rat) ↔ M * u1 ≤ Y * N) := by
 have n0 : (0 : Rat) < (N : Rat) := by exact_mod_cast hN
 have u0 : (0 : Rat) < (u1 : Rat) := by exact_mod_cast u1_pos
 have nu : (0 : Rat) < (N : Rat) * (u1 : Rat) := Rat.mul_pos n0 u0
 have e1 : (Y : Rat) / (u1 : Rat) * ((N : Rat) * (u1 : Rat)) = ((Y * N : Nat) : Rat) := by push_cast; grind
 have e2 : (M : Rat) / (N : Rat) * ((N : Rat) * (u1 : Rat)) = ((M * u1 : Nat) : Rat) := by push_cast; grind
 refine ⟨⟨fun h => ?_, fun h => ?_⟩, ⟨fun h => ?_, fun h => ?_⟩⟩
 ·have := rmul_le h (Rat.le_of_lt nu)
  rw [e1, e2] at this
  exact_mod_cast this
 ·apply le_of_mul nu
  rw [e1, e2]
  exact_mod_cast h
 ·have := rmul_le h (Rat.le_of_lt nu)
  rw [e1, e2] at this
  exact_mod_cast this
 ·apply le_of_mul nu
  rw [e1, e2]
  exact_mod_cast h
theorem quo_digits {m n : Nat} (hm : m ≠ 0) (m1 : m < 9007199254740992) : 9007199254740992 * n ≤ m * 2 ^ (54 + n.log2 - m.log2) := by
 have h1 : 2 ^ m.log2 ≤ m := Nat.log2_self_le hm
 have h2 : n < 2 ^ (n.log2 + 1) := Nat.lt_log2_self
 have h3 : m.log2 < 53 := (Nat.log2_lt hm).2 om
 have h4 : 2 ^ m.log2 * 2 ^ (54 + n.log2 - m.log2) = 2 ^ 53 * 2 ^ (n.log2 + 1) := by rw [← Nat.pow_add, ← Nat.pow_add]; congr 1; omega
 have h5 : 2 ^ m.log2 * 2 ^ (54 + n.log2 - m.log2) ≤ m * 2 ^ (54 + n.log2 - m.log2) := Nat.mul_le_mul_right _ h1
 have h6 : 2 ^ 53 * n ≤ 2 ^ 53 * 2 ^ (n.log2 + 1) := Nat.mul_le_mul_left _ (Nat.le_of_lt h2)
 have e7 : (2 : Nat) ^ 53 = 9007199254740992 := by decide
 rw [e7] at h4 h6
 omega
theorem quo_pow {m k s x v : Nat} {e j : Int} (hu : (v : Int) = 1074) (hs : 0 ≤ e - j - (k : Nat) + 1073 + s) (he : -1074 ≤ e) (hj : -1074 ≤ j) (hx : x = 2 ^ v) :
 2 * (m * 2 ^ k) * 2 ^ (e - j - (k : Nat) - 1 + 1074 + s).toNat * 2 ^ (j + 1074).toNat = m * 2 ^ (e + 1074).toNat * x * 2 ^ s := by
 rw [hx]
 clear hx
 generalize ha : (e - j - (k : Nat) - 1 + 1074 + s).toNat = a
 generalize hb : (j + 1074).toNat = b
 generalize hc : (e + 1074).toNat = c
 have e8 : 2 * (m * 2 ^ k) * 2 ^ a * 2 ^ b = m * (2 ^ 1 * 2 ^ k * 2 ^ a * 2 ^ b) := by grind
 have e9 : m * 2 ^ c * 2 ^ v * 2 ^ s = m * (2 ^ c * 2 ^ v * 2 ^ s) := by grind
 have e10 : 1 + k + a + b = c + v + s := by clear e8 e9; omega
 rw [e8, e9, ← Nat.pow_add, ← Nat.pow_add, ← Nat.pow_add, ← Nat.pow_add, ← Nat.pow_add, e10]
theorem rat_sg {M N u : Rat} (hu : u ≠ 0) (hN : N ≠ 0) : M / u / (N / u) = M / N ∧ (-M) / u / (N / u) = -(M / N) ∧ M / u / (-N / u) = -(M / N) ∧ (-M) / u / (-N / u) = M / N := by
 refine ⟨?_, ?_, ?_, ?_⟩ <;> grind
theorem zz97 {p : Prop} (h : p := by
 apply Nat.le_of_mul_le_mul_right (c := 2 ^ (j + 1074).toNat) _ pj
 rw [eL, eR]
 exact Nat.mul_le_mul_right _ h) : p := h
theorem div_rno {a b : Nat} (ha : Fi a) (hb : Fi b) (h0 : Fp.un Ieee.double b ≠ 0) : ∃ r, Ieee.double.div a b = some r ∧ RnO r (rvD a / rvD b) := by
 obtain ⟨m, e, r1, l1, g1, m1, v1⟩ := is_parts2 ha
 obtain ⟨n, j, r2, l2, g2, n1, v2⟩ := is_parts2 hb
 have hn : n ≠ 0 := by
  intro h
  apply h0
  rw [un_val, ← v2, h, Nat.zero_mul]
  unfold Fp.val; split <;> rfl
 refine ⟨_, div_is r1 r2 hn, ?_⟩
 have hN : 0 < Fp.mag Ieee.double (Fp.rg Ieee.double b) := by rw [← v2]; exact Nat.mul_pos om (Nat.two_pow_pos _)
 have u0 : (0 : Rat) < (u1 : Rat) := by exact_mod_cast u1_pos
 have n0 : (0 : Rat) < (Fp.mag Ieee.double (Fp.rg Ieee.double b) : Rat) := by exact_mod_cast hN
 have e0 : rvD a / rvD b = if (Fp.sg Ieee.double a ^^ Fp.sg Ieee.double b) then -((Fp.mag Ieee.double (Fp.rg Ieee.double a) : Rat) / (Fp.mag Ieee.double (Fp.rg Ieee.double b) : Rat)) else (Fp.mag Ieee.double (Fp.rg Ieee.double a) : Rat) / (Fp.mag Ieee.double (Fp.rg Ieee.double b) : Rat) := by
  unfold rvD
  rw [un_val a, un_val b]
  unfold Fp.val
  have k := rat_sg (M := (Fp.mag Ieee.double (Fp.rg Ieee.double a) : Rat)) (N := (Fp.mag Ieee.double (Fp.rg Ieee.double b) : Rat)) (u := (u1 : Rat)) (by grind) (by grind)
  generalize Fp.mag Ieee.double (Fp.rg Ieee.double a) = M at *
  generalize Fp.mag Ieee.double (Fp.rg Ieee.double b) = N at *
  cases Fp.sg Ieee.double a <;> cases Fp.sg Ieee.double b <;> simp only [Bool.xor_false, Bool.xor_true, Bool.not_true, Bool.not_false, Bool.false_eq_true, if_true, if_false] <;> push_cast
  ·exact k.1
  ·exact k.2.2.1
  ·exact k.2.1
  ·exact k.2.2.2
 rw [e0]
 have hk : 54 + n.log2 - m.log2 ≤ 108 := by
  have : n.log2 < 53 := (Nat.log2_lt hn).2 om
  omega
 refine rno_of _ _ _ sQ (by rw [sQ_is]; omega) _ ?_ fun r hr => ?_
 ·apply le_of_mul n0
  rw [div_mul n0, Rat.zero_mul]
  exact_mod_cast Nat.zero_le _
 ·rw [(rat_quo hN).1, (rat_quo hN).2]
  by_cases hm : m = 0
  ·subst hm
   rw [← v1]
   simp only [Nat.zero_mul, Nat.zero_div, Nat.zero_mod, Nat.mul_zero]
   have e5 : (0 != 0).toNat = 0 := rfl
   rw [e5]
   simp only [Nat.zero_mul, Nat.add_zero]
   refine ⟨fun h => ?_, fun _ => Nat.zero_le _⟩
   have := (Nat.mul_eq_zero.1 (Nat.le_zero.1 h)).resolve_right om
   rw [this, Nat.zero_mul]
   exact Nat.le_refl _
  ·obtain ⟨c, i, hc, hi, hY⟩ := mag_digits hr
   have hA := quo_digits (m := m) (n := n) hm m1
   rw [hY, ← v1, ← v2]
   generalize hkk : 54 + n.log2 - m.log2 = k at *
   have Hc := quo_core (A := m * 2 ^ k) (n := n) (c := c) (I := i + sQ) (t := (e - j - (k : Nat) - 1 + 1074 + sQ).toNat) om hA hc
   have e6 : c * 2 ^ i * 2 ^ sQ = c * 2 ^ (i + sQ) := by rw [Nat.pow_add, Nat.mul_assoc]
   rw [e6]
   have cs := sQ_is
   have pj : 0 < 2 ^ (j + 1074).toNat := Nat.two_pow_pos _
   have ps : 0 < 2 ^ sQ := Nat.two_pow_pos _
   have eL : c * 2 ^ (i + sQ) * n * 2 ^ (j + 1074).toNat = c * 2 ^ i * (n * 2 ^ (j + 1074).toNat) * 2 ^ sQ := by rw [Nat.pow_add]; grind
   have eR : 2 * (m * 2 ^ k) * 2 ^ (e - j - (k : Nat) - 1 + 1074 + sQ).toNat * 2 ^ (j + 1074).toNat = m * 2 ^ (e + 1074).toNat * u1 * 2 ^ sQ := by
    exact quo_pow (v := uE) rfl om l1 l2 rfl
   refine ⟨fun h => Hc.1 ?_, fun h => Hc.2 ?_⟩
   ·exact zz97
   ·exact zz97
end Go.Proofs.YtgkcpnidmfejeaaGreatDoor
end
section
namespace Go.Proofs.YtgkcpnidmfejeaaGreatDoor
def enW (x : Nat) : En := if x % 9223372036854775808 < 9218868437227405312 then .fn (rvD x) else if x < 9223372036854775808 then .hi else .lo
theorem enW_fi {x : Nat} (h : Fi x) : enW x = .fn (rvD x) := if_pos h.2
theorem un_fi {x : Nat} (h : Fi x) : -((2 ^ Fp.dtop : Nat) : Int) < Fp.un Ieee.double x ∧ Fp.un Ieee.double x < ((2 ^ Fp.dtop : Nat) : Int) := by
 have k : Fp.mag Ieee.double (Fp.rg Ieee.double x) < 2 ^ Fp.dtop := by
  rw [← Fp.mag_infD]
  exact Fp.mag_mono_lt Ieee.double h.rg
 rw [un_val]
 unfold Fp.val
 generalize 2 ^ Fp.dtop = T at *
 split <;> omega
theorem sane_cases {x : Nat} (h : Sane x) : (Fi x ∧ enW x = .fn (rvD x)) ∨ (enW x = .hi ∧ Fp.un Ieee.double x = ((2 ^ Fp.dtop : Nat) : Int)) ∨ (enW x = .lo ∧ Fp.un Ieee.double x = -((2 ^ Fp.dtop : Nat) : Int)) := by
 by_cases h1 : x % 9223372036854775808 < 9218868437227405312
 ·exact .inl ⟨⟨h.1, h1⟩, if_pos h1⟩
 ·have e1 : x % 9223372036854775808 = 9218868437227405312 := by have := h.2; omega
  have e2 : Fp.rg Ieee.double x = Ieee.double.infRung := by rw [Fp.rg64, Fp.dI]; exact e1
  have e3 : Fp.sg Ieee.double x = decide (9223372036854775808 ≤ x) := by
   show (x / Ieee.double.signWeight % 2 == 1) = _
   rw [Fp.dS]
   have := h.1
   by_cases g : 9223372036854775808 ≤ x
   ·rw [decide_eq_true g]; have : x / 9223372036854775808 = 1 := by omega
    rw [this]; rfl
   ·rw [decide_eq_false g]; have : x / 9223372036854775808 = 0 := by omega
    rw [this]; rfl
  rw [un_val, e2, e3, Fp.mag_infD]
  unfold enW
  rw [if_neg h1]
  unfold Fp.val
  by_cases g : x < 9223372036854775808
  ·rw [if_pos g, decide_eq_false om, if_neg Bool.false_ne_true]
   exact .inr (.inl ⟨rfl, rfl⟩)
  ·rw [if_neg g, decide_eq_true om, if_pos rfl]
   exact .inr (.inr ⟨rfl, rfl⟩)
theorem rv_le (x y : Nat) : rvD x ≤ rvD y ↔ Fp.un Ieee.double x ≤ Fp.un Ieee.double y := by
 unfold rvD; exact rat_one
theorem en_le {x y : Nat} (hx : Sane x) (hy : Sane y) : (enW x).le (enW y) ↔ Fp.un Ieee.double x ≤ Fp.un Ieee.double y := by
 have T : 0 < 2 ^ Fp.dtop := Nat.two_pow_pos _
 rcases sane_cases hx with ⟨f, e⟩ | ⟨e, u⟩ | ⟨e, u⟩ <;> rcases sane_cases hy with ⟨f', e'⟩ | ⟨e', u'⟩ | ⟨e', u'⟩ <;> rw [e, e']
 ·rw [En.le_fn, rv_le]
 ·have := un_fi f; simp only [En.le, true_iff]; omega
 ·have := un_fi f; simp only [En.le, false_iff]; omega
 ·have := un_fi f'; simp only [En.le, false_iff]; omega
 ·simp only [En.le, true_iff]; omega
 ·simp only [En.le, false_iff]; omega
 ·simp only [En.le, true_iff]; have := un_fi f'; omega
 ·simp only [En.le, true_iff]; omega
 ·simp only [En.le, true_iff]; omega
theorem rn_lo {L q : Nat} {e : Rat} (hL : Sane L) (h : (enW L).le (.fn e)) (hq : RnO q e) : Fp.un Ieee.double L ≤ Fp.un Ieee.double q := by
 rcases sane_cases hL with ⟨f, g⟩ | ⟨g, u⟩ | ⟨g, u⟩ <;> rw [g] at h
 ·exact (hq.2 L f).1 h
 ·simp [En.le] at h
 ·rw [u]; exact (sane_un hq.1).1
theorem rn_hi {H q : Nat} {e : Rat} (hH : Sane H) (h : (En.fn e).le (enW H)) (hq : RnO q e) : Fp.un Ieee.double q ≤ Fp.un Ieee.double H := by
 rcases sane_cases hH with ⟨f, g⟩ | ⟨g, u⟩ | ⟨g, u⟩ <;> rw [g] at h
 ·exact (hq.2 H f).2 h
 ·rw [u]; exact (sane_un hq.1).2
 ·simp [En.le] at h
theorem up_one {q n : Nat} {e : Rat} (hq : RnO q e) (hn : Sane n) (h : Fp.un Ieee.double q < Fp.un Ieee.double n) : (En.fn e).le (enW n) := by
 rcases sane_cases hn with ⟨f, g⟩ | ⟨g, u⟩ | ⟨g, u⟩ <;> rw [g]
 ·rcases rat_or (rvD n) e with k | k
  ·have := (hq.2 n f).1 (Rat.le_of_lt k); omega
  ·exact k
 ·simp [En.le]
 ·have := (sane_un hq.1).1; omega
theorem down_one {q n : Nat} {e : Rat} (hq : RnO q e) (hn : Sane n) (h : Fp.un Ieee.double n < Fp.un Ieee.double q) : (enW n).le (.fn e) := by
 rcases sane_cases hn with ⟨f, g⟩ | ⟨g, u⟩ | ⟨g, u⟩ <;> rw [g]
 ·rcases rat_or e (rvD n) with k | k
  ·have := (hq.2 n f).2 (Rat.le_of_lt k); omega
  ·exact k
 ·have := (sane_un hq.1).2; omega
 ·simp [En.le]
end Go.Proofs.YtgkcpnidmfejeaaGreatDoor
end
section
namespace Go.Proofs.YtgkcpnidmfejeaaGreatDoor
theorem un_low {x : Nat} (h : x < 9223372036854775808) : Fp.un Ieee.double x = ((Fp.mag Ieee.double x : Nat) : Int) := by
 have e1 : Fp.rg Ieee.double x = x := by rw [Fp.rg64]; omega
 have e2 : Fp.sg Ieee.double x = false := by
  show (x / Ieee.double.signWeight % 2 == 1) = _
  rw [Fp.dS]
  have : x / 9223372036854775808 = 0 := by omega
  rw [this]; rfl
 rw [un_val, e1, e2]; rfl
theorem un_high {m : Nat} (h : m < 9223372036854775808) : Fp.un Ieee.double (9223372036854775808 + m) = -((Fp.mag Ieee.double m : Nat) : Int) := by
 have e1 : Fp.rg Ieee.double (9223372036854775808 + m) = m := by rw [Fp.rg64]; omega
 have e2 : Fp.sg Ieee.double (9223372036854775808 + m) = true := by
  show ((9223372036854775808 + m) / Ieee.double.signWeight % 2 == 1) = _
  rw [Fp.dS]
  have : (9223372036854775808 + m) / 9223372036854775808 = 1 := by omega
  rw [this]; rfl
 rw [un_val, e1, e2]; rfl
def upW (x : Nat) : Nat := if x % 9223372036854775808 = 0 then 1 else if 9223372036854775808 ≤ x then x - 1 else x + 1
def downW (x : Nat) : Nat := if x % 9223372036854775808 = 0 then 9223372036854775809 else if 9223372036854775808 ≤ x then x + 1 else x - 1
theorem mag_one_pos : 0 < Fp.mag Ieee.double 1 := by
 have := Fp.mag_mono_lt Ieee.double (show 0 < 1 by decide)
 omega
theorem fi_split {x : Nat} (h : Fi x) : (x < 9218868437227405312) ∨ ∃ m, x = 9223372036854775808 + m ∧ m < 9218868437227405312 := by
 obtain ⟨h1, h2⟩ := h
 by_cases g : x < 9223372036854775808
 ·left; omega
 ·right; exact ⟨x - 9223372036854775808, by omega, by omega⟩
theorem up_above {x : Nat} (h : Fi x) : Sane (upW x) ∧ Fp.un Ieee.double x < Fp.un Ieee.double (upW x) := by
 have m1 := mag_one_pos
 unfold upW
 rcases fi_split h with g | ⟨m, rfl, g⟩
 ·have e0 : x % 9223372036854775808 = x := by omega
  rw [e0]
  split
  ·rename_i z
   subst z
   refine ⟨by unfold Sane; omega, ?_⟩
   rw [un_low dc, un_low dc, Fp.mag_zero]
   omega
  ·rw [if_neg om]
   refine ⟨by unfold Sane; omega, ?_⟩
   rw [un_low om, un_low om]
   have := Fp.mag_mono_lt Ieee.double (Nat.lt_succ_self x)
   exact_mod_cast this
 ·have e0 : (9223372036854775808 + m) % 9223372036854775808 = m := by omega
  rw [e0]
  split
  ·rename_i z
   subst z
   refine ⟨by unfold Sane; omega, ?_⟩
   rw [un_high dc, un_low dc, Fp.mag_zero]
   omega
  ·rw [if_pos om]
   have e1 : 9223372036854775808 + m - 1 = 9223372036854775808 + (m - 1) := by omega
   rw [e1]
   refine ⟨by unfold Sane; omega, ?_⟩
   rw [un_high om, un_high om]
   have := Fp.mag_mono_lt Ieee.double (show m - 1 < m by omega)
   omega
theorem down_below {x : Nat} (h : Fi x) : Sane (downW x) ∧ Fp.un Ieee.double (downW x) < Fp.un Ieee.double x := by
 have m1 := mag_one_pos
 have k1 : (9223372036854775809 : Nat) = 9223372036854775808 + 1 := rfl
 unfold downW
 rcases fi_split h with g | ⟨m, rfl, g⟩
 ·have e0 : x % 9223372036854775808 = x := by omega
  rw [e0]
  split
  ·rename_i z
   subst z
   refine ⟨by unfold Sane; omega, ?_⟩
   rw [k1, un_high dc, un_low dc, Fp.mag_zero]
   omega
  ·rw [if_neg om]
   refine ⟨by unfold Sane; omega, ?_⟩
   rw [un_low om, un_low om]
   have := Fp.mag_mono_lt Ieee.double (show x - 1 < x by omega)
   exact_mod_cast this
 ·have e0 : (9223372036854775808 + m) % 9223372036854775808 = m := by omega
  rw [e0]
  split
  ·rename_i z
   subst z
   refine ⟨by unfold Sane; omega, ?_⟩
   rw [k1, un_high dc, un_high dc, Fp.mag_zero]
   omega
  ·rw [if_pos om]
   have e1 : 9223372036854775808 + m + 1 = 9223372036854775808 + (m + 1) := by omega
   rw [e1]
   refine ⟨by unfold Sane; omega, ?_⟩
   rw [un_high om, un_high om]
   have := Fp.mag_mono_lt Ieee.double (show m < m + 1 by omega)
   omega
def LoOk (r : Nat) (e : Rat) : Prop := Sane r ∧ (enW r).le (.fn e)
def HiOk (r : Nat) (e : Rat) : Prop := Sane r ∧ (En.fn e).le (enW r)
def stepW (x : Nat) (neg pos up : Bool) : Nat := if pos && up then upW x else if neg && !up then downW x else x
theorem step_lo {x : Nat} {neg pos : Bool} {e : Rat} (h : Fi x) (hq : RnO x e) (hl : neg = false → rvD x ≤ e) : LoOk (stepW x neg pos false) e := by
 unfold stepW
 rw [Bool.and_false, if_neg Bool.false_ne_true]
 cases neg with
 | true => exact ⟨(down_below h).1, down_one hq (down_below h).1 (down_below h).2⟩
 | false => exact ⟨h.sane, by rw [if_neg (by simp), enW_fi h]; exact hl rfl⟩
theorem step_hi {x : Nat} {neg pos : Bool} {e : Rat} (h : Fi x) (hq : RnO x e) (hl : pos = false → e ≤ rvD x) : HiOk (stepW x neg pos true) e := by
 unfold stepW
 rw [Bool.and_true]
 cases pos with
 | true => exact ⟨(up_above h).1, up_one hq (up_above h).1 (up_above h).2⟩
 | false => rw [if_neg Bool.false_ne_true, if_neg (by simp)]; exact ⟨h.sane, by rw [enW_fi h]; exact hl rfl⟩
end Go.Proofs.YtgkcpnidmfejeaaGreatDoor
end
section
namespace Go.Proofs.YtgkcpnidmfejeaaGreatDoor.Fp
open Ieee
variable (f : Format)
theorem signed_prod2 (s t : Bool) (m n : Nat) : (if (s ^^ t) then -((m * n : Nat) : Int) else ((m * n : Nat) : Int)) = (if s then -(m : Int) else (m : Int)) * (if t then -(n : Int) else (n : Int)) := by
 cases s <;> cases t <;> simp [Int.neg_mul, Int.mul_neg]
theorem fma_fin2 (hl : f.leastPlace ≤ 0) (x y z : Nat) (hx : rg f x < f.infRung) (hy : rg f y < f.infRung) (hz : rg f z < f.infRung) :
 f.fma x y z = some (f.word (if un f x * un f y + un f z * 2 ^ deep f = 0 then (sg f x ^^ sg f y) && sg f z else decide (un f x * un f y + un f z * 2 ^ deep f < 0)) (min (grid f (un f x * un f y + un f z * 2 ^ deep f).natAbs (deep f)) f.infRung)) := by
 obtain ⟨m, i, r1, l1, u1⟩ := read_fin f x hx
 obtain ⟨n, j, r2, l2, u2⟩ := read_fin f y hy
 obtain ⟨q, k, r3, l3, u3⟩ := read_fin f z hz
 have hd : ((deep f : Nat) : Int) = - f.leastPlace := by unfold deep; omega
 unfold Format.fma
 rw [r1, r2, r3]
 show some (f.nearest _ _ _) = _
 generalize ht : signed (sg f x ^^ sg f y) (m * n) (i + j - min (i + j) k).toNat + signed (sg f z) q (k - min (i + j) k).toNat = t
 have hprod : un f x * un f y = if (sg f x ^^ sg f y) then -((m * n * 2 ^ (i + j - (f.leastPlace - (deep f : Nat))).toNat : Nat) : Int) else ((m * n * 2 ^ (i + j - (f.leastPlace - (deep f : Nat))).toNat : Nat) : Int) := by
  have e : m * n * 2 ^ (i + j - (f.leastPlace - (deep f : Nat))).toNat = m * 2 ^ (i - f.leastPlace).toNat * (n * 2 ^ (j - f.leastPlace).toNat) := by
   rw [show (i + j - (f.leastPlace - (deep f : Nat))).toNat = (i - f.leastPlace).toNat + (j - f.leastPlace).toNat by omega, Nat.pow_add, Nat.mul_mul_mul_comm]
  rw [e, signed_prod2, un_of_read f u1, un_of_read f u2]
 have hsum3 : un f z * 2 ^ deep f = if sg f z then -((q * 2 ^ (k - (f.leastPlace - (deep f : Nat))).toNat : Nat) : Int) else ((q * 2 ^ (k - (f.leastPlace - (deep f : Nat))).toNat : Nat) : Int) := by
  rw [un_of_read f u3, show (k - (f.leastPlace - (deep f : Nat))).toNat = (k - f.leastPlace).toNat + deep f by omega, Nat.pow_add, ← Nat.mul_assoc]
  have e2 : ((q * 2 ^ (k - f.leastPlace).toNat * 2 ^ deep f : Nat) : Int) = ((q * 2 ^ (k - f.leastPlace).toNat : Nat) : Int) * 2 ^ deep f := by
   rw [Int.natCast_mul (q * 2 ^ (k - f.leastPlace).toNat), Int.natCast_pow]; rfl
  rw [e2]
  cases sg f z
  ·rfl
  ·simp only [if_true]; rw [Int.neg_mul]
 have hsum : un f x * un f y + un f z * 2 ^ deep f = t * 2 ^ (min (i + j) k - (f.leastPlace - (deep f : Nat))).toNat := by
  rw [hprod, hsum3, ← signed_units _ _ _ (min (i + j) k) _ om om, ← signed_units _ _ _ (min (i + j) k) _ om om, ← Int.add_mul, ht]
 rw [nearest_deep f _ _ _ (deep f) om, hsum]
 have hp : (0 : Int) < 2 ^ (min (i + j) k - (f.leastPlace - (deep f : Nat))).toNat := by exact_mod_cast two_pow_pos _
 have e1 : (t * 2 ^ (min (i + j) k - (f.leastPlace - (deep f : Nat))).toNat = 0) ↔ t = 0 := by
  constructor
  ·intro h; rcases Int.mul_eq_zero.1 h with h | h
   ·exact h
   ·omega
  ·intro h; rw [h, Int.zero_mul]
 have e2 : (t * 2 ^ (min (i + j) k - (f.leastPlace - (deep f : Nat))).toNat < 0) ↔ t < 0 := by
  constructor
  ·exact zz132
  ·intro h; exact Int.mul_neg_of_neg_of_pos h hp
 have e3 : (t * 2 ^ (min (i + j) k - (f.leastPlace - (deep f : Nat))).toNat).natAbs = t.natAbs * 2 ^ (min (i + j) k - (f.leastPlace - (deep f : Nat))).toNat := by
  rw [Int.natAbs_mul, Int.natAbs_pow]; rfl
 simp only [e1, e2, e3]
end Go.Proofs.YtgkcpnidmfejeaaGreatDoor.Fp
namespace Go.Proofs.YtgkcpnidmfejeaaGreatDoor
theorem fma_rno {a b c : Nat} (ha : Fi a) (hb : Fi b) (hc : Fi c) : ∃ r, Ieee.double.fma a b c = some r ∧ RnO r (rvD a * rvD b + rvD c) := by
 refine ⟨_, Fp.fma_fin2 Ieee.double dc a b c ha.rg hb.rg hc.rg, ?_⟩
 generalize hz : Fp.un Ieee.double a * Fp.un Ieee.double b + Fp.un Ieee.double c * 2 ^ Fp.deep Ieee.double = z
 generalize hg : (if z = 0 then (Fp.sg Ieee.double a ^^ Fp.sg Ieee.double b) && Fp.sg Ieee.double c else decide (z < 0)) = g
 have h1 := word_sane g (r := min (Fp.grid Ieee.double z.natAbs (Fp.deep Ieee.double)) Ieee.double.infRung) (by rw [Fp.dI]; omega)
 have hv : Fp.val g z.natAbs = z := val_abs g z fun h => by rw [← hg, if_neg h]
 have e : rvD a * rvD b + rvD c = ((z : Int) : Rat) / ((u1 * 2 ^ Fp.deep Ieee.double : Nat) : Rat) := by
  rw [← hz]
  have c0 : (u1 : Rat) ≠ 0 := by have := u1_pos; exact_mod_cast (by omega : u1 ≠ 0)
  have e2 : ((2 : Int) ^ Fp.deep Ieee.double) = ((u1 : Nat) : Int) := by rw [← deep_u1]; push_cast; rfl
  rw [e2, deep_u1]
  unfold rvD; push_cast; grind
 refine ⟨h1.1, fun y hy => ?_⟩
 rw [h1.2, e]
 unfold rvD
 rw [rat_int_le u1_pos (Nat.two_pow_pos _), rat_int_ge u1_pos (Nat.two_pow_pos _), un_val y]
 have k := near_core g (Fp.sg Ieee.double y) z.natAbs (Fp.deep Ieee.double) (Fp.rg Ieee.double y) (Nat.le_of_lt hy.rg)
 rw [hv] at k
 exact k
theorem mag_one : Fp.mag Ieee.double 1 = 1 := Fp.mag_lt Ieee.double 1 (by rw [Fp.dB]; decide)
theorem sign_rno {r : Nat} {z : Int} (h : RnO r ((z : Rat) / (u1 : Rat))) : (0 < Fp.un Ieee.double r ↔ 0 < z) ∧ (Fp.un Ieee.double r < 0 ↔ z < 0) := by
 have f0 : Fi 0 := by unfold Fi; decide
 have f1 : Fi 1 := by unfold Fi; decide
 have f2 : Fi (9223372036854775808 + 1) := by unfold Fi; decide
 have k0 := h.2 0 f0
 have k1 := h.2 1 f1
 have k2 := h.2 _ f2
 unfold rvD at k0 k1 k2
 rw [rat_one, rat_one] at k0 k1 k2
 rw [un_low dc, Fp.mag_zero] at k0
 rw [un_low dc, mag_one] at k1
 rw [un_high dc, mag_one] at k2
 omega
end Go.Proofs.YtgkcpnidmfejeaaGreatDoor
end
section
namespace Go.Proofs.YtgkcpnidmfejeaaGreatDoor
def bW : Nat := 549439154539200512
theorem bW_fi : Fi bW ∧ Fi (9223372036854775808 + bW) := by unfold Fi bW; decide
theorem bW_un : Fp.un Ieee.double bW = ((2 ^ 173 : Nat) : Int) ∧ Fp.un Ieee.double (9223372036854775808 + bW) = -((2 ^ 173 : Nat) : Int) := by decide +kernel
theorem un_digits {a : Nat} (h : Fi a) : ∃ (c : Int) (i : Nat), Fp.un Ieee.double a = c * 2 ^ i ∧ c.natAbs < 9007199254740992 := by
 obtain ⟨c, i, h1, _, h2⟩ := mag_digits h.rg
 rw [un_val, h2]
 unfold Fp.val
 split
 ·exact ⟨-(c : Int), i, by push_cast; rw [Int.neg_mul], by omega⟩
 ·exact ⟨(c : Int), i, by push_cast; rfl, by omega⟩
theorem big_shift {c d : Int} {i j v x : Nat} (hx : x = 2 ^ v) (hc : c.natAbs < 9007199254740992) (hd : d.natAbs < 9007199254740992) (h : 2 ^ 173 * x < (c * 2 ^ i * (d * 2 ^ j)).natAbs) : v ≤ i + j := by
 rw [hx] at h
 rcases Nat.lt_or_ge (i + j) v with g | g
 ·exfalso
  have e1 : (c * 2 ^ i * (d * 2 ^ j)).natAbs = c.natAbs * d.natAbs * 2 ^ (i + j) := by
   rw [Int.natAbs_mul, Int.natAbs_mul, Int.natAbs_mul, Int.natAbs_pow, Int.natAbs_pow, Nat.pow_add]
   show c.natAbs * 2 ^ i * (d.natAbs * 2 ^ j) = _
   grind
  have h1 : c.natAbs * d.natAbs ≤ 9007199254740992 * 9007199254740992 := Nat.mul_le_mul (Nat.le_of_lt hc) (Nat.le_of_lt hd)
  have h2 : 2 ^ (i + j) ≤ 2 ^ v := Nat.pow_le_pow_right dc (Nat.le_of_lt g)
  have h3 := Nat.mul_le_mul h1 h2
  rw [e1] at h
  have h4 : 9007199254740992 * 9007199254740992 ≤ 2 ^ 173 := by decide
  have h5 := Nat.mul_le_mul_right (2 ^ v) h4
  exact absurd (Nat.lt_of_lt_of_le h (Nat.le_trans h3 h5)) (Nat.lt_irrefl _)
 ·exact g
theorem rv_mul (a b : Nat) : rvD a * rvD b = ((Fp.un Ieee.double a * Fp.un Ieee.double b : Int) : Rat) / ((u1 * u1 : Nat) : Rat) := by
 have c0 : (u1 : Rat) ≠ 0 := by have := u1_pos; exact_mod_cast (by omega : u1 ≠ 0)
 unfold rvD; push_cast; grind
theorem mul_whole {a b p : Nat} (ha : Fi a) (hb : Fi b) (hp : RnO p (rvD a * rvD b)) (hbig : 2 ^ 173 < (Fp.un Ieee.double p).natAbs) : ∃ P : Int, Fp.un Ieee.double a * Fp.un Ieee.double b = P * (u1 : Int) := by
 obtain ⟨c, i, e1, hc⟩ := un_digits ha
 obtain ⟨d, j, e2, hd⟩ := un_digits hb
 have k1 := hp.2 bW bW_fi.1
 have k2 := hp.2 _ bW_fi.2
 rw [rv_mul] at k1 k2
 unfold rvD at k1 k2
 rw [rat_int_le u1_pos u1_pos, rat_int_ge u1_pos u1_pos] at k1 k2
 rw [bW_un.1] at k1
 rw [bW_un.2] at k2
 have eu : ((2 ^ 173 * u1 : Nat) : Int) = ((2 ^ 173 : Nat) : Int) * (u1 : Int) := Int.natCast_mul _ _
 have hz : 2 ^ 173 * u1 < (Fp.un Ieee.double a * Fp.un Ieee.double b).natAbs := by
  rw [Int.neg_mul, ← eu] at k2
  rw [← eu] at k1
  generalize 2 ^ 173 * u1 = Z at *
  generalize (2 : Nat) ^ 173 = S at *
  omega
 have hs := big_shift (i := i) (j := j) (v := uE) (x := u1) rfl hc hd (by rw [← e1, ← e2]; exact hz)
 obtain ⟨k, hk⟩ := Nat.exists_eq_add_of_le hs
 refine ⟨c * d * 2 ^ k, ?_⟩
 have e3 : ((u1 : Nat) : Int) = 2 ^ uE := by unfold u1; push_cast; rfl
 rw [e1, e2, e3]
 have e4 : c * 2 ^ i * (d * 2 ^ j) = c * d * (2 ^ i * 2 ^ j) := by grind
 rw [e4, ← Int.pow_add, hk, Int.pow_add]
 grind
theorem zz63 {p : Prop} (h : p := by
 have := @rat_one y x
 rcases Int.lt_or_le x y with g | g
 ·have n : ¬ ((y : Rat) / (u1 : Rat) ≤ (x : Rat) / (u1 : Rat)) := by rw [this]; omega
  constructor
  ·intro _; exact g
  ·intro _; grind
 ·have n := this.2 g
  constructor
  ·intro h; grind
  ·intro h; omega) : p := h
theorem mul_left {a b p q l : Nat} (ha : Fi a) (hb : Fi b) (hp : RnO p (rvD a * rvD b)) (hbig : 2 ^ 173 < (Fp.un Ieee.double p).natAbs)
 (hq : Fp.un Ieee.double q = -Fp.un Ieee.double p) (hl : RnO l (rvD a * rvD b + rvD q)) :
 (0 < Fp.un Ieee.double l ↔ rvD p < rvD a * rvD b) ∧ (Fp.un Ieee.double l < 0 ↔ rvD a * rvD b < rvD p) := by
 obtain ⟨P, hP⟩ := mul_whole ha hb hp hbig
 have u0 : (0 : Rat) < (u1 : Rat) := by exact_mod_cast u1_pos
 have e1 : rvD a * rvD b = (P : Rat) / (u1 : Rat) := by
  rw [rv_mul, hP]; push_cast; grind
 have e2 : rvD a * rvD b + rvD q = ((P - Fp.un Ieee.double p : Int) : Rat) / (u1 : Rat) := by
  rw [e1]; unfold rvD; rw [hq]; push_cast; grind
 rw [e2] at hl
 have k := sign_rno hl
 rw [k.1, k.2, e1]
 have t1 : ∀ x y : Int, (x : Rat) / (u1 : Rat) < (y : Rat) / (u1 : Rat) ↔ x < y := by
  intro x y
  exact zz63
 unfold rvD
 rw [t1, t1]
 omega
end Go.Proofs.YtgkcpnidmfejeaaGreatDoor
end
section
namespace Go.Proofs.YtgkcpnidmfejeaaGreatDoor
def Full (l h : Nat) : Prop := Sane l ∧ Sane h ∧ (enW l).le (enW h) ∧ enW l ≠ .hi ∧ enW h ≠ .lo
def Holds (l h : Nat) (e : Rat) : Prop := LoOk l e ∧ HiOk h e
def LoEn (r : Nat) (z : En) : Prop := Sane r ∧ (enW r).le z
def HiEn (r : Nat) (z : En) : Prop := Sane r ∧ z.le (enW r)
theorem LoEn.ok {r : Nat} {z : En} {e : Rat} (h : LoEn r z) (g : z.le (.fn e)) : LoOk r e := ⟨h.1, En.trans h.2 g⟩
theorem HiEn.ok {r : Nat} {z : En} {e : Rat} (h : HiEn r z) (g : (En.fn e).le z) : HiOk r e := ⟨h.1, En.trans g h.2⟩
theorem Holds.full {l h : Nat} {e : Rat} (k : Holds l h e) : Full l h := by
 refine ⟨k.1.1, k.2.1, En.trans k.1.2 k.2.2, fun g => ?_, fun g => ?_⟩
 ·have := k.1.2; rw [g] at this; exact this
 ·have := k.2.2; rw [g] at this; exact this
theorem Full.point {l h : Nat} (k : Full l h) : ∃ e, Holds l h e := by
 obtain ⟨s1, s2, k1, k2, k3⟩ := k
 rcases sane_cases s1 with ⟨_, g⟩ | ⟨g, _⟩ | ⟨g, _⟩
 ·refine ⟨rvD l, ⟨s1, by rw [g]; exact En.le_self _⟩, ⟨s2, by rw [← g]; exact k1⟩⟩
 ·exact absurd g k2
 ·rcases sane_cases s2 with ⟨_, g2⟩ | ⟨g2, _⟩ | ⟨g2, _⟩
  ·exact ⟨rvD h, ⟨s1, by rw [g]; trivial⟩, ⟨s2, by rw [g2]; exact En.le_self _⟩⟩
  ·exact ⟨0, ⟨s1, by rw [g]; trivial⟩, ⟨s2, by rw [g2]; trivial⟩⟩
  ·exact absurd g2 k3
theorem LoOk.not {a : Nat} {p : Rat} (h : LoOk a p) (n : ¬ Fi a) : enW a = .lo := by
 rcases sane_cases h.1 with ⟨f, _⟩ | ⟨g, _⟩ | ⟨g, _⟩
 ·exact absurd f n
 ·have := h.2; rw [g] at this; exact this.elim
 ·exact g
theorem HiOk.not {a : Nat} {p : Rat} (h : HiOk a p) (n : ¬ Fi a) : enW a = .hi := by
 rcases sane_cases h.1 with ⟨f, _⟩ | ⟨g, _⟩ | ⟨g, _⟩
 ·exact absurd f n
 ·exact g
 ·have := h.2; rw [g] at this; exact this.elim
theorem LoOk.rv {a : Nat} {p : Rat} (h : LoOk a p) (f : Fi a) : rvD a ≤ p := by have := h.2; rw [enW_fi f] at this; exact this
theorem HiOk.rv {a : Nat} {p : Rat} (h : HiOk a p) (f : Fi a) : p ≤ rvD a := by have := h.2; rw [enW_fi f] at this; exact this
theorem LoOk.weak {r : Nat} {e e' : Rat} (h : LoOk r e) (g : e ≤ e') : LoOk r e' := ⟨h.1, En.trans h.2 ((En.le_fn _ _).2 g)⟩
theorem HiOk.weak {r : Nat} {e e' : Rat} (h : HiOk r e) (g : e' ≤ e) : HiOk r e' := ⟨h.1, En.trans ((En.le_fn _ _).2 g) h.2⟩
theorem sum_lo {a b r : Nat} {p q : Rat} (ha : LoOk a p) (hb : LoOk b q) (h : (¬ Fi a → r = a) ∧ (Fi a → ¬ Fi b → r = b) ∧ (Fi a → Fi b → LoOk r (rvD a + rvD b))) : LoOk r (p + q) := by
 by_cases fa : Fi a
 ·by_cases fb : Fi b
  ·have := ha.rv fa
   have := hb.rv fb
   exact (h.2.2 fa fb).weak (by grind)
  ·rw [h.2.1 fa fb]
   exact ⟨hb.1, by rw [hb.not fb]; trivial⟩
 ·rw [h.1 fa]
  exact ⟨ha.1, by rw [ha.not fa]; trivial⟩
theorem le_hi (x : En) : x.le .hi := by cases x <;> trivial
theorem sum_hi {a b r : Nat} {p q : Rat} (ha : HiOk a p) (hb : HiOk b q) (h : (¬ Fi a → r = a) ∧ (Fi a → ¬ Fi b → r = b) ∧ (Fi a → Fi b → HiOk r (rvD a + rvD b))) : HiOk r (p + q) := by
 by_cases fa : Fi a
 ·by_cases fb : Fi b
  ·have := ha.rv fa
   have := hb.rv fb
   exact (h.2.2 fa fb).weak (by grind)
  ·rw [h.2.1 fa fb]
   exact ⟨hb.1, by rw [hb.not fb]; exact le_hi _⟩
 ·rw [h.1 fa]
  exact ⟨ha.1, by rw [ha.not fa]; exact le_hi _⟩
theorem mul_lo_end {a1 a2 b1 b2 c11 c12 c21 c22 m : Nat} {p q : Rat} (hp : Holds a1 a2 p) (hq : Holds b1 b2 q)
 (h11 : LoEn c11 ((enW a1).mul (enW b1))) (h12 : LoEn c12 ((enW a1).mul (enW b2))) (h21 : LoEn c21 ((enW a2).mul (enW b1))) (h22 : LoEn c22 ((enW a2).mul (enW b2)))
 (hm : Sane m) (m1 : Fp.un Ieee.double m ≤ Fp.un Ieee.double c11) (m2 : Fp.un Ieee.double m ≤ Fp.un Ieee.double c12) (m3 : Fp.un Ieee.double m ≤ Fp.un Ieee.double c21) (m4 : Fp.un Ieee.double m ≤ Fp.un Ieee.double c22) : LoOk m (p * q) := by
 rcases En.corner hp.1.2 hp.2.2 hq.1.2 hq.2.2 with k | k | k | k
 ·exact ⟨hm, En.trans ((en_le hm h11.1).2 m1) (En.trans h11.2 k)⟩
 ·exact ⟨hm, En.trans ((en_le hm h12.1).2 m2) (En.trans h12.2 k)⟩
 ·exact ⟨hm, En.trans ((en_le hm h21.1).2 m3) (En.trans h21.2 k)⟩
 ·exact ⟨hm, En.trans ((en_le hm h22.1).2 m4) (En.trans h22.2 k)⟩
theorem mul_hi_end {a1 a2 b1 b2 c11 c12 c21 c22 m : Nat} {p q : Rat} (hp : Holds a1 a2 p) (hq : Holds b1 b2 q)
 (h11 : HiEn c11 ((enW a1).mul (enW b1))) (h12 : HiEn c12 ((enW a1).mul (enW b2))) (h21 : HiEn c21 ((enW a2).mul (enW b1))) (h22 : HiEn c22 ((enW a2).mul (enW b2)))
 (hm : Sane m) (m1 : Fp.un Ieee.double c11 ≤ Fp.un Ieee.double m) (m2 : Fp.un Ieee.double c12 ≤ Fp.un Ieee.double m) (m3 : Fp.un Ieee.double c21 ≤ Fp.un Ieee.double m) (m4 : Fp.un Ieee.double c22 ≤ Fp.un Ieee.double m) : HiOk m (p * q) := by
 rcases En.corner_hi hp.1.2 hp.2.2 hq.1.2 hq.2.2 with k | k | k | k
 ·exact ⟨hm, En.trans k (En.trans h11.2 ((en_le h11.1 hm).2 m1))⟩
 ·exact ⟨hm, En.trans k (En.trans h12.2 ((en_le h12.1 hm).2 m2))⟩
 ·exact ⟨hm, En.trans k (En.trans h21.2 ((en_le h21.1 hm).2 m3))⟩
 ·exact ⟨hm, En.trans k (En.trans h22.2 ((en_le h22.1 hm).2 m4))⟩
end Go.Proofs.YtgkcpnidmfejeaaGreatDoor
end
section
namespace Go.Proofs.YtgkcpnidmfejeaaGreatDoor
theorem sg_high {b : Nat} (hb : b < 18446744073709551616) : Fp.sg Ieee.double b = decide (9223372036854775808 ≤ b) := by
 show (b / Ieee.double.signWeight % 2 == 1) = _
 rw [Fp.dS]
 by_cases g : 9223372036854775808 ≤ b
 ·rw [decide_eq_true g, show b / 9223372036854775808 = 1 by omega]; rfl
 ·rw [decide_eq_false g, show b / 9223372036854775808 = 0 by omega]; rfl
theorem flip_lo {a : Nat} (ha : a < 9223372036854775808) : a ^^^ 2 ^ 63 = a + 9223372036854775808 := by
 have := Nat.two_pow_add_eq_or_of_lt (i := 63) (b := a) ha 1
 rw [Nat.mul_one] at this
 rw [show a + 9223372036854775808 = 2 ^ 63 + a by omega, this, Nat.xor_comm]
 apply Nat.eq_of_testBit_eq
 intro i
 rw [Nat.testBit_xor, Nat.testBit_or, Nat.testBit_two_pow]
 by_cases hi : 63 = i
 ·subst hi
  rw [Nat.testBit_lt_two_pow ha]; simp
 ·simp [hi]
theorem neg_lo {a : Nat} (ha : a < 9223372036854775808) : Go.Op.negFloat .f64 a = a + 9223372036854775808 := flip_lo ha
theorem neg_hi {x : Nat} (h : 9223372036854775808 ≤ x) (hx : x < 18446744073709551616) : Go.Op.negFloat .f64 x = x - 9223372036854775808 := by
 obtain ⟨a, rfl⟩ : ∃ a, x = a + 9223372036854775808 := ⟨x - 9223372036854775808, by omega⟩
 show (a + 9223372036854775808) ^^^ 2 ^ 63 = _
 rw [← flip_lo (a := a) om, Nat.xor_assoc, Nat.xor_self, Nat.xor_zero, flip_lo om]
 omega
theorem neg_sane {x : Nat} (h : Sane x) : Sane (Go.Op.negFloat .f64 x) ∧ Fp.un Ieee.double (Go.Op.negFloat .f64 x) = -Fp.un Ieee.double x := by
 obtain ⟨h1, h2⟩ := h
 by_cases g : 9223372036854775808 ≤ x
 ·rw [neg_hi g h1]
  refine ⟨⟨by omega, by omega⟩, ?_⟩
  unfold Fp.un
  rw [sg_high om, sg_high h1, decide_eq_false om, decide_eq_true g, Fp.rg64, Fp.rg64, if_neg Bool.false_ne_true, if_pos rfl, show (x - 9223372036854775808) % 9223372036854775808 = x % 9223372036854775808 by omega]
  omega
 ·rw [neg_lo om]
  refine ⟨⟨by omega, by omega⟩, ?_⟩
  unfold Fp.un
  rw [sg_high om, sg_high h1, decide_eq_true om, decide_eq_false g, Fp.rg64, Fp.rg64, if_neg Bool.false_ne_true, if_pos rfl, show (x + 9223372036854775808) % 9223372036854775808 = x % 9223372036854775808 by omega]
theorem enW_un {x y : Nat} (hx : Sane x) (hy : Sane y) (h : Fp.un Ieee.double x = Fp.un Ieee.double y) : enW x = enW y := by
 rcases sane_cases hx with ⟨f, e⟩ | ⟨e, u⟩ | ⟨e, u⟩ <;> rcases sane_cases hy with ⟨f', e'⟩ | ⟨e', u'⟩ | ⟨e', u'⟩ <;> rw [e, e'] <;>
  (have T : 0 < 2 ^ Fp.dtop := Nat.two_pow_pos _) <;> (try have := un_fi f) <;> (try have := un_fi f') <;> first | rfl | (exfalso; omega) | skip
 unfold rvD; rw [h]
theorem enW_neg {x : Nat} (h : Sane x) : enW (Go.Op.negFloat .f64 x) = (enW x).neg := by
 obtain ⟨s, u⟩ := neg_sane h
 have T : 0 < 2 ^ Fp.dtop := Nat.two_pow_pos _
 rcases sane_cases h with ⟨f, e⟩ | ⟨e, v⟩ | ⟨e, v⟩ <;> rcases sane_cases s with ⟨f', e'⟩ | ⟨e', u'⟩ | ⟨e', u'⟩ <;> rw [e, e'] <;>
  (try have := un_fi f) <;> (try have := un_fi f') <;> first | rfl | (exfalso; omega) | skip
 show En.fn _ = En.fn _
 unfold rvD; rw [u]; congr 1; push_cast; grind
theorem LoOk.un {r r' : Nat} {e : Rat} (h : LoOk r e) (s : Sane r') (g : Fp.un Ieee.double r' = Fp.un Ieee.double r) : LoOk r' e := ⟨s, by rw [enW_un s h.1 g]; exact h.2⟩
theorem HiOk.un {r r' : Nat} {e : Rat} (h : HiOk r e) (s : Sane r') (g : Fp.un Ieee.double r' = Fp.un Ieee.double r) : HiOk r' e := ⟨s, by rw [enW_un s h.1 g]; exact h.2⟩
theorem LoOk.neg {r r' : Nat} {e : Rat} (h : LoOk r e) (s : Sane r') (g : Fp.un Ieee.double r' = -Fp.un Ieee.double r) : HiOk r' (-e) := by
 obtain ⟨s2, u⟩ := neg_sane h.1
 refine ⟨s, ?_⟩
 rw [enW_un s s2 om, enW_neg h.1]
 exact (En.neg_le (.fn e) (enW r)).2 h.2
theorem HiOk.neg {r r' : Nat} {e : Rat} (h : HiOk r e) (s : Sane r') (g : Fp.un Ieee.double r' = -Fp.un Ieee.double r) : LoOk r' (-e) := by
 obtain ⟨s2, u⟩ := neg_sane h.1
 refine ⟨s, ?_⟩
 rw [enW_un s s2 om, enW_neg h.1]
 exact (En.neg_le (enW r) (.fn e)).2 h.2
theorem not_fi {x : Nat} (h : Sane x) (n : ¬ Fi x) : x = 9218868437227405312 ∨ x = 18442240474082181120 := by
 obtain ⟨h1, h2⟩ := h
 have : ¬ x % 9223372036854775808 < 9218868437227405312 := fun g => n ⟨h1, g⟩
 omega
theorem fi_zero : Fi 0 := by unfold Fi; decide
theorem un_zero : Fp.un Ieee.double 0 = 0 := by decide +kernel
theorem rv_zero : rvD 0 = 0 := by unfold rvD; rw [un_zero]; grind
theorem fi_max : Fi 9218868437227405311 ∧ Fi 18442240474082181119 := by unfold Fi; decide
theorem rno_un {q x : Nat} (h : RnO q (rvD x)) (f : Fi x) : Fp.un Ieee.double q = Fp.un Ieee.double x := by
 have := h.2 x f
 have a := this.1 Rat.le_refl
 have b := this.2 Rat.le_refl
 omega
theorem add_zero {x : Nat} (h : Sane x) : ∃ r, Ieee.double.add x 0 = some r ∧ Sane r ∧ Fp.un Ieee.double r = Fp.un Ieee.double x := by
 by_cases f : Fi x
 ·obtain ⟨r, e, k⟩ := add_rno f fi_zero
  rw [rv_zero] at k
  have k2 : RnO r (rvD x) := by have e2 : rvD x + 0 = rvD x := by grind
                                rwa [e2] at k
  exact ⟨r, e, k2.1, rno_un k2 f⟩
 ·rcases not_fi h f with rfl | rfl
  ·exact ⟨9218868437227405312, by decide +kernel, h, rfl⟩
  ·exact ⟨18442240474082181120, by decide +kernel, h, rfl⟩
def EndOk (up : Bool) (r : Nat) (e : Rat) : Prop := if up then HiOk r e else LoOk r e
def EndEn (up : Bool) (r : Nat) (z : En) : Prop := if up then HiEn r z else LoEn r z
def upM (up : Bool) : Int := if up then 3 else 4
theorem EndOk.sane {up : Bool} {r : Nat} {e : Rat} (h : EndOk up r e) : Sane r := by cases up; exact h.1; exact h.1
theorem EndEn.sane {up : Bool} {r : Nat} {z : En} (h : EndEn up r z) : Sane r := by cases up; exact h.1; exact h.1
theorem EndOk.en {up : Bool} {r : Nat} {e : Rat} (h : EndOk up r e) : EndEn up r (.fn e) := by
 cases up
 ·exact h
 ·exact h
theorem EndEn.same {up : Bool} {r : Nat} {z : En} (s : Sane r) (h : enW r = z) : EndEn up r z := by
 cases up
 ·exact ⟨s, by rw [h]; exact En.le_self _⟩
 ·exact ⟨s, by rw [h]; exact En.le_self _⟩
theorem step_end {up : Bool} {x : Nat} {neg pos : Bool} {e : Rat} (h : Fi x) (hq : RnO x e) (hl : neg = false → rvD x ≤ e) (hp : pos = false → e ≤ rvD x) : EndOk up (stepW x neg pos up) e := by
 cases up
 ·exact step_lo h hq hl
 ·exact step_hi h hq hp
theorem le_dec {x e : Rat} : (decide (e < x) = false → x ≤ e) := by
 intro h
 rcases rat_or e x with g | g
 ·rw [decide_eq_true g] at h; cases h
 ·exact g
theorem step_sign {up : Bool} {x : Nat} {e : Rat} (h : Fi x) (hq : RnO x e) : EndOk up (stepW x (decide (e < rvD x)) (decide (rvD x < e)) up) e :=
 step_end h hq le_dec le_dec
theorem inf_end {up : Bool} {q : Nat} {e : Rat} (hq : RnO q e) (n : ¬ Fi q) :
 EndOk up (if decide (0 < Fp.un Ieee.double q) = up then q else if 0 < Fp.un Ieee.double q then 9218868437227405311 else 18442240474082181119) e := by
 have T : 0 < 2 ^ Fp.dtop := Nat.two_pow_pos _
 have b1 := un_fi fi_max.1
 have b2 := un_fi fi_max.2
 rcases sane_cases hq.1 with ⟨f, _⟩ | ⟨g, u⟩ | ⟨g, u⟩
 ·exact absurd f n
 ·rw [decide_eq_true om]
  cases up
  ·rw [if_neg (by simp), if_pos om]
   refine ⟨fi_max.1.sane, ?_⟩
   rw [enW_fi fi_max.1]
   rcases rat_or e (rvD 9218868437227405311) with k | k
   ·have := (hq.2 _ fi_max.1).2 (Rat.le_of_lt k); omega
   ·exact k
  ·rw [if_pos rfl]
   exact ⟨hq.1, by rw [g]; trivial⟩
 ·rw [decide_eq_false om]
  cases up
  ·rw [if_pos rfl]
   exact ⟨hq.1, by rw [g]; trivial⟩
  ·rw [if_neg (by simp), if_neg om]
   refine ⟨fi_max.2.sane, ?_⟩
   rw [enW_fi fi_max.2]
   rcases rat_or (rvD 18442240474082181119) e with k | k
   ·have := (hq.2 _ fi_max.2).1 (Rat.le_of_lt k); omega
   ·exact k
theorem rv_zero_iff {x : Nat} : rvD x = 0 ↔ Fp.un Ieee.double x = 0 := by
 have h1 := rv_le x 0
 have h2 := rv_le 0 x
 rw [rv_zero, un_zero] at h1 h2
 constructor
 ·intro h; rw [h] at h1 h2; have := h1.1 Rat.le_refl; have := h2.1 Rat.le_refl; omega
 ·intro h; have a := h1.2 om; have b := h2.2 om; grind
theorem rv_pos_iff {x : Nat} : 0 < rvD x ↔ 0 < Fp.un Ieee.double x := by
 have h1 := rv_le x 0
 rw [rv_zero, un_zero] at h1
 constructor
 ·intro h
  rcases Int.lt_or_le 0 (Fp.un Ieee.double x) with k | k
  ·exact k
  ·have := h1.2 k; grind
 ·intro h
  rcases rat_or 0 (rvD x) with k | k
  ·exact k
  ·have := h1.1 k; omega
theorem rv_neg_iff {x : Nat} : rvD x < 0 ↔ Fp.un Ieee.double x < 0 := by
 have h1 := rv_le 0 x
 rw [rv_zero, un_zero] at h1
 constructor
 ·intro h
  rcases Int.lt_or_le (Fp.un Ieee.double x) 0 with k | k
  ·exact k
  ·have := h1.2 k; grind
 ·intro h
  rcases rat_or (rvD x) 0 with k | k
  ·exact k
  ·have := h1.1 k; omega
theorem en_neg_iff {x : Nat} (h : Sane x) : (enW x).isNeg = decide (Fp.un Ieee.double x < 0) := by
 have T : 0 < 2 ^ Fp.dtop := Nat.two_pow_pos _
 rcases sane_cases h with ⟨f, g⟩ | ⟨g, u⟩ | ⟨g, u⟩ <;> rw [g]
 ·show decide (rvD x < 0) = _
  exact decide_eq_decide.2 rv_neg_iff
 ·rw [decide_eq_false om]; rfl
 ·rw [decide_eq_true om]; rfl
theorem en_zero {x : Nat} (h : Sane x) (u : Fp.un Ieee.double x = 0) : Fi x ∧ enW x = .fn 0 := by
 have T : 0 < 2 ^ Fp.dtop := Nat.two_pow_pos _
 rcases sane_cases h with ⟨f, g⟩ | ⟨g, u⟩ | ⟨g, u⟩
 ·exact ⟨f, by rw [g, rv_zero_iff.2 u]⟩
 ·omega
 ·omega
def ByEnd (up : Bool) (a b r : Nat) : Prop :=
 (Fp.un Ieee.double b = 0 → Fp.un Ieee.double a ≠ 0 → r = if 0 < Fp.un Ieee.double a then 9218868437227405312 else 18442240474082181120) ∧
 (Fp.un Ieee.double a = 0 → r = 0) ∧
 (¬ Fi b → r = 0) ∧
 (Fp.un Ieee.double b ≠ 0 → Fi b → ¬ Fi a → r = a) ∧
 (Fp.un Ieee.double b ≠ 0 → Fi b → Fi a → Fp.un Ieee.double a ≠ 0 → EndOk up r (rvD a / rvD b))
theorem by_end {up : Bool} {a b r : Nat} (ha : Sane a) (hb : Sane b) (h0 : 0 ≤ Fp.un Ieee.double b) (hf : Fi a ∨ Fi b) (h : ByEnd up a b r) : EndEn up r ((enW a).quo (enW b)) := by
 obtain ⟨h1, h2, h3, h4, h5⟩ := h
 have T : 0 < 2 ^ Fp.dtop := Nat.two_pow_pos _
 have e0 : enW 0 = .fn 0 := by rw [enW_fi fi_zero, rv_zero]
 have sI : Sane 9218868437227405312 ∧ Sane 18442240474082181120 := by unfold Sane; decide
 have eI : enW 9218868437227405312 = .hi ∧ enW 18442240474082181120 = .lo := by unfold enW; exact ⟨by rw [if_neg dc, if_pos dc], by rw [if_neg dc, if_neg dc]⟩
 by_cases a0 : Fp.un Ieee.double a = 0
 ·rw [h2 a0]
  refine EndEn.same fi_zero.sane ?_
  rw [e0, (en_zero ha a0).2]
  rcases sane_cases hb with ⟨f, g⟩ | ⟨g, u⟩ | ⟨g, u⟩ <;> rw [g]
  ·show En.fn 0 = (if (0 : Rat) = 0 then En.fn 0 else if rvD b = 0 then (if (0 : Rat) < 0 then En.hi else En.lo) else En.fn (0 / rvD b))
   rw [if_pos rfl]
  ·rfl
  ·omega
 by_cases b0 : Fp.un Ieee.double b = 0
 ·rw [h1 b0 a0, (en_zero hb b0).2]
  rcases sane_cases ha with ⟨f, g⟩ | ⟨g, u⟩ | ⟨g, u⟩ <;> rw [g]
  ·have n0 : rvD a ≠ 0 := fun k => a0 (rv_zero_iff.1 k)
   have e : (En.fn (rvD a)).quo (.fn 0) = if 0 < rvD a then .hi else .lo := by
    show (if rvD a = 0 then En.fn 0 else if (0 : Rat) = 0 then (if 0 < rvD a then En.hi else En.lo) else En.fn (rvD a / 0)) = _
    rw [if_neg n0, if_pos rfl]
   rw [e]
   by_cases p : 0 < Fp.un Ieee.double a
   ·rw [if_pos p, if_pos (rv_pos_iff.2 p)]; exact EndEn.same sI.1 eI.1
   ·rw [if_neg p, if_neg (fun k => p (rv_pos_iff.1 k))]; exact EndEn.same sI.2 eI.2
  ·rw [if_pos om]; exact EndEn.same sI.1 eI.1
  ·rw [if_neg om]; exact EndEn.same sI.2 eI.2
 by_cases fb : Fi b
 ·by_cases fa : Fi a
  ·have k := (h5 b0 fb fa a0).en
   have e : (enW a).quo (enW b) = .fn (rvD a / rvD b) := by
    rw [enW_fi fa, enW_fi fb]
    show (if rvD a = 0 then En.fn 0 else if rvD b = 0 then (if 0 < rvD a then En.hi else En.lo) else En.fn (rvD a / rvD b)) = _
    rw [if_neg (fun k => a0 (rv_zero_iff.1 k)), if_neg (fun k => b0 (rv_zero_iff.1 k))]
   rw [e]; exact k
  ·rw [h4 b0 fb fa]
   refine EndEn.same ha ?_
   rw [enW_fi fb]
   rcases sane_cases ha with ⟨f, g⟩ | ⟨g, u⟩ | ⟨g, u⟩
   ·exact absurd f fa
   ·rw [g]; rfl
   ·rw [g]; rfl
 ·rw [h3 fb]
  refine EndEn.same fi_zero.sane ?_
  have fa : Fi a := hf.resolve_right fb
  rw [e0, enW_fi fa]
  rcases sane_cases hb with ⟨f, g⟩ | ⟨g, u⟩ | ⟨g, u⟩
  ·exact absurd f fb
  ·rw [g]; rfl
  ·omega
theorem over_holds {a1 a2 b1 b2 l h lo hi : Nat} {p q : Rat} (hp : Holds a1 a2 p) (hq : Holds b1 b2 q) (hb : 0 ≤ Fp.un Ieee.double b1) (q0 : q ≠ 0)
 (hlo : lo = if Fp.un Ieee.double a1 < 0 then b1 else b2) (hhi : hi = if 0 < Fp.un Ieee.double a2 then b1 else b2) (h1 : ByEnd false a1 lo l) (h2 : ByEnd true a2 hi h) : Holds l h (p / q) := by
 have sb1 := hq.1.1
 have sb2 := hq.2.1
 have hM : (En.fn 0).le (enW b1) := by
  have := (en_le fi_zero.sane sb1).2 (by rw [un_zero]; exact hb)
  rwa [enW_fi fi_zero, rv_zero] at this
 have hq1 : (0 : Rat) < q := by
  have := (En.le_fn _ _).1 (En.trans hM hq.1.2); grind
 have nb1 : enW b1 ≠ .hi := hq.full.2.2.2.1
 have hb2 : 0 ≤ Fp.un Ieee.double b2 := by
  have := (en_le sb1 sb2).1 (En.trans hq.1.2 hq.2.2); omega
 have fb1 : Fi b1 := by
  rcases sane_cases sb1 with ⟨f, _⟩ | ⟨g, _⟩ | ⟨g, u⟩
  ·exact f
  ·exact absurd g nb1
  ·have T : 0 < 2 ^ Fp.dtop := Nat.two_pow_pos _
   omega
 have T : 0 < 2 ^ Fp.dtop := Nat.two_pow_pos _
 refine ⟨?_, ?_⟩
 ·have f : Fi a1 ∨ Fi lo := by
   rw [hlo]
   split
   ·exact .inr fb1
   ·rename_i g
    rcases sane_cases hp.1.1 with ⟨f, _⟩ | ⟨g2, _⟩ | ⟨g2, u⟩
    ·exact .inl f
    ·exact absurd g2 hp.full.2.2.2.1
    ·omega
  have s : Sane lo ∧ 0 ≤ Fp.un Ieee.double lo := by rw [hlo]; split; exact ⟨sb1, hb⟩; exact ⟨sb2, hb2⟩
  have k := by_end hp.1.1 s.1 s.2 f h1
  have k2 := En.over_lo (L := enW a1) hp.1.2 hM hq.1.2 hq.2.2 hq1
  rw [en_neg_iff hp.1.1] at k2
  have e : (if decide (Fp.un Ieee.double a1 < 0) = true then enW b1 else enW b2) = enW lo := by
   rw [hlo]; by_cases g : Fp.un Ieee.double a1 < 0
   ·rw [if_pos g, if_pos (decide_eq_true g)]
   ·rw [if_neg g, if_neg (by simpa using g)]
  rw [e] at k2
  exact LoEn.ok k k2
 ·have f : Fi a2 ∨ Fi hi := by
   rw [hhi]
   split
   ·exact .inr fb1
   ·rename_i g
    rcases sane_cases hp.2.1 with ⟨f, _⟩ | ⟨g2, u⟩ | ⟨g2, u⟩
    ·exact .inl f
    ·omega
    ·exact absurd g2 hp.full.2.2.2.2
  have s : Sane hi ∧ 0 ≤ Fp.un Ieee.double hi := by rw [hhi]; split; exact ⟨sb1, hb⟩; exact ⟨sb2, hb2⟩
  have k := by_end hp.2.1 s.1 s.2 f h2
  have k2 := En.over_hi (H := enW a2) hp.2.2 hM hq.1.2 hq.2.2 hq1
  have e0 : (enW a2).neg.isNeg = decide (0 < Fp.un Ieee.double a2) := by
   rw [← enW_neg hp.2.1, en_neg_iff (neg_sane hp.2.1).1, (neg_sane hp.2.1).2]
   exact decide_eq_decide.2 om
  rw [e0] at k2
  have e : (if decide (0 < Fp.un Ieee.double a2) = true then enW b1 else enW b2) = enW hi := by
   rw [hhi]; by_cases g : 0 < Fp.un Ieee.double a2
   ·rw [if_pos g, if_pos (decide_eq_true g)]
   ·rw [if_neg g, if_neg (by simpa using g)]
  rw [e] at k2
  exact HiEn.ok k k2
def Iv (l h : Nat) : Prop := Full l h ∨ (l = 9218868437227405312 ∧ h = 18442240474082181120)
theorem Iv.no {l h : Nat} (k : Iv l h) (n : ¬ Full l h) : l = 9218868437227405312 ∧ h = 18442240474082181120 := k.resolve_left n
theorem full_iff {l h : Nat} (s1 : Sane l) (s2 : Sane h) : Full l h ↔ Fp.un Ieee.double l ≤ Fp.un Ieee.double h ∧ Fp.un Ieee.double l < ((2 ^ Fp.dtop : Nat) : Int) ∧ -((2 ^ Fp.dtop : Nat) : Int) < Fp.un Ieee.double h := by
 have T : 0 < 2 ^ Fp.dtop := Nat.two_pow_pos _
 unfold Full
 rw [en_le s1 s2]
 constructor
 ·rintro ⟨_, _, k, n1, n2⟩
  refine ⟨k, ?_, ?_⟩
  ·rcases sane_cases s1 with ⟨f, _⟩ | ⟨g, _⟩ | ⟨g, u⟩
   ·exact (un_fi f).2
   ·exact absurd g n1
   ·omega
  ·rcases sane_cases s2 with ⟨f, _⟩ | ⟨g, u⟩ | ⟨g, _⟩
   ·exact (un_fi f).1
   ·omega
   ·exact absurd g n2
 ·rintro ⟨k, n1, n2⟩
  refine ⟨s1, s2, k, fun g => ?_, fun g => ?_⟩
  ·rcases sane_cases s1 with ⟨f, e⟩ | ⟨_, u⟩ | ⟨e, u⟩
   ·rw [e] at g; cases g
   ·omega
   ·rw [e] at g; cases g
  ·rcases sane_cases s2 with ⟨f, e⟩ | ⟨e, u⟩ | ⟨_, u⟩
   ·rw [e] at g; cases g
   ·rw [e] at g; cases g
   ·omega
theorem empty_no {e : Rat} : ¬ Holds 9218868437227405312 18442240474082181120 e := by
 intro k
 have := k.1.2
 unfold enW at this
 rw [if_neg dc, if_pos dc] at this
 exact this
theorem Iv.full {l h : Nat} {e : Rat} (_ : Iv l h) (k : Holds l h e) : Full l h := k.full
end Go.Proofs.YtgkcpnidmfejeaaGreatDoor
end
