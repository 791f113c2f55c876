/- Package binnacleref00, whole numbers: of integers; Set, Neg, Abs: walks. -/
import Derived.Test.YtifgngmebnjfkaaDoorBg8
import Derived.Test.YtifgngmebnjfkaaDoorBg2
namespace Go.Proofs.YtifgngmebnjfkaaDoor
open Go.RowKit

theorem IntB.rd {w : World} {g : Nat} {v : Int} (h : IntB w g v) : ∃ A c, w.cell? ⟨g, 0, none⟩ = some (.bool (decide (v < 0))) ∧ w.cell? ⟨g, 1, none⟩ = some (.slice A (dg v.natAbs).length c) ∧ RowAt w A (dg v.natAbs) := by
  obtain ⟨A, c, h0, h1, _, hr⟩ := h.cells
  exact ⟨A, c, h0, h1, hr⟩
theorem sgv_self (v : Int) : sgv (decide (v < 0)) v.natAbs = v := by
  unfold sgv; by_cases h : v < 0
  · rw [if_pos (decide_eq_true h)]; omega
  · rw [decide_eq_false h, if_neg Bool.false_ne_true]; omega
theorem sgv_not (v : Int) : sgv (!decide (v < 0)) v.natAbs = -v := by
  unfold sgv; by_cases h : v < 0
  · rw [decide_eq_true h, if_neg (by decide)]; omega
  · rw [decide_eq_false h, if_pos (by decide)]; omega
theorem sgv_no (n : Nat) : sgv false n = n := rfl
theorem PutI.trans {W w : World} {z : Nat} {v : Int} {e : Ending} {w' : World} (h : Within W w) (k : PutI w z v e w') : PutI W z v e w' := ⟨k.1, k.2.1, grown_trans (grown_within z h) k.2.2⟩
theorem wval_two (n : Nat) : wval [n % 4294967296, n / 4294967296] = n := by
  simp only [wval]; omega

theorem two_at (w : World) (x y : Nat) (C : Array Value) (hC : C = #[.int .u32 (x : Int), .int .u32 (y : Int)]) : RowAt (w.alloc (.cells C 22)) (some ⟨w.heap.size, 0, none⟩) [x, y] := by
  subst hC
  intro _
  have h := World.rowIs_alloc w #[.int .u32 (x : Int), .int .u32 (y : Int)] 22 (fun i => .int .u32 (([x, y].getD i 0 : Nat) : Int)) (by
    intro i hi
    have : i = 0 ∨ i = 1 := by simp at hi; omega
    rcases this with rfl | rfl <;> rfl)
  exact ⟨_, _, _, rfl, Nat.le_refl _, h, fun i _ => rfl⟩
set_option maxRecDepth 100000 in
set_option maxHeartbeats 600000 in
theorem Bwords (n : Nat) (hn : n < 18446744073709551616) (w : World) : Calls Tryd.prog 115 #[.int .u64 (n : Int)] w (RetW w n) := by
  have hh : (n : Int) / 4294967296 % 4294967296 = (n : Int) / 4294967296 := by omega
  have HN := Lib.hid hn; clear hn
  have CT := Lib.hid (fun (w' : World) (hr : RowAt w' (some ⟨w.heap.size, 0, none⟩) [n % 4294967296, n / 4294967296]) => Bcut [n % 4294967296, n / 4294967296] (some ⟨w.heap.size, 0, none⟩) 2 (by intro x hx; have := HN.out; simp at hx; omega) (by simp) (by simp) w' hr)
  go_enter Tryd.func115, Tryd.ntmps115
  go_wp2_with fail
  refine (CT.out _ (two_at w _ _ _ (by simp))).mono ?_; rintro e1 w1 ⟨rfl, rfl⟩
  go_wp2
  go_ret
  exact retW_cut (two_at w _ _ _ (by simp)) (by intro x hx; have := HN.out; simp at hx; omega) (by simp) ((Within.refl w).alloc _) (wval_two n)

set_option maxRecDepth 100000 in
set_option maxHeartbeats 600000 in
theorem BsetUint64 (z n : Nat) (hn : n < 18446744073709551616) (w : World) (hz : IntTy w z) : Calls Tryd.prog 84 #[.pointer (some ⟨z, 0, none⟩), .int .u64 (n : Int)] w (PutI w z n) := by
  have HZ := Lib.hid hz; clear hz
  have HN := Lib.hid hn; clear hn
  go_enter Tryd.func84, Tryd.ntmps84
  go_wp2_with fail
  refine (Bwords n HN.out w).mono ?_; rintro e1 w1 ⟨A1, c1, rfl, hc1, hr1, hb1⟩
  go_wp2_with fail
  refine (Bput z false (dg n) A1 c1 (words_dg n) hc1 (Nat.le_trans (dg_len_le (k := 2) HN.out) (by decide)) w1 hr1 (HZ.out.of hb1)).mono ?_; rintro e2 w2 ⟨rfl, hI, hG⟩
  go_wp2
  go_ret
  rw [wval_dg, sgv_no] at hI
  exact ⟨rfl, hI, grown_trans (grown_within z hb1) hG⟩

set_option maxRecDepth 100000 in
set_option maxHeartbeats 600000 in
theorem BsetInt64_neg (z : Nat) (n : Int) (m : Nat) (b : Bool) (hn : n < 0) (hb : b = true) (hm : n = -(m : Int)) (hl : m ≤ 9223372036854775808) (w : World) (hz : IntTy w z) : Calls Tryd.prog 114 #[.pointer (some ⟨z, 0, none⟩), .int .i64 n] w (PutI w z (sgv b m)) := by
  have HZ := Lib.hid hz; clear hz
  have HL := Lib.hid (show m < 18446744073709551616 by omega)
  have d : decide (n < 0) = true := decide_eq_true hn
  have HB := Lib.hid hb; clear hb
  have g : IntKind.u64.wrap (-IntKind.u64.wrap n) = (m : Int) := by rw [IntKind.wrap_u64, IntKind.wrap_u64]; omega
  clear hn hm hl
  go_enter Tryd.func114, Tryd.ntmps114
  go_wp2_with fail
  refine (Bwords m HL.out w).mono ?_; rintro e1 w1 ⟨A1, c1, rfl, hc1, hr1, hb1⟩
  go_wp2_with fail
  refine (Bput z true (dg m) A1 c1 (words_dg m) hc1 (Nat.le_trans (dg_len_le (k := 2) HL.out) (by decide)) w1 hr1 (HZ.out.of hb1)).mono ?_; rintro e2 w2 ⟨rfl, hI, hG⟩
  go_wp2
  go_ret
  rw [wval_dg] at hI
  rw [HB.out]
  exact ⟨rfl, hI, grown_trans (grown_within z hb1) hG⟩

set_option maxRecDepth 100000 in
set_option maxHeartbeats 600000 in
theorem BsetInt64_pos (z : Nat) (n : Int) (m : Nat) (b : Bool) (hn : ¬ n < 0) (hb : b = false) (hm : n = (m : Int)) (hl : m ≤ 9223372036854775807) (w : World) (hz : IntTy w z) : Calls Tryd.prog 114 #[.pointer (some ⟨z, 0, none⟩), .int .i64 n] w (PutI w z (sgv b m)) := by
  have HZ := Lib.hid hz; clear hz
  have HL := Lib.hid (show m < 18446744073709551616 by omega)
  have d : decide (n < 0) = false := decide_eq_false hn
  have HB := Lib.hid hb; clear hb
  have g : IntKind.u64.wrap n = (m : Int) := by rw [IntKind.wrap_u64]; omega
  clear hn hm hl
  go_enter Tryd.func114, Tryd.ntmps114
  go_wp2_with fail
  refine (Bwords m HL.out w).mono ?_; rintro e1 w1 ⟨A1, c1, rfl, hc1, hr1, hb1⟩
  go_wp2_with fail
  refine (Bput z false (dg m) A1 c1 (words_dg m) hc1 (Nat.le_trans (dg_len_le (k := 2) HL.out) (by decide)) w1 hr1 (HZ.out.of hb1)).mono ?_; rintro e2 w2 ⟨rfl, hI, hG⟩
  go_wp2
  go_ret
  rw [wval_dg] at hI
  rw [HB.out]
  exact ⟨rfl, hI, grown_trans (grown_within z hb1) hG⟩

theorem BsetInt64 (z : Nat) (n : Int) (h1 : -9223372036854775808 ≤ n) (h2 : n ≤ 9223372036854775807) (w : World) (hz : IntTy w z) : Calls Tryd.prog 114 #[.pointer (some ⟨z, 0, none⟩), .int .i64 n] w (PutI w z n) := by
  by_cases h : n < 0
  · have := BsetInt64_neg z n n.natAbs true h rfl (by omega) (by omega) w hz
    rwa [show sgv true n.natAbs = n by unfold sgv; rw [if_pos rfl]; omega] at this
  · have := BsetInt64_pos z n n.natAbs false h rfl (by omega) (by omega) w hz
    rwa [show sgv false n.natAbs = n by unfold sgv; rw [if_neg (by decide)]; omega] at this

/-- returned: a new number -/
def NewI (W : World) (v : Int) (e : Ending) (w' : World) : Prop := ∃ g, e = .returned (.pointer (some ⟨g, 0, none⟩)) ∧ IntB w' g v ∧ W.heap.size ≤ g ∧ Within W w'
set_option maxRecDepth 100000 in
set_option maxHeartbeats 600000 in
theorem BnewInt (n : Int) (h1 : -9223372036854775808 ≤ n) (h2 : n ≤ 9223372036854775807) (w : World) : Calls Tryd.prog 83 #[.int .i64 n] w (NewI w n) := by
  have SI := Lib.hid (fun (w' : World) (hz : IntTy w' w.heap.size) => BsetInt64 w.heap.size n h1 h2 w' hz)
  have HT := Lib.hid (IntB.made w).ty
  clear h1 h2
  go_enter Tryd.func83, Tryd.ntmps83
  go_wp2_with fail
  refine (SI.out _ HT.out).mono ?_; rintro e1 w1 ⟨rfl, hI, hG⟩
  go_wp2
  go_ret
  exact ⟨_, rfl, hI, Nat.le_refl _, Within.grown ((Within.refl w).alloc _) hG (Nat.le_refl _)⟩

theorem Bset (z x : Nat) (v : Int) (hl : (dg v.natAbs).length ≤ 2000000) (w : World) (hz : IntTy w z) (hx : IntB w x v) : Calls Tryd.prog 129 #[.pointer (some ⟨z, 0, none⟩), .pointer (some ⟨x, 0, none⟩)] w (PutI w z v) := by
  obtain ⟨A, c, c0, c1, hr⟩ := hx.rd
  have := Bset0 z x _ A (dg v.natAbs) c (words_dg _) hl w hz c0 c1 hr
  rw [wval_dg, sgv_self] at this
  exact this

set_option maxRecDepth 100000 in
set_option maxHeartbeats 600000 in
theorem Bneg0 (z x : Nat) (b : Bool) (A : Option Addr) (l : List Nat) (c : Nat) (hw : Words l) (hl : l.length ≤ 2000000) (w : World) (hz : IntTy w z) (c0 : w.cell? ⟨x, 0, none⟩ = some (.bool b)) (c1 : w.cell? ⟨x, 1, none⟩ = some (.slice A l.length c)) (hr : RowAt w A l) : Calls Tryd.prog 94 #[.pointer (some ⟨z, 0, none⟩), .pointer (some ⟨x, 0, none⟩)] w (PutI w z (sgv (!b) (wval l))) := by
  have HZ := Lib.hid hz; have HW := Lib.hid hw; have HR := Lib.hid hr; clear hz hw hr
  have hlt := World.block_lt_of_cell? w _ c0
  go_enter Tryd.func94, Tryd.ntmps94
  go_wp2
  refine wp_region_sched (fun W => W.cell? ⟨x, 0, none⟩ = some (.bool b) ∧ W.cell? ⟨x, 1, none⟩ = some (.slice A l.length c)) 11 [(0, true), (1, true), (2, true), (3, true), (4, true), (5, true), (6, true), (7, true), (8, true), (9, true), (10, false), (11, false), (12, false)] (by kernel_rfl) (by kernel_rfl) ⟨c0, c1⟩ ?_
  intro hS
  repeat
    apply sched_firm rfl rfl hS
    · intro wq hq
      have hq0 := hq.1; have hq1 := hq.2
      clear hq
      go_simp
      first | rfl | (trace_state; fail)
    try simp only [Act.put, List.setIfInBounds_toArray, List.set_cons_zero, List.set_cons_succ]
  refine sched_one rfl rfl (fun K hK => ?_)
  refine wp_copy (.const (.slice none 0 0)) (.tmp 14) A l c rfl rfl rfl rfl (RowAt.drew HR.out) (Nat.le_trans hl (by decide)) ?_
  intro A' c' w2 hc' hr' hb'
  have hb2 : Within w w2 := (Within.refl w).drew.trans hb'
  refine hK _ _ (fun h => ⟨(hb2.cells _ _ hlt).trans c0, (hb2.cells _ _ hlt).trans c1⟩) ?_
  clear hK K
  try simp only [Act.put, List.setIfInBounds_toArray, List.set_cons_zero, List.set_cons_succ]
  refine sched_one rfl rfl (fun K hK => ?_)
  go_simp
  refine (Bput z (!b) l A' c' HW.out hc' hl w2 hr' (HZ.out.of hb2)).mono ?_
  rintro e3 w3 ⟨rfl, hI, hG⟩
  refine hK _ _ (fun h => absurd h (by decide)) ?_
  clear hK K
  try simp only [Act.put, List.setIfInBounds_toArray, List.set_cons_zero, List.set_cons_succ]
  refine sched_one rfl rfl (fun K hK => ?_)
  go_simp
  refine hK _ _ (fun h => absurd h (by decide)) ?_
  clear hK K
  try simp only [Act.put, List.setIfInBounds_toArray, List.set_cons_zero, List.set_cons_succ]
  refine sched_nil ?_
  go_wp2
  go_ret
  exact ⟨rfl, hI, grown_trans (grown_within z hb2) hG⟩

theorem Bneg (z x : Nat) (v : Int) (hl : (dg v.natAbs).length ≤ 2000000) (w : World) (hz : IntTy w z) (hx : IntB w x v) : Calls Tryd.prog 94 #[.pointer (some ⟨z, 0, none⟩), .pointer (some ⟨x, 0, none⟩)] w (PutI w z (-v)) := by
  obtain ⟨A, c, c0, c1, hr⟩ := hx.rd
  have := Bneg0 z x _ A (dg v.natAbs) c (words_dg _) hl w hz c0 c1 hr
  rw [wval_dg, sgv_not] at this
  exact this

set_option maxRecDepth 100000 in
set_option maxHeartbeats 600000 in
theorem Babs (z x : Nat) (v : Int) (hl : (dg v.natAbs).length ≤ 2000000) (w : World) (hz : IntTy w z) (hx : IntB w x v) : Calls Tryd.prog 64 #[.pointer (some ⟨z, 0, none⟩), .pointer (some ⟨x, 0, none⟩)] w (PutI w z (v.natAbs : Int)) := by
  obtain ⟨A, c, c0, c1, hr⟩ := hx.rd
  have HZ := Lib.hid hz; have HR := Lib.hid hr; clear hz hr hx
  obtain ⟨l, hle⟩ : ∃ l, l = dg v.natAbs := ⟨_, rfl⟩
  rw [← hle] at hl c1 HR
  have HLE := Lib.hid hle; clear hle
  go_enter Tryd.func64, Tryd.ntmps64
  go_wp2_with (refine wpList_plain rfl fun K hK => ?_; refine wp_copy (.const (.slice none 0 0)) (.tmp 9) A l c rfl rfl rfl rfl HR.out (Nat.le_trans hl (by decide)) ?_; intro A' c' w2 hc' hr' hb'; refine hK _ _ ?_)
  refine (Bput z false l A' c' (by rw [HLE.out]; exact words_dg _) hc' hl w2 hr' (HZ.out.of hb')).mono ?_; rintro e3 w3 ⟨rfl, hI, hG⟩
  go_wp2
  go_ret
  rw [HLE.out, wval_dg, sgv_no] at hI
  exact ⟨rfl, hI, grown_trans (grown_within z hb') hG⟩

end Go.Proofs.YtifgngmebnjfkaaDoor
