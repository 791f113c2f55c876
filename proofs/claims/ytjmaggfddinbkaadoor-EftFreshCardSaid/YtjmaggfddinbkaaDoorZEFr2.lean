/- What the law's walk rests on, part 2: contracts of functions and plain facts. -/
import Derived.Test.YtjmaggfddinbkaaDoorRows
import Derived.WalkKit
import Derived.WalkSpells
import Derived.WalkLawsBesides
import Derived.BigQuiet
import Derived.Lib.Hide
import Ieee.Arith
import Derived.Deep.OwnRows
import Derived.OwnWalk
import Derived.LoopTactic
import Derived.Outline
import Derived.IntWalk
import Derived.Shelf.Bits.Mul64
import Derived.Laws.Externs
import Derived.Deep.QuietTactic
import Derived.Deep.RegionWith
import Derived.OrdersHeld
import Derived.StillTail
import Derived.Deep.RegionHeld3
import Derived.Maps.AppendAt
import Derived.Lib.TrailingZeros
import Derived.Lib.BitFns
import Derived.Lib.Strings
import Derived.Lib.Slices
import Derived.Lib.Small
import Derived.Lib.Walk
import Derived.Deep.AppendLies
import Derived.Deep.Draws
import Derived.Laws.OwnMore
import Derived.Deep.DeepCutAuto
import Derived.ProofKit
import Derived.OpenShut
import Derived.ShutString
import Derived.ChangeOld
import Derived.Below
import Derived.Deep.DeepHandedRow
import Derived.Lib.LaidTab
import Derived.ChangeSlices
import Derived.Carry
import Derived.SizedLaws
import Derived.Deep.Strs
import Derived.Lib.SmallJoins
import Derived.Test.YtjmaggfddinbkaaDoorZEFr1
set_option linter.unusedVariables false
set_option linter.unusedSimpArgs false
section
namespace Go.Proofs.YtjmaggfddinbkaaDoor.P64
open Go.RowKit
theorem repl_getD (n j : Nat) : (List.replicate n 0).getD j 0 = 0 := by
  rw [List.getD_eq_getElem?_getD, List.getElem?_replicate]
  by_cases h : j < n
  · rw [if_pos h]; rfl
  · rw [if_neg h]; rfl
def LeftRel (W : World) (g : Nat) (la : List Nat) (W0 S0 : Nat) (iv : Value) (wr : World) : Prop :=
  ∃ (k : Nat) (o : List Nat), k ≤ la.length ∧ iv = .int .i64 (k : Int) ∧ o.length = W0 + la.length + 1 ∧ Words o ∧ OwnW wr g o ∧ lo o (W0 + k + 1) = lo la k * 2 ^ S0 * 18446744073709551616 ^ W0 ∧ o.getD (W0 + k) 0 < 2 ^ S0 ∧ (∀ j, W0 + k < j → o.getD j 0 = 0) ∧ Within W wr
theorem low_lt {x S0 z : Nat} (hS : S0 < 64) (hz : z < 2 ^ S0) : z + x * 2 ^ S0 % 18446744073709551616 < 18446744073709551616 := by
  rw [left_low hS]
  have h1 : x % 2 ^ (64 - S0) < 2 ^ (64 - S0) := Nat.mod_lt _ (Nat.two_pow_pos _)
  have h2 : (x % 2 ^ (64 - S0) + 1) * 2 ^ S0 ≤ 2 ^ (64 - S0) * 2 ^ S0 := Nat.mul_le_mul_right _ h1
  rw [← Nat.pow_add, show 64 - S0 + S0 = 64 by omega, Nat.add_mul] at h2
  omega
theorem low_or {x S0 z : Nat} (hS : S0 < 64) (hz : z < 2 ^ S0) : bits .or .u64 (z : Int) ((x * 2 ^ S0 % 18446744073709551616 : Nat) : Int) = ((z + x * 2 ^ S0 % 18446744073709551616 : Nat) : Int) := by
  have h1 := low_lt (x := x) hS hz
  rw [u64_or_nat _ _ (by omega) (by omega), Nat.or_comm, nat_join S0 _ _ (by rw [left_low hS, Nat.mul_mod_left]) hz, Nat.add_comm]
theorem LeftRel.step {W wr : World} {g : Nat} {la o : List Nat} {W0 S0 k x z : Nat} (u v q : Int) (hk : k < la.length) (hS : S0 < 64) (ho : o.length = W0 + la.length + 1) (hwo : Words o) (hown : OwnW wr g o)
    (hval : lo o (W0 + k + 1) = lo la k * 2 ^ S0 * 18446744073709551616 ^ W0) (hlow : z < 2 ^ S0) (hzero : ∀ j, W0 + k < j → o.getD j 0 = 0) (hin : Within W wr)
    (hx : x = la.getD k 0) (hz : z = o.getD (W0 + k) 0) (hx2 : x < 18446744073709551616) (hg : W.heap.size ≤ g) (hu : u = ((z + x * 2 ^ S0 % 18446744073709551616 : Nat) : Int)) (hv : v = ((x * 2 ^ S0 / 18446744073709551616 : Nat) : Int)) (hq : q = ((k + 1 : Nat) : Int)) :
    LeftRel W g la W0 S0 (.int .i64 q) ((wr.setCell ⟨g, W0 + k, none⟩ (.int .u64 u)).setCell ⟨g, W0 + k + 1, none⟩ (.int .u64 v)) := by
  subst hu hv hq
  have hh := left_high (m := x) (s := S0) hx2
  have h32 : 2 ^ S0 ≤ 18446744073709551616 := by rw [show (18446744073709551616 : Nat) = 2 ^ 64 from rfl]; exact Nat.pow_le_pow_right (by decide) (by omega)
  have hl := low_lt (x := x) hS hlow
  generalize hL : x * 2 ^ S0 % 18446744073709551616 = L at *
  generalize hH : x * 2 ^ S0 / 18446744073709551616 = H at *
  have ho1 : (o.set (W0 + k) (z + L)).length = W0 + la.length + 1 := by rw [List.length_set]; exact ho
  refine ⟨k + 1, (o.set (W0 + k) (z + L)).set (W0 + k + 1) H, by omega, rfl, by rw [List.length_set]; exact ho1, (hwo.set _ _ hl).set _ _ (by omega), (hown.set _ _ (by omega)).set _ _ (by omega), ?_, ?_, ?_, (hin.setCell hg _).setCell hg _⟩
  · rw [show W0 + (k + 1) + 1 = W0 + k + 1 + 1 by omega, lo_set_succ _ _ _ (by omega), lo_set_succ _ _ _ (by omega), lo_succ la, ← hx]
    rw [lo_succ, ← hz] at hval
    have := left_step (P := 18446744073709551616 ^ (W0 + k)) (t := x * 2 ^ S0) hval
    rw [hL, hH] at this
    rw [Nat.pow_succ, this, Nat.add_mul, Nat.add_mul, Nat.pow_add]
    congr 1
    rw [Nat.mul_comm (18446744073709551616 ^ W0), Nat.mul_assoc, Nat.mul_assoc, Nat.mul_assoc, Nat.mul_comm (18446744073709551616 ^ W0), Nat.mul_assoc]
  · rw [show W0 + (k + 1) = W0 + k + 1 by omega, getD_set_eq _ _ _ (by omega)]; exact hh
  · intro j hj
    rw [lset_ne _ _ _ _ (by omega), lset_ne _ _ _ _ (by omega)]
    exact hzero j (by omega)
set_option maxRecDepth 100000 in
set_option maxHeartbeats 600000 in
theorem Pleft_pos (la : List Nat) (A : Option Addr) (ca n W0 S0 : Nat) (hwa : Words la) (hla : la.length ≤ 500000) (h0 : 0 < la.length) (hn : n = 64 * W0 + S0) (hS : S0 < 64) (hW : W0 ≤ 500000) (w : World) (hra : RowAt w A la) :
    Calls Tryd.prog 62 #[.slice A la.length ca, .int .u64 (n : Int)] w (RetW w (wval la * 2 ^ n)) := by
  have hmk := run_make_row' (P := Tryd.prog) 56 22 (.int .u64 0) 8 (by kernel_rfl) infoU64 rfl .i64 .i64 (W0 + la.length + 1) (by omega) (by omega)
  rw [show ((W0 + la.length + 1 : Nat) : Int) = (W0 : Int) + (la.length : Int) + 1 by omega] at hmk
  have HWA := Lib.hid hwa; have HRA := Lib.hid hra; clear hwa hra
  have hq : (n : Int) / 64 = (W0 : Int) := by omega
  have hr : (n : Int) % 64 = (S0 : Int) := by omega
  have d0 : ((la.length : Int) == 0) = false := beq_eq_false_iff_ne.2 (by omega)
  have HN := Lib.hid hn; clear hn
  have HM := OwnW.made w (W0 + la.length + 1)
  go_enter Tryd.func62, Tryd.ntmps62
  go_wp2
  go_loopw [26] (fun iv wr => LeftRel w w.heap.size la W0 S0 iv wr) (fun iv _ => la.length - (intOf iv).toNat)
  case atStart => exact ⟨0, _, Nat.zero_le _, rfl, by simp, Words.zeros _, HM, by
    rw [lo_zero, lo]
    rw [show (List.replicate (W0 + la.length + 1) 0).take (W0 + 0 + 1) = List.replicate (W0 + 0 + 1) 0 by rw [List.take_replicate]; congr 1; omega, wval_zeros]; simp, by
    rw [repl_getD]; exact Nat.two_pow_pos _, fun j _ => repl_getD _ _, (Within.refl w).alloc _⟩
  case round =>
    obtain ⟨k, o, hk, rfl, ho, hwo, hown, hval, hlow, hzero, hin⟩ := hrel
    have HV := Lib.hid hval; have HO := Lib.hid ho; have HWO := Lib.hid hwo; have HZ := Lib.hid hzero; clear hval ho hwo hzero
    rcases Nat.lt_or_ge k la.length with hlt | hlt
    · obtain ⟨ga, rfl, hga, hca⟩ := (HRA.out.of hin).cell hlt
      obtain ⟨x, hxe⟩ : ∃ x, x = la.getD k 0 := ⟨_, rfl⟩
      have hx : x < 18446744073709551616 := by rw [hxe]; exact HWA.out.getD k
      rw [← hxe] at hca
      have HXE := Lib.hid hxe; clear hxe
      obtain ⟨z, hze⟩ : ∃ z, z = o.getD (W0 + k) 0 := ⟨_, rfl⟩
      have hco := hown.cell (i := W0 + k) (by rw [HO.out]; omega)
      have hfo := hown.frozen (W0 + k)
      have hco1 := hown.cell (i := W0 + k + 1) (by rw [HO.out]; omega)
      have hfo1 := hown.frozen (W0 + k + 1)
      rw [← hze] at hco hlow
      have HZE := Lib.hid hze; clear hze
      have gsh : IntKind.u64.wrap ((x : Int) * 2 ^ S0) = ((x * 2 ^ S0 % 18446744073709551616 : Nat) : Int) := by
        have e : (x : Int) * 2 ^ S0 = ((x * 2 ^ S0 : Nat) : Int) := by simp
        rw [e, IntKind.wrap_u64]; omega
      have gsw : IntKind.u64.wrap (64 - (S0 : Int)) = ((64 - S0 : Nat) : Int) := by rw [IntKind.wrap_u64]; omega
      have gsx : (64 - (S0 : Int)).toNat = 64 - S0 := by omega
      have gor := low_or (x := x) hS hlow
      have gdv : x * 2 ^ S0 / 18446744073709551616 = x / 2 ^ (64 - S0) := by
        rw [show (18446744073709551616 : Nat) = 2 ^ (64 - S0) * 2 ^ S0 by rw [← Nat.pow_add, show 64 - S0 + S0 = 64 by omega], Nat.mul_div_mul_right _ _ (Nat.two_pow_pos S0)]
      have hstep := fun (u v q : Int) => LeftRel.step (S0 := S0) (x := x) (z := z) u v q hlt hS HO.out HWO.out hown HV.out hlow HZ.out hin HXE.out HZE.out hx (Nat.le_refl _)
      rw [gdv] at hstep
      have HST := Lib.hid hstep; clear hstep
      go_wp2
      go_roundw
      case rel => exact HST.out _ _ _ (by rw [show ((x : Int) * 2 ^ S0 % 18446744073709551616) = ((x * 2 ^ S0 % 18446744073709551616 : Nat) : Int) by simp]; exact gor) (by simp) (by omega)
      case measure => simp [intOf]; omega
    · obtain rfl : k = la.length := by omega
      have CT := Lib.hid (Pnorm o (some ⟨w.heap.size, 0, none⟩) (W0 + la.length + 1) HWO.out (by rw [HO.out]; exact Nat.le_refl _) (by rw [HO.out]; omega) _ hown.at)
      rw [HO.out] at CT
      go_wp2_with fail
      refine (CT.out).mono ?_; rintro e1 w1 ⟨rfl, rfl⟩
      go_wp2
      go_ret
      refine retW_cut hown.at HWO.out (by rw [HO.out]; exact Nat.le_refl _) hin ?_
      rw [← lo_all o (Nat.le_of_eq HO.out), HV.out, lo_all _ (Nat.le_refl _), HN.out, Nat.mul_assoc, show (18446744073709551616 : Nat) = 2 ^ 64 from rfl, ← Nat.pow_mul, ← Nat.pow_add, Nat.add_comm S0]
set_option maxRecDepth 100000 in
set_option maxHeartbeats 600000 in
theorem Pleft_nil (A : Option Addr) (ca n : Nat) (w : World) : Calls Tryd.prog 62 #[.slice A 0 ca, .int .u64 (n : Int)] w (RetW w 0) := by
  go_enter Tryd.func62, Tryd.ntmps62
  go_wp2
  go_ret
  exact ⟨none, 0, by rw [dg_zero]; rfl, by rw [dg_zero]; exact Nat.le_refl _, by rw [dg_zero]; exact RowAt.nil, Within.refl _⟩
theorem Pleft (a : Nat) (A : Option Addr) (ca n : Nat) (ha : (dg a).length ≤ 500000) (hn : n ≤ 16000000) (w : World) (hra : RowAt w A (dg a)) :
    Calls Tryd.prog 62 #[.slice A (dg a).length ca, .int .u64 (n : Int)] w (RetW w (a * 2 ^ n)) := by
  by_cases h : a = 0
  · subst h
    rw [dg_zero, Nat.zero_mul]
    exact Pleft_nil A ca n w
  · have := Pleft_pos (dg a) A ca n (n / 64) (n % 64) (words_dg a) ha (dg_len_pos h) (by omega) (by omega) (by omega) w hra
    rw [wval_dg] at this
    exact this
end Go.Proofs.YtjmaggfddinbkaaDoor.P64
end

section
namespace Go.Proofs.YtjmaggfddinbkaaDoor.P64
open Go.RowKit
theorem IntB.rd {w : World} {g : Nat} {v : Int} (h : IntB w g v) : ∃ A c, w.cell? ⟨g, 0, none⟩ = some (.bool (decide (v < 0))) ∧ w.cell? ⟨g, 1, none⟩ = some (.slice A (dg v.natAbs).length c) ∧ RowAt w A (dg v.natAbs) := by
  obtain ⟨A, c, h0, h1, _, hr⟩ := h.cells
  exact ⟨A, c, h0, h1, hr⟩
theorem sgv_not (v : Int) : sgv (!decide (v < 0)) v.natAbs = -v := by
  unfold sgv; by_cases h : v < 0
  · rw [decide_eq_true h, if_neg (by decide)]; omega
  · rw [decide_eq_false h, if_pos (by decide)]; omega
theorem sgv_no (n : Nat) : sgv false n = n := rfl
theorem PutI.trans {W w : World} {z : Nat} {v : Int} {e : Ending} {w' : World} (h : Within W w) (k : PutI w z v e w') : PutI W z v e w' := ⟨k.1, k.2.1, grown_trans (grown_within z h) k.2.2⟩
theorem PutI_eq {W : World} {z : Nat} {v v2 : Int} {e : Ending} {w' : World} (h : PutI W z v e w') (k : v = v2) : PutI W z v2 e w' := k ▸ h
theorem dg_mul_len {a b n m : Nat} (ha : (dg a).length ≤ n) (hb : (dg b).length ≤ m) : (dg (a * b)).length ≤ n + m := by
  refine dg_len_le ?_
  have h1 := Nat.lt_of_lt_of_le (lt_of_dg a) (Nat.pow_le_pow_right (by decide) ha)
  have h2 := Nat.lt_of_lt_of_le (lt_of_dg b) (Nat.pow_le_pow_right (by decide) hb)
  rw [Nat.pow_add]
  exact Nat.mul_lt_mul_of_lt_of_le h1 (Nat.le_of_lt h2) (Nat.pow_pos (by decide))
set_option maxRecDepth 100000 in
set_option maxHeartbeats 600000 in
theorem PsetUint64 (z n : Nat) (hn : n < 18446744073709551616) (w : World) (hz : IntTy w z) : Calls Tryd.prog 40 #[.pointer (some ⟨z, 0, none⟩), .int .u64 (n : Int)] w (PutI w z n) := by
  have HZ := Lib.hid hz; clear hz
  have HN := Lib.hid hn; clear hn
  go_enter Tryd.func40, Tryd.ntmps40
  go_wp2_with fail
  refine (Pword n HN.out w).mono ?_; rintro e1 w1 ⟨A1, c1, rfl, hc1, hr1, hb1⟩
  go_wp2_with fail
  refine (Pmade z false n A1 c1 hc1 w1 hr1 (HZ.out.of hb1)).mono ?_; rintro e2 w2 ⟨rfl, hI, hG⟩
  go_wp2
  go_ret
  rw [sgv_no] at hI
  exact ⟨rfl, hI, grown_trans (grown_within z hb1) hG⟩
set_option maxRecDepth 100000 in
set_option maxHeartbeats 600000 in
theorem Pmul0 (z x y : Nat) (sa sb : Bool) (na nb : Nat) (A Bv : Option Addr) (ca cb : Nat) (ha : (dg na).length ≤ 700000) (hb : (dg nb).length ≤ 700000) (w : World) (hz : IntTy w z) (a0 : w.cell? ⟨x, 0, none⟩ = some (.bool sa)) (a1 : w.cell? ⟨x, 1, none⟩ = some (.slice A (dg na).length ca)) (hra : RowAt w A (dg na)) (b0 : w.cell? ⟨y, 0, none⟩ = some (.bool sb)) (b1 : w.cell? ⟨y, 1, none⟩ = some (.slice Bv (dg nb).length cb)) (hrb : RowAt w Bv (dg nb)) : Calls Tryd.prog 36 #[.pointer (some ⟨z, 0, none⟩), .pointer (some ⟨x, 0, none⟩), .pointer (some ⟨y, 0, none⟩)] w (PutI w z (sgv (!sa == sb) (na * nb))) := by
  have HZ := Lib.hid hz; have HRA := Lib.hid hra; have HRB := Lib.hid hrb; clear hz hra hrb
  have hlx := World.block_lt_of_cell? w _ a0; have hly := World.block_lt_of_cell? w _ b0
  go_enter Tryd.func36, Tryd.ntmps36
  go_wp2
  refine wp_region_sched (fun W => W.cell? ⟨x, 0, none⟩ = some (.bool sa) ∧ W.cell? ⟨y, 0, none⟩ = some (.bool sb) ∧ W.cell? ⟨x, 1, none⟩ = some (.slice A (dg na).length ca) ∧ W.cell? ⟨y, 1, none⟩ = some (.slice Bv (dg nb).length cb)) 19 [(0, true), (1, true), (2, true), (3, true), (4, true), (5, true), (6, true), (7, true), (8, true), (9, true), (10, true), (11, true), (12, true), (13, true), (14, true), (15, true), (16, true), (17, true), (18, false), (19, false), (20, false)] (by kernel_rfl) (by kernel_rfl) ⟨a0, b0, a1, b1⟩ ?_
  intro hS
  repeat
    apply sched_firm rfl rfl hS
    · intro wq hq
      have hq0 := hq.1; have hq1 := hq.2.1; have hq2 := hq.2.2.1; have hq3 := hq.2.2.2
      clear hq
      go_simp
      first | rfl | (trace_state; fail)
    try simp only [Act.put, List.setIfInBounds_toArray, List.set_cons_zero, List.set_cons_succ]
  refine sched_one rfl rfl (fun K hK => ?_)
  go_simp
  refine (Ptimes na nb A Bv ca cb ha hb w.drew (RowAt.drew HRA.out) (RowAt.drew HRB.out)).mono ?_
  rintro e2 w2 ⟨A', c', rfl, hc', hr', hb'⟩
  have hb2 : Within w w2 := (Within.refl w).drew.trans hb'
  refine hK _ _ (fun h => ⟨(hb2.cells _ _ hlx).trans a0, (hb2.cells _ _ hly).trans b0, (hb2.cells _ _ hlx).trans a1, (hb2.cells _ _ hly).trans b1⟩) ?_
  clear hK K
  try simp only [Act.put, List.setIfInBounds_toArray, List.set_cons_zero, List.set_cons_succ]
  refine sched_one rfl rfl (fun K hK => ?_)
  go_simp
  refine (Pmade z _ (na * nb) A' c' hc' w2 hr' (HZ.out.of hb2)).mono ?_
  rintro e3 w3 ⟨rfl, hI, hG⟩
  refine hK _ _ (fun h => absurd h (by decide)) ?_
  clear hK K
  try simp only [Act.put, List.setIfInBounds_toArray, List.set_cons_zero, List.set_cons_succ]
  refine sched_one rfl rfl (fun K hK => ?_)
  go_simp
  refine hK _ _ (fun h => absurd h (by decide)) ?_
  clear hK K
  try simp only [Act.put, List.setIfInBounds_toArray, List.set_cons_zero, List.set_cons_succ]
  refine sched_nil ?_
  go_wp2
  go_ret
  exact ⟨rfl, hI, grown_trans (grown_within z hb2) hG⟩
theorem Pmul (z x y : Nat) (a b : Int) (ha : (dg a.natAbs).length ≤ 700000) (hb : (dg b.natAbs).length ≤ 700000) (w : World) (hz : IntTy w z) (hx : IntB w x a) (hy : IntB w y b) : Calls Tryd.prog 36 #[.pointer (some ⟨z, 0, none⟩), .pointer (some ⟨x, 0, none⟩), .pointer (some ⟨y, 0, none⟩)] w (PutI w z (a * b)) := by
  obtain ⟨A, ca, a0, a1, hra⟩ := hx.rd
  obtain ⟨Bv, cb, b0, b1, hrb⟩ := hy.rd
  refine Calls.mono (Pmul0 z x y _ _ _ _ A Bv ca cb ha hb w hz a0 a1 hra b0 b1 hrb) (fun _ _ h => PutI_eq h ?_)
  unfold sgv
  rw [← Int.natAbs_mul]
  by_cases ha0 : a < 0 <;> by_cases hb0 : b < 0
  · have := Int.mul_pos_of_neg_of_neg ha0 hb0; simp [ha0, hb0]; omega
  · have := Int.mul_nonpos_of_nonpos_of_nonneg (Int.le_of_lt ha0) (Int.not_lt.1 hb0); simp [ha0, hb0]; omega
  · have := Int.mul_nonpos_of_nonneg_of_nonpos (Int.not_lt.1 ha0) (Int.le_of_lt hb0); simp [ha0, hb0]; omega
  · have := Int.mul_nonneg (Int.not_lt.1 ha0) (Int.not_lt.1 hb0); simp [ha0, hb0]; omega
set_option maxRecDepth 100000 in
set_option maxHeartbeats 600000 in
theorem Plsh0 (z x n : Nat) (sa : Bool) (na : Nat) (A : Option Addr) (ca : Nat) (ha : (dg na).length ≤ 400000) (hn : n ≤ 16000000) (w : World) (hz : IntTy w z) (a0 : w.cell? ⟨x, 0, none⟩ = some (.bool sa)) (a1 : w.cell? ⟨x, 1, none⟩ = some (.slice A (dg na).length ca)) (hra : RowAt w A (dg na)) : Calls Tryd.prog 42 #[.pointer (some ⟨z, 0, none⟩), .pointer (some ⟨x, 0, none⟩), .int .u64 (n : Int)] w (PutI w z (sgv sa (na * 2 ^ n))) := by
  have HZ := Lib.hid hz; have HRA := Lib.hid hra; clear hz hra
  have hlx := World.block_lt_of_cell? w _ a0
  go_enter Tryd.func42, Tryd.ntmps42
  go_wp2
  refine wp_region_sched (fun W => W.cell? ⟨x, 0, none⟩ = some (.bool sa) ∧ W.cell? ⟨x, 1, none⟩ = some (.slice A (dg na).length ca)) 11 [(0, true), (1, true), (2, true), (3, true), (4, true), (5, true), (6, true), (7, true), (8, true), (9, true), (10, false), (11, false), (12, false)] (by kernel_rfl) (by kernel_rfl) ⟨a0, a1⟩ ?_
  intro hS
  repeat
    apply sched_firm rfl rfl hS
    · intro wq hq
      have hq0 := hq.1; have hq1 := hq.2
      clear hq
      go_simp
      first | rfl | (trace_state; fail)
    try simp only [Act.put, List.setIfInBounds_toArray, List.set_cons_zero, List.set_cons_succ]
  refine sched_one rfl rfl (fun K hK => ?_)
  go_simp
  refine (Pleft na A ca n (by omega) hn w.drew (RowAt.drew HRA.out)).mono ?_
  rintro e2 w2 ⟨A', c', rfl, hc', hr', hb'⟩
  have hb2 : Within w w2 := (Within.refl w).drew.trans hb'
  refine hK _ _ (fun h => ⟨(hb2.cells _ _ hlx).trans a0, (hb2.cells _ _ hlx).trans a1⟩) ?_
  clear hK K
  try simp only [Act.put, List.setIfInBounds_toArray, List.set_cons_zero, List.set_cons_succ]
  refine sched_one rfl rfl (fun K hK => ?_)
  go_simp
  refine (Pmade z _ (na * 2 ^ n) A' c' hc' w2 hr' (HZ.out.of hb2)).mono ?_
  rintro e3 w3 ⟨rfl, hI, hG⟩
  refine hK _ _ (fun h => absurd h (by decide)) ?_
  clear hK K
  try simp only [Act.put, List.setIfInBounds_toArray, List.set_cons_zero, List.set_cons_succ]
  refine sched_one rfl rfl (fun K hK => ?_)
  go_simp
  refine hK _ _ (fun h => absurd h (by decide)) ?_
  clear hK K
  try simp only [Act.put, List.setIfInBounds_toArray, List.set_cons_zero, List.set_cons_succ]
  refine sched_nil ?_
  go_wp2
  go_ret
  exact ⟨rfl, hI, grown_trans (grown_within z hb2) hG⟩
theorem Plsh (z x n : Nat) (a : Int) (ha : (dg a.natAbs).length ≤ 400000) (hn : n ≤ 16000000) (w : World) (hz : IntTy w z) (hx : IntB w x a) : Calls Tryd.prog 42 #[.pointer (some ⟨z, 0, none⟩), .pointer (some ⟨x, 0, none⟩), .int .u64 (n : Int)] w (PutI w z (a * 2 ^ n)) := by
  obtain ⟨A, ca, a0, a1, hra⟩ := hx.rd
  refine Calls.mono (Plsh0 z x n _ _ A ca ha hn w hz a0 a1 hra) (fun _ _ h => PutI_eq h ?_)
  have e : ((a.natAbs * 2 ^ n : Nat) : Int) = (a.natAbs : Int) * 2 ^ n := by simp
  unfold sgv
  by_cases ha0 : a < 0
  · rw [if_pos (decide_eq_true ha0), e, ← Int.neg_mul]; congr 1; omega
  · rw [decide_eq_false ha0, if_neg (by decide), e]; congr 1; omega
set_option maxRecDepth 100000 in
set_option maxHeartbeats 600000 in
theorem Pneg0 (z x : Nat) (sa : Bool) (na : Nat) (A : Option Addr) (ca : Nat) (ha : (dg na).length ≤ 400000) (w : World) (hz : IntTy w z) (a0 : w.cell? ⟨x, 0, none⟩ = some (.bool sa)) (a1 : w.cell? ⟨x, 1, none⟩ = some (.slice A (dg na).length ca)) (hra : RowAt w A (dg na)) : Calls Tryd.prog 41 #[.pointer (some ⟨z, 0, none⟩), .pointer (some ⟨x, 0, none⟩)] w (PutI w z (sgv (!sa) na)) := by
  have HZ := Lib.hid hz; have HRA := Lib.hid hra; clear hz hra
  have hlx := World.block_lt_of_cell? w _ a0
  go_enter Tryd.func41, Tryd.ntmps41
  go_wp2
  refine wp_region_sched (fun W => W.cell? ⟨x, 0, none⟩ = some (.bool sa) ∧ W.cell? ⟨x, 1, none⟩ = some (.slice A (dg na).length ca)) 11 [(0, true), (1, true), (2, true), (3, true), (4, true), (5, true), (6, true), (7, true), (8, true), (9, true), (10, false), (11, false), (12, false)] (by kernel_rfl) (by kernel_rfl) ⟨a0, a1⟩ ?_
  intro hS
  repeat
    apply sched_firm rfl rfl hS
    · intro wq hq
      have hq0 := hq.1; have hq1 := hq.2
      clear hq
      go_simp
      first | rfl | (trace_state; fail)
    try simp only [Act.put, List.setIfInBounds_toArray, List.set_cons_zero, List.set_cons_succ]
  refine sched_one rfl rfl (fun K hK => ?_)
  go_simp
  refine (Pclone na A ca (by omega) w.drew (RowAt.drew HRA.out)).mono ?_
  rintro e2 w2 ⟨A', c', rfl, hc', hr', hb'⟩
  have hb2 : Within w w2 := (Within.refl w).drew.trans hb'
  refine hK _ _ (fun h => ⟨(hb2.cells _ _ hlx).trans a0, (hb2.cells _ _ hlx).trans a1⟩) ?_
  clear hK K
  try simp only [Act.put, List.setIfInBounds_toArray, List.set_cons_zero, List.set_cons_succ]
  refine sched_one rfl rfl (fun K hK => ?_)
  go_simp
  refine (Pmade z _ na A' c' hc' w2 hr' (HZ.out.of hb2)).mono ?_
  rintro e3 w3 ⟨rfl, hI, hG⟩
  refine hK _ _ (fun h => absurd h (by decide)) ?_
  clear hK K
  try simp only [Act.put, List.setIfInBounds_toArray, List.set_cons_zero, List.set_cons_succ]
  refine sched_one rfl rfl (fun K hK => ?_)
  go_simp
  refine hK _ _ (fun h => absurd h (by decide)) ?_
  clear hK K
  try simp only [Act.put, List.setIfInBounds_toArray, List.set_cons_zero, List.set_cons_succ]
  refine sched_nil ?_
  go_wp2
  go_ret
  exact ⟨rfl, hI, grown_trans (grown_within z hb2) hG⟩
theorem Pneg (z x : Nat) (v : Int) (hl : (dg v.natAbs).length ≤ 400000) (w : World) (hz : IntTy w z) (hx : IntB w x v) : Calls Tryd.prog 41 #[.pointer (some ⟨z, 0, none⟩), .pointer (some ⟨x, 0, none⟩)] w (PutI w z (-v)) := by
  obtain ⟨A, c, c0, c1, hr⟩ := hx.rd
  have := Pneg0 z x _ _ A c hl w hz c0 c1 hr
  rw [sgv_not] at this
  exact this
def cmpI (a b : Int) : Int := if a < b then -1 else if b < a then 1 else 0
theorem cmpN_range (a b : Nat) : -1 ≤ cmpN a b ∧ cmpN a b ≤ 1 := by unfold cmpN; split <;> (try split) <;> omega
set_option maxRecDepth 100000 in
set_option maxHeartbeats 600000 in
theorem Pcmp_00 (x y : Nat) (na nb : Nat) (A Bv : Option Addr) (ca cb : Nat) (ha : (dg na).length ≤ 1000000) (hb : (dg nb).length ≤ 1000000) (w : World) (a0 : w.cell? ⟨x, 0, none⟩ = some (.bool false)) (a1 : w.cell? ⟨x, 1, none⟩ = some (.slice A (dg na).length ca)) (hra : RowAt w A (dg na)) (b0 : w.cell? ⟨y, 0, none⟩ = some (.bool false)) (b1 : w.cell? ⟨y, 1, none⟩ = some (.slice Bv (dg nb).length cb)) (hrb : RowAt w Bv (dg nb)) : Calls Tryd.prog 37 #[.pointer (some ⟨x, 0, none⟩), .pointer (some ⟨y, 0, none⟩)] w (fun e w' => e = .returned (.int .i64 (cmpN na nb)) ∧ Within w w') := by
  have HRA := Lib.hid hra; have HRB := Lib.hid hrb; clear hra hrb
  have hlx := World.block_lt_of_cell? w _ a0; have hly := World.block_lt_of_cell? w _ b0
  go_enter Tryd.func37, Tryd.ntmps37
  go_wp2
  go_quiet (fail)
  go_wp2
  obtain ⟨w1, hw1⟩ : ∃ w1, w1 = w.drewN nq := ⟨_, rfl⟩
  rw [← hw1]
  have hb1 : Within w w1 := by rw [hw1]; exact (Within.refl w).drewN _
  have a0' := (hb1.cells _ 0 hlx).trans a0; have a1' := (hb1.cells _ 1 hlx).trans a1; have b1' := (hb1.cells _ 1 hly).trans b1
  clear hw1
  refine wp_region_sched (fun W => W.cell? ⟨x, 1, none⟩ = some (.slice A (dg na).length ca) ∧ W.cell? ⟨y, 1, none⟩ = some (.slice Bv (dg nb).length cb)) 8 [(0, true), (1, true), (2, true), (3, true), (4, true), (5, true), (6, true), (7, true), (8, false), (9, false)] (by kernel_rfl) (by kernel_rfl) ⟨a1', b1'⟩ ?_
  intro hS
  repeat
    apply sched_firm rfl rfl hS
    · intro wq hq
      have hq0 := hq.1; have hq1 := hq.2
      clear hq
      go_simp
      first | rfl | (trace_state; fail)
    try simp only [Act.put, List.setIfInBounds_toArray, List.set_cons_zero, List.set_cons_succ]
  refine sched_one rfl rfl (fun K hK => ?_)
  go_simp
  refine (Pcompare na nb A Bv ca cb (by omega) (by omega) w1.drew (RowAt.drew (HRA.out.of hb1)) (RowAt.drew (HRB.out.of hb1))).mono ?_
  rintro e1 w2 ⟨rfl, hb2'⟩
  obtain ⟨cm, hcm⟩ : ∃ cm, cm = cmpN na nb := ⟨_, rfl⟩
  have hr := cmpN_range na nb
  rw [← hcm] at hr ⊢
  have HCM := Lib.hid hcm; clear hcm
  have hb2 : Within w w2 := hb1.drew.trans hb2'
  refine hK _ _ (fun h => absurd h (by decide)) ?_
  clear hK K
  try simp only [Act.put, List.setIfInBounds_toArray, List.set_cons_zero, List.set_cons_succ]
  refine sched_one rfl rfl (fun K hK => ?_)
  go_simp
  refine hK _ _ (fun h => absurd h (by decide)) ?_
  clear hK K
  try simp only [Act.put, List.setIfInBounds_toArray, List.set_cons_zero, List.set_cons_succ]
  refine sched_nil ?_
  have a0'' := (hb2.cells _ 0 hlx).trans a0
  go_wp2
  go_ret
  exact ⟨ret_int (by rw [HCM.out]), hb2⟩
set_option maxRecDepth 100000 in
set_option maxHeartbeats 600000 in
theorem Pcmp_01 (x y : Nat) (na nb : Nat) (A Bv : Option Addr) (ca cb : Nat) (ha : (dg na).length ≤ 1000000) (hb : (dg nb).length ≤ 1000000) (w : World) (a0 : w.cell? ⟨x, 0, none⟩ = some (.bool false)) (a1 : w.cell? ⟨x, 1, none⟩ = some (.slice A (dg na).length ca)) (hra : RowAt w A (dg na)) (b0 : w.cell? ⟨y, 0, none⟩ = some (.bool true)) (b1 : w.cell? ⟨y, 1, none⟩ = some (.slice Bv (dg nb).length cb)) (hrb : RowAt w Bv (dg nb)) : Calls Tryd.prog 37 #[.pointer (some ⟨x, 0, none⟩), .pointer (some ⟨y, 0, none⟩)] w (fun e w' => e = .returned (.int .i64 (1)) ∧ Within w w') := by
  clear hra hrb ha hb
  go_enter Tryd.func37, Tryd.ntmps37
  go_wp2
  go_quiet (fail)
  go_wp2
  go_ret
  exact ⟨rfl, (Within.refl w).drewN _⟩
set_option maxRecDepth 100000 in
set_option maxHeartbeats 600000 in
theorem Pcmp_10 (x y : Nat) (na nb : Nat) (A Bv : Option Addr) (ca cb : Nat) (ha : (dg na).length ≤ 1000000) (hb : (dg nb).length ≤ 1000000) (w : World) (a0 : w.cell? ⟨x, 0, none⟩ = some (.bool true)) (a1 : w.cell? ⟨x, 1, none⟩ = some (.slice A (dg na).length ca)) (hra : RowAt w A (dg na)) (b0 : w.cell? ⟨y, 0, none⟩ = some (.bool false)) (b1 : w.cell? ⟨y, 1, none⟩ = some (.slice Bv (dg nb).length cb)) (hrb : RowAt w Bv (dg nb)) : Calls Tryd.prog 37 #[.pointer (some ⟨x, 0, none⟩), .pointer (some ⟨y, 0, none⟩)] w (fun e w' => e = .returned (.int .i64 (-1)) ∧ Within w w') := by
  clear hra hrb ha hb
  go_enter Tryd.func37, Tryd.ntmps37
  go_wp2
  go_quiet (fail)
  go_wp2
  go_ret
  exact ⟨rfl, (Within.refl w).drewN _⟩
set_option maxRecDepth 100000 in
set_option maxHeartbeats 600000 in
theorem Pcmp_11 (x y : Nat) (na nb : Nat) (A Bv : Option Addr) (ca cb : Nat) (ha : (dg na).length ≤ 1000000) (hb : (dg nb).length ≤ 1000000) (w : World) (a0 : w.cell? ⟨x, 0, none⟩ = some (.bool true)) (a1 : w.cell? ⟨x, 1, none⟩ = some (.slice A (dg na).length ca)) (hra : RowAt w A (dg na)) (b0 : w.cell? ⟨y, 0, none⟩ = some (.bool true)) (b1 : w.cell? ⟨y, 1, none⟩ = some (.slice Bv (dg nb).length cb)) (hrb : RowAt w Bv (dg nb)) : Calls Tryd.prog 37 #[.pointer (some ⟨x, 0, none⟩), .pointer (some ⟨y, 0, none⟩)] w (fun e w' => e = .returned (.int .i64 (cmpN nb na)) ∧ Within w w') := by
  have HRA := Lib.hid hra; have HRB := Lib.hid hrb; clear hra hrb
  have hlx := World.block_lt_of_cell? w _ a0; have hly := World.block_lt_of_cell? w _ b0
  go_enter Tryd.func37, Tryd.ntmps37
  go_wp2
  go_quiet (fail)
  go_wp2
  obtain ⟨w1, hw1⟩ : ∃ w1, w1 = w.drewN nq := ⟨_, rfl⟩
  rw [← hw1]
  have hb1 : Within w w1 := by rw [hw1]; exact (Within.refl w).drewN _
  have a0' := (hb1.cells _ 0 hlx).trans a0; have a1' := (hb1.cells _ 1 hlx).trans a1; have b1' := (hb1.cells _ 1 hly).trans b1
  clear hw1
  refine wp_region_sched (fun W => W.cell? ⟨x, 1, none⟩ = some (.slice A (dg na).length ca) ∧ W.cell? ⟨y, 1, none⟩ = some (.slice Bv (dg nb).length cb)) 8 [(0, true), (1, true), (2, true), (3, true), (4, true), (5, true), (6, true), (7, true), (8, false), (9, false)] (by kernel_rfl) (by kernel_rfl) ⟨a1', b1'⟩ ?_
  intro hS
  repeat
    apply sched_firm rfl rfl hS
    · intro wq hq
      have hq0 := hq.1; have hq1 := hq.2
      clear hq
      go_simp
      first | rfl | (trace_state; fail)
    try simp only [Act.put, List.setIfInBounds_toArray, List.set_cons_zero, List.set_cons_succ]
  refine sched_one rfl rfl (fun K hK => ?_)
  go_simp
  refine (Pcompare nb na Bv A cb ca (by omega) (by omega) w1.drew (RowAt.drew (HRB.out.of hb1)) (RowAt.drew (HRA.out.of hb1))).mono ?_
  rintro e1 w2 ⟨rfl, hb2'⟩
  obtain ⟨cm, hcm⟩ : ∃ cm, cm = cmpN nb na := ⟨_, rfl⟩
  have hr := cmpN_range nb na
  rw [← hcm] at hr ⊢
  have HCM := Lib.hid hcm; clear hcm
  have hb2 : Within w w2 := hb1.drew.trans hb2'
  refine hK _ _ (fun h => absurd h (by decide)) ?_
  clear hK K
  try simp only [Act.put, List.setIfInBounds_toArray, List.set_cons_zero, List.set_cons_succ]
  refine sched_one rfl rfl (fun K hK => ?_)
  go_simp
  refine hK _ _ (fun h => absurd h (by decide)) ?_
  clear hK K
  try simp only [Act.put, List.setIfInBounds_toArray, List.set_cons_zero, List.set_cons_succ]
  refine sched_nil ?_
  have a0'' := (hb2.cells _ 0 hlx).trans a0
  go_wp2
  go_ret
  exact ⟨ret_int (by rw [HCM.out]), hb2⟩
theorem Pcmp (x y : Nat) (a b : Int) (ha : (dg a.natAbs).length ≤ 1000000) (hb : (dg b.natAbs).length ≤ 1000000) (w : World) (hx : IntB w x a) (hy : IntB w y b) : Calls Tryd.prog 37 #[.pointer (some ⟨x, 0, none⟩), .pointer (some ⟨y, 0, none⟩)] w (fun e w' => e = .returned (.int .i64 (cmpI a b)) ∧ Within w w') := by
  obtain ⟨A, ca, a0, a1, hra⟩ := hx.rd
  obtain ⟨Bv, cb, b0, b1, hrb⟩ := hy.rd
  by_cases ha0 : a < 0 <;> by_cases hb0 : b < 0
  · rw [decide_eq_true ha0] at a0; rw [decide_eq_true hb0] at b0
    refine (Pcmp_11 x y _ _ A Bv ca cb ha hb w a0 a1 hra b0 b1 hrb).mono fun e w' h => ⟨h.1.trans (ret_int ?_), h.2⟩
    unfold cmpI cmpN; repeat' split
    all_goals omega
  · rw [decide_eq_true ha0] at a0; rw [decide_eq_false hb0] at b0
    refine (Pcmp_10 x y _ _ A Bv ca cb ha hb w a0 a1 hra b0 b1 hrb).mono fun e w' h => ⟨h.1.trans (ret_int ?_), h.2⟩
    unfold cmpI; rw [if_pos (by omega)]
  · rw [decide_eq_false ha0] at a0; rw [decide_eq_true hb0] at b0
    refine (Pcmp_01 x y _ _ A Bv ca cb ha hb w a0 a1 hra b0 b1 hrb).mono fun e w' h => ⟨h.1.trans (ret_int ?_), h.2⟩
    unfold cmpI; rw [if_neg (by omega), if_pos (by omega)]
  · rw [decide_eq_false ha0] at a0; rw [decide_eq_false hb0] at b0
    refine (Pcmp_00 x y _ _ A Bv ca cb ha hb w a0 a1 hra b0 b1 hrb).mono fun e w' h => ⟨h.1.trans (ret_int ?_), h.2⟩
    unfold cmpI cmpN; repeat' split
    all_goals omega
end Go.Proofs.YtjmaggfddinbkaaDoor.P64
end

section
namespace Go.Proofs.YtjmaggfddinbkaaDoor
open Go.RowKit
abbrev dbl : Value := .agg #[.int .u64 52, .int .i64 2047, .int .i64 1075]
def nanD (b : Nat) : Bool := decide (9218868437227405312 < b % 9223372036854775808)
def canonD (b : Nat) : Nat := if nanD b then 9221120237041090561 else b
theorem canonD_lt {b : Nat} (h : b < 18446744073709551616) : canonD b < 18446744073709551616 := by unfold canonD; split <;> omega
set_option maxHeartbeats 400000 in
theorem hidden_D (w : World) : Calls Tryd.prog 71 #[dbl] w fun e w' => e = .returned (.int .u64 4503599627370496) ∧ Within w w' := by
  go_enter Tryd.func71, Tryd.ntmps71
  go_wp2
  go_ret
  exact ⟨rfl, (Within.refl _).alloc _⟩
set_option maxHeartbeats 400000 in
theorem sign_D (w : World) : Calls Tryd.prog 77 #[dbl] w fun e w' => e = .returned (.int .u64 9223372036854775808) ∧ Within w w' := by
  go_enter Tryd.func77, Tryd.ntmps77
  go_wp2
  go_ret
  exact ⟨rfl, (Within.refl _).alloc _⟩
set_option maxHeartbeats 400000 in
theorem infinite_D (w : World) : Calls Tryd.prog 82 #[dbl] w fun e w' => e = .returned (.int .u64 9218868437227405312) ∧ Within w w' := by
  go_enter Tryd.func82, Tryd.ntmps82
  go_wp2
  go_ret
  exact ⟨rfl, (Within.refl _).alloc _⟩
set_option maxHeartbeats 400000 in
theorem none_D (w : World) : Calls Tryd.prog 74 #[dbl] w fun e w' => e = .returned (.int .u64 9221120237041090561) ∧ Within w w' := by
  go_enter Tryd.func74, Tryd.ntmps74
  go_wp2
  refine wp_region_within (by kernel_rfl) (by kernel_rfl) ?_
  repeat
    apply wpq_step rfl
    · intro wq hCq
      have hcq := hCq.cells
      go_simp
      first | rfl | exact hCq.call (infinite_D _) | exact hCq.call (hidden_D _) | (trace_state; fail)
    simp only [Act.put, List.setIfInBounds_toArray, List.set_cons_zero, List.set_cons_succ]
  refine wpQuiet_nil ?_
  intro w1 hC1
  go_wp2
  go_ret
  exact ⟨ret_int (by decide +kernel), (by repeat (first | exact Within.refl _ | assumption | refine Within.alloc ?_ _ | refine Within.drew ?_ | refine Within.trans ?_ (by assumption)))⟩
set_option maxHeartbeats 400000 in
theorem nan_D (b : Nat) (hb : b < 18446744073709551616) (w : World) : Calls Tryd.prog 73 #[.int .u64 b, dbl] w fun e w' => e = .returned (.bool (nanD b)) ∧ Within w w' := by
  have e1 := u64_unsign b hb
  have ew : IntKind.u64.wrap (b : Int) = b := by rw [IntKind.wrap_u64]; omega
  go_enter Tryd.func73, Tryd.ntmps73
  go_wp2
  refine wp_region_within (by kernel_rfl) (by kernel_rfl) ?_
  repeat
    apply wpq_step rfl
    · intro wq hCq
      have hcq := hCq.cells
      go_simp
      first | rfl | exact hCq.call (infinite_D _) | exact hCq.call (sign_D _) | (trace_state; fail)
    simp only [Act.put, List.setIfInBounds_toArray, List.set_cons_zero, List.set_cons_succ]
  refine wpQuiet_nil ?_
  intro w1 hC1
  go_wp2
  go_ret
  exact ⟨ret_dec (by omega), (by repeat (first | exact Within.refl _ | assumption | refine Within.alloc ?_ _ | refine Within.drew ?_ | refine Within.trans ?_ (by assumption)))⟩
set_option maxHeartbeats 400000 in
theorem canon_D (b : Nat) (hb : b < 18446744073709551616) (w : World) : Calls Tryd.prog 63 #[.int .u64 b, dbl] w fun e w' => e = .returned (.int .u64 (canonD b)) ∧ Within w w' := by
  by_cases hn : nanD b = true
  · have hv : (canonD b : Int) = 9221120237041090561 := by unfold canonD; rw [if_pos hn]; rfl
    rw [hv]; clear hv
    go_enter Tryd.func63, Tryd.ntmps63
    go_wp2_with fail
    refine (nan_D b hb _).mono ?_; rintro e w1 ⟨rfl, hb1⟩
    have hc1 := hb1.cells; have hz1 : w.heap.size < w1.heap.size := by have := hb1.sizes; simp at this; omega
    go_wp2_with fail
    refine (none_D _).mono ?_; rintro e w2 ⟨rfl, hb2⟩
    go_wp2
    go_ret
    exact ⟨rfl, (by repeat (first | exact Within.refl _ | assumption | refine Within.alloc ?_ _ | refine Within.drew ?_ | refine Within.trans ?_ (by assumption)))⟩
  · have hn' : nanD b = false := by simpa using hn
    have hv : (canonD b : Int) = b := by unfold canonD; rw [if_neg hn]
    rw [hv]; clear hv hn
    go_enter Tryd.func63, Tryd.ntmps63
    go_wp2_with fail
    refine (nan_D b hb _).mono ?_; rintro e w1 ⟨rfl, hb1⟩
    have hc1 := hb1.cells; have hz1 : w.heap.size < w1.heap.size := by have := hb1.sizes; simp at this; omega
    go_wp2
    go_ret
    exact ⟨rfl, (by repeat (first | exact Within.refl _ | assumption | refine Within.alloc ?_ _ | refine Within.drew ?_ | refine Within.trans ?_ (by assumption)))⟩
@[go_sem] theorem ext_bits64 (a : Nat) (w : World) : (callFunc 53 #[.float .f64 a]).run Tryd.prog w = .ok (.value (.int .u64 a)) w := by kernel_rfl
@[go_sem] theorem ext_from64 (a : Int) (w : World) : (callFunc 20 #[.int .u64 a]).run Tryd.prog w = .ok (.value (.float .f64 a.toNat)) w := by kernel_rfl
set_option maxRecDepth 100000 in
set_option maxHeartbeats 600000 in
theorem of_D (w : World) : Calls Tryd.prog 54 #[.int .i64 0] w fun e w' => e = .returned dbl ∧ Within w w' := by
  go_enter Tryd.func54, Tryd.ntmps54
  have hi : ∀ w, (Instr.index 96 (.agg #[.int .u64 52, .int .i64 2047, .int .i64 1075, .int .u64 23, .int .i64 255, .int .i64 150]) (.int .i64 0)).run Tryd.prog w = .ok dbl w := fun _ => by kernel_rfl
  go_wp2
  refine bodyPost_ret (v := dbl) (by simp [results, Tryd.results54, go_sem]) rfl ⟨rfl, ?_⟩
  exact (by repeat (first | with_reducible exact Within.refl _ | with_reducible assumption | with_reducible refine Within.alloc ?_ _ | with_reducible refine Within.drew ?_ | with_reducible refine Within.setCell ?_ (by first | (simp; done) | (simp; omega)) _ | with_reducible refine Within.trans ?_ (by assumption)))
set_option maxRecDepth 100000 in
set_option maxHeartbeats 600000 in
theorem Canon_D (a : Nat) (ha : a < 18446744073709551616) (w : World) : Calls Tryd.prog 50 #[.float .f64 a] w fun e w' => e = .returned (.float .f64 (canonD a)) ∧ Within w w' := by
  have HA := Lib.hid ha; clear ha
  go_enter Tryd.func50, Tryd.ntmps50
  go_wp2_with fail
  refine (of_D _).mono ?_; rintro e1 w1 ⟨rfl, hb1⟩
  go_wp2_with fail
  refine (canon_D a HA.out _).mono ?_; rintro e2 w2 ⟨rfl, hb2⟩
  go_wp2
  go_ret
  exact ⟨rfl, (by repeat (first | with_reducible exact Within.refl _ | with_reducible assumption | with_reducible refine Within.alloc ?_ _ | with_reducible refine Within.drew ?_ | with_reducible refine Within.setCell ?_ (by first | (simp; done) | (simp; omega)) _ | with_reducible refine Within.trans ?_ (by assumption)))⟩
end Go.Proofs.YtjmaggfddinbkaaDoor
end

section
namespace Go.Proofs.YtjmaggfddinbkaaDoor
open Go.RowKit
theorem len8_size : Lib.len8tab.size = 256 := by decide +kernel
theorem len8_all : ∀ n : Fin 256, (Lib.len8tab[n.val]'(by rw [len8_size]; exact n.isLt)).toNat = Lib.bitLen n.val := by decide +kernel
theorem len8_at (n : Nat) (h : n < Lib.len8tab.size) : (Lib.len8tab[n]).toNat = Lib.bitLen n := len8_all ⟨n, by rw [len8_size] at h; exact h⟩
theorem len_end (s x : Nat) (hs : s ≤ 56) (h : 2 ^ s ≤ x) (hx : x < 2 ^ (s + 8)) : wrap64 ((s : Int) + wrap64 ((Lib.bitLen (x / 2 ^ s) : Nat) : Int)) = ((Lib.bitLen x : Nat) : Int) := by
  have hp := Nat.two_pow_pos s
  have h64 : x < 2 ^ 64 := Nat.lt_of_lt_of_le hx (Nat.pow_le_pow_right (by decide) (by omega))
  have e := Lib.bitLen_shift s x h h64
  have hq : x / 2 ^ s < 256 := by
    rw [Nat.div_lt_iff_lt_mul hp]
    have : 2 ^ (s + 8) = 256 * 2 ^ s := by rw [Nat.pow_add, Nat.mul_comm]
    omega
  have l := Lib.bitLen_le8 ⟨x / 2 ^ s, hq⟩
  simp only at l
  rw [e]
  generalize Lib.bitLen (x / 2 ^ s) = r at *
  rw [IntWalk.wrap64_in (r : Int) (by constructor <;> omega), IntWalk.wrap64_in _ (by constructor <;> omega)]
  simp
theorem len_e56 (x : Nat) (h : 72057594037927936 ≤ x) (hx : x < 18446744073709551616) : wrap64 (56 + wrap64 ((Lib.bitLen (x / 72057594037927936) : Nat) : Int)) = ((Lib.bitLen x : Nat) : Int) := len_end 56 x (by decide) h hx
theorem len_e48 (x : Nat) (h : 281474976710656 ≤ x) (hx : x < 72057594037927936) : wrap64 (48 + wrap64 ((Lib.bitLen (x / 281474976710656) : Nat) : Int)) = ((Lib.bitLen x : Nat) : Int) := len_end 48 x (by decide) h hx
theorem len_e40 (x : Nat) (h : 1099511627776 ≤ x) (hx : x < 281474976710656) : wrap64 (40 + wrap64 ((Lib.bitLen (x / 1099511627776) : Nat) : Int)) = ((Lib.bitLen x : Nat) : Int) := len_end 40 x (by decide) h hx
theorem len_e32 (x : Nat) (h : 4294967296 ≤ x) (hx : x < 1099511627776) : wrap64 (32 + wrap64 ((Lib.bitLen (x / 4294967296) : Nat) : Int)) = ((Lib.bitLen x : Nat) : Int) := len_end 32 x (by decide) h hx
theorem len_e24 (x : Nat) (h : 16777216 ≤ x) (hx : x < 4294967296) : wrap64 (24 + wrap64 ((Lib.bitLen (x / 16777216) : Nat) : Int)) = ((Lib.bitLen x : Nat) : Int) := len_end 24 x (by decide) h hx
theorem len_e16 (x : Nat) (h : 65536 ≤ x) (hx : x < 16777216) : wrap64 (16 + wrap64 ((Lib.bitLen (x / 65536) : Nat) : Int)) = ((Lib.bitLen x : Nat) : Int) := len_end 16 x (by decide) h hx
theorem len_e8 (x : Nat) (h : 256 ≤ x) (hx : x < 65536) : wrap64 (8 + wrap64 ((Lib.bitLen (x / 256) : Nat) : Int)) = ((Lib.bitLen x : Nat) : Int) := len_end 8 x (by decide) h hx
theorem len_e0 (x : Nat) (hx : x < 256) : wrap64 (0 + wrap64 ((Lib.bitLen x : Nat) : Int)) = ((Lib.bitLen x : Nat) : Int) := by
  have l := Lib.bitLen_le8 ⟨x, hx⟩
  simp only at l
  generalize Lib.bitLen x = r at *
  rw [IntWalk.wrap64_in (r : Int) (by constructor <;> omega), IntWalk.wrap64_in _ (by constructor <;> omega)]
  simp
set_option maxHeartbeats 1000000 in
set_option maxRecDepth 100000 in
theorem bits_len64' (x : Int) (w : World) (h0 : 0 ≤ x) (h1 : x ≤ 18446744073709551615) :
    Calls Tryd.prog 76 #[.int .u64 x] w fun e w' => e = .returned (.int .i64 (Lib.bitLen x.toNat)) ∧ w = w' := by
  have hsz := len8_size
  go_enter Tryd.func76, Tryd.ntmps76
  go_wp2
  all_goals (go_ret; refine ⟨ret_int ?_, rfl⟩)
  all_goals simp only [len8_at]
  · rw [← len_e56 x.toNat (by omega) (by omega), show (x / 4294967296 / 65536 / 256).toNat = x.toNat / 72057594037927936 by omega]
  · rw [← len_e48 x.toNat (by omega) (by omega), show (x / 4294967296 / 65536).toNat = x.toNat / 281474976710656 by omega]
  · rw [← len_e40 x.toNat (by omega) (by omega), show (x / 4294967296 / 256).toNat = x.toNat / 1099511627776 by omega]
  · rw [← len_e32 x.toNat (by omega) (by omega), show (x / 4294967296).toNat = x.toNat / 4294967296 by omega]
  · rw [← len_e24 x.toNat (by omega) (by omega), show (x / 65536 / 256).toNat = x.toNat / 16777216 by omega]
  · rw [← len_e16 x.toNat (by omega) (by omega), show (x / 65536).toNat = x.toNat / 65536 by omega]
  · rw [← len_e8 x.toNat (by omega) (by omega), show (x / 256).toNat = x.toNat / 256 by omega]
  · have := len_e0 x.toNat (by omega); simpa using this
theorem bits_len64 (x : Nat) (hx : x < 18446744073709551616) (w : World) :
    Calls Tryd.prog 76 #[.int .u64 x] w fun e w' => e = .returned (.int .i64 (Lib.bitLen x)) ∧ w = w' := by
  have := bits_len64' (x : Int) w (by omega) (by omega)
  rwa [Int.toNat_natCast] at this
theorem bitLen_of (k x : Nat) (hk : k < 64) (h1 : 2 ^ k ≤ x) (h2 : x < 2 ^ (k + 1)) : Lib.bitLen x = k + 1 := by
  have h64 : x < 2 ^ 64 := Nat.lt_of_lt_of_le h2 (Nat.pow_le_pow_right (by decide) (by omega))
  rw [Lib.bitLen_shift k x h1 h64]
  have hp := Nat.two_pow_pos k
  have e : x / 2 ^ k = 1 := by
    have a : 1 ≤ x / 2 ^ k := (Nat.le_div_iff_mul_le hp).2 (by omega)
    have b : x / 2 ^ k < 2 := (Nat.div_lt_iff_lt_mul hp).2 (by rw [Nat.pow_succ] at h2; omega)
    omega
  rw [e]; rfl
theorem bitLen_log2 (x : Nat) (h : x ≠ 0) (hx : x < 18446744073709551616) : Lib.bitLen x = x.log2 + 1 :=
  bitLen_of _ x ((Nat.log2_lt h).2 (by simpa using hx)) (Nat.log2_self_le h) Nat.lt_log2_self
theorem ctz_split (x : Nat) (h : x ≠ 0) (hx : x < 18446744073709551616) : ∃ m, x = 2 ^ Lib.ctz 64 x * (2 * m + 1) ∧ Lib.ctz 64 x < 64 := by
  have e : Lib.ctz 64 x = Lib.ctzFrom 64 x := by simp [Lib.ctz, h]
  rw [e]
  exact Lib.ctzFrom_spec 64 x (by omega) (by simpa using hx)
theorem shr_u64 (x k : Nat) (hk : k < 64) : Op.shift .shr .u64 (x : Int) .i64 (k : Int) = pure (.int .u64 ((x / 2 ^ k : Nat) : Int)) := by
  rw [shift_shr .u64 .i64 _ _ (by omega) (by show (k : Int) ≤ 64; omega)]
  simp
theorem shl_u64 (x k : Nat) (hk : k < 64) (h : x * 2 ^ k < 18446744073709551616) : Op.shift .shl .u64 (x : Int) .i64 (k : Int) = pure (.int .u64 ((x * 2 ^ k : Nat) : Int)) := by
  rw [shift_shl .u64 .i64 _ _ (by omega) (by show (k : Int) ≤ 64; omega), IntKind.wrap_u64]
  have e : (x : Int) * 2 ^ (k : Int).toNat = ((x * 2 ^ k : Nat) : Int) := by simp
  rw [e]
  generalize x * 2 ^ k = y at *
  rw [show ((y : Int) % 18446744073709551616) = y by omega]
end Go.Proofs.YtjmaggfddinbkaaDoor
end

section
namespace Go.Proofs.YtjmaggfddinbkaaDoor
open Go.RowKit
def Tab (w : World) : Prop := ∀ j, j < 64 → w.cell? ⟨1, j, none⟩ = some (.int .u8 (Lib.deBruijn64tab.getD j 0))
theorem Tab.of {w w' : World} (h : Tab w) (k : Within w w') : Tab w' := fun j hj => by
  rw [k.cells _ _ (World.block_lt_of_cell? w _ (h j hj))]
  exact h j hj
set_option maxHeartbeats 1000000 in
theorem tz64_core (x k idx : Nat) (w : World) (hx0 : ((x : Int) == 0) = false)
    (key : IntKind.u64.wrap (bits BinOp.and IntKind.u64 (x : Int) (IntKind.u64.wrap (-(x : Int))) * 285870213051353865) / 288230376151711744 = (idx : Int))
    (hi : idx < 64) (hk : k < 64) (hcell : w.cell? ⟨1, idx, none⟩ = some (.int .u8 k)) :
    Calls Tryd.prog 72 #[.int .u64 x] w fun e w' => e = .returned (.int .i64 k) ∧ w = w' := by
  go_enter Tryd.func72, Tryd.ntmps72
  go_wp2_with (simp only [key])
  go_ret
  exact ⟨rfl, rfl⟩
set_option maxHeartbeats 1000000 in
theorem tz64_zero (w : World) :
    Calls Tryd.prog 72 #[.int .u64 0] w fun e w' => e = .returned (.int .i64 64) ∧ w = w' := by
  go_enter Tryd.func72, Tryd.ntmps72
  go_wp2
  go_ret
  exact ⟨rfl, rfl⟩
theorem tz64_key (x a : Nat) (hx : x < 18446744073709551616) (hx0 : x ≠ 0) (hlow : x &&& (18446744073709551616 - x) = a) :
    IntKind.u64.wrap (bits BinOp.and IntKind.u64 (x : Int) (IntKind.u64.wrap (-(x : Int))) * 285870213051353865) / 288230376151711744 = ((a * 285870213051353865 % 18446744073709551616 / 288230376151711744 : Nat) : Int) := by
  have e1 : IntKind.u64.wrap (-(x : Int)) = ((18446744073709551616 - x : Nat) : Int) := by rw [IntKind.wrap_u64]; omega
  rw [e1, u64_and_nat x _ hx (by omega), hlow, IntKind.wrap_u64]
  omega
theorem bits_tz64 (x : Nat) (hx : x < 18446744073709551616) (w : World) (hT : Tab w) :
    Calls Tryd.prog 72 #[.int .u64 x] w fun e w' => e = .returned (.int .i64 (Lib.ctz 64 x)) ∧ w = w' := by
  by_cases hx0 : x = 0
  · subst hx0
    exact tz64_zero w
  · obtain ⟨hlow, hk⟩ := Lib.lowest_bit 64 x hx0 hx
    obtain ⟨hi, htab⟩ := Lib.deBruijn64_at _ hk
    have hcell := hT _ hi
    rw [htab] at hcell
    exact tz64_core x _ _ w (by simp; omega) (tz64_key x _ hx hx0 hlow) hi hk hcell
end Go.Proofs.YtjmaggfddinbkaaDoor
end

section
namespace Go.Proofs.YtjmaggfddinbkaaDoor
open Go.RowKit
def classOf (e fr most : Nat) : Int := if e = most ∧ fr ≠ 0 then 1 else if e = most then 2 else if e = 0 ∧ fr = 0 then 3 else if e = 0 then 4 else 5
def expD (b : Nat) : Nat := canonD b / 4503599627370496 % 2048
def fracD (b : Nat) : Nat := canonD b % 4503599627370496
def negD (b : Nat) : Bool := decide (9223372036854775808 ≤ canonD b)
def classD (b : Nat) : Int := classOf (expD b) (fracD b) 2047
set_option maxHeartbeats 400000 in
theorem split_D (b : Nat) (hb : b < 18446744073709551616) (w : World) : Calls Tryd.prog 66 #[.int .u64 b, dbl] w fun e w' => e = .returned (.tuple #[.bool (negD b), .int .i64 (expD b), .int .u64 (fracD b)]) ∧ Within w w' := by
  have hc := canonD_lt hb
  have e1 := u64_sign (canonD b) hc
  have e2 := u64_mask 11 (by decide) (canonD b / 4503599627370496) (by omega)
  have e3 := u64_mask 52 (by decide) (canonD b) (by omega)
  simp only [show (2 ^ 11 - 1 : Nat) = 2047 from rfl, show (2 ^ 11 : Nat) = 2048 from rfl, show (2 ^ 52 - 1 : Nat) = 4503599627370495 from rfl, show (2 ^ 52 : Nat) = 4503599627370496 from rfl, Int.natCast_ediv, Int.natCast_emod, Int.natCast_mul, Int.cast_ofNat_Int] at e1 e2 e3
  have ew : IntKind.u64.wrap (canonD b : Int) = canonD b := by rw [IntKind.wrap_u64]; omega
  have e4 : IntKind.u64.wrap 4503599627370495 = 4503599627370495 := by decide
  have e5 : IntKind.u64.wrap 2047 = 2047 := by decide
  have e6 : IntKind.i64.wrap ((canonD b : Int) / 4503599627370496 % 2048) = (canonD b : Int) / 4503599627370496 % 2048 := by rw [IntKind.wrap_i64]; omega
  have e7 : IntKind.u64.wrap ((canonD b : Int) % 4503599627370496) = (canonD b : Int) % 4503599627370496 := by first | (rw [IntKind.wrap_u64]; omega) | (rw [IntKind.wrap_u32]; omega)
  go_enter Tryd.func66, Tryd.ntmps66
  go_wp2_with fail
  refine (canon_D b hb _).mono ?_; rintro e w1 ⟨rfl, hb1⟩
  have hc1 := hb1.cells; have hz1 : w.heap.size < w1.heap.size := by have := hb1.sizes; simp at this; omega
  go_wp2
  refine wp_region_within (by kernel_rfl) (by kernel_rfl) ?_
  repeat
    apply wpq_step rfl
    · intro wq hCq
      have hcq := hCq.cells
      go_simp
      first | rfl | exact hCq.call (hidden_D _) | exact hCq.call (sign_D _) | (trace_state; fail)
    simp only [Act.put, List.setIfInBounds_toArray, List.set_cons_zero, List.set_cons_succ]
  refine wpQuiet_nil ?_
  intro w2 hC2
  go_wp2
  go_ret3
  refine ⟨ret3 (v_bool (b := negD b) ?_) (v_int (b := expD b) ?_) (v_int (b := fracD b) ?_), (by repeat (first | exact Within.refl _ | assumption | refine Within.alloc ?_ _ | refine Within.drew ?_ | refine Within.trans ?_ (by assumption)))⟩
  · show ((canonD b : Int) / 9223372036854775808 * 9223372036854775808 != 0) = negD b
    unfold negD
    rw [Bool.eq_iff_iff, bne_iff_ne, decide_eq_true_iff]; omega
  · show ((canonD b : Int) / 4503599627370496 % 2048) = _
    unfold expD; omega
  · show ((canonD b : Int) % 4503599627370496) = _
    unfold fracD; omega
set_option maxHeartbeats 400000 in
theorem class_D (b : Nat) (hb : b < 18446744073709551616) (w : World) : Calls Tryd.prog 52 #[.int .u64 b, dbl] w fun e w' => e = .returned (.int .i64 (classD b)) ∧ Within w w' := by
  generalize hce : classD b = c
  unfold classD classOf at hce
  by_cases h1 : expD b = 2047
  · have f1 : ((expD b : Int) == 2047) = true := beq_iff_eq.2 (by omega)
    by_cases h2 : fracD b = 0
    · have f2 : ((fracD b : Int) != 0) = false := by rw [bne_eq_false_iff_eq]; omega
      rw [if_neg (by omega), if_pos h1] at hce
      subst hce
      clear h1 h2
      go_enter Tryd.func52, Tryd.ntmps52
      go_wp2_with fail
      refine (split_D b hb _).mono ?_; rintro e w1 ⟨rfl, hb1⟩
      have hc1 := hb1.cells; have hz1 : w.heap.size < w1.heap.size := by have := hb1.sizes; simp at this; omega
      go_wp2
      go_ret
      exact ⟨rfl, (by repeat (first | exact Within.refl _ | assumption | refine Within.alloc ?_ _ | refine Within.drew ?_ | refine Within.trans ?_ (by assumption)))⟩
    · have f2 : ((fracD b : Int) != 0) = true := by rw [bne_iff_ne]; omega
      rw [if_pos ⟨h1, h2⟩] at hce
      subst hce
      clear h1 h2
      go_enter Tryd.func52, Tryd.ntmps52
      go_wp2_with fail
      refine (split_D b hb _).mono ?_; rintro e w1 ⟨rfl, hb1⟩
      have hc1 := hb1.cells; have hz1 : w.heap.size < w1.heap.size := by have := hb1.sizes; simp at this; omega
      go_wp2
      go_ret
      exact ⟨rfl, (by repeat (first | exact Within.refl _ | assumption | refine Within.alloc ?_ _ | refine Within.drew ?_ | refine Within.trans ?_ (by assumption)))⟩
  · have f1 : ((expD b : Int) == 2047) = false := beq_eq_false_iff_ne.2 (by omega)
    by_cases h3 : expD b = 0
    · have f3 : ((expD b : Int) == 0) = true := beq_iff_eq.2 (by omega)
      by_cases h2 : fracD b = 0
      · have f2 : ((fracD b : Int) == 0) = true := beq_iff_eq.2 (by omega)
        rw [if_neg (by omega), if_neg h1, if_pos ⟨h3, h2⟩] at hce
        subst hce
        clear h1 h2 h3
        go_enter Tryd.func52, Tryd.ntmps52
        go_wp2_with fail
        refine (split_D b hb _).mono ?_; rintro e w1 ⟨rfl, hb1⟩
        have hc1 := hb1.cells; have hz1 : w.heap.size < w1.heap.size := by have := hb1.sizes; simp at this; omega
        go_wp2
        go_ret
        exact ⟨rfl, (by repeat (first | exact Within.refl _ | assumption | refine Within.alloc ?_ _ | refine Within.drew ?_ | refine Within.trans ?_ (by assumption)))⟩
      · have f2 : ((fracD b : Int) == 0) = false := beq_eq_false_iff_ne.2 (by omega)
        rw [if_neg (by omega), if_neg h1, if_neg (by omega), if_pos h3] at hce
        subst hce
        clear h1 h2 h3
        go_enter Tryd.func52, Tryd.ntmps52
        go_wp2_with fail
        refine (split_D b hb _).mono ?_; rintro e w1 ⟨rfl, hb1⟩
        have hc1 := hb1.cells; have hz1 : w.heap.size < w1.heap.size := by have := hb1.sizes; simp at this; omega
        go_wp2
        go_ret
        exact ⟨rfl, (by repeat (first | exact Within.refl _ | assumption | refine Within.alloc ?_ _ | refine Within.drew ?_ | refine Within.trans ?_ (by assumption)))⟩
    · have f3 : ((expD b : Int) == 0) = false := beq_eq_false_iff_ne.2 (by omega)
      rw [if_neg (by omega), if_neg h1, if_neg (by omega), if_neg h3] at hce
      subst hce
      clear h1 h3
      go_enter Tryd.func52, Tryd.ntmps52
      go_wp2_with fail
      refine (split_D b hb _).mono ?_; rintro e w1 ⟨rfl, hb1⟩
      have hc1 := hb1.cells; have hz1 : w.heap.size < w1.heap.size := by have := hb1.sizes; simp at this; omega
      go_wp2
      go_ret
      exact ⟨rfl, (by repeat (first | exact Within.refl _ | assumption | refine Within.alloc ?_ _ | refine Within.drew ?_ | refine Within.trans ?_ (by assumption)))⟩
def bitsOfD (neg : Bool) (e fr : Nat) : Nat := e * 4503599627370496 + fr + (if neg then 9223372036854775808 else 0)
def joinD (neg : Bool) (e : Int) (fr : Nat) : Nat := if e < 0 ∨ 2047 < e ∨ 4503599627370496 ≤ fr then 0 else canonD (bitsOfD neg e.toNat fr)
def joinED (e : Int) (fr : Nat) : Int := if e < 0 ∨ 2047 < e ∨ 4503599627370496 ≤ fr then 1 else 0
theorem bitsOfD_lt (neg : Bool) {e fr : Nat} (h1 : e ≤ 2047) (h2 : fr < 4503599627370496) : bitsOfD neg e fr < 18446744073709551616 := by unfold bitsOfD; cases neg <;> simp <;> omega
set_option maxHeartbeats 400000 in
theorem join_D (neg : Bool) (e : Int) (fr : Nat) (hlo : -9223372036854775808 ≤ e) (hhi : e ≤ 9223372036854775807) (hb : fr < 18446744073709551616) (w : World) : Calls Tryd.prog 75 #[.bool neg, .int .i64 e, .int .u64 fr, dbl] w fun e' w' => e' = .returned (.tuple #[.int .u64 (joinD neg e fr), .int .i64 (joinED e fr)]) ∧ Within w w' := by
  by_cases c1 : e < 0
  · have hv : (joinD neg e fr : Int) = 0 ∧ joinED e fr = 1 := by unfold joinD joinED; rw [if_pos (by omega), if_pos (by omega)]; exact ⟨rfl, rfl⟩
    rw [hv.1, hv.2]; clear hv hb
    go_enter Tryd.func75, Tryd.ntmps75
    go_wp2
    go_ret2
    exact ⟨rfl, (by repeat (first | exact Within.refl _ | assumption | refine Within.alloc ?_ _ | refine Within.drew ?_ | refine Within.trans ?_ (by assumption)))⟩
  by_cases c2 : 2047 < e
  · have hv : (joinD neg e fr : Int) = 0 ∧ joinED e fr = 1 := by unfold joinD joinED; rw [if_pos (by omega), if_pos (by omega)]; exact ⟨rfl, rfl⟩
    rw [hv.1, hv.2]; clear hv hb
    go_enter Tryd.func75, Tryd.ntmps75
    go_wp2
    go_ret2
    exact ⟨rfl, (by repeat (first | exact Within.refl _ | assumption | refine Within.alloc ?_ _ | refine Within.drew ?_ | refine Within.trans ?_ (by assumption)))⟩
  obtain ⟨k, rfl⟩ := Int.eq_ofNat_of_zero_le (show 0 ≤ e by omega)
  have c3 : (k : Int) ≤ 2047 := by omega
  by_cases c4 : 4503599627370496 ≤ fr
  · have c5 : decide ((4503599627370496 : Int) ≤ fr) = true := decide_eq_true (by omega)
    have d1 : decide ((k : Int) < 0) = false := decide_eq_false (by omega)
    have d2 : decide ((2047 : Int) < k) = false := decide_eq_false (by omega)
    have ew3 : IntKind.u64.wrap (fr : Int) = fr := by rw [IntKind.wrap_u64]; omega
    have hv : (joinD neg k fr : Int) = 0 ∧ joinED k fr = 1 := by unfold joinD joinED; rw [if_pos (by omega), if_pos (by omega)]; exact ⟨rfl, rfl⟩
    rw [hv.1, hv.2]; clear hv hlo hhi hb c4 c1 c2 c3
    go_enter Tryd.func75, Tryd.ntmps75
    go_wp2_with fail
    refine (hidden_D _).mono ?_; rintro e1 w1 ⟨rfl, hb1⟩
    have hc1 := hb1.cells; have hz1 : w.heap.size < w1.heap.size := by have := hb1.sizes; simp at this; omega
    go_wp2
    go_ret2
    exact ⟨rfl, (by repeat (first | exact Within.refl _ | assumption | refine Within.alloc ?_ _ | refine Within.drew ?_ | refine Within.trans ?_ (by assumption)))⟩
  · have c5 : decide ((4503599627370496 : Int) ≤ fr) = false := decide_eq_false (by omega)
    have d1 : decide ((k : Int) < 0) = false := decide_eq_false (by omega)
    have d2 : decide ((2047 : Int) < k) = false := decide_eq_false (by omega)
    have hv : (joinD neg k fr : Int) = canonD (bitsOfD neg k fr) ∧ joinED k fr = 0 := by unfold joinD joinED; rw [if_neg (by omega), if_neg (by omega)]; exact ⟨rfl, rfl⟩
    rw [hv.1, hv.2]
    have hlt := Lib.hid (bitsOfD_lt neg (e := k) (fr := fr) (by omega) (by omega))
    have j1 := u64_join 52 (k * 4503599627370496) fr (by omega) (by omega) (by rw [show (2 : Nat) ^ 52 = 4503599627370496 from rfl]; omega) (by rw [show (2 : Nat) ^ 52 = 4503599627370496 from rfl]; omega)
    have j2 := u64_join 63 9223372036854775808 (k * 4503599627370496 + fr) (by omega) (by omega) (by decide) (by rw [show (2 : Nat) ^ 63 = 9223372036854775808 from rfl]; omega)
    have j2' : bits .or .u64 ((k : Int) * 4503599627370496 + fr) 9223372036854775808 = (k : Int) * 4503599627370496 + fr + 9223372036854775808 := by
      rw [show (k : Int) * 4503599627370496 + fr = ((k * 4503599627370496 + fr : Nat) : Int) by omega, show (9223372036854775808 : Int) = ((9223372036854775808 : Nat) : Int) from rfl, u64_or_nat _ _ (by omega) (by omega), Nat.or_comm, ← u64_or_nat _ _ (by omega) (by omega), j2]
      omega
    simp only [Int.natCast_mul, Int.natCast_add, Int.cast_ofNat_Int] at j1
    have ew : IntKind.u64.wrap (k : Int) = k := by rw [IntKind.wrap_u64]; omega
    have ew2 : IntKind.u64.wrap ((k : Int) * 4503599627370496) = k * 4503599627370496 := by rw [IntKind.wrap_u64]; omega
    have ew3 : IntKind.u64.wrap (fr : Int) = fr := by rw [IntKind.wrap_u64]; omega
    have f0 : (0 : Int) ≤ k := by omega
    have f1 : (0 : Int) ≤ fr := by omega
    clear hv hlo hhi c1 c2 c4 hb j2 c3
    cases neg
    · have j3 : (k : Int) * 4503599627370496 + fr = (bitsOfD false k fr : Int) := by
        unfold bitsOfD; simp
      have J3 := Lib.hid j3; clear j3
      go_enter Tryd.func75, Tryd.ntmps75
      go_wp2_with fail
      refine (hidden_D _).mono ?_; rintro e1 w1 ⟨rfl, hb1⟩
      have hc1 := hb1.cells; have hz1 : w.heap.size < w1.heap.size := by have := hb1.sizes; simp at this; omega
      go_wp2_with fail
      rw [J3.out]
      refine (canon_D _ hlt.out _).mono ?_; rintro e2 w2 ⟨rfl, hb2⟩
      go_wp2
      go_ret2
      exact ⟨rfl, (by repeat (first | exact Within.refl _ | assumption | refine Within.alloc ?_ _ | refine Within.drew ?_ | refine Within.trans ?_ (by assumption)))⟩
    · have j3 : (k : Int) * 4503599627370496 + fr + 9223372036854775808 = (bitsOfD true k fr : Int) := by
        unfold bitsOfD; simp
      have J3 := Lib.hid j3; clear j3
      go_enter Tryd.func75, Tryd.ntmps75
      go_wp2_with fail
      refine (hidden_D _).mono ?_; rintro e1 w1 ⟨rfl, hb1⟩
      have hc1 := hb1.cells; have hz1 : w.heap.size < w1.heap.size := by have := hb1.sizes; simp at this; omega
      go_wp2_with fail
      refine (sign_D _).mono ?_; rintro e2 w2 ⟨rfl, hb2⟩
      have hc2 := hb2.cells; have hz2 : w.heap.size < w2.heap.size := by have := hb2.sizes; omega
      go_wp2_with fail
      rw [J3.out]
      refine (canon_D _ hlt.out _).mono ?_; rintro e3 w3 ⟨rfl, hb3⟩
      go_wp2
      go_ret2
      exact ⟨rfl, (by repeat (first | exact Within.refl _ | assumption | refine Within.alloc ?_ _ | refine Within.drew ?_ | refine Within.trans ?_ (by assumption)))⟩
theorem parts_eq {n : Bool} {a b c d z : Int} (h1 : a = b) (h2 : c = d) : Ending.returned (.tuple #[.agg #[.bool n, .int .u64 a, .int .i64 c], .int .i64 z]) = .returned (.tuple #[.agg #[.bool n, .int .u64 b, .int .i64 d], .int .i64 z]) := by rw [h1, h2]
def mantD (b : Nat) : Nat := if expD b = 0 then fracD b else fracD b + 4503599627370496
def lowD (b : Nat) : Int := ((if expD b = 0 then 1 else expD b : Nat) : Int) - 1075
theorem expD_lt (b : Nat) : expD b < 2048 := by unfold expD; omega
theorem fracD_lt (b : Nat) : fracD b < 4503599627370496 := by unfold fracD; omega
theorem mantD_lt (b : Nat) : mantD b < 2 * 4503599627370496 := by have := fracD_lt b; unfold mantD; split <;> omega
def pMantD (b : Nat) : Nat := if expD b = 2047 then 0 else mantD b / 2 ^ Lib.ctz 64 (mantD b)
def pExpD (b : Nat) : Int := if expD b = 2047 ∨ mantD b = 0 then 0 else lowD b + Lib.ctz 64 (mantD b)
def pNegD (b : Nat) : Bool := if expD b = 2047 then false else negD b
def pErrD (b : Nat) : Int := if expD b = 2047 then 4 else 0
theorem classD_nan {b : Nat} (h : expD b = 2047) : classD b = 1 ∨ classD b = 2 := by
  unfold classD classOf; by_cases h2 : fracD b = 0
  · right; rw [if_neg (by omega), if_pos h]
  · left; rw [if_pos ⟨h, h2⟩]
theorem classD_zero {b : Nat} (h : expD b = 0) (h2 : fracD b = 0) : classD b = 3 := by
  unfold classD classOf; rw [if_neg (by omega), if_neg (by omega), if_pos ⟨h, h2⟩]
theorem classD_sub {b : Nat} (h : expD b = 0) (h2 : fracD b ≠ 0) : classD b = 4 := by
  unfold classD classOf; rw [if_neg (by omega), if_neg (by omega), if_neg (by omega), if_pos h]
theorem classD_normal {b : Nat} (h : expD b ≠ 0) (h2 : expD b ≠ 2047) : classD b = 5 := by
  unfold classD classOf; rw [if_neg (by omega), if_neg (by omega), if_neg (by omega), if_neg (by omega)]
set_option maxRecDepth 100000 in
set_option maxHeartbeats 600000 in
theorem partsNan_D (b : Nat) (hb : b < 18446744073709551616) (cl : classD b = 1 ∨ classD b = 2) (w : World) (_ : Tab w) : Calls Tryd.prog 59 #[.int .u64 b, dbl] w fun e w' => e = .returned (.tuple #[.agg #[.bool (false), .int .u64 (0), .int .i64 (0)], .int .i64 (4)]) ∧ Within w w' := by
  have H0 := Lib.hid hb
  have HE := expD_lt b
  have HF := Lib.hid (fracD_lt b)
  have he : (expD b : Int) < 2048 := by omega
  have ewf : IntKind.u64.wrap (fracD b : Int) = fracD b := by have := HF.out; rw [IntKind.wrap_u64]; omega
  rcases cl with hcl | hcl
  all_goals
    have CL := Lib.hid (class_D b H0.out)
    rw [hcl] at CL; clear hcl hb HE
    go_enter Tryd.func59, Tryd.ntmps59
    go_wp2_with fail
    refine (split_D b H0.out _).mono ?_; rintro e1 w1 ⟨rfl, hb1⟩
    have hc1 := hb1.cells; have hf1 := hb1.frozens; have hz1 : w.heap.size + 1 < w1.heap.size := (by have := hb1.sizes; simp at this; omega); have hy1 : w.heap.size < w1.heap.size := by omega
    have s0 : w1.cell? ⟨w.heap.size + 1, 0, none⟩ = some (.bool false) := by have := hc1 (w.heap.size + 1) 0 (by simp); simpa using this
    have s1 : w1.cell? ⟨w.heap.size + 1, 1, none⟩ = some (.int .u64 0) := by have := hc1 (w.heap.size + 1) 1 (by simp); simpa using this
    have s2 : w1.cell? ⟨w.heap.size + 1, 2, none⟩ = some (.int .i64 0) := by have := hc1 (w.heap.size + 1) 2 (by simp); simpa using this
    go_wp2_with fail
    refine (CL.out _).mono ?_; rintro e2 w2 ⟨rfl, hb2⟩
    have hc2 := hb2.cells; have hf2 := hb2.frozens; have hz2 : w1.heap.size < w2.heap.size := (by have := hb2.sizes; simp at this; omega); have hy2 : w.heap.size < w2.heap.size := (by omega); have hx2 : w.heap.size + 1 < w2.heap.size := by omega
    have k0 : w2.cell? ⟨w1.heap.size, 0, none⟩ = some (.bool (negD b)) := by have := hc2 w1.heap.size 0 (by simp); simpa using this
    have k1 : w2.cell? ⟨w1.heap.size, 1, none⟩ = some (.int .u64 (fracD b)) := by have := hc2 w1.heap.size 1 (by simp); simpa using this
    have k2 : w2.cell? ⟨w1.heap.size, 2, none⟩ = some (.int .i64 ((expD b : Int) - 1075)) := by have := hc2 w1.heap.size 2 (by simp); simpa using this
    have r0 : w2.cell? ⟨w.heap.size + 1, 0, none⟩ = some (.bool false) := by rw [hc2 _ _ (by simp; omega), World.cell?_alloc_lt _ _ _ (by simpa using hz1)]; exact s0
    have r1 : w2.cell? ⟨w.heap.size + 1, 1, none⟩ = some (.int .u64 0) := by rw [hc2 _ _ (by simp; omega), World.cell?_alloc_lt _ _ _ (by simpa using hz1)]; exact s1
    have r2 : w2.cell? ⟨w.heap.size + 1, 2, none⟩ = some (.int .i64 0) := by rw [hc2 _ _ (by simp; omega), World.cell?_alloc_lt _ _ _ (by simpa using hz1)]; exact s2
    go_wp2
    refine bodyPost_ret (v := .tuple #[.agg #[.bool (false), .int .u64 (0), .int .i64 (0)], .int .i64 (4)]) (by simp [results, Tryd.results59, go_sem, r0, r1, r2]) rfl ⟨rfl, ?_⟩
    exact (by repeat (first | with_reducible exact Within.refl _ | with_reducible assumption | with_reducible refine Within.alloc ?_ _ | with_reducible refine Within.drew ?_ | with_reducible refine Within.setCell ?_ (by first | (simp; done) | (simp; omega)) _ | with_reducible refine Within.trans ?_ (by assumption)))
set_option maxRecDepth 100000 in
set_option maxHeartbeats 600000 in
theorem partsZero_D (b : Nat) (hb : b < 18446744073709551616) (cl : classD b = 3) (w : World) (_ : Tab w) : Calls Tryd.prog 59 #[.int .u64 b, dbl] w fun e w' => e = .returned (.tuple #[.agg #[.bool (negD b), .int .u64 (0), .int .i64 (0)], .int .i64 (0)]) ∧ Within w w' := by
  have H0 := Lib.hid hb
  have HE := expD_lt b
  have HF := Lib.hid (fracD_lt b)
  have he : (expD b : Int) < 2048 := by omega
  have ewf : IntKind.u64.wrap (fracD b : Int) = fracD b := by have := HF.out; rw [IntKind.wrap_u64]; omega
  have CL := Lib.hid (class_D b H0.out)
  rw [cl] at CL
  clear cl hb HE
  go_enter Tryd.func59, Tryd.ntmps59
  go_wp2_with fail
  refine (split_D b H0.out _).mono ?_; rintro e1 w1 ⟨rfl, hb1⟩
  have hc1 := hb1.cells; have hf1 := hb1.frozens; have hz1 : w.heap.size + 1 < w1.heap.size := (by have := hb1.sizes; simp at this; omega); have hy1 : w.heap.size < w1.heap.size := by omega
  have s0 : w1.cell? ⟨w.heap.size + 1, 0, none⟩ = some (.bool false) := by have := hc1 (w.heap.size + 1) 0 (by simp); simpa using this
  have s1 : w1.cell? ⟨w.heap.size + 1, 1, none⟩ = some (.int .u64 0) := by have := hc1 (w.heap.size + 1) 1 (by simp); simpa using this
  have s2 : w1.cell? ⟨w.heap.size + 1, 2, none⟩ = some (.int .i64 0) := by have := hc1 (w.heap.size + 1) 2 (by simp); simpa using this
  go_wp2_with fail
  refine (CL.out _).mono ?_; rintro e2 w2 ⟨rfl, hb2⟩
  have hc2 := hb2.cells; have hf2 := hb2.frozens; have hz2 : w1.heap.size < w2.heap.size := (by have := hb2.sizes; simp at this; omega); have hy2 : w.heap.size < w2.heap.size := (by omega); have hx2 : w.heap.size + 1 < w2.heap.size := by omega
  have k0 : w2.cell? ⟨w1.heap.size, 0, none⟩ = some (.bool (negD b)) := by have := hc2 w1.heap.size 0 (by simp); simpa using this
  have k1 : w2.cell? ⟨w1.heap.size, 1, none⟩ = some (.int .u64 (fracD b)) := by have := hc2 w1.heap.size 1 (by simp); simpa using this
  have k2 : w2.cell? ⟨w1.heap.size, 2, none⟩ = some (.int .i64 ((expD b : Int) - 1075)) := by have := hc2 w1.heap.size 2 (by simp); simpa using this
  have r0 : w2.cell? ⟨w.heap.size + 1, 0, none⟩ = some (.bool false) := by rw [hc2 _ _ (by simp; omega), World.cell?_alloc_lt _ _ _ (by simpa using hz1)]; exact s0
  have r1 : w2.cell? ⟨w.heap.size + 1, 1, none⟩ = some (.int .u64 0) := by rw [hc2 _ _ (by simp; omega), World.cell?_alloc_lt _ _ _ (by simpa using hz1)]; exact s1
  have r2 : w2.cell? ⟨w.heap.size + 1, 2, none⟩ = some (.int .i64 0) := by rw [hc2 _ _ (by simp; omega), World.cell?_alloc_lt _ _ _ (by simpa using hz1)]; exact s2
  go_wp2
  refine bodyPost_ret (v := .tuple #[.agg #[.bool (negD b), .int .u64 (0), .int .i64 (0)], .int .i64 (0)]) (by simp [results, Tryd.results59, go_sem, r0, r1, r2]) rfl ⟨rfl, ?_⟩
  exact (by repeat (first | with_reducible exact Within.refl _ | with_reducible assumption | with_reducible refine Within.alloc ?_ _ | with_reducible refine Within.drew ?_ | with_reducible refine Within.setCell ?_ (by first | (simp; done) | (simp; omega)) _ | with_reducible refine Within.trans ?_ (by assumption)))
set_option maxRecDepth 100000 in
set_option maxHeartbeats 600000 in
theorem partsSub_D (b : Nat) (hb : b < 18446744073709551616) (c2 : mantD b ≠ 0) (cl : classD b = 4) (em : mantD b = fracD b) (el : lowD b = expD b - 1075 + 1) (w : World) (hT : Tab w) : Calls Tryd.prog 59 #[.int .u64 b, dbl] w fun e w' => e = .returned (.tuple #[.agg #[.bool (negD b), .int .u64 ((mantD b / 2 ^ Lib.ctz 64 (mantD b) : Nat)), .int .i64 (lowD b + Lib.ctz 64 (mantD b))], .int .i64 (0)]) ∧ Within w w' := by
  have H0 := Lib.hid hb
  have HE := expD_lt b
  have HF := Lib.hid (fracD_lt b)
  have he : (expD b : Int) < 2048 := by omega
  have ewf : IntKind.u64.wrap (fracD b : Int) = fracD b := by have := HF.out; rw [IntKind.wrap_u64]; omega
  have HM := Lib.hid (mantD_lt b)
  obtain ⟨_, hz, hk⟩ := ctz_split (mantD b) c2 (by have := HM.out; omega); clear hz
  have HK := Lib.hid hk
  have hk : (Lib.ctz 64 (mantD b) : Int) < 64 := by omega
  have TZ := Lib.hid (fun w => bits_tz64 (mantD b) (by have := HM.out; omega) w)
  generalize Lib.ctz 64 (mantD b) = k at *
  have CL := Lib.hid (class_D b H0.out)
  rw [cl] at CL
  have EM := Lib.hid em
  have EL := Lib.hid el
  clear cl hb HE c2 em el
  go_enter Tryd.func59, Tryd.ntmps59
  go_wp2_with fail
  refine (split_D b H0.out _).mono ?_; rintro e1 w1 ⟨rfl, hb1⟩
  have hc1 := hb1.cells; have hf1 := hb1.frozens; have hz1 : w.heap.size + 1 < w1.heap.size := (by have := hb1.sizes; simp at this; omega); have hy1 : w.heap.size < w1.heap.size := by omega
  have s0 : w1.cell? ⟨w.heap.size + 1, 0, none⟩ = some (.bool false) := by have := hc1 (w.heap.size + 1) 0 (by simp); simpa using this
  have s1 : w1.cell? ⟨w.heap.size + 1, 1, none⟩ = some (.int .u64 0) := by have := hc1 (w.heap.size + 1) 1 (by simp); simpa using this
  have s2 : w1.cell? ⟨w.heap.size + 1, 2, none⟩ = some (.int .i64 0) := by have := hc1 (w.heap.size + 1) 2 (by simp); simpa using this
  go_wp2_with fail
  refine (CL.out _).mono ?_; rintro e2 w2 ⟨rfl, hb2⟩
  have hc2 := hb2.cells; have hf2 := hb2.frozens; have hz2 : w1.heap.size < w2.heap.size := (by have := hb2.sizes; simp at this; omega); have hy2 : w.heap.size < w2.heap.size := (by omega); have hx2 : w.heap.size + 1 < w2.heap.size := by omega
  have k0 : w2.cell? ⟨w1.heap.size, 0, none⟩ = some (.bool (negD b)) := by have := hc2 w1.heap.size 0 (by simp); simpa using this
  have k1 : w2.cell? ⟨w1.heap.size, 1, none⟩ = some (.int .u64 (fracD b)) := by have := hc2 w1.heap.size 1 (by simp); simpa using this
  have k2 : w2.cell? ⟨w1.heap.size, 2, none⟩ = some (.int .i64 ((expD b : Int) - 1075)) := by have := hc2 w1.heap.size 2 (by simp); simpa using this
  have r0 : w2.cell? ⟨w.heap.size + 1, 0, none⟩ = some (.bool false) := by rw [hc2 _ _ (by simp; omega), World.cell?_alloc_lt _ _ _ (by simpa using hz1)]; exact s0
  have r1 : w2.cell? ⟨w.heap.size + 1, 1, none⟩ = some (.int .u64 0) := by rw [hc2 _ _ (by simp; omega), World.cell?_alloc_lt _ _ _ (by simpa using hz1)]; exact s1
  have r2 : w2.cell? ⟨w.heap.size + 1, 2, none⟩ = some (.int .i64 0) := by rw [hc2 _ _ (by simp; omega), World.cell?_alloc_lt _ _ _ (by simpa using hz1)]; exact s2
  go_wp2_with fail
  rw [← EM.out]
  refine (TZ.out _ (hT.of (by repeat (first | with_reducible exact Within.refl _ | with_reducible assumption | with_reducible refine Within.alloc ?_ _ | with_reducible refine Within.drew ?_ | with_reducible refine Within.setCell ?_ (by first | (simp; done) | (simp; omega)) _ | with_reducible refine Within.trans ?_ (by assumption))))).mono ?_; rintro e3 w3 ⟨rfl, rfl⟩
  go_wp2
  obtain ⟨m, hm⟩ : ∃ m : Int, m = (fracD b : Int) / 2 ^ k := ⟨_, rfl⟩
  rw [← hm]
  have HM2 := Lib.hid hm; clear hm
  refine bodyPost_ret (v := .tuple #[.agg #[.bool (negD b), .int .u64 m, .int .i64 ((expD b : Int) - 1075 + 1 + k)], .int .i64 0]) ?_ ?_ ?_
  · simp [results, Tryd.results59, go_sem, r0, r1, r2]
  · rfl
  refine ⟨parts_eq ?_ ?_, ?_⟩
  · rw [HM2.out, EM.out]; simp
  · rw [EL.out]
  · exact (by repeat (first | with_reducible exact Within.refl _ | with_reducible assumption | with_reducible refine Within.alloc ?_ _ | with_reducible refine Within.drew ?_ | with_reducible refine Within.setCell ?_ (by first | (simp; done) | (simp; omega)) _ | with_reducible refine Within.trans ?_ (by assumption)))
set_option maxRecDepth 100000 in
set_option maxHeartbeats 600000 in
theorem partsNorm_D (b : Nat) (hb : b < 18446744073709551616) (c2 : mantD b ≠ 0) (cl : classD b = 5) (em : mantD b = fracD b + 4503599627370496) (el : lowD b = expD b - 1075) (w : World) (hT : Tab w) : Calls Tryd.prog 59 #[.int .u64 b, dbl] w fun e w' => e = .returned (.tuple #[.agg #[.bool (negD b), .int .u64 ((mantD b / 2 ^ Lib.ctz 64 (mantD b) : Nat)), .int .i64 (lowD b + Lib.ctz 64 (mantD b))], .int .i64 (0)]) ∧ Within w w' := by
  have H0 := Lib.hid hb
  have HE := expD_lt b
  have HF := Lib.hid (fracD_lt b)
  have he : (expD b : Int) < 2048 := by omega
  have ewf : IntKind.u64.wrap (fracD b : Int) = fracD b := by have := HF.out; rw [IntKind.wrap_u64]; omega
  have HM := Lib.hid (mantD_lt b)
  obtain ⟨_, hz, hk⟩ := ctz_split (mantD b) c2 (by have := HM.out; omega); clear hz
  have HK := Lib.hid hk
  have hk : (Lib.ctz 64 (mantD b) : Int) < 64 := by omega
  have TZ := Lib.hid (fun w => bits_tz64 (mantD b) (by have := HM.out; omega) w)
  generalize Lib.ctz 64 (mantD b) = k at *
  have CL := Lib.hid (class_D b H0.out)
  rw [cl] at CL
  have EM := Lib.hid em
  have EL := Lib.hid el
  have j1 := u64_join 52 4503599627370496 (fracD b) (by decide) (by have := HF.out; omega) (by decide) (by rw [show (2 : Nat) ^ 52 = 4503599627370496 from rfl]; exact HF.out)
  have e1 : bits .or .u64 (fracD b : Int) 4503599627370496 = (mantD b : Int) := by
    rw [show (4503599627370496 : Int) = ((4503599627370496 : Nat) : Int) from rfl, u64_or_nat _ _ (by have := HF.out; omega) (by decide), Nat.or_comm, ← u64_or_nat _ _ (by decide) (by have := HF.out; omega), j1, EM.out]; omega
  clear cl hb HE c2 em el j1
  go_enter Tryd.func59, Tryd.ntmps59
  go_wp2_with fail
  refine (split_D b H0.out _).mono ?_; rintro e1 w1 ⟨rfl, hb1⟩
  have hc1 := hb1.cells; have hf1 := hb1.frozens; have hz1 : w.heap.size + 1 < w1.heap.size := (by have := hb1.sizes; simp at this; omega); have hy1 : w.heap.size < w1.heap.size := by omega
  have s0 : w1.cell? ⟨w.heap.size + 1, 0, none⟩ = some (.bool false) := by have := hc1 (w.heap.size + 1) 0 (by simp); simpa using this
  have s1 : w1.cell? ⟨w.heap.size + 1, 1, none⟩ = some (.int .u64 0) := by have := hc1 (w.heap.size + 1) 1 (by simp); simpa using this
  have s2 : w1.cell? ⟨w.heap.size + 1, 2, none⟩ = some (.int .i64 0) := by have := hc1 (w.heap.size + 1) 2 (by simp); simpa using this
  go_wp2_with fail
  refine (CL.out _).mono ?_; rintro e2 w2 ⟨rfl, hb2⟩
  have hc2 := hb2.cells; have hf2 := hb2.frozens; have hz2 : w1.heap.size < w2.heap.size := (by have := hb2.sizes; simp at this; omega); have hy2 : w.heap.size < w2.heap.size := (by omega); have hx2 : w.heap.size + 1 < w2.heap.size := by omega
  have k0 : w2.cell? ⟨w1.heap.size, 0, none⟩ = some (.bool (negD b)) := by have := hc2 w1.heap.size 0 (by simp); simpa using this
  have k1 : w2.cell? ⟨w1.heap.size, 1, none⟩ = some (.int .u64 (fracD b)) := by have := hc2 w1.heap.size 1 (by simp); simpa using this
  have k2 : w2.cell? ⟨w1.heap.size, 2, none⟩ = some (.int .i64 ((expD b : Int) - 1075)) := by have := hc2 w1.heap.size 2 (by simp); simpa using this
  have r0 : w2.cell? ⟨w.heap.size + 1, 0, none⟩ = some (.bool false) := by rw [hc2 _ _ (by simp; omega), World.cell?_alloc_lt _ _ _ (by simpa using hz1)]; exact s0
  have r1 : w2.cell? ⟨w.heap.size + 1, 1, none⟩ = some (.int .u64 0) := by rw [hc2 _ _ (by simp; omega), World.cell?_alloc_lt _ _ _ (by simpa using hz1)]; exact s1
  have r2 : w2.cell? ⟨w.heap.size + 1, 2, none⟩ = some (.int .i64 0) := by rw [hc2 _ _ (by simp; omega), World.cell?_alloc_lt _ _ _ (by simpa using hz1)]; exact s2
  go_wp2_with fail
  have g0 : w1.cell? ⟨w.heap.size, 0, none⟩ = some (.int .u64 52) := by have := hc1 w.heap.size 0 (by simp; omega); simpa using this
  have f0 : w2.cell? ⟨w.heap.size, 0, none⟩ = some (.int .u64 52) := by rw [hc2 _ _ (by simp; omega), World.cell?_alloc_lt _ _ _ (by simpa using hy1)]; exact g0
  have g1 : w1.cell? ⟨w.heap.size, 1, none⟩ = some (.int .i64 2047) := by have := hc1 w.heap.size 1 (by simp; omega); simpa using this
  have f1 : w2.cell? ⟨w.heap.size, 1, none⟩ = some (.int .i64 2047) := by rw [hc2 _ _ (by simp; omega), World.cell?_alloc_lt _ _ _ (by simpa using hy1)]; exact g1
  have g2 : w1.cell? ⟨w.heap.size, 2, none⟩ = some (.int .i64 1075) := by have := hc1 w.heap.size 2 (by simp; omega); simpa using this
  have f2 : w2.cell? ⟨w.heap.size, 2, none⟩ = some (.int .i64 1075) := by rw [hc2 _ _ (by simp; omega), World.cell?_alloc_lt _ _ _ (by simpa using hy1)]; exact g2
  have z1 : ∀ o, w2.frozen? ⟨w1.heap.size, o, none⟩ = false := fun o => by have := hf2 w1.heap.size o (by simp); simpa using this
  have y0 : ∀ o, w1.frozen? ⟨w.heap.size + 1, o, none⟩ = false := fun o => by have := hf1 (w.heap.size + 1) o (by simp); simpa using this
  have y1 : ∀ o, w2.frozen? ⟨w.heap.size + 1, o, none⟩ = false := fun o => by have := hf2 (w.heap.size + 1) o (by simp; omega); rw [World.frozen?_alloc_old _ _ _ (by simp; omega)] at this; rw [this]; exact y0 o
  go_region_with (first | (go_at_call 71; refine (hidden_D _).mono ?_; rintro e3 w3 ⟨rfl, hb3⟩; have hq3 := (Within.refl w2).drew.trans hb3; have hc3 := hq3.cells; have kk0 := (hc3 _ _ hz2).trans k0; have kk1 := (hc3 _ _ hz2).trans k1; have kk2 := (hc3 _ _ hz2).trans k2; have hz3 := Nat.lt_of_lt_of_le hz2 hq3.sizes; have hy3 := Nat.lt_of_lt_of_le hy2 hq3.sizes; have z3 := fun o => (hq3.frozens _ o hz2).trans (z1 o); have y3 := fun o => (hq3.frozens _ o hx2).trans (y1 o); have rr0 := (hc3 _ _ hx2).trans r0; have rr1 := (hc3 _ _ hx2).trans r1; have rr2 := (hc3 _ _ hx2).trans r2))
  all_goals
    go_wp2_with fail
    refine (TZ.out _ (hT.of (by repeat (first | with_reducible exact Within.refl _ | with_reducible assumption | with_reducible refine Within.alloc ?_ _ | with_reducible refine Within.drew ?_ | with_reducible refine Within.setCell ?_ (by first | (simp; done) | (simp; omega)) _ | with_reducible refine Within.trans ?_ (by assumption))))).mono ?_; rintro e4 w4 ⟨rfl, rfl⟩
    go_wp2
    obtain ⟨m, hm⟩ : ∃ m : Int, m = (mantD b : Int) / 2 ^ k := ⟨_, rfl⟩
    rw [← hm]
    have HM2 := Lib.hid hm; clear hm
    refine bodyPost_ret (v := .tuple #[.agg #[.bool (negD b), .int .u64 m, .int .i64 ((expD b : Int) - 1075 + k)], .int .i64 0]) ?_ ?_ ?_
    · simp [results, Tryd.results59, go_sem, rr0, rr1, rr2]
    · rfl
    refine ⟨parts_eq ?_ ?_, ?_⟩
    · rw [HM2.out]; simp
    · rw [EL.out]
    · exact (by repeat (first | with_reducible exact Within.refl _ | with_reducible assumption | with_reducible refine Within.alloc ?_ _ | with_reducible refine Within.drew ?_ | with_reducible refine Within.setCell ?_ (by first | (simp; done) | (simp; omega)) _ | with_reducible refine Within.trans ?_ (by assumption)))
set_option maxRecDepth 100000 in
set_option maxHeartbeats 600000 in
theorem parts_D (b : Nat) (hb : b < 18446744073709551616)  (w : World) (hT : Tab w) : Calls Tryd.prog 59 #[.int .u64 b, dbl] w fun e w' => e = .returned (.tuple #[.agg #[.bool (pNegD b), .int .u64 (pMantD b), .int .i64 (pExpD b)], .int .i64 (pErrD b)]) ∧ Within w w' := by
  by_cases c1 : expD b = 2047
  · have hv : pNegD b = false ∧ (pMantD b : Int) = 0 ∧ pExpD b = 0 ∧ pErrD b = 4 := by
      unfold pNegD pMantD pExpD pErrD; rw [if_pos c1, if_pos c1, if_pos (.inl c1), if_pos c1]; exact ⟨rfl, rfl, rfl, rfl⟩
    rw [hv.1, hv.2.1, hv.2.2.1, hv.2.2.2]
    exact partsNan_D b hb (classD_nan c1) w hT
  by_cases c2 : mantD b = 0
  · have c3 : expD b = 0 := by unfold mantD at c2; split at c2 <;> omega
    have c4 : fracD b = 0 := by unfold mantD at c2; rw [if_pos c3] at c2; exact c2
    have hv : pNegD b = negD b ∧ (pMantD b : Int) = 0 ∧ pExpD b = 0 ∧ pErrD b = 0 := by
      unfold pNegD pMantD pExpD pErrD; rw [if_neg c1, if_neg c1, if_pos (.inr c2), if_neg c1, c2]; simp
    rw [hv.1, hv.2.1, hv.2.2.1, hv.2.2.2]
    exact partsZero_D b hb (classD_zero c3 c4) w hT
  have hv : pNegD b = negD b ∧ (pMantD b : Int) = (mantD b / 2 ^ Lib.ctz 64 (mantD b) : Nat) ∧ pExpD b = lowD b + Lib.ctz 64 (mantD b) ∧ pErrD b = 0 := by
    unfold pNegD pMantD pExpD pErrD; rw [if_neg c1, if_neg c1, if_neg (by omega), if_neg c1]; exact ⟨rfl, rfl, rfl, rfl⟩
  rw [hv.1, hv.2.1, hv.2.2.1, hv.2.2.2]
  by_cases c3 : expD b = 0
  · have em : mantD b = fracD b := by unfold mantD; rw [if_pos c3]
    have el : lowD b = expD b - 1075 + 1 := by unfold lowD; rw [if_pos c3, c3]; rfl
    exact partsSub_D b hb c2 (classD_sub c3 (by omega)) em el w hT
  · have em : mantD b = fracD b + 4503599627370496 := by unfold mantD; rw [if_neg c3]
    have el : lowD b = expD b - 1075 := by unfold lowD; rw [if_neg c3]
    exact partsNorm_D b hb c2 (classD_normal c3 c1) em el w hT
def oddM (mant : Nat) : Nat := mant / 2 ^ Lib.ctz 64 mant
def oddE (mant : Nat) (e : Int) : Int := e + Lib.ctz 64 mant
def badD (mant : Nat) (e : Int) : Bool := decide (2150 < e) || decide (e < -2150) || decide (53 < Lib.bitLen (oddM mant)) || decide (oddE mant e < -1074)
def downD (mant : Nat) (e : Int) : Nat := min (53 - Lib.bitLen (oddM mant)) (oddE mant e - -1074).toNat
def topD (mant : Nat) (e : Int) : Nat := oddM mant * 2 ^ downD mant e
def fieldD (mant : Nat) (e : Int) : Int := if topD mant e < 4503599627370496 then 0 else oddE mant e - downD mant e + 1075
def madeD (neg : Bool) (mant : Nat) (e : Int) : Nat := if mant = 0 then joinD neg 0 0 else if badD mant e then 0 else if 2047 ≤ fieldD mant e then 0 else joinD neg (fieldD mant e) (topD mant e % 4503599627370496)
def madeED (mant : Nat) (e : Int) : Int := if mant = 0 then joinED 0 0 else if badD mant e then 10 else if 2047 ≤ fieldD mant e then 10 else joinED (fieldD mant e) (topD mant e % 4503599627370496)
set_option maxRecDepth 100000 in
set_option maxHeartbeats 600000 in
theorem madeZero_D (neg : Bool) (e : Int) (w : World) : Calls Tryd.prog 65 #[.agg #[.bool neg, .int .u64 0, .int .i64 e], dbl] w fun e' w' => e' = .returned (.tuple #[.int .u64 (joinD neg 0 0), .int .i64 (joinED 0 0)]) ∧ Within w w' := by
  go_enter Tryd.func65, Tryd.ntmps65
  go_wp2_with fail
  refine (join_D neg 0 0 (by decide) (by decide) (by decide) _).mono ?_; rintro e1 w1 ⟨rfl, hb1⟩
  go_wp2
  go_ret2
  exact ⟨rfl, (by repeat (first | with_reducible exact Within.refl _ | with_reducible assumption | with_reducible refine Within.alloc ?_ _ | with_reducible refine Within.drew ?_ | with_reducible refine Within.setCell ?_ (by first | (simp; done) | (simp; omega)) _ | with_reducible refine Within.trans ?_ (by assumption)))⟩
set_option maxRecDepth 100000 in
set_option maxHeartbeats 600000 in
theorem madeFar_D (neg : Bool) (mant : Nat) (e : Int) (t1 : ((mant : Int) == 0) = false) (h : 2150 < e ∨ e < -2150) (w : World) : Calls Tryd.prog 65 #[.agg #[.bool neg, .int .u64 mant, .int .i64 e], dbl] w fun e' w' => e' = .returned (.tuple #[.int .u64 (0), .int .i64 (10)]) ∧ Within w w' := by
  rcases h with h | h
  all_goals
    go_enter Tryd.func65, Tryd.ntmps65
    go_wp2
    go_ret2
    exact ⟨rfl, (by repeat (first | with_reducible exact Within.refl _ | with_reducible assumption | with_reducible refine Within.alloc ?_ _ | with_reducible refine Within.drew ?_ | with_reducible refine Within.setCell ?_ (by first | (simp; done) | (simp; omega)) _ | with_reducible refine Within.trans ?_ (by assumption)))⟩
set_option maxRecDepth 100000 in
set_option maxHeartbeats 600000 in
theorem madeBad_D (neg : Bool) (mant k q : Nat) (e : Int) (hb : mant < 18446744073709551616) (t1 : ((mant : Int) == 0) = false) (h1 : e ≤ 2150) (h2 : -2150 ≤ e) (K : Hid (k < 64)) (KE : Hid (Lib.ctz 64 mant = k)) (Q : Hid (q = mant / 2 ^ k)) (HQ : Hid (q < 18446744073709551616)) (h3 : 53 < Lib.bitLen q ∨ e + k < -1074) (w : World) (hT : Tab w) : Calls Tryd.prog 65 #[.agg #[.bool neg, .int .u64 mant, .int .i64 e], dbl] w fun e' w' => e' = .returned (.tuple #[.int .u64 (0), .int .i64 (10)]) ∧ Within w w' := by
  have HB := Lib.hid hb; clear hb
  have TZ := Lib.hid (fun w => bits_tz64 mant HB.out w)
  have hq : (mant : Int) / 2 ^ k = (q : Int) := by rw [Q.out]; simp
  have hsh := shr_u64 mant k K.out
  rw [← Q.out] at hsh
  have hk : (k : Int) < 64 := by have := K.out; omega
  have ew : IntKind.i64.wrap (e + k) = e + k := by rw [IntKind.wrap_i64]; omega
  have LN := Lib.hid (fun w => bits_len64 q HQ.out w)
  generalize hL : Lib.bitLen q = L at *
  rw [KE.out] at TZ
  go_enter Tryd.func65, Tryd.ntmps65
  go_wp2_with fail
  refine (TZ.out _ (hT.of (by repeat (first | with_reducible exact Within.refl _ | with_reducible assumption | with_reducible refine Within.alloc ?_ _ | with_reducible refine Within.drew ?_ | with_reducible refine Within.setCell ?_ (by first | (simp; done) | (simp; omega)) _ | with_reducible refine Within.trans ?_ (by assumption))))).mono ?_; rintro e1 w1 ⟨rfl, rfl⟩
  go_wp2_with fail
  refine wp_region_within (by kernel_rfl) (by kernel_rfl) ?_
  repeat
    apply wpq_step rfl
    · intro wq hCq
      have hcq := hCq.cells
      go_simp
      first | rfl | (trace_state; fail)
    simp only [Act.put, List.setIfInBounds_toArray, List.set_cons_zero, List.set_cons_succ]
  refine wpQuiet_nil ?_
  intro w1 hb1
  have hc1 := hb1.cells; have hz1 : w.heap.size + 1 < w1.heap.size := (by have := hb1.sizes; simp at this; omega); have hy1 : w.heap.size < w1.heap.size := (by omega)
  go_wp2_with fail
  refine (LN.out _).mono ?_; rintro e2 w2 ⟨rfl, rfl⟩
  rcases h3 with h3 | h3
  all_goals
    go_wp2
    all_goals
      go_ret2
      exact ⟨rfl, (by repeat (first | with_reducible exact Within.refl _ | with_reducible assumption | with_reducible refine Within.alloc ?_ _ | with_reducible refine Within.drew ?_ | with_reducible refine Within.setCell ?_ (by first | (simp; done) | (simp; omega)) _ | with_reducible refine Within.trans ?_ (by assumption)))⟩
set_option maxRecDepth 100000 in
set_option maxHeartbeats 600000 in
theorem madeLow_D (neg : Bool) (mant k q D m : Nat) (e : Int) (hb : mant < 18446744073709551616) (t1 : ((mant : Int) == 0) = false) (h1 : e ≤ 2150) (h2 : -2150 ≤ e) (K : Hid (k < 64)) (KE : Hid (Lib.ctz 64 mant = k)) (Q : Hid (q = mant / 2 ^ k)) (HQ : Hid (q < 18446744073709551616)) (hD : min ((53 : Int) - Lib.bitLen q) (e + k + 1074) = D) (hL : (Lib.bitLen q : Int) ≤ 53) (he : -1074 ≤ e + k) (HD : Hid (D < 64)) (MQ : Hid (m = q * 2 ^ D)) (HM : Hid (m < 18446744073709551616)) (hm : (m : Int) < 4503599627370496) (w : World) (hT : Tab w) : Calls Tryd.prog 65 #[.agg #[.bool neg, .int .u64 mant, .int .i64 e], dbl] w fun e' w' => e' = .returned (.tuple #[.int .u64 (joinD neg 0 m), .int .i64 (joinED 0 m)]) ∧ Within w w' := by
  have d6 : True → decide ((m : Int) < 4503599627370496) = true := fun _ => decide_eq_true hm
  have HMM := Lib.hid (show m < 4503599627370496 by omega); clear hm
  have HB := Lib.hid hb; clear hb
  have TZ := Lib.hid (fun w => bits_tz64 mant HB.out w)
  have hq : (mant : Int) / 2 ^ k = (q : Int) := by rw [Q.out]; simp
  have hsh := shr_u64 mant k K.out
  rw [← Q.out] at hsh
  have hk : (k : Int) < 64 := by have := K.out; omega
  have ew : IntKind.i64.wrap (e + k) = e + k := by rw [IntKind.wrap_i64]; omega
  have LN := Lib.hid (fun w => bits_len64 q HQ.out w)
  have hshl := shl_u64 q D HD.out (by rw [← MQ.out]; exact HM.out)
  rw [← MQ.out] at hshl
  have hm2 : IntKind.u64.wrap ((q : Int) * 2 ^ D) = m := by rw [show (q : Int) * 2 ^ D = (m : Int) by rw [MQ.out]; simp, IntKind.wrap_u64]; have := HM.out; omega
  generalize Lib.bitLen q = L at *
  rw [KE.out] at TZ
  go_enter Tryd.func65, Tryd.ntmps65
  go_wp2_with fail
  refine (TZ.out _ (hT.of (by repeat (first | with_reducible exact Within.refl _ | with_reducible assumption | with_reducible refine Within.alloc ?_ _ | with_reducible refine Within.drew ?_ | with_reducible refine Within.setCell ?_ (by first | (simp; done) | (simp; omega)) _ | with_reducible refine Within.trans ?_ (by assumption))))).mono ?_; rintro e1 w1 ⟨rfl, rfl⟩
  go_wp2_with fail
  refine wp_region_within (by kernel_rfl) (by kernel_rfl) ?_
  repeat
    apply wpq_step rfl
    · intro wq hCq
      have hcq := hCq.cells
      go_simp
      first | rfl | (trace_state; fail)
    simp only [Act.put, List.setIfInBounds_toArray, List.set_cons_zero, List.set_cons_succ]
  refine wpQuiet_nil ?_
  intro w1 hb1
  have hc1 := hb1.cells; have hz1 : w.heap.size + 1 < w1.heap.size := (by have := hb1.sizes; simp at this; omega); have hy1 : w.heap.size < w1.heap.size := (by omega)
  go_wp2_with fail
  refine (LN.out _).mono ?_; rintro e2 w2 ⟨rfl, rfl⟩
  go_wp2_with fail
  refine (hidden_D _).mono ?_; rintro e2 w2 ⟨rfl, hb2⟩
  have hc2 := hb2.cells; have hz2 : w.heap.size + 1 < w2.heap.size := (by have := hb2.sizes; omega); have hy2 : w.heap.size < w2.heap.size := (by omega)
  go_wp2_with fail
  refine (join_D neg 0 m (by decide) (by decide) (by have := HMM.out; omega) _).mono ?_; rintro e3 w3 ⟨rfl, hb3⟩
  go_wp2
  go_ret2
  exact ⟨rfl, (by repeat (first | with_reducible exact Within.refl _ | with_reducible assumption | with_reducible refine Within.alloc ?_ _ | with_reducible refine Within.drew ?_ | with_reducible refine Within.setCell ?_ (by first | (simp; done) | (simp; omega)) _ | with_reducible refine Within.trans ?_ (by assumption)))⟩
set_option maxRecDepth 100000 in
set_option maxHeartbeats 600000 in
theorem madeOver_D (neg : Bool) (mant k q D m : Nat) (e : Int) (hb : mant < 18446744073709551616) (t1 : ((mant : Int) == 0) = false) (h1 : e ≤ 2150) (h2 : -2150 ≤ e) (K : Hid (k < 64)) (KE : Hid (Lib.ctz 64 mant = k)) (Q : Hid (q = mant / 2 ^ k)) (HQ : Hid (q < 18446744073709551616)) (hD : min ((53 : Int) - Lib.bitLen q) (e + k + 1074) = D) (hL : (Lib.bitLen q : Int) ≤ 53) (he : -1074 ≤ e + k) (HD : Hid (D < 64)) (MQ : Hid (m = q * 2 ^ D)) (HM : Hid (m < 18446744073709551616)) (hm : (4503599627370496 : Int) ≤ m) (h4 : 2047 ≤ e + k - D + 1075) (w : World) (hT : Tab w) : Calls Tryd.prog 65 #[.agg #[.bool neg, .int .u64 mant, .int .i64 e], dbl] w fun e' w' => e' = .returned (.tuple #[.int .u64 (0), .int .i64 (10)]) ∧ Within w w' := by
  have d6 : True → decide ((m : Int) < 4503599627370496) = false := fun _ => decide_eq_false (by omega)
  have HMM := Lib.hid (show 4503599627370496 ≤ m by omega); clear hm
  have HB := Lib.hid hb; clear hb
  have TZ := Lib.hid (fun w => bits_tz64 mant HB.out w)
  have hq : (mant : Int) / 2 ^ k = (q : Int) := by rw [Q.out]; simp
  have hsh := shr_u64 mant k K.out
  rw [← Q.out] at hsh
  have hk : (k : Int) < 64 := by have := K.out; omega
  have ew : IntKind.i64.wrap (e + k) = e + k := by rw [IntKind.wrap_i64]; omega
  have LN := Lib.hid (fun w => bits_len64 q HQ.out w)
  have hshl := shl_u64 q D HD.out (by rw [← MQ.out]; exact HM.out)
  rw [← MQ.out] at hshl
  have hm2 : IntKind.u64.wrap ((q : Int) * 2 ^ D) = m := by rw [show (q : Int) * 2 ^ D = (m : Int) by rw [MQ.out]; simp, IntKind.wrap_u64]; have := HM.out; omega
  generalize Lib.bitLen q = L at *
  rw [KE.out] at TZ
  go_enter Tryd.func65, Tryd.ntmps65
  go_wp2_with fail
  refine (TZ.out _ (hT.of (by repeat (first | with_reducible exact Within.refl _ | with_reducible assumption | with_reducible refine Within.alloc ?_ _ | with_reducible refine Within.drew ?_ | with_reducible refine Within.setCell ?_ (by first | (simp; done) | (simp; omega)) _ | with_reducible refine Within.trans ?_ (by assumption))))).mono ?_; rintro e1 w1 ⟨rfl, rfl⟩
  go_wp2_with fail
  refine wp_region_within (by kernel_rfl) (by kernel_rfl) ?_
  repeat
    apply wpq_step rfl
    · intro wq hCq
      have hcq := hCq.cells
      go_simp
      first | rfl | (trace_state; fail)
    simp only [Act.put, List.setIfInBounds_toArray, List.set_cons_zero, List.set_cons_succ]
  refine wpQuiet_nil ?_
  intro w1 hb1
  have hc1 := hb1.cells; have hz1 : w.heap.size + 1 < w1.heap.size := (by have := hb1.sizes; simp at this; omega); have hy1 : w.heap.size < w1.heap.size := (by omega)
  go_wp2_with fail
  refine (LN.out _).mono ?_; rintro e2 w2 ⟨rfl, rfl⟩
  go_wp2_with fail
  refine (hidden_D _).mono ?_; rintro e2 w2 ⟨rfl, hb2⟩
  have hc2 := hb2.cells; have hz2 : w.heap.size + 1 < w2.heap.size := (by have := hb2.sizes; omega); have hy2 : w.heap.size < w2.heap.size := (by omega)
  go_wp2
  go_ret2
  exact ⟨rfl, (by repeat (first | with_reducible exact Within.refl _ | with_reducible assumption | with_reducible refine Within.alloc ?_ _ | with_reducible refine Within.drew ?_ | with_reducible refine Within.setCell ?_ (by first | (simp; done) | (simp; omega)) _ | with_reducible refine Within.trans ?_ (by assumption)))⟩
set_option maxRecDepth 100000 in
set_option maxHeartbeats 600000 in
theorem madeNorm_D (neg : Bool) (mant k q D m : Nat) (e : Int) (hb : mant < 18446744073709551616) (t1 : ((mant : Int) == 0) = false) (h1 : e ≤ 2150) (h2 : -2150 ≤ e) (K : Hid (k < 64)) (KE : Hid (Lib.ctz 64 mant = k)) (Q : Hid (q = mant / 2 ^ k)) (HQ : Hid (q < 18446744073709551616)) (hD : min ((53 : Int) - Lib.bitLen q) (e + k + 1074) = D) (hL : (Lib.bitLen q : Int) ≤ 53) (he : -1074 ≤ e + k) (HD : Hid (D < 64)) (MQ : Hid (m = q * 2 ^ D)) (HM : Hid (m < 18446744073709551616)) (hm : (4503599627370496 : Int) ≤ m) (hm2 : m < 2 * 4503599627370496) (h4 : e + k - D + 1075 < 2047) (w : World) (hT : Tab w) : Calls Tryd.prog 65 #[.agg #[.bool neg, .int .u64 mant, .int .i64 e], dbl] w fun e' w' => e' = .returned (.tuple #[.int .u64 (joinD neg (e + k - D + 1075) (m - 4503599627370496)), .int .i64 (joinED (e + k - D + 1075) (m - 4503599627370496))]) ∧ Within w w' := by
  have d6 : True → decide ((m : Int) < 4503599627370496) = false := fun _ => decide_eq_false (by omega)
  have HMM := Lib.hid (show 4503599627370496 ≤ m by omega)
  have HM2 := Lib.hid hm2
  have ewm : IntKind.u64.wrap ((m : Int) - 4503599627370496) = ((m - 4503599627370496 : Nat) : Int) := by rw [IntKind.wrap_u64]; omega
  clear hm hm2
  have HB := Lib.hid hb; clear hb
  have TZ := Lib.hid (fun w => bits_tz64 mant HB.out w)
  have hq : (mant : Int) / 2 ^ k = (q : Int) := by rw [Q.out]; simp
  have hsh := shr_u64 mant k K.out
  rw [← Q.out] at hsh
  have hk : (k : Int) < 64 := by have := K.out; omega
  have ew : IntKind.i64.wrap (e + k) = e + k := by rw [IntKind.wrap_i64]; omega
  have LN := Lib.hid (fun w => bits_len64 q HQ.out w)
  have hshl := shl_u64 q D HD.out (by rw [← MQ.out]; exact HM.out)
  rw [← MQ.out] at hshl
  have hm3 : IntKind.u64.wrap ((q : Int) * 2 ^ D) = m := by rw [show (q : Int) * 2 ^ D = (m : Int) by rw [MQ.out]; simp, IntKind.wrap_u64]; have := HM.out; omega
  generalize Lib.bitLen q = L at *
  rw [KE.out] at TZ
  go_enter Tryd.func65, Tryd.ntmps65
  go_wp2_with fail
  refine (TZ.out _ (hT.of (by repeat (first | with_reducible exact Within.refl _ | with_reducible assumption | with_reducible refine Within.alloc ?_ _ | with_reducible refine Within.drew ?_ | with_reducible refine Within.setCell ?_ (by first | (simp; done) | (simp; omega)) _ | with_reducible refine Within.trans ?_ (by assumption))))).mono ?_; rintro e1 w1 ⟨rfl, rfl⟩
  go_wp2_with fail
  refine wp_region_within (by kernel_rfl) (by kernel_rfl) ?_
  repeat
    apply wpq_step rfl
    · intro wq hCq
      have hcq := hCq.cells
      go_simp
      first | rfl | (trace_state; fail)
    simp only [Act.put, List.setIfInBounds_toArray, List.set_cons_zero, List.set_cons_succ]
  refine wpQuiet_nil ?_
  intro w1 hb1
  have hc1 := hb1.cells; have hz1 : w.heap.size + 1 < w1.heap.size := (by have := hb1.sizes; simp at this; omega); have hy1 : w.heap.size < w1.heap.size := (by omega)
  go_wp2_with fail
  refine (LN.out _).mono ?_; rintro e2 w2 ⟨rfl, rfl⟩
  go_wp2_with fail
  refine (hidden_D _).mono ?_; rintro e2 w2 ⟨rfl, hb2⟩
  have hc2 := hb2.cells; have hz2 : w.heap.size + 1 < w2.heap.size := (by have := hb2.sizes; omega); have hy2 : w.heap.size < w2.heap.size := (by omega)
  go_wp2_with fail
  refine wp_region_within (by kernel_rfl) (by kernel_rfl) ?_
  repeat
    apply wpq_step rfl
    · intro wq hCq
      have hcq := hCq.cells
      go_simp
      first | rfl | exact hCq.call (hidden_D _) | exact hCq.call (join_D neg _ _ (by omega) (by omega) (by have := HM2.out; omega) _) | (trace_state; fail)
    simp only [Act.put, List.setIfInBounds_toArray, List.set_cons_zero, List.set_cons_succ]
  refine wpQuiet_nil ?_
  intro w3 hb3
  go_wp2
  go_ret2
  exact ⟨rfl, (by repeat (first | with_reducible exact Within.refl _ | with_reducible assumption | with_reducible refine Within.alloc ?_ _ | with_reducible refine Within.drew ?_ | with_reducible refine Within.setCell ?_ (by first | (simp; done) | (simp; omega)) _ | with_reducible refine Within.trans ?_ (by assumption)))⟩
theorem lt_bitLen (x : Nat) (hx : x < 18446744073709551616) : x < 2 ^ Lib.bitLen x := by
  by_cases h : x = 0
  · subst h; decide
  · rw [bitLen_log2 x h hx]; exact Nat.lt_log2_self
theorem oddM_lt (x : Nat) (hx : x < 18446744073709551616) : oddM x < 18446744073709551616 := by
  unfold oddM
  exact Nat.lt_of_le_of_lt (Nat.div_le_self _ _) hx
theorem topD_lt (mant : Nat) (e : Int) (hm : mant < 18446744073709551616) (h : badD mant e = false) : topD mant e < 2 * 4503599627370496 := by
  have hb := lt_bitLen (oddM mant) (oddM_lt mant hm)
  have hl : Lib.bitLen (oddM mant) ≤ 53 := by unfold badD at h; simp at h; omega
  have hd : downD mant e ≤ 53 - Lib.bitLen (oddM mant) := by unfold downD; omega
  unfold topD
  have h1 : oddM mant * 2 ^ downD mant e ≤ oddM mant * 2 ^ (53 - Lib.bitLen (oddM mant)) := Nat.mul_le_mul_left _ (Nat.pow_le_pow_right (by decide) hd)
  have h2 : oddM mant * 2 ^ (53 - Lib.bitLen (oddM mant)) < 2 ^ Lib.bitLen (oddM mant) * 2 ^ (53 - Lib.bitLen (oddM mant)) := (Nat.mul_lt_mul_right (Nat.two_pow_pos _)).2 hb
  have h3 : 2 ^ Lib.bitLen (oddM mant) * 2 ^ (53 - Lib.bitLen (oddM mant)) = 2 ^ 53 := by rw [← Nat.pow_add]; congr 1; omega
  have h4 : (2 : Nat) ^ 53 = 2 * 4503599627370496 := rfl
  omega
theorem made_D (neg : Bool) (mant : Nat) (e : Int) (hb : mant < 18446744073709551616) (w : World) (hT : Tab w) :
    Calls Tryd.prog 65 #[.agg #[.bool neg, .int .u64 mant, .int .i64 e], dbl] w fun e' w' => e' = .returned (.tuple #[.int .u64 (madeD neg mant e), .int .i64 (madeED mant e)]) ∧ Within w w' := by
  by_cases h0 : mant = 0
  · subst h0
    have := madeZero_D neg e w
    simpa [madeD, madeED] using this
  have t1 : ((mant : Int) == 0) = false := beq_eq_false_iff_ne.2 (by omega)
  by_cases h1 : 2150 < e ∨ e < -2150
  · have hbad : badD mant e = true := by unfold badD; simp; omega
    have hv : (madeD neg mant e : Int) = 0 ∧ madeED mant e = 10 := by unfold madeD madeED; rw [if_neg h0, if_neg h0, if_pos hbad, if_pos hbad]; exact ⟨rfl, rfl⟩
    rw [hv.1, hv.2]
    exact madeFar_D neg mant e t1 h1 w
  obtain ⟨_, hz, hk⟩ := ctz_split mant h0 hb
  clear hz
  have hq := oddM_lt mant hb
  by_cases h3 : (53 : Nat) < Lib.bitLen (oddM mant) ∨ e + Lib.ctz 64 mant < -1074
  · have hbad : badD mant e = true := by unfold badD oddE; simp; omega
    have hv : (madeD neg mant e : Int) = 0 ∧ madeED mant e = 10 := by unfold madeD madeED; rw [if_neg h0, if_neg h0, if_pos hbad, if_pos hbad]; exact ⟨rfl, rfl⟩
    rw [hv.1, hv.2]
    exact madeBad_D neg mant (Lib.ctz 64 mant) (oddM mant) e hb t1 (by omega) (by omega) (Lib.hid hk) (Lib.hid rfl) (Lib.hid rfl) (Lib.hid hq) h3 w hT
  have hbad : badD mant e = false := by unfold badD oddE; simp; omega
  have htop := topD_lt mant e hb hbad
  have hnb : ¬ (badD mant e = true) := by simp [hbad]
  have hl : Lib.bitLen (oddM mant) ≤ 53 := by omega
  have hD : min ((53 : Int) - Lib.bitLen (oddM mant)) (e + Lib.ctz 64 mant + 1074) = downD mant e := by unfold downD oddE; omega
  have hD2 : downD mant e < 64 := by unfold downD; omega
  by_cases h4 : topD mant e < 4503599627370496
  · have hf : fieldD mant e = 0 := by unfold fieldD; rw [if_pos h4]
    have hv : madeD neg mant e = joinD neg 0 (topD mant e) ∧ madeED mant e = joinED 0 (topD mant e) := by
      unfold madeD madeED; rw [if_neg h0, if_neg h0, if_neg hnb, if_neg hnb, hf, if_neg (by decide), if_neg (by decide), Nat.mod_eq_of_lt h4]; exact ⟨rfl, rfl⟩
    rw [hv.1, hv.2]
    exact madeLow_D neg mant (Lib.ctz 64 mant) (oddM mant) (downD mant e) (topD mant e) e hb t1 (by omega) (by omega) (Lib.hid hk) (Lib.hid rfl) (Lib.hid rfl) (Lib.hid hq) hD (by omega) (by omega) (Lib.hid hD2) (Lib.hid rfl) (Lib.hid (by omega)) (by omega) w hT
  have hf : fieldD mant e = e + Lib.ctz 64 mant - downD mant e + 1075 := by unfold fieldD oddE; rw [if_neg h4]
  by_cases h5 : 2047 ≤ fieldD mant e
  · have hv : (madeD neg mant e : Int) = 0 ∧ madeED mant e = 10 := by
      unfold madeD madeED; rw [if_neg h0, if_neg h0, if_neg hnb, if_neg hnb, if_pos h5, if_pos h5]; exact ⟨rfl, rfl⟩
    rw [hv.1, hv.2]
    exact madeOver_D neg mant (Lib.ctz 64 mant) (oddM mant) (downD mant e) (topD mant e) e hb t1 (by omega) (by omega) (Lib.hid hk) (Lib.hid rfl) (Lib.hid rfl) (Lib.hid hq) hD (by omega) (by omega) (Lib.hid hD2) (Lib.hid rfl) (Lib.hid (by omega)) (by omega) (by omega) w hT
  · have hmod : topD mant e % 4503599627370496 = topD mant e - 4503599627370496 := by omega
    have hv : madeD neg mant e = joinD neg (e + Lib.ctz 64 mant - downD mant e + 1075) (topD mant e - 4503599627370496) ∧ madeED mant e = joinED (e + Lib.ctz 64 mant - downD mant e + 1075) (topD mant e - 4503599627370496) := by
      unfold madeD madeED; rw [if_neg h0, if_neg h0, if_neg hnb, if_neg hnb, if_neg h5, if_neg h5, hmod, hf]; exact ⟨rfl, rfl⟩
    rw [hv.1, hv.2]
    exact madeNorm_D neg mant (Lib.ctz 64 mant) (oddM mant) (downD mant e) (topD mant e) e hb t1 (by omega) (by omega) (Lib.hid hk) (Lib.hid rfl) (Lib.hid rfl) (Lib.hid hq) hD (by omega) (by omega) (Lib.hid hD2) (Lib.hid rfl) (Lib.hid (by omega)) (by omega) htop (by omega) w hT
set_option maxRecDepth 100000 in
set_option maxHeartbeats 600000 in
theorem Class_D (a : Nat) (ha : a < 18446744073709551616) (w : World) : Calls Tryd.prog 35 #[.float .f64 a] w fun e w' => e = .returned (.int .i64 (classD a)) ∧ Within w w' := by
  have HA := Lib.hid ha; clear ha
  go_enter Tryd.func35, Tryd.ntmps35
  go_wp2_with fail
  refine (of_D _).mono ?_; rintro e1 w1 ⟨rfl, hb1⟩
  go_wp2_with fail
  refine (class_D a HA.out _).mono ?_; rintro e2 w2 ⟨rfl, hb2⟩
  go_wp2
  go_ret
  exact ⟨rfl, (by repeat (first | with_reducible exact Within.refl _ | with_reducible assumption | with_reducible refine Within.alloc ?_ _ | with_reducible refine Within.drew ?_ | with_reducible refine Within.setCell ?_ (by first | (simp; done) | (simp; omega)) _ | with_reducible refine Within.trans ?_ (by assumption)))⟩
set_option maxRecDepth 100000 in
set_option maxHeartbeats 600000 in
theorem number_D (b : Nat) (e : Int) (w : World) : Calls Tryd.prog 64 #[.int .u64 b, .int .i64 e] w fun e' w' => e' = .returned (.tuple #[.float .f64 b, .int .i64 e]) ∧ Within w w' := by
  go_enter Tryd.func64, Tryd.ntmps64
  go_wp2
  go_ret2
  exact ⟨rfl, (by repeat (first | with_reducible exact Within.refl _ | with_reducible assumption | with_reducible refine Within.alloc ?_ _ | with_reducible refine Within.drew ?_ | with_reducible refine Within.setCell ?_ (by first | (simp; done) | (simp; omega)) _ | with_reducible refine Within.trans ?_ (by assumption)))⟩
set_option maxRecDepth 100000 in
set_option maxHeartbeats 600000 in
theorem Parts_D (a : Nat) (ha : a < 18446744073709551616) (w : World) (hT : Tab w) : Calls Tryd.prog 39 #[.float .f64 a] w fun e w' => e = .returned (.tuple #[.agg #[.bool (pNegD a), .int .u64 (pMantD a), .int .i64 (pExpD a)], .int .i64 (pErrD a)]) ∧ Within w w' := by
  have HA := Lib.hid ha; clear ha
  go_enter Tryd.func39, Tryd.ntmps39
  go_wp2_with fail
  refine (of_D _).mono ?_; rintro e1 w1 ⟨rfl, hb1⟩
  go_wp2_with fail
  refine (parts_D a HA.out _ (hT.of (by repeat (first | with_reducible exact Within.refl _ | with_reducible assumption | with_reducible refine Within.alloc ?_ _ | with_reducible refine Within.drew ?_ | with_reducible refine Within.setCell ?_ (by first | (simp; done) | (simp; omega)) _ | with_reducible refine Within.trans ?_ (by assumption))))).mono ?_; rintro e2 w2 ⟨rfl, hb2⟩
  have hf1 := hb1.frozens; have hc1 := hb1.cells; have hf2 := hb2.frozens; have hc2 := hb2.cells
  have hz1 : w.heap.size < w1.heap.size := (by have := hb1.sizes; simp at this; omega)
  have hz2 : w.heap.size < w2.heap.size := (by have := hb2.sizes; omega)
  go_wp2
  refine bodyPost_ret (v := .tuple #[.agg #[.bool (pNegD a), .int .u64 (pMantD a), .int .i64 (pExpD a)], .int .i64 (pErrD a)]) (by simp [results, Tryd.results39, go_sem, hc1, hc2, hz1]) rfl ⟨rfl, ?_⟩
  exact (by repeat (first | with_reducible exact Within.refl _ | with_reducible assumption | with_reducible refine Within.alloc ?_ _ | with_reducible refine Within.drew ?_ | with_reducible refine Within.setCell ?_ (by first | (simp; done) | (simp; omega)) _ | with_reducible refine Within.trans ?_ (by assumption)))
set_option maxRecDepth 100000 in
set_option maxHeartbeats 600000 in
theorem Of_D (neg : Bool) (mant : Nat) (e : Int) (hm : mant < 18446744073709551616) (w : World) (hT : Tab w) : Calls Tryd.prog 51 #[.agg #[.bool neg, .int .u64 mant, .int .i64 e]] w fun e' w' => e' = .returned (.tuple #[.float .f64 (madeD neg mant e), .int .i64 (madeED mant e)]) ∧ Within w w' := by
  have HA := Lib.hid hm; clear hm
  go_enter Tryd.func51, Tryd.ntmps51
  go_wp2
  refine wp_region_within (by kernel_rfl) (by kernel_rfl) ?_
  repeat
    apply wpq_step rfl
    · intro wq hCq
      have hcq := hCq.cells
      go_simp
      first | rfl | exact hCq.call (of_D _) | exact hCq.call (made_D neg mant e HA.out _ (hT.of (((Within.refl _).alloc _).trans hCq))) | exact hCq.call (number_D _ _ _) | (trace_state; fail)
    simp only [Act.put, List.setIfInBounds_toArray, List.set_cons_zero, List.set_cons_succ]
  refine wpQuiet_nil ?_
  intro w1 hC1
  go_wp2
  go_ret2
  exact ⟨rfl, (by repeat (first | with_reducible exact Within.refl _ | with_reducible assumption | with_reducible refine Within.alloc ?_ _ | with_reducible refine Within.drew ?_ | with_reducible refine Within.setCell ?_ (by first | (simp; done) | (simp; omega)) _ | with_reducible refine Within.trans ?_ (by assumption)))⟩
end Go.Proofs.YtjmaggfddinbkaaDoor
end

section
namespace Go.Proofs.YtjmaggfddinbkaaDoor
open Go.RowKit
theorem ne_self64 (a : Nat) : (FloatKind.f64.format.order a a != some .eq) = nanD a := by
  have := Fp.order64_self a
  show (!(Ieee.double.order a a == some .eq)) = _
  rw [this, Bool.not_not]; rfl
theorem canonD_nan {a : Nat} (h : nanD a = true) : canonD a = 9221120237041090561 := if_pos h
theorem canonD_id {a : Nat} (h : nanD a = false) : canonD a = a := by unfold canonD; rw [if_neg (by simp [h])]
theorem odd_split {x : Nat} (h : x ≠ 0) (hx : x < 18446744073709551616) : ∃ m, oddM x = 2 * m + 1 ∧ x = 2 ^ Lib.ctz 64 x * (2 * m + 1) ∧ Lib.ctz 64 x < 64 := by
  obtain ⟨m, h1, h2⟩ := ctz_split x h hx
  refine ⟨m, ?_, h1, h2⟩
  unfold oddM
  have hp := Nat.two_pow_pos (Lib.ctz 64 x)
  generalize Lib.ctz 64 x = k at *
  rw [h1, Nat.mul_div_cancel_left _ hp]
set_option maxRecDepth 100000 in
set_option maxHeartbeats 600000 in
theorem Rbits_D (a : Nat) (w : World) : Calls Tryd.prog 49 #[.float .f64 a] w fun e w' => e = .returned (.int .u64 (canonD a)) ∧ w = w' := by
  cases hn : nanD a
  · rw [canonD_id hn]
    have hx : (FloatKind.f64.format.order a a != some .eq) = false := by rw [ne_self64]; exact hn
    clear hn
    go_enter Tryd.func49, Tryd.ntmps49
    go_wp2
    go_ret
    exact ⟨rfl, rfl⟩
  · rw [canonD_nan hn]
    have hx : (FloatKind.f64.format.order a a != some .eq) = true := by rw [ne_self64]; exact hn
    clear hn
    go_enter Tryd.func49, Tryd.ntmps49
    go_wp2
    go_ret
    exact ⟨rfl, rfl⟩
@[go_sem] theorem run_neg64 (P : Program) (a : Nat) (w : World) : Sem.run P (Op.unary UnOp.neg (Value.float .f64 a)) w = .ok (.float .f64 (Go.Op.negFloat .f64 a)) w := rfl
@[go_sem] theorem run_neg32 (P : Program) (a : Nat) (w : World) : Sem.run P (Op.unary UnOp.neg (Value.float .f32 a)) w = .ok (.float .f32 (Go.Op.negFloat .f32 a)) w := rfl
end Go.Proofs.YtjmaggfddinbkaaDoor
end

section
namespace Go.Proofs.YtjmaggfddinbkaaDoor
open Go.RowKit
def u64v (l : List Nat) : List Value := l.map fun (x : Nat) => .int .u64 (x : Int)
def f64v (l : List Nat) : List Value := l.map fun (x : Nat) => .float .f64 x
theorem f64v_len (l : List Nat) : (f64v l).length = l.length := List.length_map ..
theorem add_block (a : Addr) (n : Nat) : (a.add n).block = a.block := by unfold Addr.add; split <;> rfl
theorem add_add (a : Addr) (i j : Nat) : (a.add i).add j = a.add (i + j) := by
  unfold Addr.add
  by_cases hi : i = 0 <;> by_cases hj : j = 0 <;> simp [hi, hj, Nat.add_assoc]
theorem add_nought (a : Addr) : a.add 0 = a := by unfold Addr.add; rw [if_pos rfl]
def SlAt (w : World) (A : Option Addr) (xs : List Value) : Prop := 0 < xs.length → ∃ ad, A = some ad ∧ ad.block < w.heap.size ∧ ∀ (j : Nat) u, xs[j]? = some u → w.cell? (ad.add j) = some u
theorem SlAt.nil {w : World} {A : Option Addr} : SlAt w A [] := fun h => absurd h (by simp)
theorem SlAt.of {w w' : World} {A : Option Addr} {xs : List Value} (h : SlAt w A xs) (k : Within w w') : SlAt w' A xs := fun hn => by
  obtain ⟨ad, e, hb, hc⟩ := h hn
  exact ⟨ad, e, Nat.lt_of_lt_of_le hb k.size, fun j u hu => (k.cell (by rw [add_block]; exact hb)).trans (hc j u hu)⟩
theorem SlAt.below {w w' : World} {A : Option Addr} {xs : List Value} {B : Nat} (h : SlAt w A xs) (hA : ∀ ad, A = some ad → ad.block < B) (k : Below B w w') : SlAt w' A xs := fun hn => by
  obtain ⟨ad, e, hb, hc⟩ := h hn
  exact ⟨ad, e, Nat.lt_of_lt_of_le hb k.size, fun j u hu => (k.cell (by rw [add_block]; exact hA ad e)).trans (hc j u hu)⟩
theorem SlAt.at {w : World} {A : Option Addr} {l : List Nat} {v : Nat → Value} (h : SlAt w A (l.map v)) {k : Nat} (hk : k < l.length) : ∃ ad, A = some ad ∧ ad.block < w.heap.size ∧ w.cell? (ad.add k) = some (v (l.getD k 0)) := by
  obtain ⟨ad, e, hb, hc⟩ := h (by rw [List.length_map]; omega)
  refine ⟨ad, e, hb, hc k _ ?_⟩
  rw [List.getElem?_map, List.getElem?_eq_getElem hk, Option.map_some]
  simp [List.getD, List.getElem?_eq_getElem hk]
theorem SlAt.take {w : World} {A : Option Addr} {xs : List Value} (h : SlAt w A xs) (k : Nat) : SlAt w A (xs.take k) := fun hn => by
  obtain ⟨ad, e, hb, hc⟩ := h (Nat.lt_of_lt_of_le hn (List.length_take_le' _ _))
  refine ⟨ad, e, hb, fun j u hu => hc j u ?_⟩
  rw [List.getElem?_take] at hu
  split at hu
  · exact hu
  · cases hu
theorem SlAt.drop {w : World} {ad : Addr} {xs : List Value} (h : SlAt w (some ad) xs) (k : Nat) : SlAt w (some (ad.add k)) (xs.drop k) := fun hn => by
  obtain ⟨ad', e, hb, hc⟩ := h (by rw [List.length_drop] at hn; omega)
  obtain rfl := Option.some.inj e
  refine ⟨_, rfl, by rw [add_block]; exact hb, fun j u hu => ?_⟩
  rw [add_add]
  exact hc _ u (by rw [← hu, List.getElem?_drop])
theorem f64v_one (l : List Nat) : ∀ u ∈ f64v l, u.oneCell' = true := fun u hu => by
  obtain ⟨x, _, rfl⟩ := List.mem_map.1 hu; rfl
theorem owns_form {w : World} {base : Nat} {E : TypeId} {v : Value} {n : Nat} {xs : List Value} (h : w.ownsRow base E 1 v n xs) : ∃ A c, v = .slice A n c ∧ n ≤ c ∧ SlAt w A xs ∧ (∀ ad, A = some ad → base ≤ ad.block) := by
  have hlen : xs.length = n := by have := h.1; simpa using this
  rcases h.2 with ⟨rfl, h0⟩ | ⟨g, cap, cur, rfl, hg, hb, hc, _, hsz, htk⟩
  · exact ⟨none, 0, by rw [h0], by omega, fun hn => by omega, fun ad e => by cases e⟩
  · refine ⟨_, _, rfl, hc, fun hn => ?_, fun ad e => by injection e with e; subst e; exact hg⟩
    obtain ⟨hlt, _⟩ := Array.getElem?_eq_some_iff.1 hb
    exact ⟨_, rfl, hlt, h.cells (g := g) rfl⟩
theorem run_app_nil {P : Program} (w : World) (base : Nat) (t ty e : TypeId) (i : TypeInfo) (ht : P.underlying t = some (.slice e)) (hi : P.info? e = some i)
    (v : Value) (n : Nat) (xs : List Value) (hown : w.ownsRow base e 1 v n xs) (c : Nat) : (Builtin.append_ #[t, t] ty #[v, .slice none 0 c]).run P w = .ok v w := by
  rcases hown.2 with ⟨rfl, rfl⟩ | ⟨g, cap, cur, rfl, _, _, hnc, _⟩
  · simp [Builtin.append_, run_underlying ht, sizeOf, typeInfo, hi, Builtin.lenOf, Builtin.firstCells]
  · simp [Builtin.append_, run_underlying ht, sizeOf, typeInfo, hi, Builtin.lenOf, Builtin.firstCells, hnc, storeCells]
theorem run_app {P : Program} (w : World) (base : Nat) (t ty e : TypeId) (i : TypeInfo) (z : Value) (bytes : Nat) (ht : P.underlying t = some (.slice e)) (hi : P.info? e = some i) (hz : i.zero = some z)
    (hsize : i.size = 1) (hby : i.bytes = bytes) (hzs : z.cells.size = 1) (v : Value) (n : Nat) (xs : List Value) (hown : w.ownsRow base e 1 v n xs)
    (A : Option Addr) (c : Nat) (news : List Value) (hr : SlAt w A news) (h1 : ∀ u ∈ news, u.oneCell' = true) (h63 : n + news.length ≤ maxLen) (hbytes : (n + news.length) * bytes ≤ 140737488355328) (hbase : base ≤ w.heap.size) :
    ∃ v' w', (Builtin.append_ #[t, t] ty #[v, .slice A news.length c]).run P w = .ok v' w' ∧ w'.ownsRow base e 1 v' (n + news.length) (xs ++ news) ∧ w.grownBy w' v.ownBlock ∧ (v'.ownBlock = v.ownBlock ∨ v'.ownBlock = some w.heap.size) := by
  rcases A with _ | ad
  · have hn : news = [] := by
      rcases Nat.eq_zero_or_pos news.length with h0 | h0
      · exact List.eq_nil_of_length_eq_zero h0
      · obtain ⟨ad, h, _⟩ := hr h0
        cases h
    subst hn
    exact ⟨v, w, run_app_nil w base t ty e i ht hi v n xs hown c, by simpa using hown, World.grownBy.refl w _, .inl rfl⟩
  · have hcells : ∀ j u, news[j]? = some u → w.cell? (ad.add j) = some u := by
      intro j u hu
      have h0 : 0 < news.length := by
        rcases Nat.eq_zero_or_pos news.length with h0 | h0
        · rw [List.eq_nil_of_length_eq_zero h0] at hu; simp at hu
        · exact h0
      obtain ⟨ad', h, _, hc⟩ := hr h0
      injection h with h
      subst h
      exact hc j u hu
    obtain ⟨v', w', hrun, h2, h3, _, h5⟩ := run_append_own_at (P := P) w base t ty e i z 1 bytes ht hi hz hsize hby hzs (by decide) v n xs hown ad news.length c news (by simp) hcells h1 h63 hbytes hbase
    exact ⟨v', w', hrun, h2, h3, h5⟩
theorem grown_below {w w' : World} {base : Nat} {E : TypeId} {v : Value} {n : Nat} {xs : List Value} (h : w.ownsRow base E 1 v n xs) (hb : base ≤ w.heap.size) (k : w.grownBy w' v.ownBlock) : Below base w w' :=
  (Below.refl base w).grown k hb (fun j hj => (h.lt j hj).1)
theorem within_grown {w w' : World} (k : Within w w') : w.grownBy w' none := ⟨k.os, k.tape, k.output, k.size, fun i hi _ => k.block i hi⟩
theorem Tryd.infoF64 : (Tryd.prog.info? 27).map (fun i => (i.zero, i.size, i.bytes)) = some (some (.float .f64 0), 1, 8) := by kernel_rfl
def OwnF (w : World) (base : Nat) (v : Value) (l : List Nat) : Prop := w.ownsRow base 27 1 v l.length (f64v l)
theorem run_app_f64 (w : World) (base : Nat) (v : Value) (l m : List Nat) (hown : OwnF w base v l) (A : Option Addr) (c : Nat) (hr : SlAt w A (f64v m)) (hl : (l.length + m.length) * 8 ≤ 140737488355328) (hbase : base ≤ w.heap.size) :
    ∃ v' w', (Builtin.append_ #[32, 32] 32 #[v, .slice A m.length c]).run Tryd.prog w = .ok v' w' ∧ OwnF w' base v' (l ++ m) ∧ Below base w w' := by
  obtain ⟨i0, hi0, hz0, hz1, hz2⟩ := info_parts Tryd.infoF64
  obtain ⟨v', w', h1, h2, h3, _⟩ := run_app (P := Tryd.prog) w base 32 32 27 i0 (.float .f64 0) 8 (by kernel_rfl) hi0 hz0 hz1 hz2 rfl v l.length (f64v l) hown A c (f64v m) hr (f64v_one m) (by rw [f64v_len]; unfold maxLen; omega) (by rw [f64v_len]; omega) hbase
  rw [f64v_len] at h1 h2
  refine ⟨v', w', h1, ?_, grown_below hown hbase h3⟩
  unfold OwnF f64v
  rw [List.length_append, List.map_append]; exact h2
theorem OwnF.form {w : World} {base : Nat} {v : Value} {l : List Nat} (h : OwnF w base v l) : ∃ A c, v = .slice A l.length c ∧ l.length ≤ c ∧ SlAt w A (f64v l) ∧ (∀ ad, A = some ad → base ≤ ad.block) := owns_form h
theorem OwnF.of {w w' : World} {base : Nat} {v : Value} {l : List Nat} (h : OwnF w base v l) (k : Within w w') : OwnF w' base v l := h.kept (within_grown k) (by cases hv : v.ownBlock <;> simp)
theorem OwnF.nil_ (w : World) (base : Nat) : OwnF w base (.slice none 0 0) [] := World.ownsRow_nil _ _ _ _
theorem wpList_append_run {P : Program} {w : World} {ops : Array Oper} {rest : List Oper} {o : Oper} {a : Act} {Q : Exit → Act → World → Prop} (hgd : o.guard = none) (s x : Operand) (t : TypeId)
    (ho : o.op = .call { callee := .builtin .append, args := #[s, x], argTypes := #[t, t] }) (vs vx : Value) (hs : a.eval s = vs) (hx : a.eval x = vx) {v' : Value} {w' : World}
    (hrun : (Builtin.append_ #[t, t] o.type #[vs, vx]).run P w = .ok v' w') (h : wpList P ops Q rest (a.put o.dst v') w') : wpList P ops Q (o :: rest) a w :=
  wpList_plain hgd fun K hK => by
    unfold Oper.wp execOp
    simp only [ho, resolve, invoke, builtin, Sem.run_bind, Sem.run_pure, Result.andThen_ok, List.map_toArray, List.map_cons, List.map_nil, hs, hx, hrun]
    exact hK _ _ h
theorem SlAt.one (w : World) (u : Value) (E : TypeId) : SlAt (w.alloc (.cells #[u] E)) (some ⟨w.heap.size, 0, none⟩) [u] := fun _ => by
  refine ⟨_, rfl, by simp, fun j v hv => ?_⟩
  cases j with
  | zero =>
    simp at hv
    subst hv
    rw [add_nought, World.cell?_alloc_at _ _ _ _ rfl]; rfl
  | succ j => simp at hv
theorem run_app_float (w : World) (base : Nat) (v : Value) (l : List Nat) (x : Nat) (hown : OwnF w base v l) (hl : (l.length + 1) * 8 ≤ 140737488355328) (hbase : base ≤ w.heap.size) :
    ∃ v' w', (Builtin.append_ #[32, 32] 32 #[v, .slice (some ⟨w.heap.size, 0, none⟩) 1 1]).run Tryd.prog (w.alloc (.cells #[.float .f64 x] 27)) = .ok v' w' ∧ OwnF w' base v' (l ++ [x]) ∧ Below base w w' := by
  obtain ⟨v', w', h1, h2, h3⟩ := run_app_f64 (w.alloc (.cells #[.float .f64 x] 27)) base v l [x] (hown.of ((Within.refl w).alloc _)) (some ⟨w.heap.size, 0, none⟩) 1 (SlAt.one w _ _) hl (by simp; omega)
  exact ⟨v', w', h1, h2, ((Below.refl base w).alloc hbase _).trans h3⟩
theorem owns_less {w : World} {base base' : Nat} {E : TypeId} {v : Value} {n : Nat} {xs : List Value} (h : w.ownsRow base E 1 v n xs) (k : base' ≤ base) : w.ownsRow base' E 1 v n xs := by
  refine ⟨h.1, ?_⟩
  rcases h.2 with h2 | ⟨g, cap, cur, h1, hb, h3⟩
  · exact .inl h2
  · exact .inr ⟨g, cap, cur, h1, Nat.le_trans k hb, h3⟩
theorem OwnF.less {w : World} {base base' : Nat} {v : Value} {l : List Nat} (h : OwnF w base v l) (k : base' ≤ base) : OwnF w base' v l := owns_less h k
theorem OwnF.set {w : World} {base : Nat} {v : Value} {l : List Nat} (h : OwnF w base v l) {p : Addr} (hp : p.block < base) (u : Value) : OwnF (w.setCell p u) base v l := ownsRow_setCell_below h hp u
theorem classD_range (a : Nat) : 1 ≤ classD a ∧ classD a ≤ 5 := by
  unfold classD classOf; split <;> (try split) <;> (try split) <;> (try split) <;> omega
def finD (x : Nat) : Bool := decide (2 < classD x)
theorem take_snoc_getD {l : List Nat} {k : Nat} (h : k < l.length) : l.take (k + 1) = l.take k ++ [l.getD k 0] := by
  rw [List.take_add_one, List.getElem?_eq_getElem h]; simp [List.getD, List.getElem?_eq_getElem h]
def Words64 (l : List Nat) : Prop := ∀ x ∈ l, x < 18446744073709551616
theorem Words64.at {l : List Nat} (h : Words64 l) {k : Nat} (hk : k < l.length) : l.getD k 0 < 18446744073709551616 := by
  rw [List.getD, List.getElem?_eq_getElem hk]; exact h _ (List.getElem_mem hk)
theorem all_snoc {p : Nat → Bool} {l : List Nat} {k : Nat} (h : k < l.length) : (l.take (k + 1)).all p = ((l.take k).all p && p (l.getD k 0)) := by
  rw [take_snoc_getD h, List.all_append]; simp
theorem all_false {p : Nat → Bool} {l : List Nat} {k : Nat} (h : k < l.length) (hp : p (l.getD k 0) = false) : l.all p = false := by
  rw [List.all_eq_false]
  refine ⟨l.getD k 0, ?_, by rw [hp]; decide⟩
  rw [List.getD, List.getElem?_eq_getElem h]; exact List.getElem_mem h
theorem class_yes {x : Nat} (h : finD x = true) : ((classD x : Int) == 1) = false ∧ ((classD x : Int) == 2) = false := by
  have : 2 < classD x := of_decide_eq_true h
  exact ⟨beq_eq_false_iff_ne.2 (by omega), beq_eq_false_iff_ne.2 (by omega)⟩
theorem class_no {x : Nat} (h : finD x = false) : classD x = 1 ∨ classD x = 2 := by
  have h1 : ¬ 2 < classD x := of_decide_eq_false h
  have := classD_range x
  omega
set_option maxRecDepth 100000 in
set_option maxHeartbeats 600000 in
theorem Finite_any (A : Option Addr) (c : Nat) (l : List Nat) (hw : Words64 l) (hl : l.length ≤ 1152921504606846976) (w : World) (hr : SlAt w A (f64v l)) : Calls Tryd.prog 17 #[.slice A l.length c] w fun e w' => e = .returned (.bool (l.all finD)) ∧ Within w w' := by
  have HW := Lib.hid hw; have HR := Lib.hid hr; clear hw hr
  go_enter Tryd.func17, Tryd.ntmps17
  go_wp2
  go_loopw [8] (fun iv wr => ∃ k : Nat, k ≤ l.length ∧ iv = .int .i64 (k : Int) ∧ (l.take k).all finD = true ∧ Within w wr) (fun iv _ => l.length - (intOf iv).toNat)
  case atStart => exact ⟨0, Nat.zero_le _, rfl, rfl, Within.refl _⟩
  case round =>
    obtain ⟨k, hk, rfl, hall, hin⟩ := hrel
    have HA := Lib.hid hall; clear hall
    by_cases hlt : k < l.length
    · obtain ⟨ad, rfl, hblk, hc⟩ := (HR.out.of hin).at hlt
      obtain ⟨x, hx⟩ : ∃ x, x = l.getD k 0 := ⟨_, rfl⟩
      have hx2 : x < 18446744073709551616 := by rw [hx]; exact HW.out.at hlt
      rw [← hx] at hc
      have HX := Lib.hid hx; have HX2 := Lib.hid hx2; clear hx hx2
      by_cases hf : finD x = true
      · have hnext : (l.take (k + 1)).all finD = true := by rw [all_snoc hlt, HA.out, ← HX.out, hf]; rfl
        have HN := Lib.hid hnext; clear hnext
        obtain ⟨g1, g2⟩ := class_yes hf
        clear hf
        go_wp2_with fail
        refine (Class_D x HX2.out _).mono ?_; rintro e1 w1 ⟨rfl, hb1⟩
        go_wp2
        go_roundw
        case rel => exact ⟨k + 1, hlt, by go_num, HN.out, (by repeat (first | with_reducible exact Within.refl _ | with_reducible assumption | with_reducible refine Within.alloc ?_ _ | with_reducible refine Within.drew ?_ | with_reducible refine Within.setCell ?_ (by first | (simp; done) | (simp; omega)) _ | with_reducible refine Within.trans ?_ (by assumption)))⟩
        case measure => simp [intOf]; omega
      · have hno : l.all finD = false := all_false hlt (by rw [← HX.out]; simpa using hf)
        have HNO := Lib.hid hno; clear hno
        have hc1 := class_no (by simpa using hf : finD x = false)
        have CL := Lib.hid (fun w => Class_D x HX2.out w)
        generalize classD x = cx at *
        clear hf
        rcases hc1 with rfl | rfl
        · go_wp2_with fail
          refine (CL.out _).mono ?_; rintro e1 w1 ⟨rfl, hb1⟩
          go_wp2
          go_ret
          exact ⟨ret_bool HNO.out.symm, (by repeat (first | with_reducible exact Within.refl _ | with_reducible assumption | with_reducible refine Within.alloc ?_ _ | with_reducible refine Within.drew ?_ | with_reducible refine Within.setCell ?_ (by first | (simp; done) | (simp; omega)) _ | with_reducible refine Within.trans ?_ (by assumption)))⟩
        go_wp2_with fail
        refine (CL.out _).mono ?_; rintro e1 w1 ⟨rfl, hb1⟩
        go_wp2
        go_ret
        exact ⟨ret_bool HNO.out.symm, (by repeat (first | with_reducible exact Within.refl _ | with_reducible assumption | with_reducible refine Within.alloc ?_ _ | with_reducible refine Within.drew ?_ | with_reducible refine Within.setCell ?_ (by first | (simp; done) | (simp; omega)) _ | with_reducible refine Within.trans ?_ (by assumption)))⟩
    · obtain rfl : k = l.length := by omega
      go_wp2
      go_ret
      exact ⟨ret_bool (by rw [← HA.out, List.take_of_length_le (Nat.le_refl _)]), hin⟩
set_option maxRecDepth 100000 in
set_option maxHeartbeats 600000 in
theorem Rof64_any (A : Option Addr) (c : Nat) (l : List Nat) (hw : Words64 l) (hl : l.length * 8 ≤ 140737488355328) (w : World) (hr : SlAt w A (u64v l)) : Calls Tryd.prog 9 #[.slice A l.length c] w fun e w' => ∃ v, e = .returned v ∧ OwnF w' w.heap.size v l ∧ Within w w' := by
  have HW := Lib.hid hw; have HR := Lib.hid hr; have HL := Lib.hid hl; have hl2 : l.length ≤ 1152921504606846976 := by omega
  clear hw hr hl
  go_enter Tryd.func9, Tryd.ntmps9
  go_wp2
  go_loopw [3, 8] (fun xv iv wr => ∃ k : Nat, k ≤ l.length ∧ iv = .int .i64 (k : Int) ∧ OwnF wr w.heap.size xv (l.take k) ∧ Within w wr) (fun _ iv _ => l.length - (intOf iv).toNat)
  case atStart => exact ⟨0, Nat.zero_le _, rfl, OwnF.nil_ _ _, Within.refl _⟩
  case round =>
    obtain ⟨k, hk, rfl, hown, hin⟩ := hrel
    obtain ⟨L, hL⟩ : ∃ L, L = l.take k := ⟨_, rfl⟩
    have hLl : L.length = k := by rw [hL, List.length_take]; omega
    rw [← hL] at hown
    have hbr : w.heap.size ≤ wr.heap.size := hin.size
    by_cases hlt : k < l.length
    · obtain ⟨ad, rfl, hblk, hc⟩ := (HR.out.of hin).at hlt
      obtain ⟨x, hx⟩ : ∃ x, x = l.getD k 0 := ⟨_, rfl⟩
      have hx2 : x < 18446744073709551616 := by rw [hx]; exact HW.out.at hlt
      rw [← hx] at hc
      obtain ⟨A', c', rfl, _, _, _⟩ := hown.form
      obtain ⟨v', w', hrun, hown', hbl'⟩ := run_app_float wr w.heap.size _ _ x hown (by have := HL.out; omega) hbr
      have RUN := Lib.hid hrun
      have hnext : L ++ [x] = l.take (k + 1) := by rw [take_snoc_getD hlt, hL, hx]
      have HN := Lib.hid hnext; have HOW := Lib.hid hown'
      clear hrun hown hown' hnext hL hx
      generalize L.length = n at *
      go_wp2_with (at_builtin; refine wpList_append_run rfl (.tmp 12) (.tmp 15) 32 rfl _ _ rfl rfl RUN.out ?_)
      go_roundw
      case rel => exact ⟨k + 1, hlt, by go_num, HN.out ▸ HOW.out, Below.trans hin hbl'⟩
      case measure => simp [intOf]; omega
    · obtain rfl : k = l.length := by omega
      have HOW := Lib.hid hown; have HLE := Lib.hid hL; clear hL hown hLl
      go_wp2
      go_ret
      exact ⟨_, rfl, (by have := HLE.out; rw [List.take_of_length_le (Nat.le_refl _)] at this; exact this ▸ HOW.out), hin⟩
end Go.Proofs.YtjmaggfddinbkaaDoor
end

section
namespace Go.Proofs.YtjmaggfddinbkaaDoor.P64
open Go.RowKit
theorem ctz_top (n : Nat) (h : n < 18446744073709551616) : Lib.ctz 64 n ≤ 64 := by
  by_cases h0 : n = 0
  · subst h0; decide
  · obtain ⟨_, _, _, h1⟩ := odd_split h0 h
    omega
theorem pExpD_range (b : Nat) : -1074 ≤ pExpD b ∧ pExpD b ≤ 1100 := by
  unfold pExpD
  have h1 := expD_lt b
  have h2 := ctz_top (mantD b) (by have := mantD_lt b; omega)
  split
  · omega
  · unfold lowD; split <;> omega
theorem pMantD_lt (b : Nat) : pMantD b < 18446744073709551616 := by
  unfold pMantD
  have h := mantD_lt b
  split
  · decide
  · exact Nat.lt_of_le_of_lt (Nat.div_le_self _ _) (by omega)
def wholeI (b : Nat) : Int := sgv (pNegD b) (pMantD b) * 2 ^ (pExpD b + 1074).toNat
def NewI (W : World) (v : Int) (e : Ending) (w' : World) : Prop := ∃ g, e = .returned (.pointer (some ⟨g, 0, none⟩)) ∧ IntB w' g v ∧ W.heap.size ≤ g ∧ Within W w'
theorem dg_len_of {n e k : Nat} (h : n < 2 ^ e) (he : e ≤ 64 * k) : (dg n).length ≤ k :=
  dg_len_le (Nat.lt_of_lt_of_le h (by rw [show (18446744073709551616 : Nat) = 2 ^ 64 from rfl, ← Nat.pow_mul]; exact Nat.pow_le_pow_right (by decide) he))
theorem wholeI_lt (b : Nat) : (wholeI b).natAbs < 2 ^ (64 + (pExpD b + 1074).toNat) := by
  unfold wholeI
  rw [Int.natAbs_mul, sgv_abs]
  have h1 := pMantD_lt b
  have e : ((2 : Int) ^ (pExpD b + 1074).toNat).natAbs = 2 ^ (pExpD b + 1074).toNat := by rw [Int.natAbs_pow]; rfl
  rw [e, Nat.pow_add]
  exact Nat.mul_lt_mul_of_pos_right h1 (Nat.two_pow_pos _)
theorem lim36 {k : Nat} (h : k ≤ 2174) : 64 + k ≤ 64 * 36 := by omega
theorem wholeI_len (b : Nat) : (dg (wholeI b).natAbs).length ≤ 36 :=
  dg_len_of (wholeI_lt b) (lim36 (by have := (pExpD_range b).2; omega))
set_option maxRecDepth 100000 in
set_option maxHeartbeats 1000000 in
theorem Ewhole0 (x : Nat) (neg : Bool) (m : Nat) (p : Int) (k : Nat) (er : Value) (hm : m < 18446744073709551616) (hk : p + 1074 = (k : Int)) (hk2 : k ≤ 2200) (w : World)
    (CP : Hid (Calls Tryd.prog 39 #[.float .f64 x] w fun e w' => e = .returned (.tuple #[.agg #[.bool neg, .int .u64 (m : Int), .int .i64 p], er]) ∧ Within w w')) :
    Calls Tryd.prog 21 #[.float .f64 x] w (NewI w (sgv neg m * 2 ^ k)) := by
  have HM := Lib.hid hm; clear hm
  have HK := Lib.hid hk2
  have gk : IntKind.i64.wrap (p + 1074) = (k : Int) := by rw [hk, IntWalk.i64_in _ (by omega)]
  have gk2 : IntKind.u64.wrap (k : Int) = (k : Int) := by rw [IntKind.wrap_u64]; omega
  clear hk hk2
  go_enter Tryd.func21, Tryd.ntmps21
  go_wp2_with fail
  refine CP.out.mono ?_; rintro e1 w1 ⟨rfl, hb1⟩
  have HT : IntTy ((w1.alloc (.cells #[.bool neg, .int .u64 (m : Int), .int .i64 p] 62)).alloc (.cells #[.bool false, .slice none 0 0] 58)) (w1.heap.size + 1) := by
    have := (IntB.made (w1.alloc (.cells #[.bool neg, .int .u64 (m : Int), .int .i64 p] 62))).ty
    simpa using this
  go_wp2_with fail
  have k0 : ((w1.alloc (.cells #[.bool neg, .int .u64 (m : Int), .int .i64 p] 62)).alloc (.cells #[.bool false, .slice none 0 0] 58)).cell? ⟨w1.heap.size, 0, none⟩ = some (.bool neg) := by simp [go_sem]
  have k2 : ((w1.alloc (.cells #[.bool neg, .int .u64 (m : Int), .int .i64 p] 62)).alloc (.cells #[.bool false, .slice none 0 0] 58)).cell? ⟨w1.heap.size, 2, none⟩ = some (.int .i64 p) := by simp [go_sem]
  have HW2 : Within w ((w1.alloc (.cells #[.bool neg, .int .u64 (m : Int), .int .i64 p] 62)).alloc (.cells #[.bool false, .slice none 0 0] 58)) := (hb1.alloc _).alloc _
  obtain ⟨W2, hW2⟩ : ∃ W2, W2 = (w1.alloc (.cells #[.bool neg, .int .u64 (m : Int), .int .i64 p] 62)).alloc (.cells #[.bool false, .slice none 0 0] 58) := ⟨_, rfl⟩
  have hsz : W2.heap.size = w1.heap.size + 2 := by rw [hW2]; simp
  have hw1 := hb1.size
  rw [← hW2] at HT k0 k2 HW2 ⊢
  clear hW2
  have HS := Lib.hid hsz; have HL := Lib.hid hw1
  clear hsz hw1
  refine (PsetUint64 (w1.heap.size + 1) m HM.out W2 HT).mono ?_; rintro e2 w2 ⟨rfl, hI2, hG2⟩
  have q0 := hG2.cell k0 (by simp)
  have q2 := hG2.cell k2 (by simp)
  have hlen : (dg (m : Int).natAbs).length ≤ 1 := by
    rw [Int.natAbs_natCast]; exact dg_len_le (by have := HM.out; simpa using this)
  have HLN := Lib.hid hlen; clear hlen
  cases neg
  · go_wp2_with fail
    refine (Plsh (w1.heap.size + 1) (w1.heap.size + 1) k (m : Int) (Nat.le_trans HLN.out (by decide)) (Nat.le_trans HK.out (by decide)) w2 hI2.ty hI2).mono ?_; rintro e3 w3 ⟨rfl, hI3, hG3⟩
    go_wp2
    go_ret
    exact ⟨_, rfl, hI3, by have := HL.out; omega, Within.grown HW2 (grown_trans hG2 hG3) (by have := HL.out; omega)⟩
  · go_wp2_with fail
    refine (Pneg (w1.heap.size + 1) (w1.heap.size + 1) (m : Int) (Nat.le_trans HLN.out (by decide)) w2 hI2.ty hI2).mono ?_; rintro e3 w3 ⟨rfl, hI3, hG3⟩
    have r2 := hG3.cell q2 (by simp)
    go_wp2_with fail
    refine (Plsh (w1.heap.size + 1) (w1.heap.size + 1) k (-(m : Int)) (by rw [Int.natAbs_neg]; exact Nat.le_trans HLN.out (by decide)) (Nat.le_trans HK.out (by decide)) w3 hI3.ty hI3).mono ?_; rintro e4 w4 ⟨rfl, hI4, hG4⟩
    go_wp2
    go_ret
    exact ⟨_, rfl, hI4, by have := HL.out; omega, Within.grown HW2 (grown_trans (grown_trans hG2 hG3) hG4) (by have := HL.out; omega)⟩
theorem Ewhole (b : Nat) (hb : b < 18446744073709551616) (w : World) (hT : Tab w) : Calls Tryd.prog 21 #[.float .f64 b] w (NewI w (wholeI b)) := by
  have := pExpD_range b
  exact Ewhole0 b (pNegD b) (pMantD b) (pExpD b) (pExpD b + 1074).toNat (.int .i64 (pErrD b)) (pMantD_lt b) (by omega) (by omega) w (Lib.hid (Parts_D b hb w hT))
end Go.Proofs.YtjmaggfddinbkaaDoor.P64
end

section
namespace Go.Proofs.YtjmaggfddinbkaaDoor.P64
open Go.RowKit
theorem mul_len {a b : Int} {n m : Nat} (ha : (dg a.natAbs).length ≤ n) (hb : (dg b.natAbs).length ≤ m) : (dg (a * b).natAbs).length ≤ n + m := by
  rw [Int.natAbs_mul]; exact dg_mul_len ha hb
set_option maxRecDepth 100000 in
set_option maxHeartbeats 1000000 in
theorem Ecross (ga gb gc gd : Nat) (a b c d : Int) (w : World) (ha : IntB w ga a) (hb : IntB w gb b) (hc : IntB w gc c) (hd : IntB w gd d)
    (la : (dg a.natAbs).length ≤ 40) (lb : (dg b.natAbs).length ≤ 40) (lc : (dg c.natAbs).length ≤ 40) (ld : (dg d.natAbs).length ≤ 40) :
    Calls Tryd.prog 18 #[.pointer (some ⟨ga, 0, none⟩), .pointer (some ⟨gb, 0, none⟩), .pointer (some ⟨gc, 0, none⟩), .pointer (some ⟨gd, 0, none⟩)] w fun e w' => e = .returned (.int .i64 (cmpI (a * d) (b * c))) ∧ Within w w' := by
  have HA := Lib.hid ha; have HB := Lib.hid hb; have HC := Lib.hid hc; have HD := Lib.hid hd; clear ha hb hc hd
  have LA := Lib.hid (And.intro (And.intro la lb) (And.intro lc ld)); clear la lb lc ld
  have HT := Lib.hid (IntB.made w).ty
  have b1 : Within w (w.alloc (.cells #[.bool false, .slice none 0 0] 58)) := (Within.refl w).alloc _
  go_enter Tryd.func18, Tryd.ntmps18
  go_wp2_with fail
  refine (Pmul w.heap.size ga gd a d (Nat.le_trans LA.out.1.1 (by decide)) (Nat.le_trans LA.out.2.2 (by decide)) _ HT.out (HA.out.of b1) (HD.out.of b1)).mono ?_; rintro e1 w1 ⟨rfl, hI1, hG1⟩
  have hW1 : Within w w1 := Within.grown b1 hG1 (Nat.le_refl _)
  have HT2 := Lib.hid (IntB.made w1).ty
  have b2 : Within w1 (w1.alloc (.cells #[.bool false, .slice none 0 0] 58)) := (Within.refl w1).alloc _
  go_wp2_with fail
  refine (Pmul w1.heap.size gb gc b c (Nat.le_trans LA.out.1.2 (by decide)) (Nat.le_trans LA.out.2.1 (by decide)) _ HT2.out (HB.out.of (hW1.trans b2)) (HC.out.of (hW1.trans b2))).mono ?_; rintro e2 w2 ⟨rfl, hI2, hG2⟩
  have hW2 : Within w1 w2 := Within.grown b2 hG2 (Nat.le_refl _)
  go_wp2_with fail
  refine (Pcmp w.heap.size w1.heap.size (a * d) (b * c) (Nat.le_trans (mul_len LA.out.1.1 LA.out.2.2) (by decide)) (Nat.le_trans (mul_len LA.out.1.2 LA.out.2.1) (by decide)) w2 (hI1.of hW2) hI2).mono ?_; rintro e3 w3 ⟨rfl, hb3⟩
  go_wp2
  go_ret
  exact ⟨rfl, (hW1.trans hW2).trans hb3⟩
theorem slAt_made (w : World) (l : List Nat) (C : Array Value) (t : TypeId) (hC : C = (f64v l).toArray) : SlAt (w.alloc (.cells C t)) (some ⟨w.heap.size, 0, none⟩) (f64v l) := by
  subst hC
  intro _
  refine ⟨_, rfl, by simp, fun j u hu => ?_⟩
  rw [add_zero_off]
  have h1 := heap_alloc_new w (.cells (f64v l).toArray t)
  unfold World.cell?
  rw [h1]
  simpa using hu
def detI (a b c d : Nat) : Int := cmpI (wholeI a * wholeI d) (wholeI b * wholeI c)
set_option maxRecDepth 100000 in
set_option maxHeartbeats 1000000 in
theorem Edet (a b c d : Nat) (ha : a < 18446744073709551616) (hb : b < 18446744073709551616) (hc : c < 18446744073709551616) (hd : d < 18446744073709551616) (w : World) (hT : Tab w) :
    Calls Tryd.prog 8 #[.float .f64 a, .float .f64 b, .float .f64 c, .float .f64 d] w fun e w' => e = .returned (.tuple #[.int .i64 (if [a, b, c, d].all finD then detI a b c d else 0), .int .i64 (if [a, b, c, d].all finD then 0 else 4)]) ∧ Within w w' := by
  have HA := Lib.hid ha; have HB := Lib.hid hb; have HC := Lib.hid hc; have HD := Lib.hid hd; have HT := Lib.hid hT; clear ha hb hc hd hT
  have CF := Lib.hid (fun (w' : World) hr => Finite_any (some ⟨w.heap.size, 0, none⟩) 4 [a, b, c, d] (by intro x hx; have := HA.out; have := HB.out; have := HC.out; have := HD.out; simp at hx; omega) (by simp) w' hr)
  have HS := Lib.hid (slAt_made w [a, b, c, d] _ 27 rfl)
  obtain ⟨al, hal⟩ : ∃ al, al = [a, b, c, d].all finD := ⟨_, rfl⟩
  rw [← hal] at CF ⊢
  clear hal
  have b1 : ∀ C, Within w (w.alloc (.cells C 27)) := fun C => (Within.refl w).alloc _
  cases al
  · go_enter Tryd.func8, Tryd.ntmps8
    go_wp2_with fail
    refine (CF.out _ HS.out).mono ?_; rintro e1 w1 ⟨rfl, hb1⟩
    go_wp2
    go_ret2
    exact ⟨rfl, (b1 _).trans hb1⟩
  · go_enter Tryd.func8, Tryd.ntmps8
    go_wp2_with fail
    refine (CF.out _ HS.out).mono ?_; rintro e1 w1 ⟨rfl, hb1'⟩
    have hb1 := (b1 _).trans hb1'
    clear hb1'
    go_wp2_with fail
    refine (Ewhole a HA.out w1 (HT.out.of hb1)).mono ?_; rintro e1 w2 ⟨g1, rfl, hI1, hg1, hb2⟩
    go_wp2_with fail
    refine (Ewhole b HB.out w2 (HT.out.of (hb1.trans hb2))).mono ?_; rintro e1 w3 ⟨g2, rfl, hI2, hg2, hb3⟩
    go_wp2_with fail
    refine (Ewhole c HC.out w3 (HT.out.of ((hb1.trans hb2).trans hb3))).mono ?_; rintro e1 w4 ⟨g3, rfl, hI3, hg3, hb4⟩
    go_wp2_with fail
    refine (Ewhole d HD.out w4 (HT.out.of (((hb1.trans hb2).trans hb3).trans hb4))).mono ?_; rintro e1 w5 ⟨g4, rfl, hI4, hg4, hb5⟩
    go_wp2_with fail
    refine (Ecross g1 g2 g3 g4 _ _ _ _ w5 (hI1.of ((hb3.trans hb4).trans hb5)) (hI2.of (hb4.trans hb5)) (hI3.of hb5) hI4 (Nat.le_trans (wholeI_len a) (by decide)) (Nat.le_trans (wholeI_len b) (by decide)) (Nat.le_trans (wholeI_len c) (by decide)) (Nat.le_trans (wholeI_len d) (by decide))).mono ?_; rintro e1 w6 ⟨rfl, hb6⟩
    go_wp2
    go_ret2
    exact ⟨rfl, ((((hb1.trans hb2).trans hb3).trans hb4).trans hb5).trans hb6⟩
end Go.Proofs.YtjmaggfddinbkaaDoor.P64
end

section
namespace Go.Proofs.YtjmaggfddinbkaaDoor
open Go.RowKit
theorem c_nn {c : Nat} (h : c % 9223372036854775808 ≤ 9218868437227405312) : Fp.isNaN64 c = false := decide_eq_false (by omega)
theorem c_lt {x y : Nat} (hx : x % 9223372036854775808 ≤ 9218868437227405312) (hy : y % 9223372036854775808 ≤ 9218868437227405312) : (FloatKind.f64.format.order x y == some .lt) = decide (Fp.un Ieee.double x < Fp.un Ieee.double y) := by
  show (Ieee.double.order x y == some .lt) = _
  rw [Fp.lt64 x y (c_nn hx) (c_nn hy), ← Fp.key_double, ← Fp.key_double]
  exact decide_eq_decide.2 (Fp.un_lt_iff Ieee.double x y).symm
theorem c_gt {x y : Nat} (hx : x % 9223372036854775808 ≤ 9218868437227405312) (hy : y % 9223372036854775808 ≤ 9218868437227405312) : (FloatKind.f64.format.order x y == some .gt) = decide (Fp.un Ieee.double y < Fp.un Ieee.double x) := by
  show (Ieee.double.order x y == some .gt) = _
  rw [Fp.gt64 x y (c_nn hx) (c_nn hy), ← Fp.key_double, ← Fp.key_double]
  exact decide_eq_decide.2 (Fp.un_lt_iff Ieee.double y x).symm
theorem c_eq {x y : Nat} (hx : x % 9223372036854775808 ≤ 9218868437227405312) (hy : y % 9223372036854775808 ≤ 9218868437227405312) : (FloatKind.f64.format.order x y == some .eq) = decide (Fp.un Ieee.double x = Fp.un Ieee.double y) := by
  show (Ieee.double.order x y == some .eq) = _
  rw [Fp.eq64 x y (c_nn hx) (c_nn hy), ← Fp.key_double, ← Fp.key_double]
  exact decide_eq_decide.2 (Fp.un_eq_iff Ieee.double x y).symm
theorem c_ge {x y : Nat} (hx : x % 9223372036854775808 ≤ 9218868437227405312) (hy : y % 9223372036854775808 ≤ 9218868437227405312) : (FloatKind.f64.format.order x y == some .gt || FloatKind.f64.format.order x y == some .eq) = decide (Fp.un Ieee.double y ≤ Fp.un Ieee.double x) := by
  rw [c_gt hx hy, c_eq hx hy, Bool.eq_iff_iff, Bool.or_eq_true, decide_eq_true_iff, decide_eq_true_iff, decide_eq_true_iff]; omega
theorem c_nan {x y : Nat} (h : 9218868437227405312 < x % 9223372036854775808 ∨ 9218868437227405312 < y % 9223372036854775808) (o : Ordering) : (FloatKind.f64.format.order x y == some o) = false := by
  show (Ieee.double.order x y == some o) = false
  rw [Fp.order64_nan x y (h.imp (fun h => decide_eq_true h) (fun h => decide_eq_true h))]
  rfl
theorem c_zero {r : Nat} : (FloatKind.f64.format.order r 0 == some .eq) = decide (r % 9223372036854775808 = 0) := by
  by_cases h : 9218868437227405312 < r % 9223372036854775808
  · rw [c_nan (.inl h), decide_eq_false (by omega)]
  show (Ieee.double.order r 0 == some .eq) = _
  rw [Fp.eq64 _ _ (c_nn (by omega)) (c_nn (by decide))]
  unfold Fp.key64
  refine decide_eq_decide.2 ?_
  split <;> omega
theorem sub_self_zero (x : Nat) :
    (x % 9223372036854775808 < 9218868437227405312 → floatBits .sub .f64 x x = some 0) ∧ (¬ x % 9223372036854775808 < 9218868437227405312 → floatBits .sub .f64 x x = none) := by
  constructor
  · intro hf
    have := Fp.sub_fin Ieee.double x x (by rw [Fp.rg64, Fp.dI]; exact hf) (by rw [Fp.rg64, Fp.dI]; exact hf)
    show Ieee.double.sub x x = some 0
    rw [this, Int.sub_self, if_pos rfl, Bool.and_not_self]
    rfl
  · intro hf
    show ((Ieee.double.read x).sum (Ieee.double.read x).opposite).map Ieee.double.write = none
    rcases Nat.lt_or_ge 9218868437227405312 (x % 9223372036854775808) with g | g
    · obtain ⟨s, k, hr⟩ := read_nan g
      rw [hr]; rfl
    · rw [Fp.read_inf Ieee.double x (by rw [Fp.rg64, Fp.dI]; omega) Fp.dBI]
      cases Fp.sg Ieee.double x <;> rfl
end Go.Proofs.YtjmaggfddinbkaaDoor
end

section
namespace Go.Proofs.YtjmaggfddinbkaaDoor
open Go.RowKit
def Pr (S L : Option Nat) (W : World) (e : Ending) (w' : World) : Prop := ∃ s l, e = .returned (.tuple #[.float .f64 s, .float .f64 l]) ∧ s < 18446744073709551616 ∧ l < 18446744073709551616 ∧ fv s = S ∧ fv l = L ∧ Within W w'
theorem fv_arF (op : BinOp) (x y : Nat) (w : World) : fv (arF op x y w) = fop op (fv x) (fv y) := (fv_ar op x y w).1
theorem arF_lt (op : BinOp) (x y : Nat) (w : World) : arF op x y w < 18446744073709551616 := (fv_ar op x y w).2
set_option maxRecDepth 100000 in
set_option maxHeartbeats 600000 in
theorem etwo_any (a b : Nat) (ha : a < 18446744073709551616) (hb : b < 18446744073709551616) (w : World) : Calls Tryd.prog 27 #[.float .f64 a, .float .f64 b] w (Pr (twoS (fv a) (fv b)) (twoL (fv a) (fv b)) w) := by
  have hadd := fun t x y w => run_ar .add (.inr (.inl rfl)) t x y Tryd.prog w
  have hsub := fun t x y w => run_ar .sub (.inl rfl) t x y Tryd.prog w
  have hmul := fun t x y w => run_ar .mul (.inr (.inr (.inl rfl))) t x y Tryd.prog w
  go_enter Tryd.func27, Tryd.ntmps27
  go_wp2
  go_ret2
  exact ⟨_, _, rfl, (by first | assumption | exact arF_lt _ _ _ _), (by first | assumption | exact arF_lt _ _ _ _), (by simp only [fv_arF]; rfl), (by simp only [fv_arF]; rfl), (by repeat (first | with_reducible exact Within.refl _ | with_reducible assumption | with_reducible refine arW_within ?_ _ _ _ | with_reducible refine Within.alloc ?_ _ | with_reducible refine Within.drew ?_ | with_reducible refine Within.trans ?_ (by assumption)))⟩
set_option maxRecDepth 100000 in
set_option maxHeartbeats 600000 in
theorem equick_any (a b : Nat) (ha : a < 18446744073709551616) (hb : b < 18446744073709551616) (w : World) : Calls Tryd.prog 47 #[.float .f64 a, .float .f64 b] w (Pr (twoS (fv a) (fv b)) (quiL (fv a) (fv b)) w) := by
  have hadd := fun t x y w => run_ar .add (.inr (.inl rfl)) t x y Tryd.prog w
  have hsub := fun t x y w => run_ar .sub (.inl rfl) t x y Tryd.prog w
  have hmul := fun t x y w => run_ar .mul (.inr (.inr (.inl rfl))) t x y Tryd.prog w
  go_enter Tryd.func47, Tryd.ntmps47
  go_wp2
  go_ret2
  exact ⟨_, _, rfl, (by first | assumption | exact arF_lt _ _ _ _), (by first | assumption | exact arF_lt _ _ _ _), (by simp only [fv_arF]; rfl), (by simp only [fv_arF]; rfl), (by repeat (first | with_reducible exact Within.refl _ | with_reducible assumption | with_reducible refine arW_within ?_ _ _ _ | with_reducible refine Within.alloc ?_ _ | with_reducible refine Within.drew ?_ | with_reducible refine Within.trans ?_ (by assumption)))⟩
set_option maxRecDepth 100000 in
set_option maxHeartbeats 600000 in
theorem esplit_any (a : Nat) (ha : a < 18446744073709551616) (w : World) : Calls Tryd.prog 28 #[.float .f64 a] w (Pr (halH (fv a)) (halL (fv a)) w) := by
  have hadd := fun t x y w => run_ar .add (.inr (.inl rfl)) t x y Tryd.prog w
  have hsub := fun t x y w => run_ar .sub (.inl rfl) t x y Tryd.prog w
  have hmul := fun t x y w => run_ar .mul (.inr (.inr (.inl rfl))) t x y Tryd.prog w
  go_enter Tryd.func28, Tryd.ntmps28
  go_wp2
  go_ret2
  exact ⟨_, _, rfl, (by first | assumption | exact arF_lt _ _ _ _), (by first | assumption | exact arF_lt _ _ _ _), (by simp only [fv_arF]; rfl), (by simp only [fv_arF]; rfl), (by repeat (first | with_reducible exact Within.refl _ | with_reducible assumption | with_reducible refine arW_within ?_ _ _ _ | with_reducible refine Within.alloc ?_ _ | with_reducible refine Within.drew ?_ | with_reducible refine Within.trans ?_ (by assumption)))⟩
set_option maxRecDepth 100000 in
set_option maxHeartbeats 600000 in
theorem both_any (a b : Nat) (ha : a < 18446744073709551616) (hb : b < 18446744073709551616) (w : World) : Calls Tryd.prog 26 #[.float .f64 a, .float .f64 b] w (fun e w' => e = .returned (.tuple #[.float .f64 (canonD a), .float .f64 (canonD b)]) ∧ Within w w') := by
  have CA := Lib.hid (fun w => Canon_D a ha w)
  have CB := Lib.hid (fun w => Canon_D b hb w)
  go_enter Tryd.func26, Tryd.ntmps26
  go_wp2_with fail
  refine (CA.out _).mono ?_; rintro e1 w1 ⟨rfl, hb1⟩
  go_wp2_with fail
  refine (CB.out _).mono ?_; rintro e2 w2 ⟨rfl, hb2⟩
  go_wp2
  go_ret2
  exact ⟨rfl, (by repeat (first | with_reducible exact Within.refl _ | with_reducible assumption | with_reducible refine arW_within ?_ _ _ _ | with_reducible refine Within.alloc ?_ _ | with_reducible refine Within.drew ?_ | with_reducible refine Within.trans ?_ (by assumption)))⟩
set_option maxRecDepth 100000 in
set_option maxHeartbeats 600000 in
theorem eprod_any (a b : Nat) (ha : a < 18446744073709551616) (hb : b < 18446744073709551616) (w : World) : Calls Tryd.prog 29 #[.float .f64 a, .float .f64 b] w (Pr (proP (fv a) (fv b)) (proE (fv a) (fv b)) w) := by
  have hadd := fun t x y w => run_ar .add (.inr (.inl rfl)) t x y Tryd.prog w
  have hsub := fun t x y w => run_ar .sub (.inl rfl) t x y Tryd.prog w
  have hmul := fun t x y w => run_ar .mul (.inr (.inr (.inl rfl))) t x y Tryd.prog w
  have SA := Lib.hid (fun w => esplit_any a ha w)
  have SB := Lib.hid (fun w => esplit_any b hb w)
  go_enter Tryd.func29, Tryd.ntmps29
  go_wp2_with fail
  refine (SA.out _).mono ?_; rintro e1 w1 ⟨h, l, rfl, hh, hl, vh, vl, hb1⟩
  go_wp2_with fail
  refine (SB.out _).mono ?_; rintro e2 w2 ⟨i, k, rfl, hi, hk, vi, vk, hb2⟩
  have VH := Lib.hid vh; have VL := Lib.hid vl; have VI := Lib.hid vi; have VK := Lib.hid vk; clear vh vl vi vk
  go_wp2
  go_ret2
  exact ⟨_, _, rfl, (by first | assumption | exact arF_lt _ _ _ _), (by first | assumption | exact arF_lt _ _ _ _), (by simp only [fv_arF]; rfl), (by simp only [fv_arF, VH.out, VL.out, VI.out, VK.out]; rfl), (by repeat (first | with_reducible exact Within.refl _ | with_reducible assumption | with_reducible refine arW_within ?_ _ _ _ | with_reducible refine Within.alloc ?_ _ | with_reducible refine Within.drew ?_ | with_reducible refine Within.trans ?_ (by assumption)))⟩
set_option maxRecDepth 100000 in
set_option maxHeartbeats 600000 in
theorem Etwo_any (a b : Nat) (ha : a < 18446744073709551616) (hb : b < 18446744073709551616) (w : World) : Calls Tryd.prog 12 #[.float .f64 a, .float .f64 b] w (fun e w' => ∃ s l, e = .returned (.tuple #[.float .f64 (canonD s), .float .f64 (canonD l)]) ∧ s < 18446744073709551616 ∧ l < 18446744073709551616 ∧ fv s = twoS (fv a) (fv b) ∧ fv l = twoL (fv a) (fv b) ∧ Within w w') := by
  have TW := Lib.hid (fun w => etwo_any a b ha hb w)
  go_enter Tryd.func12, Tryd.ntmps12
  go_wp2_with fail
  refine (TW.out _).mono ?_; rintro e1 w1 ⟨s, l, rfl, hs, hl, vs, vl, hb1⟩
  have VS := Lib.hid vs; have VL := Lib.hid vl; clear vs vl
  go_wp2_with fail
  refine (both_any s l hs hl _).mono ?_; rintro e2 w2 ⟨rfl, hb2⟩
  go_wp2
  go_ret2
  exact ⟨s, l, rfl, hs, hl, VS.out, VL.out, (by repeat (first | with_reducible exact Within.refl _ | with_reducible assumption | with_reducible refine arW_within ?_ _ _ _ | with_reducible refine Within.alloc ?_ _ | with_reducible refine Within.drew ?_ | with_reducible refine Within.trans ?_ (by assumption)))⟩
set_option maxRecDepth 100000 in
set_option maxHeartbeats 600000 in
theorem Esplit_any (a : Nat) (ha : a < 18446744073709551616) (w : World) : Calls Tryd.prog 13 #[.float .f64 a] w (fun e w' => ∃ s l, e = .returned (.tuple #[.float .f64 (canonD s), .float .f64 (canonD l)]) ∧ s < 18446744073709551616 ∧ l < 18446744073709551616 ∧ fv s = halH (fv a) ∧ fv l = halL (fv a) ∧ Within w w') := by
  have TW := Lib.hid (fun w => esplit_any a ha w)
  go_enter Tryd.func13, Tryd.ntmps13
  go_wp2_with fail
  refine (TW.out _).mono ?_; rintro e1 w1 ⟨s, l, rfl, hs, hl, vs, vl, hb1⟩
  have VS := Lib.hid vs; have VL := Lib.hid vl; clear vs vl
  go_wp2_with fail
  refine (both_any s l hs hl _).mono ?_; rintro e2 w2 ⟨rfl, hb2⟩
  go_wp2
  go_ret2
  exact ⟨s, l, rfl, hs, hl, VS.out, VL.out, (by repeat (first | with_reducible exact Within.refl _ | with_reducible assumption | with_reducible refine arW_within ?_ _ _ _ | with_reducible refine Within.alloc ?_ _ | with_reducible refine Within.drew ?_ | with_reducible refine Within.trans ?_ (by assumption)))⟩
set_option maxRecDepth 100000 in
set_option maxHeartbeats 600000 in
theorem Eprod_any (a b : Nat) (ha : a < 18446744073709551616) (hb : b < 18446744073709551616) (w : World) : Calls Tryd.prog 14 #[.float .f64 a, .float .f64 b] w (fun e w' => ∃ s l, e = .returned (.tuple #[.float .f64 (canonD s), .float .f64 (canonD l)]) ∧ s < 18446744073709551616 ∧ l < 18446744073709551616 ∧ fv s = proP (fv a) (fv b) ∧ fv l = proE (fv a) (fv b) ∧ Within w w') := by
  have TW := Lib.hid (fun w => eprod_any a b ha hb w)
  go_enter Tryd.func14, Tryd.ntmps14
  go_wp2_with fail
  refine (TW.out _).mono ?_; rintro e1 w1 ⟨s, l, rfl, hs, hl, vs, vl, hb1⟩
  have VS := Lib.hid vs; have VL := Lib.hid vl; clear vs vl
  go_wp2_with fail
  refine (both_any s l hs hl _).mono ?_; rintro e2 w2 ⟨rfl, hb2⟩
  go_wp2
  go_ret2
  exact ⟨s, l, rfl, hs, hl, VS.out, VL.out, (by repeat (first | with_reducible exact Within.refl _ | with_reducible assumption | with_reducible refine arW_within ?_ _ _ _ | with_reducible refine Within.alloc ?_ _ | with_reducible refine Within.drew ?_ | with_reducible refine Within.trans ?_ (by assumption)))⟩
end Go.Proofs.YtjmaggfddinbkaaDoor
end

section
namespace Go.Proofs.YtjmaggfddinbkaaDoor
open Go.RowKit
theorem finD_is {x : Nat} (h : x < 18446744073709551616) : finD x = finW x := by
  unfold finD finW classD classOf expD fracD canonD nanD
  refine decide_eq_decide.2 ?_
  by_cases hn : 9218868437227405312 < x % 9223372036854775808
  · rw [decide_eq_true hn, if_pos rfl]
    simp
    omega
  · rw [decide_eq_false hn, if_neg Bool.false_ne_true]
    split
    · omega
    split
    · omega
    split
    · omega
    split <;> omega
theorem fin_sub (x : Nat) (w : World) : (FloatKind.f64.format.order (arF .sub x x w) 0 == some .eq) = finW x := by
  unfold arF finW
  obtain ⟨h1, h2⟩ := sub_self_zero x
  by_cases hf : x % 9223372036854775808 < 9218868437227405312
  · rw [h1 hf, decide_eq_true hf]
    show (FloatKind.f64.format.order 0 0 == some .eq) = true
    decide
  · rw [h2 hf, decide_eq_false hf]
    exact c_nan (.inl (cut_nan x x _).1) _
def LayP (w : World) (p : Nat) (L : List (Option Nat)) (ov : Bool) : Prop :=
  ∃ sv ls, w.cell? ⟨p, 0, none⟩ = some sv ∧ w.cell? ⟨p, 1, none⟩ = some (.bool ov) ∧ (∀ i, w.frozen? ⟨p, i, none⟩ = false) ∧ OwnF w (p + 1) sv ls ∧ Words64 ls ∧ ls.map fv = L
theorem LayP.lt {w : World} {p : Nat} {L : List (Option Nat)} {ov : Bool} (h : LayP w p L ov) : p < w.heap.size := by
  obtain ⟨sv, ls, h0, _⟩ := h
  exact World.block_lt_of_cell? _ _ h0
theorem LayP.of {w w' : World} {p : Nat} {L : List (Option Nat)} {ov : Bool} (h : LayP w p L ov) (k : Within w w') : LayP w' p L ov := by
  have hl := h.lt
  obtain ⟨sv, ls, h0, h1, hf, ho, hw, hm⟩ := h
  exact ⟨sv, ls, (k.cells _ _ hl).trans h0, (k.cells _ _ hl).trans h1, fun i => (k.frozens _ i hl).trans (hf i), ho.of k, hw, hm⟩
theorem LayP.see {w : World} {p : Nat} {L : List (Option Nat)} {ov : Bool} (h : LayP w p L ov) (b : Bool) : LayP (w.setCell ⟨p, 1, none⟩ (.bool b)) p L b := by
  obtain ⟨sv, ls, h0, h1, hf, ho, hw, hm⟩ := h
  have hl := World.block_lt_of_cell? _ _ h0
  exact ⟨sv, ls, by go_simp, by go_simp, fun i => by go_simp, ho.set (Nat.lt_succ_self p) _, hw, hm⟩
def ResF (W : World) (L : List (Option Nat)) (er : Int) (e : Ending) (w' : World) : Prop := ∃ sv ls, e = .returned (.tuple #[sv, .int .i64 er]) ∧ OwnF w' W.heap.size sv ls ∧ Words64 ls ∧ ls.map fv = L ∧ Within W w'
theorem below_within {W w w' : World} {p : Nat} (h : Within W w) (k : Below p w w') (hp : W.heap.size ≤ p) : Within W w' := Below.trans h (Below.mono k hp)
set_option maxRecDepth 100000 in
set_option maxHeartbeats 600000 in
theorem efinite_any (x : Nat) (w : World) : Calls Tryd.prog 31 #[.float .f64 x] w fun e w' => e = .returned (.bool (finW x)) ∧ Within w w' := by
  have hsub := fun t x y w => run_ar .sub (.inl rfl) t x y Tryd.prog w
  have hf := fun w => fin_sub x w
  go_enter Tryd.func31, Tryd.ntmps31
  go_wp2
  go_ret
  exact ⟨rfl, (by repeat (first | with_reducible exact Within.refl _ | with_reducible assumption | with_reducible refine arW_within ?_ _ _ _ | with_reducible refine Within.alloc ?_ _ | with_reducible refine Within.drew ?_ | with_reducible refine Within.trans ?_ (by assumption)))⟩
set_option maxRecDepth 100000 in
set_option maxHeartbeats 600000 in
theorem see_ov (p a b : Nat) (L : List (Option Nat)) (w : World) (h : LayP w p L true) : Calls Tryd.prog 45 #[.pointer (some ⟨p, 0, none⟩), .float .f64 a, .float .f64 b] w fun e w' => e = .returned (.tuple #[.float .f64 a, .float .f64 b]) ∧ LayP w' p L (true || !finW a || !finW b) ∧ Below p w w' := by
  have hL0 := h.lt
  have hLL := Lib.hid h
  obtain ⟨sv, ls, s0, t0, u0, _⟩ := h
  have FI := Lib.hid (fun x w => efinite_any x w)
  have e : (true || !finW a || !finW b) = true := rfl
  rw [e]
  clear e
  go_enter Tryd.func45, Tryd.ntmps45
  go_wp2
  go_ret2
  exact ⟨rfl, hLL.out.see true, Below.setCell (p := ⟨p, 1, none⟩) (Below.refl _ _) (Nat.le_refl p) _⟩
set_option maxRecDepth 100000 in
set_option maxHeartbeats 600000 in
theorem see_a (p a b : Nat) (L : List (Option Nat)) (ha : finW a = false) (w : World) (h : LayP w p L false) : Calls Tryd.prog 45 #[.pointer (some ⟨p, 0, none⟩), .float .f64 a, .float .f64 b] w fun e w' => e = .returned (.tuple #[.float .f64 a, .float .f64 b]) ∧ LayP w' p L (false || !finW a || !finW b) ∧ Below p w w' := by
  have hL0 := h.lt
  have hLL := Lib.hid h
  obtain ⟨sv, ls, s0, t0, u0, _⟩ := h
  have FI := Lib.hid (fun x w => efinite_any x w)
  have e : (false || !finW a || !finW b) = true := by rw [ha]; rfl
  rw [e]
  clear e
  have HA := Lib.hid ha; clear ha
  go_enter Tryd.func45, Tryd.ntmps45
  go_wp2_with fail
  refine (FI.out a _).mono ?_; rintro e1 w1 ⟨rfl, hb1⟩
  rw [HA.out]
  have hL1 := hLL.out.of hb1
  obtain ⟨sv1, ls1, s1, t1, u1, _⟩ := hL1
  have z1 : p < w1.heap.size := Nat.lt_of_lt_of_le hL0 hb1.sizes
  have hL1 := hLL.out.of hb1
  go_wp2
  go_ret2
  exact ⟨rfl, (hL1).see true, Below.setCell (p := ⟨p, 1, none⟩) (Below.mono hb1 (Nat.le_of_lt hL0)) (Nat.le_refl p) _⟩
set_option maxRecDepth 100000 in
set_option maxHeartbeats 600000 in
theorem see_b (p a b : Nat) (L : List (Option Nat)) (ha : finW a = true) (w : World) (h : LayP w p L false) : Calls Tryd.prog 45 #[.pointer (some ⟨p, 0, none⟩), .float .f64 a, .float .f64 b] w fun e w' => e = .returned (.tuple #[.float .f64 a, .float .f64 b]) ∧ LayP w' p L (false || !finW a || !finW b) ∧ Below p w w' := by
  have hL0 := h.lt
  have hLL := Lib.hid h
  obtain ⟨sv, ls, s0, t0, u0, _⟩ := h
  have FI := Lib.hid (fun x w => efinite_any x w)
  have e : (false || !finW a || !finW b) = !finW b := by rw [ha]; rfl
  rw [e]
  clear e
  have HA := Lib.hid ha; clear ha
  go_enter Tryd.func45, Tryd.ntmps45
  go_wp2_with fail
  refine (FI.out a _).mono ?_; rintro e1 w1 ⟨rfl, hb1⟩
  rw [HA.out]
  have hL1 := hLL.out.of hb1
  obtain ⟨sv1, ls1, s1, t1, u1, _⟩ := hL1
  have z1 : p < w1.heap.size := Nat.lt_of_lt_of_le hL0 hb1.sizes
  have hL1 := hLL.out.of hb1
  go_wp2_with fail
  refine (FI.out b _).mono ?_; rintro e2 w2 ⟨rfl, hb2'⟩
  have hb2 := hb1.trans hb2'
  have hL2 := hLL.out.of hb2
  obtain ⟨sv2, ls2, s2, t2, u2, _⟩ := hL2
  have z2 : p < w2.heap.size := Nat.lt_of_lt_of_le hL0 hb2.sizes
  have hL2 := hLL.out.of hb2
  go_wp2
  go_ret2
  exact ⟨rfl, (hL2).see (!finW b), Below.setCell (p := ⟨p, 1, none⟩) (Below.mono hb2 (Nat.le_of_lt hL0)) (Nat.le_refl p) _⟩
theorem see_any (p a b : Nat) (L : List (Option Nat)) (ov : Bool) (w : World) (h : LayP w p L ov) : Calls Tryd.prog 45 #[.pointer (some ⟨p, 0, none⟩), .float .f64 a, .float .f64 b] w fun e w' => e = .returned (.tuple #[.float .f64 a, .float .f64 b]) ∧ LayP w' p L (ov || !finW a || !finW b) ∧ Below p w w' := by
  cases ov
  · cases ha : finW a
    · have := see_a p a b L ha w h
      rwa [ha] at this
    · have := see_b p a b L ha w h
      rwa [ha] at this
  · exact see_ov p a b L w h
theorem SlAt.two (w : World) (u v : Value) (E : TypeId) : SlAt (w.alloc (.cells #[u, v] E)) (some ⟨w.heap.size, 0, none⟩) [u, v] := fun _ => by
  refine ⟨_, rfl, by simp, fun j x hj => ?_⟩
  match j, hj with
  | 0, hj =>
    have e : u = x := by simpa using hj
    subst e
    rw [add_nought, World.cell?_alloc_at _ _ _ _ rfl]; rfl
  | 1, hj =>
    have e : v = x := by simpa using hj
    subst e
    rw [show (Addr.add ⟨w.heap.size, 0, none⟩ 1) = ⟨w.heap.size, 1, none⟩ from rfl, World.cell?_alloc_at _ _ _ _ rfl]; rfl
  | j + 2, hj => simp at hj
set_option maxRecDepth 100000 in
set_option maxHeartbeats 600000 in
theorem elay_no (p x : Nat) (L : List (Option Nat)) (ov : Bool) (hx : x % 9223372036854775808 = 0) (w : World) (h : LayP w p L ov) : Calls Tryd.prog 46 #[.pointer (some ⟨p, 0, none⟩), .float .f64 x] w fun e w' => e = .returned (.tuple #[]) ∧ LayP w' p (layV L (fv x)) ov ∧ Below p w w' := by
  have hz : (FloatKind.f64.format.order x 0 == some .eq) = true := by rw [c_zero, decide_eq_true hx]
  have hne : (FloatKind.f64.format.order x 0 != some .eq) = false := by simp [bne, hz]
  have hl : layV L (fv x) = L := by unfold layV; rw [nzV_fv, decide_eq_false (fun g => g hx)]; rfl
  rw [hl]
  clear hx hl
  have hLL := Lib.hid h; clear h
  go_enter Tryd.func46, Tryd.ntmps46
  go_wp2
  go_end0
  exact ⟨rfl, hLL.out, Below.refl _ _⟩
set_option maxRecDepth 100000 in
set_option maxHeartbeats 600000 in
theorem elay_yes (p x : Nat) (L : List (Option Nat)) (ov : Bool) (hx : ¬ x % 9223372036854775808 = 0) (hx2 : x < 18446744073709551616) (hn : L.length ≤ 1000000) (w : World) (h : LayP w p L ov) : Calls Tryd.prog 46 #[.pointer (some ⟨p, 0, none⟩), .float .f64 x] w fun e w' => e = .returned (.tuple #[]) ∧ LayP w' p (layV L (fv x)) ov ∧ Below p w w' := by
  have hz : (FloatKind.f64.format.order x 0 == some .eq) = false := by rw [c_zero, decide_eq_false hx]
  have hne : (FloatKind.f64.format.order x 0 != some .eq) = true := by simp [bne, hz]
  have hl : layV L (fv x) = L ++ [fv x] := by unfold layV; rw [nzV_fv, decide_eq_true hx]; rfl
  rw [hl]
  clear hx hl
  have hL0 := h.lt
  obtain ⟨sv, ls, s0, t0, u0, hown, hw, hm⟩ := h
  obtain ⟨A, c, rfl, _, _, _⟩ := hown.form
  have hlen : ls.length = L.length := by rw [← hm, List.length_map]
  obtain ⟨v', w', hrun, hown', hbl'⟩ := run_app_float w (p + 1) _ _ x hown (by omega) hL0
  obtain ⟨A2, c2, rfl, _, _, _⟩ := hown'.form
  have RUN := Lib.hid hrun; have HOW := Lib.hid hown'
  obtain ⟨n2, hn2⟩ : ∃ n2, n2 = (ls ++ [x]).length := ⟨_, rfl⟩
  rw [← hn2] at RUN HOW
  clear hn2
  have HW := Lib.hid hw; have HM := Lib.hid hm
  clear hrun hown' hown hw hm hlen hn
  have s1 : w'.cell? ⟨p, 1, none⟩ = some (.bool ov) := (hbl'.cell (p := ⟨p, 1, none⟩) (Nat.lt_succ_self p)).trans t0
  have s2 : ∀ i, w'.frozen? ⟨p, i, none⟩ = false := fun i => (hbl'.frozen (p := ⟨p, i, none⟩) (Nat.lt_succ_self p)).trans (u0 i)
  have s3 : w'.cell? ⟨p, 0, none⟩ = some (.slice A ls.length c) := (hbl'.cell (p := ⟨p, 0, none⟩) (Nat.lt_succ_self p)).trans s0
  have s4 : p < w'.heap.size := World.block_lt_of_cell? _ _ s3
  obtain ⟨n, hn⟩ : ∃ n, n = ls.length := ⟨_, rfl⟩
  rw [← hn] at s0 s3 RUN
  clear hn
  go_enter Tryd.func46, Tryd.ntmps46
  go_wp2_with (at_builtin; refine wpList_append_run rfl (.tmp 10) (.tmp 12) 32 rfl _ _ rfl rfl RUN.out ?_)
  go_end0
  exact ⟨rfl, ⟨_, ls ++ [x], by go_simp, by go_simp, fun i => by go_simp, (HOW.out).set (Nat.lt_succ_self p) _, (fun y hy => by rcases List.mem_append.1 hy with hy | hy; exact HW.out y hy; rcases List.mem_singleton.1 hy with rfl; exact hx2), by rw [List.map_append, HM.out]; rfl⟩, Below.setCell (p := ⟨p, 0, none⟩) (Below.mono hbl' (Nat.le_succ p)) (Nat.le_refl p) _⟩
theorem elay_any (p x : Nat) (L : List (Option Nat)) (ov : Bool) (hx : x < 18446744073709551616) (hn : L.length ≤ 1000000) (w : World) (h : LayP w p L ov) : Calls Tryd.prog 46 #[.pointer (some ⟨p, 0, none⟩), .float .f64 x] w fun e w' => e = .returned (.tuple #[]) ∧ LayP w' p (layV L (fv x)) ov ∧ Below p w w' := by
  by_cases h0 : x % 9223372036854775808 = 0
  · exact elay_no p x L ov h0 w h
  · exact elay_yes p x L ov h0 hx hn w h
def endE (L : List (Option Nat)) (ov : Bool) : Int := if ov then 5 else if 64 < L.length then 2 else 0
set_option maxRecDepth 100000 in
set_option maxHeartbeats 600000 in
theorem eend_ov (p : Nat) (L : List (Option Nat)) (w : World) (h : LayP w p L true) : Calls Tryd.prog 48 #[.pointer (some ⟨p, 0, none⟩)] w fun e w' => (∃ sv ls, e = .returned (.tuple #[sv, .int .i64 5]) ∧ OwnF w' (p + 1) sv ls ∧ Words64 ls ∧ ls.map fv = []) ∧ w = w' := by
  obtain ⟨sv, ls, s0, t0, u0, _⟩ := h
  go_enter Tryd.func48, Tryd.ntmps48
  go_wp2
  go_ret2
  exact ⟨⟨_, [], rfl, OwnF.nil_ _ _, (fun x hx => by cases hx), rfl⟩, rfl⟩
set_option maxRecDepth 100000 in
set_option maxHeartbeats 600000 in
theorem eend_long (p : Nat) (L : List (Option Nat)) (hn : 64 < L.length) (w : World) (h : LayP w p L false) : Calls Tryd.prog 48 #[.pointer (some ⟨p, 0, none⟩)] w fun e w' => (∃ sv ls, e = .returned (.tuple #[sv, .int .i64 2]) ∧ OwnF w' (p + 1) sv ls ∧ Words64 ls ∧ ls.map fv = []) ∧ w = w' := by
  obtain ⟨sv, ls, s0, t0, u0, hown, hw, hm⟩ := h
  obtain ⟨A, c, rfl, _, _, _⟩ := hown.form
  have hlen : ls.length = L.length := by rw [← hm, List.length_map]
  obtain ⟨n, hn2⟩ : ∃ n, n = ls.length := ⟨_, rfl⟩
  rw [← hn2] at s0
  have d1 : decide ((n : Int) > 64) = true := decide_eq_true (by omega)
  clear hown hw hm hlen hn hn2
  go_enter Tryd.func48, Tryd.ntmps48
  go_wp2
  go_ret2
  exact ⟨⟨_, [], rfl, OwnF.nil_ _ _, (fun x hx => by cases hx), rfl⟩, rfl⟩
set_option maxRecDepth 100000 in
set_option maxHeartbeats 600000 in
theorem eend_fine (p : Nat) (L : List (Option Nat)) (hn : L.length ≤ 64) (w : World) (h : LayP w p L false) : Calls Tryd.prog 48 #[.pointer (some ⟨p, 0, none⟩)] w fun e w' => (∃ sv ls, e = .returned (.tuple #[sv, .int .i64 0]) ∧ OwnF w' (p + 1) sv ls ∧ Words64 ls ∧ ls.map fv = L) ∧ w = w' := by
  obtain ⟨sv, ls, s0, t0, u0, hown, hw, hm⟩ := h
  obtain ⟨A, c, rfl, _, _, _⟩ := hown.form
  have hlen : ls.length = L.length := by rw [← hm, List.length_map]
  have HO := Lib.hid hown; have HW := Lib.hid hw; have HM := Lib.hid hm
  obtain ⟨n, hn2⟩ : ∃ n, n = ls.length := ⟨_, rfl⟩
  rw [← hn2] at s0 HO
  have d1 : decide ((n : Int) > 64) = false := decide_eq_false (by omega)
  clear hown hw hm hlen hn hn2
  go_enter Tryd.func48, Tryd.ntmps48
  go_wp2
  go_ret2
  exact ⟨⟨_, ls, rfl, HO.out, HW.out, HM.out⟩, rfl⟩
theorem eend_any (p : Nat) (L : List (Option Nat)) (ov : Bool) (w : World) (h : LayP w p L ov) : Calls Tryd.prog 48 #[.pointer (some ⟨p, 0, none⟩)] w fun e w' => (∃ sv ls, e = .returned (.tuple #[sv, .int .i64 (endE L ov)]) ∧ OwnF w' (p + 1) sv ls ∧ Words64 ls ∧ ls.map fv = (if endE L ov = 0 then L else [])) ∧ w = w' := by
  unfold endE
  cases ov
  · rw [if_neg Bool.false_ne_true]
    by_cases hn : 64 < L.length
    · rw [if_pos hn, if_neg (by decide)]; exact eend_long p L hn w h
    · rw [if_neg hn, if_pos rfl]; exact eend_fine p L (by omega) w h
  · rw [if_pos rfl, if_neg (by decide)]; exact eend_ov p L w h
end Go.Proofs.YtjmaggfddinbkaaDoor
end

section
namespace Go.Proofs.YtjmaggfddinbkaaDoor
open Go.RowKit
theorem LayP.made (w : World) (T : TypeId) : LayP (w.alloc (.cells #[.slice none 0 0, .bool false] T)) w.heap.size [] false := by
  refine ⟨.slice none 0 0, [], ?_, ?_, fun i => ?_, OwnF.nil_ _ _, (fun x hx => by cases hx), rfl⟩
  · rw [World.cell?_alloc_at _ _ _ _ rfl]; rfl
  · rw [World.cell?_alloc_at _ _ _ _ rfl]; rfl
  · simp
def gs (es : List Nat) (b k : Nat) : Lay := ((es.map fv).take k).foldl growStep ⟨fv b, [], false⟩
theorem gs_zero (es : List Nat) (b : Nat) : gs es b 0 = ⟨fv b, [], false⟩ := by unfold gs; rw [List.take_zero]; rfl
theorem gs_all (es : List Nat) (b : Nat) : gs es b es.length = growSt (es.map fv) (fv b) := by
  unfold gs growSt
  rw [List.take_of_length_le (by rw [List.length_map]; exact Nat.le_refl _)]
theorem getD_fv (es : List Nat) {k : Nat} (h : k < es.length) : (es.map fv).getD k none = fv (es.getD k 0) := by
  simp [List.getD, h]
theorem gs_succ (es : List Nat) (b : Nat) {k : Nat} (h : k < es.length) : gs es b (k + 1) = growStep (gs es b k) (fv (es.getD k 0)) := by
  unfold gs
  rw [fold_take growStep _ (es.map fv) none (by rw [List.length_map]; exact h), getD_fv es h]
theorem gs_len (es : List Nat) (b k : Nat) : (gs es b k).l.length ≤ es.length := by
  have := growSt_len ((es.map fv).take k) (fv b)
  have h2 : ((es.map fv).take k).length ≤ es.length := by rw [List.length_take, List.length_map]; exact Nat.min_le_right _ _
  exact Nat.le_trans this h2
set_option maxRecDepth 100000 in
set_option maxHeartbeats 600000 in
theorem egrow_any (A : Option Addr) (c : Nat) (es : List Nat) (b : Nat) (hw : Words64 es) (hl : es.length ≤ 100000) (hb : b < 18446744073709551616) (w : World) (hr : SlAt w A (f64v es)) : Calls Tryd.prog 32 #[.slice A es.length c, .float .f64 b] w (ResF w (growSt (es.map fv) (fv b)).out (growSt (es.map fv) (fv b)).err) := by
  have HW := Lib.hid hw; have HR := Lib.hid hr; have HL := Lib.hid hl; have HB := Lib.hid hb; have hl2 : es.length ≤ 1152921504606846976 := by omega
  clear hw hr hl hb
  have LAY0 := LayP.made w 72
  go_enter Tryd.func32, Tryd.ntmps32
  go_wp2
  go_loopw [7, 15] (fun qv iv wr => ∃ k q : Nat, k ≤ es.length ∧ iv = .int .i64 (k : Int) ∧ qv = .float .f64 q ∧ q < 18446744073709551616 ∧ fv q = (gs es b k).q ∧ LayP wr w.heap.size (gs es b k).l (gs es b k).ov ∧ Within w wr) (fun _ iv _ => es.length - (intOf iv).toNat)
  case atStart => exact ⟨0, b, Nat.zero_le _, rfl, rfl, HB.out, by rw [gs_zero], by rw [gs_zero]; exact LAY0, (by repeat (first | with_reducible exact Within.refl _ | with_reducible assumption | with_reducible refine arW_within ?_ _ _ _ | with_reducible refine Within.alloc ?_ _ | with_reducible refine Within.drew ?_ | with_reducible refine Within.trans ?_ (by assumption)))⟩
  case round =>
    obtain ⟨k, q, hk, rfl, rfl, hq, vq, hL, hin⟩ := hrel
    have HQ := Lib.hid hq; have VQ := Lib.hid vq; have LL := Lib.hid hL; clear hq vq hL
    by_cases hlt : k < es.length
    · obtain ⟨ad, rfl, hblk, hc⟩ := (HR.out.of hin).at hlt
      obtain ⟨x, hx⟩ : ∃ x, x = es.getD k 0 := ⟨_, rfl⟩
      have hx2 : x < 18446744073709551616 := by rw [hx]; exact HW.out.at hlt
      rw [← hx] at hc
      have HX2 := Lib.hid hx2; clear hx2
      have hnext := gs_succ es b hlt
      rw [← hx] at hnext
      have HN := Lib.hid hnext; clear hnext hx
      have TW := Lib.hid (fun w => etwo_any q x HQ.out HX2.out w)
      have hlen := Nat.le_trans (gs_len es b k) HL.out
      have HLEN := Lib.hid hlen; clear hlen
      go_wp2_with fail
      refine (TW.out _).mono ?_; rintro e1 w1 ⟨s, l, rfl, hs, hl', vs, vl, hb1⟩
      have HS := Lib.hid hs; have HL2 := Lib.hid hl'; have VS := Lib.hid vs; have VL := Lib.hid vl; clear hs hl' vs vl
      have L1 := Lib.hid (LL.out.of hb1)
      go_wp2_with fail
      refine (see_any _ s l _ _ _ L1.out).mono ?_; rintro e2 w2 ⟨rfl, hL2, hb2⟩
      have L2 := Lib.hid hL2; clear hL2
      go_wp2_with fail
      refine (elay_any _ l _ _ HL2.out (Nat.le_trans HLEN.out (by decide)) _ L2.out).mono ?_; rintro e3 w3 ⟨rfl, hL3, hb3⟩
      have hin3 : Within w w3 := below_within (below_within (hin.trans hb1) hb2 (Nat.le_refl _)) hb3 (Nat.le_refl _)
      have L3 := Lib.hid hL3; clear hL3 hb1 hb2 hb3
      go_wp2
      go_roundw
      case rel =>
        refine ⟨k + 1, s, hlt, by go_num, rfl, HS.out, ?_, ?_, hin3⟩
        · rw [HN.out, VS.out, VQ.out]; rfl
        · rw [HN.out]
          have h := L3.out
          rw [VL.out, VQ.out] at h
          have e : ((gs es b k).ov || !finW s || !finW l) = (gs es b k).see (twoS (gs es b k).q (fv x)) (twoL (gs es b k).q (fv x)) := by
            unfold Lay.see; rw [← VQ.out, ← VS.out, ← VL.out, finV_fv, finV_fv]
          rw [e] at h
          exact h
      case measure => simp [intOf]; omega
    · obtain rfl : k = es.length := by omega
      have vq2 := VQ.out
      rw [gs_all] at vq2
      have l0 := LL.out
      rw [gs_all] at l0
      have VQ2 := Lib.hid vq2; have LL2 := Lib.hid l0; clear vq2 l0
      have hlen : (growSt (es.map fv) (fv b)).l.length ≤ 1000000 := Nat.le_trans (growSt_len _ _) (by rw [List.length_map]; exact Nat.le_trans HL.out (by decide))
      have HLEN := Lib.hid hlen; clear hlen
      go_wp2_with fail
      refine (elay_any _ q _ _ HQ.out HLEN.out _ LL2.out).mono ?_; rintro e3 w3 ⟨rfl, hL3, hb3⟩
      rw [VQ2.out] at hL3
      have hin3 : Within w w3 := below_within hin hb3 (Nat.le_refl _)
      have L3 := Lib.hid hL3; clear hL3 hb3
      go_wp2_with fail
      refine (eend_any _ _ _ _ L3.out).mono ?_; rintro e4 w4 ⟨⟨sv, ls, rfl, hown, hw', hm⟩, rfl⟩
      have HO := Lib.hid hown; have HM := Lib.hid hm; have HWW := Lib.hid hw'; clear hown hm hw'
      go_wp2
      go_ret2
      exact ⟨_, ls, rfl, HO.out.less (Nat.le_succ _), HWW.out, HM.out, hin3⟩
end Go.Proofs.YtjmaggfddinbkaaDoor
end

section
namespace Go.Proofs.YtjmaggfddinbkaaDoor
open Go.RowKit
/-! amounts by their parts -/
theorem fin_canon {b : Nat} (h : b % 9223372036854775808 < 9218868437227405312) : canonD b = b := by
  unfold canonD
  rw [if_neg]
  unfold nanD
  simp; omega
theorem fin_exp {b : Nat} (h : b % 9223372036854775808 < 9218868437227405312) : expD b = b % 9223372036854775808 / 4503599627370496 ∧ fracD b = b % 4503599627370496 ∧ expD b < 2047 := by
  unfold expD fracD
  rw [fin_canon h]
  omega
theorem mag_parts {b : Nat} (h : b % 9223372036854775808 < 9218868437227405312) : Fp.mag Ieee.double (b % 9223372036854775808) = mantD b * 2 ^ (lowD b + 1074).toNat := by
  obtain ⟨h1, h2, h3⟩ := fin_exp h
  unfold Fp.mag mantD lowD
  rw [Fp.dB, h2, h1]
  by_cases h0 : b % 9223372036854775808 < 4503599627370496
  · rw [if_pos h0, if_pos (by omega), if_pos (by omega), show (((1 : Nat) : Int) - 1075 + 1074).toNat = 0 from rfl, Nat.pow_zero, Nat.mul_one]
    omega
  · rw [if_neg h0, if_neg (by omega), if_neg (by omega), show (((b % 9223372036854775808 / 4503599627370496 : Nat) : Int) - 1075 + 1074).toNat = b % 9223372036854775808 / 4503599627370496 - 1 by omega]
    congr 1
    omega
theorem lowD_ge (b : Nat) : -1074 ≤ lowD b := by unfold lowD; split <;> omega
theorem mag_odd {b : Nat} (h : b % 9223372036854775808 < 9218868437227405312) : Fp.mag Ieee.double (b % 9223372036854775808) = pMantD b * 2 ^ (pExpD b + 1074).toNat := by
  rw [mag_parts h]
  obtain ⟨_, _, h3⟩ := fin_exp h
  unfold pMantD pExpD
  rw [if_neg (by omega)]
  by_cases h0 : mantD b = 0
  · rw [if_pos (.inr h0), h0, Nat.zero_mul, Nat.zero_div, Nat.zero_mul]
  · rw [if_neg (by omega)]
    obtain ⟨m, e1, e2, e3⟩ := odd_split h0 (by have := mantD_lt b; omega)
    have hl := lowD_ge b
    generalize Lib.ctz 64 (mantD b) = k at *
    rw [show (lowD b + (k : Int) + 1074).toNat = k + (lowD b + 1074).toNat by omega, Nat.pow_add, ← Nat.mul_assoc]
    congr 1
    rw [e2, Nat.mul_div_cancel_left _ (Nat.two_pow_pos k), Nat.mul_comm]
theorem sg_is {b : Nat} (hb : b < 18446744073709551616) : Fp.sg Ieee.double b = decide (9223372036854775808 ≤ b) := by
  unfold Fp.sg
  rw [show Ieee.double.signWeight = 9223372036854775808 by decide +kernel]
  exact decide_eq_decide.2 (by omega)
theorem top_le {p : Int} (h : 1023 < p) : Fp.dtop ≤ (p + 1074).toNat := by
  have : Fp.dtop = 2098 := rfl
  omega
theorem pExp_hi {b : Nat} (h : b % 9223372036854775808 < 9218868437227405312) : pExpD b ≤ 1023 := by
  by_cases h0 : pMantD b = 0
  · have : pExpD b = 0 := by
      obtain ⟨_, _, h3⟩ := fin_exp h
      unfold pMantD at h0
      rw [if_neg (by omega)] at h0
      unfold pExpD
      by_cases hm : mantD b = 0
      · rw [if_pos (.inr hm)]
      · obtain ⟨m, e1, e2, e3⟩ := odd_split hm (by have := mantD_lt b; omega)
        unfold oddM at e1; omega
    omega
  · have h1 := mag_odd h
    have h2 : Fp.mag Ieee.double (b % 9223372036854775808) < Fp.mag Ieee.double 9218868437227405312 := (Fp.mag_lt_iff Ieee.double).2 h
    have h3 : Fp.mag Ieee.double 9218868437227405312 = 2 ^ Fp.dtop := by
      have := Fp.mag_infD
      rw [Fp.dI] at this
      exact this
    rcases Int.lt_or_le 1023 (pExpD b) with hc | hc
    · exfalso
      have h4 : 2 ^ Fp.dtop ≤ 2 ^ (pExpD b + 1074).toNat := Nat.pow_le_pow_right (by decide) (top_le hc)
      have h5 : 2 ^ (pExpD b + 1074).toNat ≤ pMantD b * 2 ^ (pExpD b + 1074).toNat := Nat.le_mul_of_pos_left _ (Nat.pos_of_ne_zero h0)
      rw [h1, h3] at h2
      exact absurd (Nat.lt_of_lt_of_le h2 (Nat.le_trans h4 h5)) (Nat.lt_irrefl _)
    · exact hc
end Go.Proofs.YtjmaggfddinbkaaDoor
end

section
namespace Go.Proofs.YtjmaggfddinbkaaDoor
open Go.RowKit
theorem odd_one : oddM 1 = 1 := by decide
theorem ctz_one : Lib.ctz 64 1 = 0 := by decide
theorem bitLen_one : Lib.bitLen 1 = 1 := by decide
theorem down_one (e : Int) : downD 1 e = min 52 (e + 1074).toNat := by
  unfold downD oddE
  rw [odd_one, ctz_one, bitLen_one]
  omega
theorem bad_one {e : Int} (h1 : -1074 ≤ e) (h2 : e ≤ 1023) : badD 1 e = false := by
  unfold badD oddE
  rw [odd_one, ctz_one, bitLen_one, decide_eq_false (by omega), decide_eq_false (by omega), decide_eq_false (by omega), decide_eq_false (by omega)]; rfl
theorem pow52 : (2 : Nat) ^ 52 = 4503599627370496 := by decide
theorem join_low {t : Nat} (h : t < 4503599627370496) : joinD false 0 t = t := by
  unfold joinD bitsOfD
  rw [if_neg (by omega), if_neg Bool.false_ne_true, show (0 : Int).toNat * 4503599627370496 + t + 0 = t by simp, fin_canon (by omega)]
theorem join_high {n : Nat} (h : n ≤ 2046) : joinD false (n : Int) 0 = n * 4503599627370496 := by
  unfold joinD bitsOfD
  rw [if_neg (by omega), if_neg Bool.false_ne_true, Int.toNat_natCast, Nat.add_zero, fin_canon (by omega)]
theorem last_is {e : Int} (h1 : -1074 ≤ e) (h2 : e ≤ 1023) : madeD false 1 e < 9218868437227405312 ∧ Fp.mag Ieee.double (madeD false 1 e) = 2 ^ (e + 1074).toNat := by
  unfold madeD fieldD topD
  rw [if_neg (by decide), bad_one h1 h2, if_neg Bool.false_ne_true, odd_one, down_one, Nat.one_mul]
  rcases Nat.lt_or_ge (e + 1074).toNat 52 with hk | hk
  · rw [Nat.min_eq_right (Nat.le_of_lt hk)]
    have ht : 2 ^ (e + 1074).toNat < 4503599627370496 := by rw [← pow52]; exact Nat.pow_lt_pow_right (by decide) hk
    generalize 2 ^ (e + 1074).toNat = t at *
    rw [if_pos ht, if_neg (by omega), Nat.mod_eq_of_lt ht, join_low ht]
    exact ⟨by omega, by rw [Fp.mag_lt _ _ (by rw [Fp.dB]; exact ht)]⟩
  · rw [Nat.min_eq_left hk, pow52, if_neg (Nat.lt_irrefl 4503599627370496), show oddE 1 e - ((52 : Nat) : Int) + 1075 = (((e + 1074).toNat - 51 : Nat) : Int) by unfold oddE; rw [ctz_one]; omega]
    generalize hK : (e + 1074).toNat = K at *
    rw [if_neg (by omega), join_high (by omega)]
    refine ⟨by omega, ?_⟩
    unfold Fp.mag
    rw [Fp.dB, if_neg (by omega), Nat.mul_mod_left, Nat.add_zero, Nat.mul_div_cancel _ (by decide), ← pow52, ← Nat.pow_add, show 52 + (K - 51 - 1) = K by omega]
theorem un_pos {r : Nat} (h : r < 9223372036854775808) : Fp.un Ieee.double r = Fp.mag Ieee.double r := by
  unfold Fp.un
  rw [sg_is (by omega), decide_eq_false (by omega), if_neg Bool.false_ne_true, Fp.rg64, Nat.mod_eq_of_lt h]
def lowB (a b : Nat) : Bool := decide ((Fp.un Ieee.double a).natAbs < 2 ^ (pExpD b + 1074).toNat)
def absB (x : Nat) : Nat := if Fp.un Ieee.double x < 0 then x - 9223372036854775808 else x
theorem sub63 {x : Nat} (h : 9223372036854775808 ≤ x) (hx : x < 18446744073709551616) (hf : x % 9223372036854775808 < 9218868437227405312) : x - 9223372036854775808 < 9223372036854775808 ∧ (x - 9223372036854775808) % 9223372036854775808 < 9218868437227405312 ∧ x - 9223372036854775808 = x % 9223372036854775808 := by omega
theorem absB_is {x : Nat} (hx : x < 18446744073709551616) (h : x % 9223372036854775808 < 9218868437227405312) : absB x < 18446744073709551616 ∧ absB x % 9223372036854775808 < 9218868437227405312 ∧ Fp.un Ieee.double (absB x) = (Fp.un Ieee.double x).natAbs := by
  unfold absB
  by_cases h0 : Fp.un Ieee.double x < 0
  · rw [if_pos h0]
    have hs := un_sign (x := x) (by omega)
    rw [decide_eq_true h0] at hs
    rw [sg_is hx] at hs
    have hge := of_decide_eq_true hs
    obtain ⟨k1, k2, k3⟩ := sub63 hge hx h
    refine ⟨Nat.lt_trans k1 (by decide), k2, ?_⟩
    rw [un_pos k1, un_abs, Fp.rg64, k3]
  · rw [if_neg h0]
    exact ⟨hx, h, (Int.natAbs_of_nonneg (Int.not_lt.1 h0)).symm⟩
theorem geq_low {a b : Nat} (ha : a < 18446744073709551616) (fa : a % 9223372036854775808 < 9218868437227405312) (fb : b % 9223372036854775808 < 9218868437227405312) :
    (FloatKind.f64.format.order (absB a) (madeD false 1 (pExpD b)) == some .gt || FloatKind.f64.format.order (absB a) (madeD false 1 (pExpD b)) == some .eq) = !lowB a b := by
  obtain ⟨h1, h2⟩ := last_is (P64.pExpD_range b).1 (pExp_hi fb)
  obtain ⟨_, k2, k3⟩ := absB_is ha fa
  rw [c_ge (by omega) (by rw [Nat.mod_eq_of_lt (by omega)]; omega), k3, un_pos (by omega), h2]
  unfold lowB
  generalize 2 ^ (pExpD b + 1074).toNat = P
  by_cases h : (Fp.un Ieee.double a).natAbs < P
  · rw [decide_eq_true h, decide_eq_false (by omega)]; rfl
  · rw [decide_eq_false h, decide_eq_true (by omega)]; rfl
theorem neg_flip {a : Nat} (ha : a < 9223372036854775808) : a ^^^ 2 ^ 63 = a + 9223372036854775808 := by
  have := Nat.two_pow_add_eq_or_of_lt (i := 63) (b := a) ha 1
  rw [Nat.mul_one] at this
  rw [show a + 9223372036854775808 = 2 ^ 63 + a by omega, this, Nat.xor_comm]
  apply Nat.eq_of_testBit_eq
  intro i
  rw [Nat.testBit_xor, Nat.testBit_or, Nat.testBit_two_pow]
  by_cases hi : 63 = i
  · subst hi
    rw [Nat.testBit_lt_two_pow ha]; simp
  · simp [hi]
theorem neg_float {x : Nat} (h : 9223372036854775808 ≤ x) (hx : x < 18446744073709551616) : Go.Op.negFloat .f64 x = x - 9223372036854775808 := by
  have g := neg_flip (a := x - 9223372036854775808) (by omega)
  rw [show x - 9223372036854775808 + 9223372036854775808 = x by omega] at g
  show x ^^^ 2 ^ 63 = _
  conv => lhs; rw [← g]
  rw [Nat.xor_assoc, Nat.xor_self, Nat.xor_zero]
theorem un_neg_ge {x : Nat} (hx : x < 18446744073709551616) (h0 : Fp.un Ieee.double x < 0) : 9223372036854775808 ≤ x := by
  have hs := un_sign (x := x) (by omega)
  rw [decide_eq_true h0, sg_is hx] at hs
  exact of_decide_eq_true hs
set_option maxHeartbeats 600000 in
theorem Eabs (x : Nat) (hx : x < 18446744073709551616) (h : x % 9223372036854775808 < 9218868437227405312) (w : World) : Calls Tryd.prog 33 #[.float .f64 x] w fun e w' => e = .returned (.float .f64 (absB x)) ∧ w = w' := by
  have h0 := c_lt (x := x) (y := 0) (by omega) (by decide)
  rw [show Fp.un Ieee.double 0 = 0 by rw [un_pos (by decide), Fp.mag_zero]; rfl] at h0
  unfold absB
  by_cases hn : Fp.un Ieee.double x < 0
  · rw [decide_eq_true hn] at h0
    rw [if_pos hn]
    have hf := neg_float (un_neg_ge hx hn) hx
    clear hn
    go_enter Tryd.func33, Tryd.ntmps33
    go_wp2
    go_ret
    exact ⟨by rw [← hf]; rfl, rfl⟩
  · rw [decide_eq_false hn] at h0
    rw [if_neg hn]
    clear hn
    go_enter Tryd.func33, Tryd.ntmps33
    go_wp2
    go_ret
    exact ⟨rfl, rfl⟩
set_option maxRecDepth 100000 in
set_option maxHeartbeats 600000 in
theorem Elast (b : Nat) (hb : b < 18446744073709551616) (w : World) (hT : Tab w) : Calls Tryd.prog 34 #[.float .f64 b] w fun e w' => e = .returned (.float .f64 (madeD false 1 (pExpD b))) ∧ Within w w' := by
  have HB := Lib.hid hb; have HT := Lib.hid hT; clear hb hT
  have CO := Lib.hid (fun w hT => Of_D false 1 (pExpD b) (by decide) w hT)
  have CP := Lib.hid (Parts_D b HB.out w HT.out)
  obtain ⟨e, he⟩ : ∃ e, e = pExpD b := ⟨_, rfl⟩
  rw [← he] at CO CP ⊢
  obtain ⟨r, hr⟩ : ∃ r, r = madeD false 1 e := ⟨_, rfl⟩
  obtain ⟨er, her⟩ : ∃ er, er = madeED 1 e := ⟨_, rfl⟩
  rw [← hr, ← her] at CO
  rw [← hr]
  clear hr her he
  go_enter Tryd.func34, Tryd.ntmps34
  go_wp2_with fail
  refine CP.out.mono ?_; rintro e1 w1 ⟨rfl, hb1⟩
  go_wp2_with fail
  refine (CO.out _ (HT.out.of (hb1.alloc _))).mono ?_; rintro e2 w2 ⟨rfl, hb2⟩
  go_wp2
  go_ret
  exact ⟨rfl, (hb1.alloc _).trans hb2⟩
end Go.Proofs.YtjmaggfddinbkaaDoor
end

section
namespace Go.Proofs.YtjmaggfddinbkaaDoor
open Go.RowKit
attribute [go_sem] firmAt firmUpon
section
variable {P : Program} {ops : Array Oper} {Q : Exit → Act → World → Prop} {S : World → Prop} {p k : Nat} {a : Act} {w : World} {t : Sch}
theorem sch_one_want {o : Oper} (ho : ops.toList[k]? = some o) (hg : Region.wanted o (yielded ops a.tmps) = true) (h : ∀ K : Act → World → Prop, (∀ a' w', (k < p → S w') → wpSch P ops (OnlyN Q) S p t a' w' → K a' w') → o.wp P a w K (OnlyN Q)) : wpSch P ops (OnlyN Q) S p (.one k t) a w := by
  show wpOp P ops (OnlyN Q) k _ a w
  unfold wpOp
  rw [Array.getElem?_toList] at ho
  simp only [ho]
  rw [if_pos hg]
  exact .inl (h _ fun a' w' hS hr => ⟨hS, hr⟩)
end
end Go.Proofs.YtjmaggfddinbkaaDoor
end

section
namespace Go.Proofs.YtjmaggfddinbkaaDoor
open Go.RowKit
section
variable {P : Program} {ops : Array Oper}
end
def okAt (l : List Nat) (i : Nat) : Bool := decide (l.getD i 0 % 9223372036854775808 ≠ 0) && (decide (i = 0) || lowB (l.getD (i - 1) 0) (l.getD i 0))
def isB (l : List Nat) : Bool := decide (l.length ≤ 64) && l.all finD && (List.range l.length).all (okAt l)
theorem isB_no {l : List Nat} {k : Nat} (hk : k < l.length) (h : okAt l k = false) : isB l = false := by
  unfold isB
  have : (List.range l.length).all (okAt l) = false := by
    rw [List.all_eq_false]
    exact ⟨k, List.mem_range.2 hk, by rw [h]; decide⟩
  rw [this, Bool.and_false]
theorem isB_yes {l : List Nat} (h1 : l.length ≤ 64) (h2 : l.all finD = true) (h3 : ∀ k, k < l.length → okAt l k = true) : isB l = true := by
  unfold isB
  rw [decide_eq_true h1, h2, List.all_eq_true.2 (fun k hk => h3 k (List.mem_range.1 hk))]; rfl
theorem isB_long {l : List Nat} (h : 64 < l.length) : isB l = false := by
  unfold isB
  rw [decide_eq_false (by omega)]; rfl
theorem isB_fin {l : List Nat} (h : l.all finD = false) : isB l = false := by
  unfold isB
  rw [h]; simp
theorem fin_at {l : List Nat} (hw : Words64 l) (h : l.all finD = true) {k : Nat} (hk : k < l.length) : l.getD k 0 % 9223372036854775808 < 9218868437227405312 := by
  have hm : l.getD k 0 ∈ l := by rw [List.getD, List.getElem?_eq_getElem hk]; exact List.getElem_mem hk
  have := List.all_eq_true.1 h _ hm
  rw [finD_is (hw _ hm)] at this
  exact of_decide_eq_true this
set_option maxRecDepth 100000 in
set_option maxHeartbeats 600000 in
theorem eis_long (A : Option Addr) (c : Nat) (es : List Nat) (hw : Words64 es) (hl : es.length ≤ 1152921504606846976) (h64 : 64 < es.length) (w : World) (hT : Tab w) (hr : SlAt w A (f64v es)) : Calls Tryd.prog 16 #[.slice A es.length c] w fun e w' => e = .returned (.bool false) ∧ Within w w' := by
  have d : decide ((es.length : Int) > 64) = true := decide_eq_true (by omega)
  clear hw hr hT
  go_enter Tryd.func16, Tryd.ntmps16
  go_wp2
  go_ret
  exact ⟨rfl, Within.refl _⟩
set_option maxRecDepth 100000 in
set_option maxHeartbeats 600000 in
theorem eis_fin (A : Option Addr) (c : Nat) (es : List Nat) (hw : Words64 es) (hl : es.length ≤ 1152921504606846976) (h64 : es.length ≤ 64) (hf : es.all finD = false) (w : World) (hT : Tab w) (hr : SlAt w A (f64v es)) : Calls Tryd.prog 16 #[.slice A es.length c] w fun e w' => e = .returned (.bool false) ∧ Within w w' := by
  have d : decide ((es.length : Int) > 64) = false := decide_eq_false (by omega)
  have CF := Lib.hid (Finite_any A c es hw hl w hr)
  rw [hf] at CF
  clear hw hr hT hf
  go_enter Tryd.func16, Tryd.ntmps16
  go_wp2_with fail
  refine CF.out.mono ?_; rintro e1 w1 ⟨rfl, hb1⟩
  go_wp2
  go_ret
  exact ⟨rfl, hb1⟩
set_option maxRecDepth 100000 in
set_option maxHeartbeats 600000 in
theorem eis_main (A : Option Addr) (c : Nat) (es : List Nat) (hw : Words64 es) (hl : es.length ≤ 1152921504606846976) (h64 : es.length ≤ 64) (hf : es.all finD = true) (w : World) (hT : Tab w) (hr : SlAt w A (f64v es)) : Calls Tryd.prog 16 #[.slice A es.length c] w fun e w' => e = .returned (.bool (isB es)) ∧ Within w w' := by
  have d : decide ((es.length : Int) > 64) = false := decide_eq_false (by omega)
  have CF := Lib.hid (Finite_any A c es hw hl w hr)
  rw [hf] at CF
  have HW := Lib.hid hw; have HR := Lib.hid hr; have HT := Lib.hid hT; have HF := Lib.hid hf; have H64 := Lib.hid h64; clear hw hr hT hf
  go_enter Tryd.func16, Tryd.ntmps16
  go_wp2_with fail
  refine CF.out.mono ?_; rintro e1 w1 ⟨rfl, hb1⟩
  go_wp2
  go_loopw [14] (fun iv wr => ∃ k : Nat, k ≤ es.length ∧ iv = .int .i64 (k : Int) ∧ (∀ j, j < k → okAt es j = true) ∧ Within w wr) (fun iv _ => es.length - (intOf iv).toNat)
  case atStart => exact ⟨0, Nat.zero_le _, rfl, fun j hj => absurd hj (Nat.not_lt_zero _), hb1⟩
  case round =>
    obtain ⟨k, hk, rfl, hok, hin⟩ := hrel
    have HOK := Lib.hid hok; clear hok
    by_cases hlt : k < es.length
    · obtain ⟨ad, hA, hblk, hc⟩ := (HR.out.of hin).at hlt
      have fx := fin_at HW.out HF.out hlt
      have hx64 := HW.out.at hlt
      obtain ⟨x, hx⟩ : ∃ x, x = es.getD k 0 := ⟨_, rfl⟩
      rw [← hx] at hc fx hx64
      by_cases h0 : x % 9223372036854775808 = 0
      · have hz : (FloatKind.f64.format.order x 0 == some .eq) = true := by rw [c_zero, decide_eq_true h0]
        have NO := Lib.hid (isB_no hlt (by unfold okAt; rw [← hx, decide_eq_false (by omega)]; rfl))
        subst hA
        have cx := hc
        clear hc fx hx64 hx h0
        go_wp2
        go_region
        go_wp2
        go_ret
        exact ⟨(by rw [NO.out]; first | done | rfl), (by repeat (first | with_reducible exact Within.refl _ | with_reducible assumption | with_reducible refine arW_within ?_ _ _ _ | with_reducible refine Within.alloc ?_ _ | with_reducible refine Within.drew ?_ | with_reducible refine Within.trans ?_ (by assumption)))⟩
      · have hz : (FloatKind.f64.format.order x 0 == some .eq) = false := by rw [c_zero, decide_eq_false h0]
        rcases k with _ | j
        · have OKN := Lib.hid (show ∀ j, j < 0 + 1 → okAt es j = true by
            intro j hj
            have : j = 0 := by omega
            subst this
            unfold okAt
            rw [← hx, decide_eq_true (by omega)]; rfl)
          subst hA
          have cx : wr.cell? ad = some (.float .f64 x) := hc
          clear hc fx hx64 hx h0
          go_wp2
          go_region
          go_wp2
          go_roundw
          case rel => exact ⟨0 + 1, hlt, by go_num, OKN.out, (by repeat (first | with_reducible exact Within.refl _ | with_reducible assumption | with_reducible refine arW_within ?_ _ _ _ | with_reducible refine Within.alloc ?_ _ | with_reducible refine Within.drew ?_ | with_reducible refine Within.trans ?_ (by assumption)))⟩
          case measure => simp [intOf]; omega
        · obtain ⟨ad', hA', _, hc'⟩ := (HR.out.of hin).at (k := j) (by omega)
          have ead : ad = ad' := by rw [hA] at hA'; injection hA' with h
          subst ead
          have fy := fin_at HW.out HF.out (k := j) (by omega)
          have hy64 := HW.out.at (k := j) (by omega)
          obtain ⟨y, hy⟩ : ∃ y, y = es.getD j 0 := ⟨_, rfl⟩
          rw [← hy] at hc' fy hy64
          have CA := Lib.hid (fun w => Eabs y hy64 fy w)
          have CL := Lib.hid (fun w hT => Elast x hx64 w hT)
          have hge := geq_low hy64 fy fx
          obtain ⟨a, ha⟩ : ∃ a, a = absB y := ⟨_, rfl⟩
          obtain ⟨r, hr⟩ : ∃ r, r = madeD false 1 (pExpD x) := ⟨_, rfl⟩
          rw [← ha] at CA hge
          rw [← hr] at CL hge
          clear ha hr
          have e9 : IntKind.i64.wrap (((j + 1 : Nat) : Int) - 1) = (j : Int) := by rw [IntWalk.i64_in _ (by omega)]; omega
          have e8 : decide (((j + 1 : Nat) : Int) > 0) = true := decide_eq_true (by omega)
          have e8' : decide ((j : Int) + 1 > 0) = true := decide_eq_true (by omega)
          have hTr : Tab wr := HT.out.of hin
          have HIN := Lib.hid hin; clear hin
          subst hA
          have cx := hc
          have cy := hc'
          clear hc hc' hA' fx fy hx64 hy64
          obtain ⟨k, hke⟩ : ∃ k, k = j + 1 := ⟨_, rfl⟩
          cases hlb : lowB y x
          · rw [hlb] at hge
            have NO := Lib.hid (isB_no hlt (by unfold okAt; rw [← hx, Nat.add_sub_cancel, ← hy, hlb, decide_eq_false (Nat.succ_ne_zero j)]; simp))
            clear hlb hx hy h0
            rw [← hke] at hlt cx e8 e9 ⊢
            have hjl : j < es.length := by omega
            have hk0 : 0 < k := by omega
            have HKE := Lib.hid hke; clear hke e8'
            go_wp2
            refine wp_region_schG (fun W => W.cell? (ad.add k) = some (.float .f64 x) ∧ W.cell? (ad.add j) = some (.float .f64 y) ∧ ad.block < W.heap.size ∧ Tab W ∧ Within w W) 22 (.firm 0 (.firm 1 (.firm 2 (.firm 3 (.firm 4 (.firm 5 (.firm 6 (.firm 7 (.firm 8 (.firm 9 (.firm 10 (.firm 11 (.firm 12 (.firm 13 (.firm 15 (.firm 16 (.firm 17 (.firm 18 (.one 14 (.one 19 (.firm 20 (.firm 21 (.one 22 .nil))))))))))))))))))))))) (by kernel_rfl) (by kernel_rfl) ⟨cx, cy, hblk, hTr, HIN.out⟩ ?_
            rintro w0 ⟨cx, cy, hblk, hTw, hw0⟩
            try simp only [Act.put, List.setIfInBounds_toArray, List.set_cons_zero, List.set_cons_succ]
            apply sch_firm rfl rfl (by repeat (first | with_reducible exact Within.refl _ | with_reducible assumption | with_reducible refine Within.alloc ?_ _ | with_reducible refine Within.drew ?_ | with_reducible refine Within.drewN ?_ _ | with_reducible refine Within.setCell ?_ (by first | (simp; done) | (simp; omega)) _ | with_reducible refine Within.trans ?_ (by assumption)))
            · intro wq hq
              have hcq := hq.cells
              have gx := (hq.cell (p := ad.add k) (by rw [add_block]; exact hblk)).trans cx
              have gxb := Nat.lt_of_lt_of_le hblk hq.size
              have gy := (hq.cell (p := ad.add j) (by rw [add_block]; exact hblk)).trans cy
              clear hq
              go_simp
              first | rfl | (trace_state; fail)
            try simp only [Act.put, List.setIfInBounds_toArray, List.set_cons_zero, List.set_cons_succ]
            apply sch_firm rfl rfl (by repeat (first | with_reducible exact Within.refl _ | with_reducible assumption | with_reducible refine Within.alloc ?_ _ | with_reducible refine Within.drew ?_ | with_reducible refine Within.drewN ?_ _ | with_reducible refine Within.setCell ?_ (by first | (simp; done) | (simp; omega)) _ | with_reducible refine Within.trans ?_ (by assumption)))
            · intro wq hq
              have hcq := hq.cells
              have gx := (hq.cell (p := ad.add k) (by rw [add_block]; exact hblk)).trans cx
              have gxb := Nat.lt_of_lt_of_le hblk hq.size
              have gy := (hq.cell (p := ad.add j) (by rw [add_block]; exact hblk)).trans cy
              clear hq
              go_simp
              first | rfl | (trace_state; fail)
            try simp only [Act.put, List.setIfInBounds_toArray, List.set_cons_zero, List.set_cons_succ]
            apply sch_firm rfl rfl (by repeat (first | with_reducible exact Within.refl _ | with_reducible assumption | with_reducible refine Within.alloc ?_ _ | with_reducible refine Within.drew ?_ | with_reducible refine Within.drewN ?_ _ | with_reducible refine Within.setCell ?_ (by first | (simp; done) | (simp; omega)) _ | with_reducible refine Within.trans ?_ (by assumption)))
            · intro wq hq
              have hcq := hq.cells
              have gx := (hq.cell (p := ad.add k) (by rw [add_block]; exact hblk)).trans cx
              have gxb := Nat.lt_of_lt_of_le hblk hq.size
              have gy := (hq.cell (p := ad.add j) (by rw [add_block]; exact hblk)).trans cy
              clear hq
              go_simp
              first | rfl | (trace_state; fail)
            try simp only [Act.put, List.setIfInBounds_toArray, List.set_cons_zero, List.set_cons_succ]
            apply sch_firm rfl rfl (by repeat (first | with_reducible exact Within.refl _ | with_reducible assumption | with_reducible refine Within.alloc ?_ _ | with_reducible refine Within.drew ?_ | with_reducible refine Within.drewN ?_ _ | with_reducible refine Within.setCell ?_ (by first | (simp; done) | (simp; omega)) _ | with_reducible refine Within.trans ?_ (by assumption)))
            · intro wq hq
              have hcq := hq.cells
              have gx := (hq.cell (p := ad.add k) (by rw [add_block]; exact hblk)).trans cx
              have gxb := Nat.lt_of_lt_of_le hblk hq.size
              have gy := (hq.cell (p := ad.add j) (by rw [add_block]; exact hblk)).trans cy
              clear hq
              go_simp
              first | rfl | (trace_state; fail)
            try simp only [Act.put, List.setIfInBounds_toArray, List.set_cons_zero, List.set_cons_succ]
            apply sch_firm rfl rfl (by repeat (first | with_reducible exact Within.refl _ | with_reducible assumption | with_reducible refine Within.alloc ?_ _ | with_reducible refine Within.drew ?_ | with_reducible refine Within.drewN ?_ _ | with_reducible refine Within.setCell ?_ (by first | (simp; done) | (simp; omega)) _ | with_reducible refine Within.trans ?_ (by assumption)))
            · intro wq hq
              have hcq := hq.cells
              have gx := (hq.cell (p := ad.add k) (by rw [add_block]; exact hblk)).trans cx
              have gxb := Nat.lt_of_lt_of_le hblk hq.size
              have gy := (hq.cell (p := ad.add j) (by rw [add_block]; exact hblk)).trans cy
              clear hq
              go_simp
              first | rfl | (trace_state; fail)
            try simp only [Act.put, List.setIfInBounds_toArray, List.set_cons_zero, List.set_cons_succ]
            apply sch_firm rfl rfl (by repeat (first | with_reducible exact Within.refl _ | with_reducible assumption | with_reducible refine Within.alloc ?_ _ | with_reducible refine Within.drew ?_ | with_reducible refine Within.drewN ?_ _ | with_reducible refine Within.setCell ?_ (by first | (simp; done) | (simp; omega)) _ | with_reducible refine Within.trans ?_ (by assumption)))
            · intro wq hq
              have hcq := hq.cells
              have gx := (hq.cell (p := ad.add k) (by rw [add_block]; exact hblk)).trans cx
              have gxb := Nat.lt_of_lt_of_le hblk hq.size
              have gy := (hq.cell (p := ad.add j) (by rw [add_block]; exact hblk)).trans cy
              clear hq
              go_simp
              first | rfl | (trace_state; fail)
            try simp only [Act.put, List.setIfInBounds_toArray, List.set_cons_zero, List.set_cons_succ]
            apply sch_want rfl (by first | rfl | decide | (simp [Region.wanted, yielded]; done) | (simp [Region.wanted, yielded]; assumption)) (by repeat (first | with_reducible exact Within.refl _ | with_reducible assumption | with_reducible refine Within.alloc ?_ _ | with_reducible refine Within.drew ?_ | with_reducible refine Within.drewN ?_ _ | with_reducible refine Within.setCell ?_ (by first | (simp; done) | (simp; omega)) _ | with_reducible refine Within.trans ?_ (by assumption)))
            · intro wq hq
              have hcq := hq.cells
              have gx := (hq.cell (p := ad.add k) (by rw [add_block]; exact hblk)).trans cx
              have gxb := Nat.lt_of_lt_of_le hblk hq.size
              have gy := (hq.cell (p := ad.add j) (by rw [add_block]; exact hblk)).trans cy
              clear hq
              go_simp
              first | rfl | (trace_state; fail)
            try simp only [Act.put, List.setIfInBounds_toArray, List.set_cons_zero, List.set_cons_succ]
            apply sch_want rfl (by first | rfl | decide | (simp [Region.wanted, yielded]; done) | (simp [Region.wanted, yielded]; assumption)) (by repeat (first | with_reducible exact Within.refl _ | with_reducible assumption | with_reducible refine Within.alloc ?_ _ | with_reducible refine Within.drew ?_ | with_reducible refine Within.drewN ?_ _ | with_reducible refine Within.setCell ?_ (by first | (simp; done) | (simp; omega)) _ | with_reducible refine Within.trans ?_ (by assumption)))
            · intro wq hq
              have hcq := hq.cells
              have gx := (hq.cell (p := ad.add k) (by rw [add_block]; exact hblk)).trans cx
              have gxb := Nat.lt_of_lt_of_le hblk hq.size
              have gy := (hq.cell (p := ad.add j) (by rw [add_block]; exact hblk)).trans cy
              clear hq
              go_simp
              first | rfl | (trace_state; fail)
            try simp only [Act.put, List.setIfInBounds_toArray, List.set_cons_zero, List.set_cons_succ]
            apply sch_want rfl (by first | rfl | decide | (simp [Region.wanted, yielded]; done) | (simp [Region.wanted, yielded]; assumption)) (by repeat (first | with_reducible exact Within.refl _ | with_reducible assumption | with_reducible refine Within.alloc ?_ _ | with_reducible refine Within.drew ?_ | with_reducible refine Within.drewN ?_ _ | with_reducible refine Within.setCell ?_ (by first | (simp; done) | (simp; omega)) _ | with_reducible refine Within.trans ?_ (by assumption)))
            · intro wq hq
              have hcq := hq.cells
              have gx := (hq.cell (p := ad.add k) (by rw [add_block]; exact hblk)).trans cx
              have gxb := Nat.lt_of_lt_of_le hblk hq.size
              have gy := (hq.cell (p := ad.add j) (by rw [add_block]; exact hblk)).trans cy
              clear hq
              go_simp
              first | rfl | (trace_state; fail)
            try simp only [Act.put, List.setIfInBounds_toArray, List.set_cons_zero, List.set_cons_succ]
            apply sch_want rfl (by first | rfl | decide | (simp [Region.wanted, yielded]; done) | (simp [Region.wanted, yielded]; assumption)) (by repeat (first | with_reducible exact Within.refl _ | with_reducible assumption | with_reducible refine Within.alloc ?_ _ | with_reducible refine Within.drew ?_ | with_reducible refine Within.drewN ?_ _ | with_reducible refine Within.setCell ?_ (by first | (simp; done) | (simp; omega)) _ | with_reducible refine Within.trans ?_ (by assumption)))
            · intro wq hq
              have hcq := hq.cells
              have gx := (hq.cell (p := ad.add k) (by rw [add_block]; exact hblk)).trans cx
              have gxb := Nat.lt_of_lt_of_le hblk hq.size
              have gy := (hq.cell (p := ad.add j) (by rw [add_block]; exact hblk)).trans cy
              clear hq
              go_simp
              first | rfl | (trace_state; fail)
            try simp only [Act.put, List.setIfInBounds_toArray, List.set_cons_zero, List.set_cons_succ]
            apply sch_want rfl (by first | rfl | decide | (simp [Region.wanted, yielded]; done) | (simp [Region.wanted, yielded]; assumption)) (by repeat (first | with_reducible exact Within.refl _ | with_reducible assumption | with_reducible refine Within.alloc ?_ _ | with_reducible refine Within.drew ?_ | with_reducible refine Within.drewN ?_ _ | with_reducible refine Within.setCell ?_ (by first | (simp; done) | (simp; omega)) _ | with_reducible refine Within.trans ?_ (by assumption)))
            · intro wq hq
              have hcq := hq.cells
              have gx := (hq.cell (p := ad.add k) (by rw [add_block]; exact hblk)).trans cx
              have gxb := Nat.lt_of_lt_of_le hblk hq.size
              have gy := (hq.cell (p := ad.add j) (by rw [add_block]; exact hblk)).trans cy
              clear hq
              go_simp
              first | rfl | (trace_state; fail)
            try simp only [Act.put, List.setIfInBounds_toArray, List.set_cons_zero, List.set_cons_succ]
            apply sch_want rfl (by first | rfl | decide | (simp [Region.wanted, yielded]; done) | (simp [Region.wanted, yielded]; assumption)) (by repeat (first | with_reducible exact Within.refl _ | with_reducible assumption | with_reducible refine Within.alloc ?_ _ | with_reducible refine Within.drew ?_ | with_reducible refine Within.drewN ?_ _ | with_reducible refine Within.setCell ?_ (by first | (simp; done) | (simp; omega)) _ | with_reducible refine Within.trans ?_ (by assumption)))
            · intro wq hq
              have hcq := hq.cells
              have gx := (hq.cell (p := ad.add k) (by rw [add_block]; exact hblk)).trans cx
              have gxb := Nat.lt_of_lt_of_le hblk hq.size
              have gy := (hq.cell (p := ad.add j) (by rw [add_block]; exact hblk)).trans cy
              clear hq
              go_simp
              first | rfl | (trace_state; fail)
            try simp only [Act.put, List.setIfInBounds_toArray, List.set_cons_zero, List.set_cons_succ]
            apply sch_want rfl (by first | rfl | decide | (simp [Region.wanted, yielded]; done) | (simp [Region.wanted, yielded]; assumption)) (by repeat (first | with_reducible exact Within.refl _ | with_reducible assumption | with_reducible refine Within.alloc ?_ _ | with_reducible refine Within.drew ?_ | with_reducible refine Within.drewN ?_ _ | with_reducible refine Within.setCell ?_ (by first | (simp; done) | (simp; omega)) _ | with_reducible refine Within.trans ?_ (by assumption)))
            · intro wq hq
              have hcq := hq.cells
              have gx := (hq.cell (p := ad.add k) (by rw [add_block]; exact hblk)).trans cx
              have gxb := Nat.lt_of_lt_of_le hblk hq.size
              have gy := (hq.cell (p := ad.add j) (by rw [add_block]; exact hblk)).trans cy
              clear hq
              go_simp
              first | rfl | (trace_state; fail)
            try simp only [Act.put, List.setIfInBounds_toArray, List.set_cons_zero, List.set_cons_succ]
            apply sch_want rfl (by first | rfl | decide | (simp [Region.wanted, yielded]; done) | (simp [Region.wanted, yielded]; assumption)) (by repeat (first | with_reducible exact Within.refl _ | with_reducible assumption | with_reducible refine Within.alloc ?_ _ | with_reducible refine Within.drew ?_ | with_reducible refine Within.drewN ?_ _ | with_reducible refine Within.setCell ?_ (by first | (simp; done) | (simp; omega)) _ | with_reducible refine Within.trans ?_ (by assumption)))
            · intro wq hq
              have hcq := hq.cells
              have gx := (hq.cell (p := ad.add k) (by rw [add_block]; exact hblk)).trans cx
              have gxb := Nat.lt_of_lt_of_le hblk hq.size
              have gy := (hq.cell (p := ad.add j) (by rw [add_block]; exact hblk)).trans cy
              clear hq
              go_simp
              first | rfl | (trace_state; fail)
            try simp only [Act.put, List.setIfInBounds_toArray, List.set_cons_zero, List.set_cons_succ]
            apply sch_want rfl (by first | rfl | decide | (simp [Region.wanted, yielded]; done) | (simp [Region.wanted, yielded]; assumption)) (by repeat (first | with_reducible exact Within.refl _ | with_reducible assumption | with_reducible refine Within.alloc ?_ _ | with_reducible refine Within.drew ?_ | with_reducible refine Within.drewN ?_ _ | with_reducible refine Within.setCell ?_ (by first | (simp; done) | (simp; omega)) _ | with_reducible refine Within.trans ?_ (by assumption)))
            · intro wq hq
              have hcq := hq.cells
              have gx := (hq.cell (p := ad.add k) (by rw [add_block]; exact hblk)).trans cx
              have gxb := Nat.lt_of_lt_of_le hblk hq.size
              have gy := (hq.cell (p := ad.add j) (by rw [add_block]; exact hblk)).trans cy
              clear hq
              go_simp
              first | rfl | (trace_state; fail)
            try simp only [Act.put, List.setIfInBounds_toArray, List.set_cons_zero, List.set_cons_succ]
            apply sch_want rfl (by first | rfl | decide | (simp [Region.wanted, yielded]; done) | (simp [Region.wanted, yielded]; assumption)) (by repeat (first | with_reducible exact Within.refl _ | with_reducible assumption | with_reducible refine Within.alloc ?_ _ | with_reducible refine Within.drew ?_ | with_reducible refine Within.drewN ?_ _ | with_reducible refine Within.setCell ?_ (by first | (simp; done) | (simp; omega)) _ | with_reducible refine Within.trans ?_ (by assumption)))
            · intro wq hq
              have hcq := hq.cells
              have gx := (hq.cell (p := ad.add k) (by rw [add_block]; exact hblk)).trans cx
              have gxb := Nat.lt_of_lt_of_le hblk hq.size
              have gy := (hq.cell (p := ad.add j) (by rw [add_block]; exact hblk)).trans cy
              clear hq
              go_simp
              first | rfl | (trace_state; fail)
            try simp only [Act.put, List.setIfInBounds_toArray, List.set_cons_zero, List.set_cons_succ]
            apply sch_want rfl (by first | rfl | decide | (simp [Region.wanted, yielded]; done) | (simp [Region.wanted, yielded]; assumption)) (by repeat (first | with_reducible exact Within.refl _ | with_reducible assumption | with_reducible refine Within.alloc ?_ _ | with_reducible refine Within.drew ?_ | with_reducible refine Within.drewN ?_ _ | with_reducible refine Within.setCell ?_ (by first | (simp; done) | (simp; omega)) _ | with_reducible refine Within.trans ?_ (by assumption)))
            · intro wq hq
              have hcq := hq.cells
              have gx := (hq.cell (p := ad.add k) (by rw [add_block]; exact hblk)).trans cx
              have gxb := Nat.lt_of_lt_of_le hblk hq.size
              have gy := (hq.cell (p := ad.add j) (by rw [add_block]; exact hblk)).trans cy
              clear hq
              go_simp
              first | rfl | (trace_state; fail)
            try simp only [Act.put, List.setIfInBounds_toArray, List.set_cons_zero, List.set_cons_succ]
            apply sch_want rfl (by first | rfl | decide | (simp [Region.wanted, yielded]; done) | (simp [Region.wanted, yielded]; assumption)) (by repeat (first | with_reducible exact Within.refl _ | with_reducible assumption | with_reducible refine Within.alloc ?_ _ | with_reducible refine Within.drew ?_ | with_reducible refine Within.drewN ?_ _ | with_reducible refine Within.setCell ?_ (by first | (simp; done) | (simp; omega)) _ | with_reducible refine Within.trans ?_ (by assumption)))
            · intro wq hq
              have hcq := hq.cells
              have gx := (hq.cell (p := ad.add k) (by rw [add_block]; exact hblk)).trans cx
              have gxb := Nat.lt_of_lt_of_le hblk hq.size
              have gy := (hq.cell (p := ad.add j) (by rw [add_block]; exact hblk)).trans cy
              clear hq
              go_simp
              first | rfl | (trace_state; fail)
            try simp only [Act.put, List.setIfInBounds_toArray, List.set_cons_zero, List.set_cons_succ]
            refine sch_one_want rfl (by first | rfl | decide | (simp [Region.wanted, yielded]; done) | (simp [Region.wanted, yielded]; assumption)) (fun K hK => ?_)
            go_simp
            refine (CA.out _).mono ?_; rintro e5 w5 ⟨rfl, rfl⟩
            refine hK _ _ (fun _ => (by repeat (first | with_reducible exact Within.refl _ | with_reducible assumption | with_reducible refine Within.alloc ?_ _ | with_reducible refine Within.drew ?_ | with_reducible refine Within.drewN ?_ _ | with_reducible refine Within.setCell ?_ (by first | (simp; done) | (simp; omega)) _ | with_reducible refine Within.trans ?_ (by assumption)))) ?_
            clear hK K
            try simp only [Act.put, List.setIfInBounds_toArray, List.set_cons_zero, List.set_cons_succ]
            refine sch_one_want rfl (by first | rfl | decide | (simp [Region.wanted, yielded]; done) | (simp [Region.wanted, yielded]; assumption)) (fun K hK => ?_)
            go_simp
            refine (CL.out _ (hTw.of (by repeat (first | with_reducible exact Within.refl _ | with_reducible assumption | with_reducible refine Within.drew ?_ | with_reducible refine Within.trans ?_ (by assumption))))).mono ?_; rintro e6 w6 ⟨rfl, hb6⟩
            refine hK _ _ (fun _ => (by repeat (first | with_reducible exact Within.refl _ | with_reducible assumption | with_reducible refine Within.alloc ?_ _ | with_reducible refine Within.drew ?_ | with_reducible refine Within.drewN ?_ _ | with_reducible refine Within.setCell ?_ (by first | (simp; done) | (simp; omega)) _ | with_reducible refine Within.trans ?_ (by assumption)))) ?_
            clear hK K
            try simp only [Act.put, List.setIfInBounds_toArray, List.set_cons_zero, List.set_cons_succ]
            apply sch_want rfl (by first | rfl | decide | (simp [Region.wanted, yielded]; done) | (simp [Region.wanted, yielded]; assumption)) (by repeat (first | with_reducible exact Within.refl _ | with_reducible assumption | with_reducible refine Within.alloc ?_ _ | with_reducible refine Within.drew ?_ | with_reducible refine Within.drewN ?_ _ | with_reducible refine Within.setCell ?_ (by first | (simp; done) | (simp; omega)) _ | with_reducible refine Within.trans ?_ (by assumption)))
            · intro wq hq
              have hcq := hq.cells
              have gx := (hq.cell (p := ad.add k) (by rw [add_block]; exact hblk)).trans cx
              have gxb := Nat.lt_of_lt_of_le hblk hq.size
              have gy := (hq.cell (p := ad.add j) (by rw [add_block]; exact hblk)).trans cy
              clear hq
              go_simp
              first | rfl | (trace_state; fail)
            try simp only [Act.put, List.setIfInBounds_toArray, List.set_cons_zero, List.set_cons_succ]
            apply sch_want rfl (by first | rfl | decide | (simp [Region.wanted, yielded]; done) | (simp [Region.wanted, yielded]; assumption)) (by repeat (first | with_reducible exact Within.refl _ | with_reducible assumption | with_reducible refine Within.alloc ?_ _ | with_reducible refine Within.drew ?_ | with_reducible refine Within.drewN ?_ _ | with_reducible refine Within.setCell ?_ (by first | (simp; done) | (simp; omega)) _ | with_reducible refine Within.trans ?_ (by assumption)))
            · intro wq hq
              have hcq := hq.cells
              have gx := (hq.cell (p := ad.add k) (by rw [add_block]; exact hblk)).trans cx
              have gxb := Nat.lt_of_lt_of_le hblk hq.size
              have gy := (hq.cell (p := ad.add j) (by rw [add_block]; exact hblk)).trans cy
              clear hq
              go_simp
              first | rfl | (trace_state; fail)
            try simp only [Act.put, List.setIfInBounds_toArray, List.set_cons_zero, List.set_cons_succ]
            refine sch_one rfl rfl (fun K hK => ?_)
            go_simp
            refine hK _ _ (fun h => absurd h (by decide)) ?_
            clear hK K
            try simp only [Act.put, List.setIfInBounds_toArray, List.set_cons_zero, List.set_cons_succ]
            refine sch_nil ?_
            go_wp2
            go_ret
            exact ⟨(by rw [NO.out]; first | done | rfl), hw0.drew.trans hb6⟩
          · rw [hlb] at hge
            have OKN := Lib.hid (show ∀ i, i < j + 1 + 1 → okAt es i = true by
              intro i hi
              rcases Nat.lt_or_ge i (j + 1) with h | h
              · exact HOK.out i h
              · have : i = j + 1 := by omega
                subst this
                unfold okAt
                rw [← hx, Nat.add_sub_cancel, ← hy, hlb, decide_eq_true (by omega)]; simp)
            clear hlb hx hy h0
            rw [← hke] at hlt cx e8 e9 OKN ⊢
            have hjl : j < es.length := by omega
            have hk0 : 0 < k := by omega
            have HKE := Lib.hid hke; clear hke e8'
            go_wp2
            refine wp_region_schG (fun W => W.cell? (ad.add k) = some (.float .f64 x) ∧ W.cell? (ad.add j) = some (.float .f64 y) ∧ ad.block < W.heap.size ∧ Tab W ∧ Within w W) 22 (.firm 0 (.firm 1 (.firm 2 (.firm 3 (.firm 4 (.firm 5 (.firm 6 (.firm 7 (.firm 8 (.firm 9 (.firm 10 (.firm 11 (.firm 12 (.firm 13 (.firm 15 (.firm 16 (.firm 17 (.firm 18 (.one 14 (.one 19 (.firm 20 (.firm 21 (.one 22 .nil))))))))))))))))))))))) (by kernel_rfl) (by kernel_rfl) ⟨cx, cy, hblk, hTr, HIN.out⟩ ?_
            rintro w0 ⟨cx, cy, hblk, hTw, hw0⟩
            try simp only [Act.put, List.setIfInBounds_toArray, List.set_cons_zero, List.set_cons_succ]
            apply sch_firm rfl rfl (by repeat (first | with_reducible exact Within.refl _ | with_reducible assumption | with_reducible refine Within.alloc ?_ _ | with_reducible refine Within.drew ?_ | with_reducible refine Within.drewN ?_ _ | with_reducible refine Within.setCell ?_ (by first | (simp; done) | (simp; omega)) _ | with_reducible refine Within.trans ?_ (by assumption)))
            · intro wq hq
              have hcq := hq.cells
              have gx := (hq.cell (p := ad.add k) (by rw [add_block]; exact hblk)).trans cx
              have gxb := Nat.lt_of_lt_of_le hblk hq.size
              have gy := (hq.cell (p := ad.add j) (by rw [add_block]; exact hblk)).trans cy
              clear hq
              go_simp
              first | rfl | (trace_state; fail)
            try simp only [Act.put, List.setIfInBounds_toArray, List.set_cons_zero, List.set_cons_succ]
            apply sch_firm rfl rfl (by repeat (first | with_reducible exact Within.refl _ | with_reducible assumption | with_reducible refine Within.alloc ?_ _ | with_reducible refine Within.drew ?_ | with_reducible refine Within.drewN ?_ _ | with_reducible refine Within.setCell ?_ (by first | (simp; done) | (simp; omega)) _ | with_reducible refine Within.trans ?_ (by assumption)))
            · intro wq hq
              have hcq := hq.cells
              have gx := (hq.cell (p := ad.add k) (by rw [add_block]; exact hblk)).trans cx
              have gxb := Nat.lt_of_lt_of_le hblk hq.size
              have gy := (hq.cell (p := ad.add j) (by rw [add_block]; exact hblk)).trans cy
              clear hq
              go_simp
              first | rfl | (trace_state; fail)
            try simp only [Act.put, List.setIfInBounds_toArray, List.set_cons_zero, List.set_cons_succ]
            apply sch_firm rfl rfl (by repeat (first | with_reducible exact Within.refl _ | with_reducible assumption | with_reducible refine Within.alloc ?_ _ | with_reducible refine Within.drew ?_ | with_reducible refine Within.drewN ?_ _ | with_reducible refine Within.setCell ?_ (by first | (simp; done) | (simp; omega)) _ | with_reducible refine Within.trans ?_ (by assumption)))
            · intro wq hq
              have hcq := hq.cells
              have gx := (hq.cell (p := ad.add k) (by rw [add_block]; exact hblk)).trans cx
              have gxb := Nat.lt_of_lt_of_le hblk hq.size
              have gy := (hq.cell (p := ad.add j) (by rw [add_block]; exact hblk)).trans cy
              clear hq
              go_simp
              first | rfl | (trace_state; fail)
            try simp only [Act.put, List.setIfInBounds_toArray, List.set_cons_zero, List.set_cons_succ]
            apply sch_firm rfl rfl (by repeat (first | with_reducible exact Within.refl _ | with_reducible assumption | with_reducible refine Within.alloc ?_ _ | with_reducible refine Within.drew ?_ | with_reducible refine Within.drewN ?_ _ | with_reducible refine Within.setCell ?_ (by first | (simp; done) | (simp; omega)) _ | with_reducible refine Within.trans ?_ (by assumption)))
            · intro wq hq
              have hcq := hq.cells
              have gx := (hq.cell (p := ad.add k) (by rw [add_block]; exact hblk)).trans cx
              have gxb := Nat.lt_of_lt_of_le hblk hq.size
              have gy := (hq.cell (p := ad.add j) (by rw [add_block]; exact hblk)).trans cy
              clear hq
              go_simp
              first | rfl | (trace_state; fail)
            try simp only [Act.put, List.setIfInBounds_toArray, List.set_cons_zero, List.set_cons_succ]
            apply sch_firm rfl rfl (by repeat (first | with_reducible exact Within.refl _ | with_reducible assumption | with_reducible refine Within.alloc ?_ _ | with_reducible refine Within.drew ?_ | with_reducible refine Within.drewN ?_ _ | with_reducible refine Within.setCell ?_ (by first | (simp; done) | (simp; omega)) _ | with_reducible refine Within.trans ?_ (by assumption)))
            · intro wq hq
              have hcq := hq.cells
              have gx := (hq.cell (p := ad.add k) (by rw [add_block]; exact hblk)).trans cx
              have gxb := Nat.lt_of_lt_of_le hblk hq.size
              have gy := (hq.cell (p := ad.add j) (by rw [add_block]; exact hblk)).trans cy
              clear hq
              go_simp
              first | rfl | (trace_state; fail)
            try simp only [Act.put, List.setIfInBounds_toArray, List.set_cons_zero, List.set_cons_succ]
            apply sch_firm rfl rfl (by repeat (first | with_reducible exact Within.refl _ | with_reducible assumption | with_reducible refine Within.alloc ?_ _ | with_reducible refine Within.drew ?_ | with_reducible refine Within.drewN ?_ _ | with_reducible refine Within.setCell ?_ (by first | (simp; done) | (simp; omega)) _ | with_reducible refine Within.trans ?_ (by assumption)))
            · intro wq hq
              have hcq := hq.cells
              have gx := (hq.cell (p := ad.add k) (by rw [add_block]; exact hblk)).trans cx
              have gxb := Nat.lt_of_lt_of_le hblk hq.size
              have gy := (hq.cell (p := ad.add j) (by rw [add_block]; exact hblk)).trans cy
              clear hq
              go_simp
              first | rfl | (trace_state; fail)
            try simp only [Act.put, List.setIfInBounds_toArray, List.set_cons_zero, List.set_cons_succ]
            apply sch_want rfl (by first | rfl | decide | (simp [Region.wanted, yielded]; done) | (simp [Region.wanted, yielded]; assumption)) (by repeat (first | with_reducible exact Within.refl _ | with_reducible assumption | with_reducible refine Within.alloc ?_ _ | with_reducible refine Within.drew ?_ | with_reducible refine Within.drewN ?_ _ | with_reducible refine Within.setCell ?_ (by first | (simp; done) | (simp; omega)) _ | with_reducible refine Within.trans ?_ (by assumption)))
            · intro wq hq
              have hcq := hq.cells
              have gx := (hq.cell (p := ad.add k) (by rw [add_block]; exact hblk)).trans cx
              have gxb := Nat.lt_of_lt_of_le hblk hq.size
              have gy := (hq.cell (p := ad.add j) (by rw [add_block]; exact hblk)).trans cy
              clear hq
              go_simp
              first | rfl | (trace_state; fail)
            try simp only [Act.put, List.setIfInBounds_toArray, List.set_cons_zero, List.set_cons_succ]
            apply sch_want rfl (by first | rfl | decide | (simp [Region.wanted, yielded]; done) | (simp [Region.wanted, yielded]; assumption)) (by repeat (first | with_reducible exact Within.refl _ | with_reducible assumption | with_reducible refine Within.alloc ?_ _ | with_reducible refine Within.drew ?_ | with_reducible refine Within.drewN ?_ _ | with_reducible refine Within.setCell ?_ (by first | (simp; done) | (simp; omega)) _ | with_reducible refine Within.trans ?_ (by assumption)))
            · intro wq hq
              have hcq := hq.cells
              have gx := (hq.cell (p := ad.add k) (by rw [add_block]; exact hblk)).trans cx
              have gxb := Nat.lt_of_lt_of_le hblk hq.size
              have gy := (hq.cell (p := ad.add j) (by rw [add_block]; exact hblk)).trans cy
              clear hq
              go_simp
              first | rfl | (trace_state; fail)
            try simp only [Act.put, List.setIfInBounds_toArray, List.set_cons_zero, List.set_cons_succ]
            apply sch_want rfl (by first | rfl | decide | (simp [Region.wanted, yielded]; done) | (simp [Region.wanted, yielded]; assumption)) (by repeat (first | with_reducible exact Within.refl _ | with_reducible assumption | with_reducible refine Within.alloc ?_ _ | with_reducible refine Within.drew ?_ | with_reducible refine Within.drewN ?_ _ | with_reducible refine Within.setCell ?_ (by first | (simp; done) | (simp; omega)) _ | with_reducible refine Within.trans ?_ (by assumption)))
            · intro wq hq
              have hcq := hq.cells
              have gx := (hq.cell (p := ad.add k) (by rw [add_block]; exact hblk)).trans cx
              have gxb := Nat.lt_of_lt_of_le hblk hq.size
              have gy := (hq.cell (p := ad.add j) (by rw [add_block]; exact hblk)).trans cy
              clear hq
              go_simp
              first | rfl | (trace_state; fail)
            try simp only [Act.put, List.setIfInBounds_toArray, List.set_cons_zero, List.set_cons_succ]
            apply sch_want rfl (by first | rfl | decide | (simp [Region.wanted, yielded]; done) | (simp [Region.wanted, yielded]; assumption)) (by repeat (first | with_reducible exact Within.refl _ | with_reducible assumption | with_reducible refine Within.alloc ?_ _ | with_reducible refine Within.drew ?_ | with_reducible refine Within.drewN ?_ _ | with_reducible refine Within.setCell ?_ (by first | (simp; done) | (simp; omega)) _ | with_reducible refine Within.trans ?_ (by assumption)))
            · intro wq hq
              have hcq := hq.cells
              have gx := (hq.cell (p := ad.add k) (by rw [add_block]; exact hblk)).trans cx
              have gxb := Nat.lt_of_lt_of_le hblk hq.size
              have gy := (hq.cell (p := ad.add j) (by rw [add_block]; exact hblk)).trans cy
              clear hq
              go_simp
              first | rfl | (trace_state; fail)
            try simp only [Act.put, List.setIfInBounds_toArray, List.set_cons_zero, List.set_cons_succ]
            apply sch_want rfl (by first | rfl | decide | (simp [Region.wanted, yielded]; done) | (simp [Region.wanted, yielded]; assumption)) (by repeat (first | with_reducible exact Within.refl _ | with_reducible assumption | with_reducible refine Within.alloc ?_ _ | with_reducible refine Within.drew ?_ | with_reducible refine Within.drewN ?_ _ | with_reducible refine Within.setCell ?_ (by first | (simp; done) | (simp; omega)) _ | with_reducible refine Within.trans ?_ (by assumption)))
            · intro wq hq
              have hcq := hq.cells
              have gx := (hq.cell (p := ad.add k) (by rw [add_block]; exact hblk)).trans cx
              have gxb := Nat.lt_of_lt_of_le hblk hq.size
              have gy := (hq.cell (p := ad.add j) (by rw [add_block]; exact hblk)).trans cy
              clear hq
              go_simp
              first | rfl | (trace_state; fail)
            try simp only [Act.put, List.setIfInBounds_toArray, List.set_cons_zero, List.set_cons_succ]
            apply sch_want rfl (by first | rfl | decide | (simp [Region.wanted, yielded]; done) | (simp [Region.wanted, yielded]; assumption)) (by repeat (first | with_reducible exact Within.refl _ | with_reducible assumption | with_reducible refine Within.alloc ?_ _ | with_reducible refine Within.drew ?_ | with_reducible refine Within.drewN ?_ _ | with_reducible refine Within.setCell ?_ (by first | (simp; done) | (simp; omega)) _ | with_reducible refine Within.trans ?_ (by assumption)))
            · intro wq hq
              have hcq := hq.cells
              have gx := (hq.cell (p := ad.add k) (by rw [add_block]; exact hblk)).trans cx
              have gxb := Nat.lt_of_lt_of_le hblk hq.size
              have gy := (hq.cell (p := ad.add j) (by rw [add_block]; exact hblk)).trans cy
              clear hq
              go_simp
              first | rfl | (trace_state; fail)
            try simp only [Act.put, List.setIfInBounds_toArray, List.set_cons_zero, List.set_cons_succ]
            apply sch_want rfl (by first | rfl | decide | (simp [Region.wanted, yielded]; done) | (simp [Region.wanted, yielded]; assumption)) (by repeat (first | with_reducible exact Within.refl _ | with_reducible assumption | with_reducible refine Within.alloc ?_ _ | with_reducible refine Within.drew ?_ | with_reducible refine Within.drewN ?_ _ | with_reducible refine Within.setCell ?_ (by first | (simp; done) | (simp; omega)) _ | with_reducible refine Within.trans ?_ (by assumption)))
            · intro wq hq
              have hcq := hq.cells
              have gx := (hq.cell (p := ad.add k) (by rw [add_block]; exact hblk)).trans cx
              have gxb := Nat.lt_of_lt_of_le hblk hq.size
              have gy := (hq.cell (p := ad.add j) (by rw [add_block]; exact hblk)).trans cy
              clear hq
              go_simp
              first | rfl | (trace_state; fail)
            try simp only [Act.put, List.setIfInBounds_toArray, List.set_cons_zero, List.set_cons_succ]
            apply sch_want rfl (by first | rfl | decide | (simp [Region.wanted, yielded]; done) | (simp [Region.wanted, yielded]; assumption)) (by repeat (first | with_reducible exact Within.refl _ | with_reducible assumption | with_reducible refine Within.alloc ?_ _ | with_reducible refine Within.drew ?_ | with_reducible refine Within.drewN ?_ _ | with_reducible refine Within.setCell ?_ (by first | (simp; done) | (simp; omega)) _ | with_reducible refine Within.trans ?_ (by assumption)))
            · intro wq hq
              have hcq := hq.cells
              have gx := (hq.cell (p := ad.add k) (by rw [add_block]; exact hblk)).trans cx
              have gxb := Nat.lt_of_lt_of_le hblk hq.size
              have gy := (hq.cell (p := ad.add j) (by rw [add_block]; exact hblk)).trans cy
              clear hq
              go_simp
              first | rfl | (trace_state; fail)
            try simp only [Act.put, List.setIfInBounds_toArray, List.set_cons_zero, List.set_cons_succ]
            apply sch_want rfl (by first | rfl | decide | (simp [Region.wanted, yielded]; done) | (simp [Region.wanted, yielded]; assumption)) (by repeat (first | with_reducible exact Within.refl _ | with_reducible assumption | with_reducible refine Within.alloc ?_ _ | with_reducible refine Within.drew ?_ | with_reducible refine Within.drewN ?_ _ | with_reducible refine Within.setCell ?_ (by first | (simp; done) | (simp; omega)) _ | with_reducible refine Within.trans ?_ (by assumption)))
            · intro wq hq
              have hcq := hq.cells
              have gx := (hq.cell (p := ad.add k) (by rw [add_block]; exact hblk)).trans cx
              have gxb := Nat.lt_of_lt_of_le hblk hq.size
              have gy := (hq.cell (p := ad.add j) (by rw [add_block]; exact hblk)).trans cy
              clear hq
              go_simp
              first | rfl | (trace_state; fail)
            try simp only [Act.put, List.setIfInBounds_toArray, List.set_cons_zero, List.set_cons_succ]
            apply sch_want rfl (by first | rfl | decide | (simp [Region.wanted, yielded]; done) | (simp [Region.wanted, yielded]; assumption)) (by repeat (first | with_reducible exact Within.refl _ | with_reducible assumption | with_reducible refine Within.alloc ?_ _ | with_reducible refine Within.drew ?_ | with_reducible refine Within.drewN ?_ _ | with_reducible refine Within.setCell ?_ (by first | (simp; done) | (simp; omega)) _ | with_reducible refine Within.trans ?_ (by assumption)))
            · intro wq hq
              have hcq := hq.cells
              have gx := (hq.cell (p := ad.add k) (by rw [add_block]; exact hblk)).trans cx
              have gxb := Nat.lt_of_lt_of_le hblk hq.size
              have gy := (hq.cell (p := ad.add j) (by rw [add_block]; exact hblk)).trans cy
              clear hq
              go_simp
              first | rfl | (trace_state; fail)
            try simp only [Act.put, List.setIfInBounds_toArray, List.set_cons_zero, List.set_cons_succ]
            apply sch_want rfl (by first | rfl | decide | (simp [Region.wanted, yielded]; done) | (simp [Region.wanted, yielded]; assumption)) (by repeat (first | with_reducible exact Within.refl _ | with_reducible assumption | with_reducible refine Within.alloc ?_ _ | with_reducible refine Within.drew ?_ | with_reducible refine Within.drewN ?_ _ | with_reducible refine Within.setCell ?_ (by first | (simp; done) | (simp; omega)) _ | with_reducible refine Within.trans ?_ (by assumption)))
            · intro wq hq
              have hcq := hq.cells
              have gx := (hq.cell (p := ad.add k) (by rw [add_block]; exact hblk)).trans cx
              have gxb := Nat.lt_of_lt_of_le hblk hq.size
              have gy := (hq.cell (p := ad.add j) (by rw [add_block]; exact hblk)).trans cy
              clear hq
              go_simp
              first | rfl | (trace_state; fail)
            try simp only [Act.put, List.setIfInBounds_toArray, List.set_cons_zero, List.set_cons_succ]
            apply sch_want rfl (by first | rfl | decide | (simp [Region.wanted, yielded]; done) | (simp [Region.wanted, yielded]; assumption)) (by repeat (first | with_reducible exact Within.refl _ | with_reducible assumption | with_reducible refine Within.alloc ?_ _ | with_reducible refine Within.drew ?_ | with_reducible refine Within.drewN ?_ _ | with_reducible refine Within.setCell ?_ (by first | (simp; done) | (simp; omega)) _ | with_reducible refine Within.trans ?_ (by assumption)))
            · intro wq hq
              have hcq := hq.cells
              have gx := (hq.cell (p := ad.add k) (by rw [add_block]; exact hblk)).trans cx
              have gxb := Nat.lt_of_lt_of_le hblk hq.size
              have gy := (hq.cell (p := ad.add j) (by rw [add_block]; exact hblk)).trans cy
              clear hq
              go_simp
              first | rfl | (trace_state; fail)
            try simp only [Act.put, List.setIfInBounds_toArray, List.set_cons_zero, List.set_cons_succ]
            refine sch_one_want rfl (by first | rfl | decide | (simp [Region.wanted, yielded]; done) | (simp [Region.wanted, yielded]; assumption)) (fun K hK => ?_)
            go_simp
            refine (CA.out _).mono ?_; rintro e5 w5 ⟨rfl, rfl⟩
            refine hK _ _ (fun _ => (by repeat (first | with_reducible exact Within.refl _ | with_reducible assumption | with_reducible refine Within.alloc ?_ _ | with_reducible refine Within.drew ?_ | with_reducible refine Within.drewN ?_ _ | with_reducible refine Within.setCell ?_ (by first | (simp; done) | (simp; omega)) _ | with_reducible refine Within.trans ?_ (by assumption)))) ?_
            clear hK K
            try simp only [Act.put, List.setIfInBounds_toArray, List.set_cons_zero, List.set_cons_succ]
            refine sch_one_want rfl (by first | rfl | decide | (simp [Region.wanted, yielded]; done) | (simp [Region.wanted, yielded]; assumption)) (fun K hK => ?_)
            go_simp
            refine (CL.out _ (hTw.of (by repeat (first | with_reducible exact Within.refl _ | with_reducible assumption | with_reducible refine Within.drew ?_ | with_reducible refine Within.trans ?_ (by assumption))))).mono ?_; rintro e6 w6 ⟨rfl, hb6⟩
            refine hK _ _ (fun _ => (by repeat (first | with_reducible exact Within.refl _ | with_reducible assumption | with_reducible refine Within.alloc ?_ _ | with_reducible refine Within.drew ?_ | with_reducible refine Within.drewN ?_ _ | with_reducible refine Within.setCell ?_ (by first | (simp; done) | (simp; omega)) _ | with_reducible refine Within.trans ?_ (by assumption)))) ?_
            clear hK K
            try simp only [Act.put, List.setIfInBounds_toArray, List.set_cons_zero, List.set_cons_succ]
            apply sch_want rfl (by first | rfl | decide | (simp [Region.wanted, yielded]; done) | (simp [Region.wanted, yielded]; assumption)) (by repeat (first | with_reducible exact Within.refl _ | with_reducible assumption | with_reducible refine Within.alloc ?_ _ | with_reducible refine Within.drew ?_ | with_reducible refine Within.drewN ?_ _ | with_reducible refine Within.setCell ?_ (by first | (simp; done) | (simp; omega)) _ | with_reducible refine Within.trans ?_ (by assumption)))
            · intro wq hq
              have hcq := hq.cells
              have gx := (hq.cell (p := ad.add k) (by rw [add_block]; exact hblk)).trans cx
              have gxb := Nat.lt_of_lt_of_le hblk hq.size
              have gy := (hq.cell (p := ad.add j) (by rw [add_block]; exact hblk)).trans cy
              clear hq
              go_simp
              first | rfl | (trace_state; fail)
            try simp only [Act.put, List.setIfInBounds_toArray, List.set_cons_zero, List.set_cons_succ]
            apply sch_want rfl (by first | rfl | decide | (simp [Region.wanted, yielded]; done) | (simp [Region.wanted, yielded]; assumption)) (by repeat (first | with_reducible exact Within.refl _ | with_reducible assumption | with_reducible refine Within.alloc ?_ _ | with_reducible refine Within.drew ?_ | with_reducible refine Within.drewN ?_ _ | with_reducible refine Within.setCell ?_ (by first | (simp; done) | (simp; omega)) _ | with_reducible refine Within.trans ?_ (by assumption)))
            · intro wq hq
              have hcq := hq.cells
              have gx := (hq.cell (p := ad.add k) (by rw [add_block]; exact hblk)).trans cx
              have gxb := Nat.lt_of_lt_of_le hblk hq.size
              have gy := (hq.cell (p := ad.add j) (by rw [add_block]; exact hblk)).trans cy
              clear hq
              go_simp
              first | rfl | (trace_state; fail)
            try simp only [Act.put, List.setIfInBounds_toArray, List.set_cons_zero, List.set_cons_succ]
            refine sch_one rfl rfl (fun K hK => ?_)
            go_simp
            refine hK _ _ (fun h => absurd h (by decide)) ?_
            clear hK K
            try simp only [Act.put, List.setIfInBounds_toArray, List.set_cons_zero, List.set_cons_succ]
            refine sch_nil ?_
            have hw4 : Within w w6 := hw0.drew.trans hb6
            clear hw0
            go_wp2
            go_roundw
            case rel => exact ⟨k + 1, hlt, by go_num, OKN.out, hw4⟩
            case measure => simp [intOf]; omega
    · obtain rfl : k = es.length := by omega
      have YES := Lib.hid (isB_yes H64.out HF.out HOK.out)
      go_wp2
      go_ret
      exact ⟨(by rw [YES.out]; first | done | rfl), hin⟩
theorem eis_any (A : Option Addr) (c : Nat) (es : List Nat) (hw : Words64 es) (hl : es.length ≤ 1152921504606846976) (w : World) (hT : Tab w) (hr : SlAt w A (f64v es)) : Calls Tryd.prog 16 #[.slice A es.length c] w fun e w' => e = .returned (.bool (isB es)) ∧ Within w w' := by
  by_cases h64 : es.length ≤ 64
  · cases hf : es.all finD
    · rw [isB_fin hf]; exact eis_fin A c es hw hl h64 hf w hT hr
    · exact eis_main A c es hw hl h64 hf w hT hr
  · rw [isB_long (by omega)]; exact eis_long A c es hw hl (by omega) w hT hr
end Go.Proofs.YtjmaggfddinbkaaDoor
end
