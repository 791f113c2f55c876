/- What the law's walk rests on, part 6: contracts of functions and plain facts. -/
import Derived.Test.YtpmjlaiafgbjgaaGreatDoorRows
import Derived.WalkKit
import Derived.WalkSpells
import Derived.WalkLawsBesides
import Derived.BigQuiet
import Derived.Lib.Hide
import Ieee.Arith
import Derived.Lib.TrailingZeros
import Derived.Lib.BitFns
import Derived.Lib.Strings
import Derived.Lib.Slices
import Derived.Lib.Small
import Derived.Lib.Walk
import Derived.OwnWalk
import Derived.Maps.AppendAt
import Derived.Laws.OwnMore
import Derived.Deep.AppendLies
import Derived.Deep.Draws
import Derived.OrdersHeld
import Derived.StillTail
import Derived.Deep.RegionHeld3
import Derived.Deep.DeepCutAuto
import Derived.IntWalk
import Derived.Maps.Range
import Derived.Maps.RangeWalk
import Derived.Laws.BytesArg
import Derived.Laws.Strings
import Derived.Lib.SlBytesConst
import Derived.RangeFuncNested
import Derived.RangeFuncBound
import Derived.RangeFuncCalls
import Derived.RangeFuncLeaves
import Derived.OwnWalkIn
import Derived.Shelf.Abstract
import Derived.Shelf.RegionOpen
import Derived.TacticsInMore
import Derived.LoopNIn
import Derived.LoopIn
import Derived.RangeFuncBox
import Derived.Laws.IdiomStrings
import Derived.ProofKit
import Derived.OpenShut
import Derived.ShutString
import Derived.ChangeOld
import Derived.ChangeSlices
import Derived.Below
import Derived.Carry
import Derived.SizedLaws
import Derived.Deep.DeepHandedRow
import Derived.Deep.Strs
import Derived.Lib.LaidTab
import Derived.Lib.SmallJoins
import Derived.Deep.Slices
import Derived.Test.YtpmjlaiafgbjgaaGreatDoorZDoes5
set_option linter.unusedVariables false
set_option linter.unusedSimpArgs false
section
namespace Go.Proofs.YtpmjlaiafgbjgaaGreatDoor
open Go.RowKit
set_option maxRecDepth 100000 in
set_option maxHeartbeats 1000000 in
theorem copied_big (k : Int) (A : Option Addr) (c : Nat) (l : List Nat) (hl : l.length ≤ 140737488355328) (w : World) (hr : SlAt w A (u8v l)) : Calls Tryz.prog 8 #[.agg #[.int .i64 k, .slice A l.length c]] w fun e w' => ∃ v, e = .returned (.agg #[.int .i64 k, v]) ∧ OwnB w' w.heap.size v l ∧ Within w w' := by
  obtain ⟨W0, hW0⟩ : ∃ W0, W0 = (w.alloc (.cells #[.int .i64 k, .slice A l.length c] 30)).alloc (.cells #[.int .i64 0, .slice none 0 0] 30) := ⟨_, rfl⟩
  have k0 : W0.cell? ⟨w.heap.size, 0, none⟩ = some (.int .i64 k) := by rw [hW0]; simp
  have k1 : W0.cell? ⟨w.heap.size, 1, none⟩ = some (.slice A l.length c) := by rw [hW0]; simp
  have z0 : W0.cell? ⟨w.heap.size + 1, 0, none⟩ = some (.int .i64 0) := by rw [hW0]; simp
  have z1 : W0.cell? ⟨w.heap.size + 1, 1, none⟩ = some (.slice none 0 0) := by rw [hW0]; simp
  have zf : ∀ o, W0.frozen? ⟨w.heap.size + 1, o, none⟩ = false := fun o => by rw [hW0, show w.heap.size + 1 = (w.alloc (.cells #[.int .i64 k, .slice A l.length c] 30)).heap.size by simp]; exact World.frozen?_alloc_new _ _ _ _
  have kb : w.heap.size < W0.heap.size := by rw [hW0]; simp; omega
  have zb : w.heap.size + 1 < W0.heap.size := by rw [hW0]; simp
  have hww : Within w W0 := by rw [hW0]; exact ((Within.refl w).alloc _).alloc _
  have HWW := Lib.hid hww; have HS := Lib.hid (hr.of hww); clear hww hr
  go_enter Tryz.func8, Tryz.ntmps8
  go_wp2_with fail
  rw [← hW0]
  clear hW0
  refine wp_region_schG (fun W => W.cell? ⟨w.heap.size, 0, none⟩ = some (.int .i64 k) ∧ W.cell? ⟨w.heap.size, 1, none⟩ = some (.slice A l.length c) ∧ (∀ o, W.frozen? ⟨w.heap.size + 1, o, none⟩ = false) ∧ W.cell? ⟨w.heap.size + 1, 0, none⟩ = some (.int .i64 0) ∧ W.cell? ⟨w.heap.size + 1, 1, none⟩ = some (.slice none 0 0) ∧ w.heap.size < W.heap.size ∧ w.heap.size + 1 < W.heap.size ∧ W = W0) 7 (.firm 0 (.firm 1 (.firm 3 (.firm 4 (.one 2 (.one 5 (.firm 6 (.one 7 .nil)))))))) (by kernel_rfl) (by kernel_rfl) ⟨k0, k1, zf, z0, z1, kb, zb, rfl⟩ ?_
  rintro w0 ⟨k0, k1, zf, z0, z1, kb, zb, rfl⟩
  try simp only [Act.put, List.setIfInBounds_toArray, List.set_cons_zero, List.set_cons_succ]
  iterate 4
    apply sch_firm rfl rfl (by repeat (first | with_reducible exact Within.refl _ | with_reducible assumption | with_reducible refine Within.alloc ?_ _ | with_reducible refine Within.drew ?_ | with_reducible refine Within.drewN ?_ _ | with_reducible refine Within.setCell ?_ (by first | (simp; done) | (simp; omega)) _ | with_reducible refine Within.trans ?_ (by assumption)))
    · intro wq hq
      have hcq := hq.cells
      clear hq
      go_simp
      rfl
    try simp only [Act.put, List.setIfInBounds_toArray, List.set_cons_zero, List.set_cons_succ]
  refine sch_one rfl rfl (fun K hK => ?_)
  go_simp
  refine hK _ _ (fun _ => (by repeat (first | with_reducible exact Within.refl _ | with_reducible assumption | with_reducible refine Within.alloc ?_ _ | with_reducible refine Within.drew ?_ | with_reducible refine Within.drewN ?_ _ | with_reducible refine Within.setCell ?_ (by first | (simp; done) | (simp; omega)) _ | with_reducible refine Within.trans ?_ (by assumption)))) ?_
  clear hK K
  try simp only [Act.put, List.setIfInBounds_toArray, List.set_cons_zero, List.set_cons_succ]
  refine sch_one rfl rfl (fun K hK => ?_)
  have hin2 := ((Within.refl w0).drew).alloc (.cells #[] 5)
  obtain ⟨v5, w5, hrun, hO5, hB5⟩ := run_app_u8 _ w0.heap.size _ [] l (OwnB.lit w0.drew w0.heap.size (Nat.le_refl _) [] (by simp)) A c (HS.out.of hin2) (by rw [List.length_nil]; omega) hin2.size
  rw [List.nil_append] at hO5
  have hX5 : Within w0 w5 := Below.trans hin2 hB5
  have RUN := Lib.hid hrun; have HO5 := Lib.hid hO5; clear hrun hO5 hB5 hin2
  refine op_append_run (.tmp 5) (.tmp 7) 28 rfl _ _ rfl rfl RUN.out ?_
  obtain ⟨A5, c5, rfl, hx5, hy5, hz5⟩ := HO5.out.form
  clear hx5 hy5 hz5
  refine hK _ _ (fun _ => (by repeat (first | with_reducible exact Within.refl _ | with_reducible assumption | with_reducible refine Within.alloc ?_ _ | with_reducible refine Within.drew ?_ | with_reducible refine Within.drewN ?_ _ | with_reducible refine Within.setCell ?_ (by first | (simp; done) | (simp; omega)) _ | with_reducible refine Within.trans ?_ (by assumption)))) ?_
  clear hK K
  try simp only [Act.put, List.setIfInBounds_toArray, List.set_cons_zero, List.set_cons_succ]
  apply sch_firm rfl rfl (by repeat (first | with_reducible exact Within.refl _ | with_reducible assumption | with_reducible refine Within.alloc ?_ _ | with_reducible refine Within.drew ?_ | with_reducible refine Within.drewN ?_ _ | with_reducible refine Within.setCell ?_ (by first | (simp; done) | (simp; omega)) _ | with_reducible refine Within.trans ?_ (by assumption)))
  · intro wq hq
    have hcq := hq.cells
    clear hq
    go_simp
    rfl
  try simp only [Act.put, List.setIfInBounds_toArray, List.set_cons_zero, List.set_cons_succ]
  refine sch_one rfl rfl (fun K hK => ?_)
  have f5 : w5.frozen? ⟨w.heap.size + 1, 0, none⟩ = false := (hX5.frozens _ _ zb).trans (zf 0)
  have f6 : w5.frozen? ⟨w.heap.size + 1, 1, none⟩ = false := (hX5.frozens _ _ zb).trans (zf 1)
  have y0 := (hX5.cells _ 0 zb).trans z0
  have y1 := (hX5.cells _ 1 zb).trans z1
  have zb5 := Nat.lt_of_lt_of_le zb hX5.size
  go_simp
  refine hK _ _ (fun h => absurd h (by decide)) ?_
  clear hK K
  try simp only [Act.put, List.setIfInBounds_toArray, List.set_cons_zero, List.set_cons_succ]
  refine sch_nil ?_
  go_wp2
  obtain ⟨n5, hn5⟩ : ∃ n5, n5 = l.length := ⟨_, rfl⟩
  refine bodyPost_ret (v := .agg #[.int .i64 k, .slice A5 l.length c5]) (by simp [results, Tryz.results8, go_sem, y0, y1, f5, f6]) rfl ⟨_, rfl, ?_, ?_⟩
  · exact ownsRow_keep (ownsRow_keep (HO5.out.less HWW.out.size) (fun j hj => Below.heap_setCell _ _ _ _ (by have := (HO5.out.lt j hj).1; simp; omega))) (fun j hj => Below.heap_setCell _ _ _ _ (by have := (HO5.out.lt j hj).1; simp; omega))
  · exact (((HWW.out.trans hX5).setCell (by simp) _).setCell (by simp) _)
end Go.Proofs.YtpmjlaiafgbjgaaGreatDoor
end

section
namespace Go.Proofs.YtpmjlaiafgbjgaaGreatDoor
open Go.RowKit
def toRec (r : IRec) : Rec := ⟨r.1.toNat, r.2⟩
def appendV (rs : List Rec) (r : IRec) : List Rec × Int × Int :=
  if checkR pf r.1 r.2 ≠ 0 then (rs, 0, checkR pf r.1 r.2) else if 1048576 ≤ rs.length then (rs, 0, 2) else (rs ++ [toRec r], (rs.length : Int), 0)
theorem appendV_bad {rs : List Rec} {r : IRec} (h : checkR pf r.1 r.2 ≠ 0) : appendV rs r = (rs, 0, checkR pf r.1 r.2) := if_pos h
theorem appendV_full {rs : List Rec} {r : IRec} (h : checkR pf r.1 r.2 = 0) (h2 : 1048576 ≤ rs.length) : appendV rs r = (rs, 0, 2) := by unfold appendV; rw [if_neg (by rw [h]; decide), if_pos h2]
theorem appendV_good {rs : List Rec} {r : IRec} (h : checkR pf r.1 r.2 = 0) (h2 : rs.length < 1048576) : appendV rs r = (rs ++ [toRec r], (rs.length : Int), 0) := by unfold appendV; rw [if_neg (by rw [h]; decide), if_neg (by omega)]
theorem toRec_ok {r : IRec} (h : checkR pf r.1 r.2 = 0) (hb : Bytes r.2) : ((toRec r).kind : Int) = r.1 ∧ (toRec r).Ok pf := by
  have hk : 1 ≤ r.1 ∧ r.1 ≤ 3 := by
    by_cases h1 : r.1 < 1 ∨ 3 < r.1
    · rw [checkR_kind h1] at h; cases h
    · omega
  have e : ((toRec r).kind : Int) = r.1 := by show ((r.1.toNat : Nat) : Int) = r.1; omega
  exact ⟨e, ⟨by rw [e]; exact h, hb⟩⟩
theorem appendV_ok {rs : List Rec} {r : IRec} (h : ∀ q ∈ rs, q.Ok pf) (hn : rs.length ≤ 1048576) (hb : Bytes r.2) : (∀ q ∈ (appendV rs r).1, q.Ok pf) ∧ (appendV rs r).1.length ≤ 1048576 := by
  by_cases h1 : checkR pf r.1 r.2 = 0
  · by_cases h2 : 1048576 ≤ rs.length
    · rw [appendV_full h1 h2]; exact ⟨h, hn⟩
    · rw [appendV_good h1 (by omega)]
      refine ⟨fun q hq => ?_, by show (rs ++ [toRec r]).length ≤ _; rw [List.length_append]; simp; omega⟩
      rcases List.mem_append.1 hq with hq | hq
      · exact h q hq
      · rw [List.mem_singleton] at hq; rw [hq]; exact (toRec_ok h1 hb).2
  · rw [appendV_bad h1]; exact ⟨h, hn⟩
theorem Append_any (S : Nat → Prop) (xb : Nat) (rs : List Rec) (hok : ∀ q ∈ rs, q.Ok pf) (D : Option Addr) (cd : Nat) (k : Int) (d : List Nat) (hb : Bytes d) (hcd : d.length ≤ cd) (hdl : d.length ≤ 1152921504606846976) (w : World) (hT : FmS w) (hP : LogS w S xb rs) (hr : SlAt w D (u8v d)) : Calls Tryz.prog 9 #[.pointer (some ⟨xb, 0, none⟩), .agg #[.int .i64 k, .slice D d.length cd]] w fun e w' => e = .returned (.tuple #[.int .i64 (appendV rs (k, d)).2.1, .int .i64 (appendV rs (k, d)).2.2]) ∧ LogS w' (More S w w') xb (appendV rs (k, d)).1 ∧ ButS S w w' := by
  by_cases h1 : checkR pf k d = 0
  · by_cases h2 : 1048576 ≤ rs.length
    · rw [appendV_full (r := (k, d)) h1 h2]
      refine (Append_full S xb rs hok D cd d h2 k h1 hb hcd hdl w hT hP hr).mono ?_
      rintro e w' ⟨he, hi⟩
      exact ⟨he, (hP.of hi).mono fun j hj => .inl hj, ButS.in_ hi⟩
    · rw [appendV_good (r := (k, d)) h1 (by omega)]
      obtain ⟨e1, _⟩ := toRec_ok (r := (k, d)) h1 hb
      have e1 : ((k.toNat : Nat) : Int) = k := e1
      have h := Append_good S xb rs hok D cd d (by omega) k.toNat (by rw [e1]; exact h1) hb hcd hdl w hT hP hr
      rw [e1] at h
      exact h
  · rw [appendV_bad (r := (k, d)) h1]
    refine (Append_bad S xb rs hok D cd d k h1 hb hcd hdl w hT hP hr).mono ?_
    rintro e w' ⟨he, hi⟩
    exact ⟨he, (hP.of hi).mono fun j hj => .inl hj, ButS.in_ hi⟩
theorem RecAt.cells' {w : World} {D : Nat → Prop} {A : Option Addr} {ls : List IRec} (h : RecAt w D A ls) {i : Nat} {r : IRec} (hi : ls[i]? = some r) : ∃ ad Dv cv, A = some ad ∧ ad.block < w.heap.size ∧ w.cell? (ad.add (i * 2)) = some (.int .i64 r.1) ∧ w.cell? ⟨(ad.add (i * 2)).block, (ad.add (i * 2)).off + 1, none⟩ = some (.slice Dv r.2.length cv) ∧ r.2.length ≤ cv ∧ SlAt w Dv (u8v r.2) ∧ Bytes r.2 := by
  obtain ⟨ad, Dv, cv, h1, h2, _, h4, h5, h6, h7, _, h9⟩ := h i r hi
  refine ⟨ad, Dv, cv, h1, h2, h4, ?_, h6, h7, h9⟩
  rw [← add_add, add_plain' _ (by decide)] at h5
  exact h5
end Go.Proofs.YtpmjlaiafgbjgaaGreatDoor
end

section
namespace Go.Proofs.YtpmjlaiafgbjgaaGreatDoor
open Go.RowKit
def markAt : Nat → List Rec → Int × Bool
  | 0, _ => (0, false)
  | n + 1, rs => if (rs.getD n ⟨0, []⟩).kind = 2 then ((n : Int), true) else markAt n rs
def markV (rs : List Rec) : Int × Bool := markAt rs.length rs
theorem RlogS.fresh (w : World) (E : TypeId) : RlogS (w.alloc (.cells #[.slice none 0 0] E)) (fun j => j = w.heap.size) w.heap.size [] := by
  refine ⟨rfl, by simp, [], .slice none 0 0, rfl, by simp, ⟨World.ownsRow_nil _ _ _ _, fun p hp => by cases hp⟩, fun j hj => ?_⟩
  rcases hj with hj | ⟨p, hp, _⟩
  · cases hj
  · cases hp
set_option maxRecDepth 100000 in
set_option maxHeartbeats 1000000 in
theorem Rnew_any (w : World) : Calls Tryz.prog 6 #[] w fun e w' => e = .returned (.pointer (some ⟨w.heap.size, 0, none⟩)) ∧ w' = w.alloc (.cells #[.slice none 0 0] 77) := by
  go_enter Tryz.func6, Tryz.ntmps6
  go_wp2
  go_ret
  exact ⟨rfl, rfl⟩
set_option maxRecDepth 100000 in
set_option maxHeartbeats 1000000 in
theorem Rmark_log (S : Nat → Prop) (xb : Nat) (rs : List Rec) (hle : rs.length ≤ 1048576) (w : World) (hP : RlogS w S xb rs) : Calls Tryz.prog 39 #[.pointer (some ⟨xb, 0, none⟩)] w fun e w' => e = .returned (.tuple #[.int .i64 (markV rs).1, .bool (markV rs).2]) ∧ w' = w := by
  have hxb := hP.lt
  obtain ⟨A, c, h1, hcl, hRB, _⟩ := hP.list
  have hmk : markV rs = markAt rs.length rs := rfl
  obtain ⟨mv, hmv⟩ : ∃ m, markV rs = m := ⟨_, rfl⟩
  rw [hmv] at hmk ⊢
  have HM := Lib.hid hmk.symm; clear hmk hmv
  have HB := Lib.hid hRB; clear hRB hP
  obtain ⟨n, hn⟩ : ∃ n, rs.length = n := ⟨_, rfl⟩
  rw [hn] at h1 hle HM hcl
  have HN := Lib.hid hn; clear hn
  go_enter Tryz.func39, Tryz.ntmps39
  go_wp2
  go_loopw [4] (fun iv wr => ∃ j : Nat, j ≤ n ∧ iv = .int .i64 ((j : Int) - 1) ∧ markAt j rs = mv ∧ wr = w) (fun iv _ => (intOf iv + 1).toNat)
  case atStart => exact ⟨n, Nat.le_refl _, rfl, HM.out, rfl⟩
  case round =>
    obtain ⟨j, hj, rfl, hm, rfl⟩ := hrel
    cases j with
    | zero =>
      have hmv : mv = (0, false) := hm.symm
      subst hmv
      have e0 : ((0 : Nat) : Int) - 1 = -1 := rfl
      rw [e0]
      clear hm e0
      go_wp2
      go_ret2
      exact ⟨rfl, rfl⟩
    | succ j =>
      have e1 : ((j + 1 : Nat) : Int) - 1 = (j : Int) := by omega
      rw [e1]
      have hlt : j < rs.length := by rw [HN.out]; omega
      obtain ⟨r, hr⟩ : ∃ r, rs[j]? = some r := ⟨_, List.getElem?_eq_getElem hlt⟩
      obtain ⟨g, Dv, cv, rfl, hg, y0, y1⟩ := HB.out j r.i (by rw [List.getElem?_map, hr]; rfl)
      have x0 : wr.cell? ⟨g, j * 2, none⟩ = some (.int .i64 (r.kind : Int)) := y0
      clear y0 y1
      have hgd : rs.getD j ⟨0, []⟩ = r := by rw [List.getD_eq_getElem?_getD, hr]; rfl
      have hm : (if r.kind = 2 then ((j : Int), true) else markAt j rs) = mv := by rw [← hm]; show _ = if (rs.getD j ⟨0, []⟩).kind = 2 then _ else _; rw [hgd]
      have b1 : (j : Int) < (n : Int) := by omega
      have hwr : decide ((0 : Int) ≤ (j : Int)) = true := decide_eq_true (by omega)
      have wj : IntKind.i64.wrap ((j : Int) - 1) = (j : Int) - 1 := by rw [IntKind.wrap_i64]; omega
      by_cases hk : r.kind = 2
      · rw [if_pos hk] at hm
        subst hm
        have hk' : ((r.kind : Int) == 2) = true := by rw [hk]; rfl
        have hkp : (r.kind : Int) = 2 := by rw [hk]; rfl
        clear hgd hr hlt e1
        go_wp2
        go_ret2
        exact ⟨rfl, rfl⟩
      · rw [if_neg hk] at hm
        have HMM := Lib.hid hm; clear hm hgd hr hlt e1
        have hk' : ((r.kind : Int) == 2) = false := by rw [beq_eq_false_iff_ne]; omega
        have hkp : ¬ (r.kind : Int) = 2 := by omega
        go_wp2
        go_roundw
        case rel => exact ⟨j, by omega, by go_num, HMM.out, by first | rfl | trivial⟩
        case measure => simp [intOf] <;> omega
set_option maxRecDepth 100000 in
set_option maxHeartbeats 1000000 in
theorem Rappend_bad (S : Nat → Prop) (yb : Nat) (rs : List Rec) (D : Option Addr) (cd : Nat) (d : List Nat) (k : Int) (hbad : checkR pf k d ≠ 0) (hb : Bytes d) (hcd : d.length ≤ cd) (hdl : d.length ≤ 140737488355328) (w : World) (hP : RlogS w S yb rs) (hr : SlAt w D (u8v d)) : Calls Tryz.prog 10 #[.pointer (some ⟨yb, 0, none⟩), .agg #[.int .i64 k, .slice D d.length cd]] w fun e w' => e = .returned (.tuple #[.int .i64 0, .int .i64 (checkR pf k d)]) ∧ Within w w' := by
  have hyb := hP.lt
  obtain ⟨Al, cl, h1, hcl, _⟩ := hP.list
  obtain ⟨W0, hW0⟩ : ∃ W0, W0 = w.alloc (.cells #[.int .i64 k, .slice D d.length cd] 30) := ⟨_, rfl⟩
  have hI0 : Within w W0 := by rw [hW0]; exact (Within.refl w).alloc _
  have z0 : W0.cell? ⟨w.heap.size, 0, none⟩ = some (.int .i64 k) := by rw [hW0]; simp
  have z1 : W0.cell? ⟨w.heap.size, 1, none⟩ = some (.slice D d.length cd) := by rw [hW0]; simp
  have zs : w.heap.size < W0.heap.size := by rw [hW0]; simp
  have q1 := (hI0.cells _ _ hyb).trans h1
  have hyb0 := Nat.lt_of_lt_of_le hyb hI0.size
  have JC := Lib.hid (Rjcheck_any k D cd d hb hcd (by omega) W0 (hr.of hI0))
  obtain ⟨ck, hck⟩ : ∃ ck, checkR pf k d = ck := ⟨_, rfl⟩
  rw [hck] at JC hbad ⊢
  have v1 : (ck != 0) = true := bne_iff_ne.2 hbad
  obtain ⟨n, hn⟩ : ∃ n, rs.length = n := ⟨_, rfl⟩
  rw [hn] at h1 q1 hcl
  obtain ⟨nd, hnd⟩ : ∃ n, d.length = n := ⟨_, rfl⟩
  rw [hnd] at JC hW0 z1 hcd ⊢
  have HI0 := Lib.hid hI0; clear hn hnd hck hP hr hb hdl
  go_enter Tryz.func10, Tryz.ntmps10
  go_wp2_with fail
  rw [← hW0]
  clear hW0
  refine JC.out.mono ?_; rintro e1 w1 ⟨rfl, h2⟩
  go_wp2
  go_ret2
  exact ⟨rfl, HI0.out.trans h2⟩
set_option maxRecDepth 100000 in
set_option maxHeartbeats 1000000 in
theorem Rappend_full (S : Nat → Prop) (yb : Nat) (rs : List Rec) (D : Option Addr) (cd : Nat) (d : List Nat) (hfull : 1048576 ≤ rs.length) (k : Int) (hgood : checkR pf k d = 0) (hb : Bytes d) (hcd : d.length ≤ cd) (hdl : d.length ≤ 140737488355328) (w : World) (hP : RlogS w S yb rs) (hr : SlAt w D (u8v d)) : Calls Tryz.prog 10 #[.pointer (some ⟨yb, 0, none⟩), .agg #[.int .i64 k, .slice D d.length cd]] w fun e w' => e = .returned (.tuple #[.int .i64 0, .int .i64 2]) ∧ Within w w' := by
  have hyb := hP.lt
  obtain ⟨Al, cl, h1, hcl, _⟩ := hP.list
  obtain ⟨W0, hW0⟩ : ∃ W0, W0 = w.alloc (.cells #[.int .i64 k, .slice D d.length cd] 30) := ⟨_, rfl⟩
  have hI0 : Within w W0 := by rw [hW0]; exact (Within.refl w).alloc _
  have z0 : W0.cell? ⟨w.heap.size, 0, none⟩ = some (.int .i64 k) := by rw [hW0]; simp
  have z1 : W0.cell? ⟨w.heap.size, 1, none⟩ = some (.slice D d.length cd) := by rw [hW0]; simp
  have zs : w.heap.size < W0.heap.size := by rw [hW0]; simp
  have q1 := (hI0.cells _ _ hyb).trans h1
  have hyb0 := Nat.lt_of_lt_of_le hyb hI0.size
  have JC := Lib.hid (Rjcheck_any k D cd d hb hcd (by omega) W0 (hr.of hI0))
  rw [hgood] at JC
  have v1 : decide ((1048576 : Int) ≤ (rs.length : Int)) = true := decide_eq_true (by omega)
  obtain ⟨n, hn⟩ : ∃ n, rs.length = n := ⟨_, rfl⟩
  rw [hn] at h1 q1 hcl v1
  obtain ⟨nd, hnd⟩ : ∃ n, d.length = n := ⟨_, rfl⟩
  rw [hnd] at JC hW0 z1 hcd ⊢
  have HI0 := Lib.hid hI0; clear hn hnd hP hr hb hdl hgood hfull
  go_enter Tryz.func10, Tryz.ntmps10
  go_wp2_with fail
  rw [← hW0]
  clear hW0
  refine JC.out.mono ?_; rintro e1 w1 ⟨rfl, h2⟩
  have q1' := (h2.cells _ _ hyb0).trans q1
  have hyb1 := Nat.lt_of_lt_of_le hyb0 h2.size
  go_wp2
  go_ret2
  exact ⟨rfl, HI0.out.trans h2⟩
set_option maxRecDepth 100000 in
set_option maxHeartbeats 1000000 in
theorem Rappend_good (S : Nat → Prop) (yb : Nat) (rs : List Rec) (D : Option Addr) (cd : Nat) (d : List Nat) (hfull : rs.length < 1048576) (k : Nat) (hgood : checkR pf (k : Int) d = 0) (hb : Bytes d) (hcd : d.length ≤ cd) (hdl : d.length ≤ 140737488355328) (w : World) (hP : RlogS w S yb rs) (hr : SlAt w D (u8v d)) : Calls Tryz.prog 10 #[.pointer (some ⟨yb, 0, none⟩), .agg #[.int .i64 (k : Int), .slice D d.length cd]] w fun e w' => e = .returned (.tuple #[.int .i64 (rs.length : Int), .int .i64 0]) ∧ RlogS w' (More S w w') yb (rs ++ [⟨k, d⟩]) ∧ ButS S w w' := by
  have hyb := hP.lt
  obtain ⟨hS, hfz, ps, lv, hps, p1, hRP, hown⟩ := hP
  obtain ⟨Al, cl, rfl, hcl, _, _, _⟩ := RecsO.at (rs := rs.map Rec.i) ⟨ps, hps, hRP⟩
  have hpl : ps.length = rs.length := by have := congrArg List.length hps; rwa [List.length_map, List.length_map] at this
  rw [List.length_map] at hcl p1 hRP hown
  obtain ⟨W0, hW0⟩ : ∃ W0, W0 = w.alloc (.cells #[.int .i64 (k : Int), .slice D d.length cd] 30) := ⟨_, rfl⟩
  have hI0 : Within w W0 := by rw [hW0]; exact (Within.refl w).alloc _
  have z0 : W0.cell? ⟨w.heap.size, 0, none⟩ = some (.int .i64 (k : Int)) := by rw [hW0]; simp
  have z1 : W0.cell? ⟨w.heap.size, 1, none⟩ = some (.slice D d.length cd) := by rw [hW0]; simp
  have zs : w.heap.size < W0.heap.size := by rw [hW0]; simp
  have q1 := (hI0.cells _ _ hyb).trans p1
  have hyb0 := Nat.lt_of_lt_of_le hyb hI0.size
  have JC := Lib.hid (Rjcheck_any (k : Int) D cd d hb hcd (by omega) W0 (hr.of hI0))
  rw [hgood] at JC
  have v1 : decide ((1048576 : Int) ≤ (rs.length : Int)) = false := decide_eq_false (by omega)
  have HDAT := Lib.hid (fun W (h : Within w W) => hr.of h)
  obtain ⟨n, hn⟩ : ∃ n, rs.length = n := ⟨_, rfl⟩
  rw [hn] at p1 q1 hcl v1 hfull hRP hown hpl ⊢
  have HN := Lib.hid hn
  obtain ⟨nd, hnd⟩ : ∃ n, d.length = n := ⟨_, rfl⟩
  rw [hnd] at JC hW0 z1 hcd hdl ⊢
  have HND := Lib.hid hnd
  have nT1 : ¬ ((Value.slice Al n cl).ownBlock = some yb) := fun h => (hown yb (.inl h)).2 rfl
  have nT2 : ¬ ((Value.slice Al n cl).ownBlock = some w.heap.size) := fun h => by have := (hRP.1.lt _ h).2; omega
  have HI0 := Lib.hid hI0; have HRP := Lib.hid hRP; have HOW := Lib.hid hown; have HPS := Lib.hid hps; have HBY := Lib.hid hb; have HS := Lib.hid hS; have HPL := Lib.hid hpl; have HT1 := Lib.hid nT1; have HT2 := Lib.hid nT2; have HFZ := Lib.hid hfz; have HYB := Lib.hid hyb; clear hn hnd hr hb hgood hI0 hRP hown hps hS hpl nT1 nT2 hfz hyb p1
  go_enter Tryz.func10, Tryz.ntmps10
  go_wp2_with fail
  rw [← hW0]
  clear hW0
  refine JC.out.mono ?_; rintro e1 w1 ⟨rfl, h2⟩
  have q1' := (h2.cells _ _ hyb0).trans q1
  have hyb1 := Nat.lt_of_lt_of_le hyb0 h2.size
  have z0' := (h2.cells _ 0 zs).trans z0
  have z1' := (h2.cells _ 1 zs).trans z1
  have zs' := Nat.lt_of_lt_of_le zs h2.size
  have HX1 := Lib.hid (HI0.out.trans h2); clear q1 z0 z1 h2 hyb0 zs JC
  go_wp2_with fail
  refine wp_region_schT (fun j => (Value.slice Al n cl).ownBlock = some j) (fun W => W.cell? ⟨yb, 0, none⟩ = some (.slice Al n cl) ∧ yb < W.heap.size ∧ W.cell? ⟨w.heap.size, 0, none⟩ = some (.int .i64 (k : Int)) ∧ W.cell? ⟨w.heap.size, 1, none⟩ = some (.slice D nd cd) ∧ w.heap.size < W.heap.size ∧ W = w1) 16 (.firm 0 (.firm 1 (.firm 2 (.firm 3 (.firm 4 (.firm 5 (.firm 6 (.firm 8 (.firm 9 (.one 7 (.one 10 (.firm 11 (.one 12 (.one 13 (.firm 14 (.firm 15 (.one 16 .nil))))))))))))))))) (by kernel_rfl) (by kernel_rfl) ⟨q1', hyb1, z0', z1', zs', rfl⟩ ?_
  rintro w0 ⟨p1, hyb, z0, z1, zs, rfl⟩
  try simp only [Act.put, List.setIfInBounds_toArray, List.set_cons_zero, List.set_cons_succ]
  iterate 9
    apply sch_firm rfl rfl (by repeat (first | with_reducible exact ButS.refl _ _ | with_reducible assumption | with_reducible refine ButS.drew ?_ | with_reducible refine ButS.alloc ?_ _ | with_reducible refine ButS.within ?_ (by assumption)))
    · intro wq hq
      have g0 := (hq.cells yb 0 hyb HT1.out).trans p1
      have g1 := (hq.cells _ 0 zs HT2.out).trans z0
      have g2 := (hq.cells _ 1 zs HT2.out).trans z1
      have g3 := Nat.lt_of_lt_of_le hyb hq.size
      have g4 := Nat.lt_of_lt_of_le zs hq.size
      clear hq
      go_simp
      rfl
    try simp only [Act.put, List.setIfInBounds_toArray, List.set_cons_zero, List.set_cons_succ]
  refine sch_one rfl rfl (fun K hK => ?_)
  go_simp
  refine hK _ _ (fun _ => (by repeat (first | with_reducible exact ButS.refl _ _ | with_reducible assumption | with_reducible refine ButS.drew ?_ | with_reducible refine ButS.alloc ?_ _ | with_reducible refine ButS.within ?_ (by assumption)))) ?_
  clear hK K
  try simp only [Act.put, List.setIfInBounds_toArray, List.set_cons_zero, List.set_cons_succ]
  refine sch_one rfl rfl (fun K hK => ?_)
  have hin2 := ((Within.refl w0).drew).alloc (.cells #[] 5)
  obtain ⟨v5, w5, hrun, hO5, hB5⟩ := run_app_u8 _ w0.heap.size _ [] d (OwnB.lit w0.drew w0.heap.size (Nat.le_refl _) [] (by simp)) D cd (HDAT.out _ (HX1.out.trans hin2)) (by rw [List.length_nil, HND.out]; omega) hin2.size
  rw [List.nil_append] at hO5
  rw [HND.out] at hrun
  have hX5 : Within w0 w5 := Below.trans hin2 hB5
  have RUN := Lib.hid hrun; have HO5 := Lib.hid hO5; clear hrun hO5 hB5 hin2
  refine op_append_run (.tmp 25) (.tmp 27) 28 rfl _ _ rfl rfl RUN.out ?_
  obtain ⟨A5, c5, rfl, hx5, hy5, hz5⟩ := HO5.out.form
  clear hx5 hy5 hz5
  rw [HND.out] at HO5 ⊢
  refine hK _ _ (fun _ => (by repeat (first | with_reducible exact ButS.refl _ _ | with_reducible assumption | with_reducible refine ButS.drew ?_ | with_reducible refine ButS.alloc ?_ _ | with_reducible refine ButS.within ?_ (by assumption)))) ?_
  clear hK K
  try simp only [Act.put, List.setIfInBounds_toArray, List.set_cons_zero, List.set_cons_succ]
  apply sch_firm rfl rfl (by repeat (first | with_reducible exact ButS.refl _ _ | with_reducible assumption | with_reducible refine ButS.drew ?_ | with_reducible refine ButS.alloc ?_ _ | with_reducible refine ButS.within ?_ (by assumption)))
  · intro wq hq
    have g0 := (hq.cells yb 0 hyb HT1.out).trans p1
    have g1 := (hq.cells _ 0 zs HT2.out).trans z0
    have g2 := (hq.cells _ 1 zs HT2.out).trans z1
    have g3 := Nat.lt_of_lt_of_le hyb hq.size
    have g4 := Nat.lt_of_lt_of_le zs hq.size
    clear hq
    go_simp
    rfl
  try simp only [Act.put, List.setIfInBounds_toArray, List.set_cons_zero, List.set_cons_succ]
  refine sch_one rfl rfl (fun K hK => ?_)
  go_simp
  refine hK _ _ (fun _ => (by repeat (first | with_reducible exact ButS.refl _ _ | with_reducible assumption | with_reducible refine ButS.drew ?_ | with_reducible refine ButS.alloc ?_ _ | with_reducible refine ButS.within ?_ (by assumption)))) ?_
  clear hK K
  try simp only [Act.put, List.setIfInBounds_toArray, List.set_cons_zero, List.set_cons_succ]
  refine sch_one rfl rfl (fun K hK => ?_)
  have hX5w : Within w w5 := HX1.out.trans hX5
  obtain ⟨v6, w6, hrun6, hR6, hg6, hb6⟩ := run_app_recP w5 0 (.slice Al n cl) ps ((k : Int), d) (.slice A5 nd c5) ⟨ownsRow_keep HRP.out.1 (fun j hj => hX5w.block j (HRP.out.1.lt j hj).2), fun p hp => ⟨(HRP.out.2 p hp).1.of hX5w, (HRP.out.2 p hp).2⟩⟩ (HO5.out.less (Nat.zero_le _)) HBY.out (by
    cases hx : (Value.slice A5 nd c5).ownBlock with
    | none => exact .inl rfl
    | some j => exact .inr (fun e => by have h1 := (HO5.out.lt j hx).1; have h2 := (HRP.out.1.lt j e.symm).2; have h3 := HX1.out.size; omega)) (by rw [HPL.out]; omega) (Nat.zero_le _)
  have hS6 : ButS (fun j => (Value.slice Al n cl).ownBlock = some j) w0 w6 := (ButS.in_ hX5).grown hg6 (fun j hj => .inl hj)
  obtain ⟨A6, c6, rfl, hx6, hy6, hz6, hu6⟩ := RecsO.at (rs := (ps ++ [(((k : Int), d), Value.slice A5 nd c5)]).map Prod.fst) ⟨_, rfl, hR6⟩
  clear hx6 hy6 hz6 hu6
  have hn6 : ((ps ++ [(((k : Int), d), Value.slice A5 nd c5)]).map Prod.fst).length = n + 1 := by rw [List.length_map, List.length_append, HPL.out]; rfl
  rw [hn6] at hrun6 hR6 hb6
  clear hn6
  have r0 : w6.cell? ⟨yb, 0, none⟩ = some (.slice Al n cl) := (hS6.cells _ _ hyb HT1.out).trans p1
  have rf_ : w6.frozen? ⟨yb, 0, none⟩ = false := (hS6.frozens _ _ hyb HT1.out).trans ((HX1.out.frozens _ _ HYB.out).trans HFZ.out)
  have rs_ := Nat.lt_of_lt_of_le hyb hS6.size
  have HR6 := Lib.hid hR6; have HG6 := Lib.hid hg6; have HB6 := Lib.hid hb6; have HX5 := Lib.hid hX5w; have RUN6 := Lib.hid hrun6; clear hR6 hg6 hb6 hrun6 hX5w
  refine op_append_run (.tmp 22) (.tmp 30) 52 rfl _ _ rfl rfl RUN6.out ?_
  refine hK _ _ (fun _ => (by repeat (first | with_reducible exact ButS.refl _ _ | with_reducible assumption | with_reducible refine ButS.drew ?_ | with_reducible refine ButS.alloc ?_ _ | with_reducible refine ButS.within ?_ (by assumption)))) ?_
  clear hK K
  try simp only [Act.put, List.setIfInBounds_toArray, List.set_cons_zero, List.set_cons_succ]
  iterate 2
    apply sch_firm rfl rfl (by repeat (first | with_reducible exact ButS.refl _ _ | with_reducible assumption | with_reducible refine ButS.drew ?_ | with_reducible refine ButS.alloc ?_ _ | with_reducible refine ButS.within ?_ (by assumption)))
    · intro wq hq
      have g0 := (hq.cells yb 0 hyb HT1.out).trans p1
      have g1 := (hq.cells _ 0 zs HT2.out).trans z0
      have g2 := (hq.cells _ 1 zs HT2.out).trans z1
      have g3 := Nat.lt_of_lt_of_le hyb hq.size
      have g4 := Nat.lt_of_lt_of_le zs hq.size
      clear hq
      go_simp
      rfl
    try simp only [Act.put, List.setIfInBounds_toArray, List.set_cons_zero, List.set_cons_succ]
  refine sch_one rfl rfl (fun K hK => ?_)
  go_simp
  refine hK _ _ (fun h => absurd h (by decide)) ?_
  clear hK K
  try simp only [Act.put, List.setIfInBounds_toArray, List.set_cons_zero, List.set_cons_succ]
  refine sch_nil ?_
  obtain ⟨X7, hX7⟩ : ∃ X, X = w6.setCell ⟨yb, 0, none⟩ (.slice A6 (n + 1) c6) := ⟨_, rfl⟩
  have x0 : X7.cell? ⟨yb, 0, none⟩ = some (.slice A6 (n + 1) c6) := by rw [hX7]; exact World.cell?_setCell_same _ _ _ r0
  have xs_ : yb < X7.heap.size := World.block_lt_of_cell? _ _ x0
  have hS7 : ButS S w X7 := by
    rw [hX7]
    refine ((ButS.in_ HX1.out).trans (S' := fun j => (Value.slice Al n cl).ownBlock = some j) hS6 (fun j _ hj => (HOW.out j (.inl hj)).1)).set (.inl HS.out) _
  have hL7 : RlogS X7 (More S w X7) yb (rs ++ [⟨k, d⟩]) := by
    have hsz : X7.heap.size = w6.heap.size := by rw [hX7]; simp [World.setCell]
    have hown7 : ∀ j, ((Value.slice A6 (n + 1) c6).ownBlock = some j ∨ ∃ p ∈ ps ++ [(((k : Int), d), Value.slice A5 nd c5)], p.2.ownBlock = some j) → More S w X7 j ∧ j ≠ yb := fun j hj => by
      have hyw := HYB.out
      have h51 := HX5.out.size
      have h61 := hS6.size
      have new : w.heap.size ≤ j → j < w6.heap.size → More S w X7 j ∧ j ≠ yb := fun h1 h2 => ⟨.inr ⟨h1, by rw [hsz]; exact h2⟩, by omega⟩
      rcases hj with hj | ⟨p, hp, hj⟩
      · rcases HB6.out with e | e
        · have := HOW.out j (.inl (e ▸ hj)); exact ⟨.inl this.1, this.2⟩
        · have hl := (HR6.out.1.lt j hj).2; rw [hj] at e; have e := Option.some.inj e; exact new (by omega) hl
      · have hl := ((HR6.out.2 p hp).1.lt j hj).2
        rcases List.mem_append.1 hp with hp | hp
        · have := HOW.out j (.inr ⟨p, hp, hj⟩); exact ⟨.inl this.1, this.2⟩
        · rw [List.mem_singleton] at hp; rw [hp] at hj; have h1 := (HO5.out.lt j hj).1; have h2 := HX1.out.size; exact new (by omega) hl
    refine ⟨.inl HS.out, by rw [hX7, World.frozen?_setCell]; exact rf_, ps ++ [(((k : Int), d), Value.slice A5 nd c5)], .slice A6 (n + 1) c6, by rw [List.map_append, HPS.out, List.map_append]; rfl, x0, ?_, hown7⟩
    rw [hX7]
    have keep : ∀ j, j ≠ yb → (w6.setCell ⟨yb, 0, none⟩ (.slice A6 (n + 1) c6)).heap[j]? = w6.heap[j]? := fun j hj => Below.heap_setCell w6 ⟨yb, 0, none⟩ _ j hj
    exact ⟨ownsRow_keep HR6.out.1 (fun j hj => keep j (hown7 j (.inl hj)).2), fun p hp => ⟨ownsRow_keep (HR6.out.2 p hp).1 (fun j hj => keep j (hown7 j (.inr ⟨p, hp, hj⟩)).2), (HR6.out.2 p hp).2⟩⟩
  rw [← hX7]
  have HL7 := Lib.hid hL7; have HS7 := Lib.hid hS7; clear hL7 hS7 hX7 hS6 r0 rf_
  have v2 : ((n + 1 : Nat) : Int) - 1 = (n : Int) := by omega
  go_wp2
  go_ret2
  exact ⟨by first | rfl | (simp; done), HL7.out, HS7.out⟩
theorem Rappend_any (S : Nat → Prop) (yb : Nat) (rs : List Rec) (D : Option Addr) (cd : Nat) (d : List Nat) (k : Int) (hb : Bytes d) (hcd : d.length ≤ cd) (hdl : d.length ≤ 140737488355328) (w : World) (hP : RlogS w S yb rs) (hr : SlAt w D (u8v d)) : Calls Tryz.prog 10 #[.pointer (some ⟨yb, 0, none⟩), .agg #[.int .i64 k, .slice D d.length cd]] w fun e w' => e = .returned (.tuple #[.int .i64 (appendV rs (k, d)).2.1, .int .i64 (appendV rs (k, d)).2.2]) ∧ RlogS w' (More S w w') yb (appendV rs (k, d)).1 ∧ ButS S w w' := by
  by_cases h : checkR pf k d = 0
  · by_cases h2 : rs.length < 1048576
    · obtain ⟨hk, _⟩ := toRec_ok (r := (k, d)) h hb
      rw [appendV_good (r := (k, d)) h h2]
      have hk' : ((toRec (k, d)).kind : Int) = k := hk
      have := Rappend_good S yb rs D cd d h2 (toRec (k, d)).kind (by rw [hk']; exact h) hb hcd hdl w hP hr
      rw [hk'] at this
      exact this
    · rw [appendV_full (r := (k, d)) h (by omega)]
      refine (Rappend_full S yb rs D cd d (by omega) k h hb hcd hdl w hP hr).mono ?_
      rintro e w' ⟨rfl, h3⟩
      exact ⟨rfl, (hP.of h3).mono (fun j hj => .inl hj), ButS.in_ h3⟩
  · rw [appendV_bad (r := (k, d)) h]
    refine (Rappend_bad S yb rs D cd d k h hb hcd hdl w hP hr).mono ?_
    rintro e w' ⟨rfl, h3⟩
    exact ⟨rfl, (hP.of h3).mono (fun j hj => .inl hj), ButS.in_ h3⟩
theorem run_app_recsP (w : World) (base : Nat) (v : Value) (ps qs : List (IRec × Value)) (hown : RecP w base v ps) (hown' : ∀ q ∈ qs, OwnB w base q.2 q.1.2 ∧ Bytes q.1.2) (hap : ∀ q ∈ qs, q.2.ownBlock = none ∨ q.2.ownBlock ≠ v.ownBlock) (hl : (ps.length + qs.length) * 32 ≤ 140737488355328) (hbase : base ≤ w.heap.size) (n c : Nat) (A : Option Addr) (hA : A = none → qs = []) (hcells : ∀ ad, A = some ad → ∀ (j : Nat) x, (cellsI qs)[j]? = some x → w.cell? (ad.add j) = some x) (hn : n = qs.length) :
    ∃ u w', (Builtin.append_ #[52, 52] 52 #[v, .slice A n c]).run Tryz.prog w = .ok u w' ∧ RecP w' base u (ps ++ qs) ∧ w.grownBy w' v.ownBlock ∧ (u.ownBlock = v.ownBlock ∨ u.ownBlock = some w.heap.size) := by
  subst hn
  obtain ⟨i0, hi0, hz0, hz1, hz2⟩ := info_parts Tryz.infoRec
  cases A with
  | none =>
    obtain rfl := hA rfl
    refine ⟨v, w, ?_, by rw [List.append_nil]; exact hown, World.grownBy.refl w _, .inl rfl⟩
    rcases hown.1.2 with ⟨rfl, h0⟩ | ⟨g, cap, cur, rfl, _, _, hnc, _⟩
    · simp [Builtin.append_, run_underlying (show Tryz.prog.underlying 52 = some (.slice 30) by kernel_rfl), sizeOf, typeInfo, hi0, Builtin.lenOf, Builtin.firstCells]
    · simp [Builtin.append_, run_underlying (show Tryz.prog.underlying 52 = some (.slice 30) by kernel_rfl), sizeOf, typeInfo, hi0, Builtin.lenOf, Builtin.firstCells, hnc, storeCells]
  | some ad =>
    obtain ⟨hrow, hps⟩ := hown
    obtain ⟨u, w', h1, h2, h3, _, h5⟩ := run_append_own_at (P := Tryz.prog) (w := w) base 52 52 30 i0 (.agg #[.int .i64 0, .slice none 0 0]) 2 32 (by kernel_rfl) hi0 hz0 hz1 hz2 rfl (by decide) v ps.length (cellsI ps) hrow ad qs.length c (cellsI qs) (cellsI_len qs) (hcells ad rfl)
      (fun x hx => by obtain ⟨p, hp, hx⟩ := List.mem_flatMap.1 hx; exact recC_one p.1 (by obtain ⟨A, c, e, _⟩ := (hown' p hp).1.form; rw [e]; rfl) x hx) (by unfold maxLen; omega) hl hbase
    have key : ∀ x xs, OwnB w base x xs → (x.ownBlock = none ∨ x.ownBlock ≠ v.ownBlock) → OwnB w' base x xs ∧ (x.ownBlock = none ∨ x.ownBlock ≠ u.ownBlock) := fun x xs h hn => by
      refine ⟨h.kept h3 hn, ?_⟩
      rcases hn with hn | hn
      · exact .inl hn
      · rcases h5 with h5 | h5
        · exact .inr (by rw [h5]; exact hn)
        · cases hx : x.ownBlock with
          | none => exact .inl rfl
          | some j =>
            refine .inr (fun e => ?_)
            rw [h5] at e
            have := (h.lt j hx).2
            have := Option.some.inj e
            omega
    refine ⟨u, w', h1, ⟨?_, ?_⟩, h3, h5⟩
    · have e : cellsI (ps ++ qs) = cellsI ps ++ cellsI qs := by unfold cellsI; rw [List.flatMap_append]
      rw [List.length_append, e]; exact h2
    · intro p hp
      rcases List.mem_append.1 hp with h | h
      · exact ⟨(key _ _ (hps p h).1 (hps p h).2.2).1, (hps p h).2.1, (key _ _ (hps p h).1 (hps p h).2.2).2⟩
      · exact ⟨(key _ _ (hown' p h).1 (hap p h)).1, (hown' p h).2, (key _ _ (hown' p h).1 (hap p h)).2⟩
theorem cellsI_take : ∀ (ps : List (IRec × Value)) (k : Nat), cellsI (ps.take k) = (cellsI ps).take (k * 2)
  | [], k => by simp [cellsI]
  | p :: ps, 0 => by simp [cellsI]
  | p :: ps, k + 1 => by
    have ih := cellsI_take ps k
    unfold cellsI at ih ⊢
    rw [List.take_succ_cons, List.flatMap_cons, List.flatMap_cons, ih]
    show recC p.1 p.2 ++ _ = (recC p.1 p.2 ++ _).take ((k + 1) * 2)
    rw [show (k + 1) * 2 = (recC p.1 p.2).length + k * 2 from by show _ = 2 + k * 2; omega, List.take_length_add_append]
theorem RecP.lit (w : World) (base : Nat) (hb : base ≤ w.heap.size) : RecP (w.alloc (.cells #[] 30)) base (.slice (some ⟨w.heap.size, 0, none⟩) 0 0) [] := by
  have h := World.ownsRow_lit (base := base) (e := 30) (size := 2) w #[] 0 hb (by unfold maxLen; omega) rfl
  exact ⟨by simpa [cellsI] using h, fun p hp => by cases hp⟩
def cutV (rs : List Rec) (n : Int) : List Rec × Int := if n < 0 ∨ (rs.length : Int) < n then (rs, 1) else (rs.take n.toNat, 0)
theorem RecP.take {w : World} {base : Nat} {v : Value} {ps : List (IRec × Value)} (h : RecP w base v ps) (k : Nat) : ∀ p ∈ ps.take k, OwnB w base p.2 p.1.2 ∧ Bytes p.1.2 ∧ (p.2.ownBlock = none ∨ p.2.ownBlock ≠ v.ownBlock) := fun p hp => h.2 p (List.mem_of_mem_take hp)
set_option maxRecDepth 100000 in
set_option maxHeartbeats 1000000 in
theorem Rcut_bad (S : Nat → Prop) (yb : Nat) (rs : List Rec) (hle : rs.length ≤ 1048576) (m : Int) (hbad : m < 0 ∨ (rs.length : Int) < m) (w : World) (hP : RlogS w S yb rs) : Calls Tryz.prog 12 #[.pointer (some ⟨yb, 0, none⟩), .int .i64 m] w fun e w' => e = .returned (.int .i64 1) ∧ w' = w := by
  have hyb := hP.lt
  obtain ⟨Al, cl, h1, hcl, _⟩ := hP.list
  obtain ⟨n, hn⟩ : ∃ n, rs.length = n := ⟨_, rfl⟩
  rw [hn] at h1 hcl hbad
  clear hn hP hle
  rcases hbad with hb | hb
  · have d1 : decide (m < 0) = true := decide_eq_true hb
    go_enter Tryz.func12, Tryz.ntmps12
    go_wp2
    go_ret
    exact ⟨rfl, rfl⟩
  · by_cases h0 : m < 0
    · have d1 : decide (m < 0) = true := decide_eq_true h0
      go_enter Tryz.func12, Tryz.ntmps12
      go_wp2
      go_ret
      exact ⟨rfl, rfl⟩
    · have d1 : decide (m < 0) = false := decide_eq_false h0
      have d2 : decide ((n : Int) < m) = true := decide_eq_true hb
      go_enter Tryz.func12, Tryz.ntmps12
      go_wp2
      go_ret
      exact ⟨rfl, rfl⟩
set_option maxRecDepth 100000 in
set_option maxHeartbeats 1000000 in
theorem Rcut_good (S : Nat → Prop) (yb : Nat) (rs : List Rec) (hle : rs.length ≤ 1048576) (m : Nat) (hm : m ≤ rs.length) (w : World) (hP : RlogS w S yb rs) : Calls Tryz.prog 12 #[.pointer (some ⟨yb, 0, none⟩), .int .i64 (m : Int)] w fun e w' => e = .returned (.int .i64 0) ∧ RlogS w' (More S w w') yb (rs.take m) ∧ ButS S w w' := by
  have hyb := hP.lt
  obtain ⟨hS, hfz, ps, lv, hps, p1, hRP, hown⟩ := hP
  obtain ⟨Al, cl, rfl, hcl, hx1, hx2, hx3⟩ := RecsO.at (rs := rs.map Rec.i) ⟨ps, hps, hRP⟩
  clear hx1 hx2 hx3
  have hpl : ps.length = rs.length := by have := congrArg List.length hps; rwa [List.length_map, List.length_map] at this
  rw [List.length_map] at hcl p1 hRP hown
  obtain ⟨n, hn⟩ : ∃ n, rs.length = n := ⟨_, rfl⟩
  rw [hn] at p1 hcl hm hle hRP hown hpl
  obtain ⟨W1, hW1⟩ : ∃ W, W = w.alloc (.cells #[] 30) := ⟨_, rfl⟩
  have i1 : Within w W1 := by rw [hW1]; exact (Within.refl w).alloc _
  have q1 := (i1.cells _ _ hyb).trans p1
  have qf := (i1.frozens _ _ hyb).trans hfz
  have hyb1 := Nat.lt_of_lt_of_le hyb i1.size
  have hR1 : RecP W1 0 (.slice (some ⟨w.heap.size, 0, none⟩) 0 0) [] := by rw [hW1]; exact RecP.lit w 0 (Nat.zero_le _)
  have hRPi : RecP W1 0 (.slice Al n cl) ps := ⟨ownsRow_keep hRP.1 (fun j hj => i1.block j (hRP.1.lt j hj).2), fun p hp => ⟨(hRP.2 p hp).1.of i1, (hRP.2 p hp).2⟩⟩
  have hw1 : W1.heap.size = w.heap.size + 1 := by rw [hW1]; simp
  have hown9 : ∀ j, (Value.slice Al n cl).ownBlock = some j ∨ (∃ p ∈ ps, p.2.ownBlock = some j) → j < w.heap.size := fun j hj => by
    rcases hj with hj | ⟨p, hp, hj⟩
    · exact (hRP.1.lt j hj).2
    · exact ((hRP.2 p hp).1.lt j hj).2
  have happ : ∃ u w2, (Builtin.append_ #[52, 52] 52 #[.slice (some ⟨w.heap.size, 0, none⟩) 0 0, .slice Al m cl]).run Tryz.prog W1 = .ok u w2 ∧ RecP w2 0 u (ps.take m) ∧ W1.grownBy w2 (some w.heap.size) ∧ (u.ownBlock = some w.heap.size ∨ u.ownBlock = some W1.heap.size) := by
    have hap : ∀ q ∈ ps.take m, q.2.ownBlock = none ∨ q.2.ownBlock ≠ (Value.slice (some ⟨w.heap.size, 0, none⟩) 0 0).ownBlock := fun q hq => by
      cases hx : q.2.ownBlock with
      | none => exact .inl rfl
      | some j => exact .inr (fun e => by have := hown9 j (.inr ⟨q, List.mem_of_mem_take hq, hx⟩); have e : j = w.heap.size := Option.some.inj e; omega)
    have hlen : (ps.take m).length = m := by rw [List.length_take, hpl]; omega
    obtain ⟨u, w2, a1, a2, a3, a4⟩ := run_app_recsP W1 0 _ [] (ps.take m) hR1 (fun q hq => ⟨(hRPi.2 q (List.mem_of_mem_take hq)).1, (hRPi.2 q (List.mem_of_mem_take hq)).2.1⟩) hap (by rw [hlen, List.length_nil]; omega) (Nat.zero_le _) m cl Al (fun e => by
      rcases hRPi.1.2 with ⟨e2, h0⟩ | ⟨g, cap, cur, e2, hg, hb, hc, h7, h8, h9⟩
      · have hz : ps = [] := List.eq_nil_of_length_eq_zero h0
        rw [hz]; simp
      · rw [e] at e2; cases e2)
      (fun ad e j x hx => by
      rw [cellsI_take, List.getElem?_take] at hx
      split at hx
      · subst e
        rcases hRPi.1.2 with ⟨e2, h0⟩ | ⟨g, cap, cur, e2, hg, hb, hc, h7, h8, h9⟩
        · cases e2
        · obtain rfl : ad = ⟨g, 0, none⟩ := by injection e2 with e2; exact Option.some.inj e2
          exact World.ownsRow.cells (g := g) hRPi.1 rfl _ _ hx
      · cases hx) hlen.symm
    exact ⟨u, w2, a1, by simpa using a2, a3, a4⟩
  obtain ⟨u, w2, hrun, hR2, hg2, hb2⟩ := happ
  have d1 : decide ((m : Int) < 0) = false := decide_eq_false (by omega)
  have d2 : decide ((n : Int) < (m : Int)) = false := decide_eq_false (by omega)
  have d3 : (0 : Int) ≤ (m : Int) := by omega
  have d4 : (m : Int) ≤ (cl : Int) := by omega
  have d5 : m ≤ cl := by omega
  have hpt : (ps.take m).map Prod.fst = (rs.take m).map Rec.i := by rw [List.map_take, hps, List.map_take]
  obtain ⟨A2, c2, rfl, hcc, hx1, hx2, hx3⟩ := RecsO.at (rs := (ps.take m).map Prod.fst) ⟨_, rfl, hR2⟩
  clear hx1 hx2 hx3 hcc
  have hl2 : ((ps.take m).map Prod.fst).length = m := by rw [List.length_map, List.length_take, hpl]; omega
  rw [hl2] at hrun hR2 hb2
  have hx2 : w2.cell? ⟨yb, 0, none⟩ = some (.slice Al n cl) := (World.cell?_of_block (hg2.block yb hyb1 (fun e => by have := Option.some.inj e; omega))).trans q1
  have hf2 : w2.frozen? ⟨yb, 0, none⟩ = false := (World.frozen?_of_block (hg2.block yb hyb1 (fun e => by have := Option.some.inj e; omega))).trans qf
  have hl2' := World.block_lt_of_cell? _ _ hx2
  have RUN := Lib.hid hrun; have HR2 := Lib.hid hR2; have HG2 := Lib.hid hg2; have HB2 := Lib.hid hb2; have HPT := Lib.hid hpt; have HI1 := Lib.hid i1; have HOW := Lib.hid hown; have HOW9 := Lib.hid hown9; have HS := Lib.hid hS; have HYB := Lib.hid hyb; have H1 := Lib.hid hW1; clear hrun hR2 hg2 hb2 hpt i1 hown hown9 hS hR1 hRP hRPi hps hpl hl2 hn hW1 hfz
  go_enter Tryz.func12, Tryz.ntmps12
  go_wp2_with (at_builtin; rw [← H1.out]; refine wpList_append_run rfl (.tmp 17) (.tmp 23) 52 rfl _ _ rfl rfl RUN.out ?_)
  obtain ⟨X7, hX7⟩ : ∃ X, X = w2.setCell ⟨yb, 0, none⟩ (.slice A2 m c2) := ⟨_, rfl⟩
  rw [← hX7]
  have hsz : X7.heap.size = w2.heap.size := by rw [hX7]; simp [World.setCell]
  have x0 : X7.cell? ⟨yb, 0, none⟩ = some (.slice A2 m c2) := by rw [hX7]; exact World.cell?_setCell_same _ _ _ hx2
  have hS7 : ButS S w X7 := by
    rw [hX7]
    exact ((ButS.in_ HI1.out).grown HG2.out (fun j hj => .inr (by have := Option.some.inj hj; omega))).set (.inl HS.out) _
  have hown7 : ∀ j, ((Value.slice A2 m c2).ownBlock = some j ∨ ∃ p ∈ ps.take m, p.2.ownBlock = some j) → More S w X7 j ∧ j ≠ yb := fun j hj => by
    have hyw := HYB.out
    have h61 := HG2.out.size
    rcases hj with hj | ⟨p, hp, hj⟩
    · have hl := (HR2.out.1.lt j hj).2
      have hge : w.heap.size ≤ j := by
        rcases HB2.out with e | e
        · rw [hj] at e; have e := Option.some.inj e; omega
        · rw [hj] at e; have e := Option.some.inj e; omega
      exact ⟨.inr ⟨hge, by rw [hsz]; exact hl⟩, by omega⟩
    · have := HOW.out j (.inr ⟨p, List.mem_of_mem_take hp, hj⟩); exact ⟨.inl this.1, this.2⟩
  have hL7 : RlogS X7 (More S w X7) yb (rs.take m) := by
    refine ⟨.inl HS.out, by rw [hX7, World.frozen?_setCell]; exact hf2, ps.take m, .slice A2 m c2, HPT.out, x0, ?_, hown7⟩
    rw [hX7]
    have keep : ∀ j, j ≠ yb → (w2.setCell ⟨yb, 0, none⟩ (.slice A2 m c2)).heap[j]? = w2.heap[j]? := fun j hj => Below.heap_setCell w2 ⟨yb, 0, none⟩ _ j hj
    exact ⟨ownsRow_keep HR2.out.1 (fun j hj => keep j (hown7 j (.inl hj)).2), fun p hp => ⟨ownsRow_keep (HR2.out.2 p hp).1 (fun j hj => keep j (hown7 j (.inr ⟨p, hp, hj⟩)).2), (HR2.out.2 p hp).2⟩⟩
  have HL7 := Lib.hid hL7; have HS7 := Lib.hid hS7; clear hL7 hS7 hown7 hX7
  go_ret
  exact ⟨rfl, HL7.out, HS7.out⟩
theorem Rcut_any (S : Nat → Prop) (yb : Nat) (rs : List Rec) (hle : rs.length ≤ 1048576) (n : Int) (w : World) (hP : RlogS w S yb rs) : Calls Tryz.prog 12 #[.pointer (some ⟨yb, 0, none⟩), .int .i64 n] w fun e w' => e = .returned (.int .i64 (cutV rs n).2) ∧ RlogS w' (More S w w') yb (cutV rs n).1 ∧ ButS S w w' := by
  by_cases h : n < 0 ∨ (rs.length : Int) < n
  · unfold cutV
    rw [if_pos h]
    refine (Rcut_bad S yb rs hle n h w hP).mono ?_
    rintro e w' ⟨rfl, rfl⟩
    exact ⟨rfl, hP.mono (fun j hj => .inl hj), ButS.refl _ _⟩
  · unfold cutV
    rw [if_neg h]
    obtain ⟨m, rfl⟩ : ∃ m : Nat, n = (m : Int) := ⟨n.toNat, by omega⟩
    exact Rcut_good S yb rs hle m (by omega) w hP
end Go.Proofs.YtpmjlaiafgbjgaaGreatDoor
end

section
namespace Go.Proofs.YtpmjlaiafgbjgaaGreatDoor
open Go.RowKit
section
variable {F : Fence} {n : Nat} {P : Program}
def loopRec (fn : FuncId) (a : Act) (ps : Array Tmp) (assign body : Code) (D : Nat) (st : LoopState) (pe : Option Code) : Loop := { state := st, pending := pe, fn, tmps := a.tmps, params := ps, assign, body, defers := D }
end
end Go.Proofs.YtpmjlaiafgbjgaaGreatDoor
end

section
namespace Go.Proofs.YtpmjlaiafgbjgaaGreatDoor
open Go.RowKit
theorem LogS.listB {w : World} {S : Nat → Prop} {xb : Nat} {rs : List Rec} (h : LogS w S xb rs) : ∃ Al cl, w.cell? ⟨xb, 1, none⟩ = some (.slice Al rs.length cl) ∧ rs.length ≤ cl ∧ RecB w Al (rs.map Rec.i) := by
  obtain ⟨hS, hmade, hfirm, ps, lv, kv, bv, hps, p1, p2, p3, hRW, hown⟩ := h
  obtain ⟨Al, cl, rfl, hcl, hB, _, _⟩ := RecsO.at (rs := rs.map Rec.i) ⟨ps, hps, hRW.recs⟩
  rw [List.length_map] at hcl p1
  exact ⟨Al, cl, p1, hcl, hB⟩
set_option maxRecDepth 100000 in
set_option maxHeartbeats 1000000 in
theorem Get_log (S : Nat → Prop) (xb : Nat) (rs : List Rec) (i : Nat) (r : Rec) (hr : rs[i]? = some r) (hrd : r.data.length ≤ 70368744177664) (w : World) (hP : LogS w S xb rs) : Calls Tryz.prog 41 #[.pointer (some ⟨xb, 0, none⟩), .int .i64 (i : Int)] w fun e w' => ∃ v, e = .returned (.tuple #[.agg #[.int .i64 (r.kind : Int), v], .int .i64 0]) ∧ OwnB w' w.heap.size v r.data ∧ Within w w' := by
  have h0 := hP.made
  have hxb := hP.lt
  obtain ⟨Al, cl, h1, hcl, hRB⟩ := hP.listB
  obtain ⟨hlt, _⟩ := List.getElem?_eq_some_iff.1 hr
  obtain ⟨g, Dv, cv, rfl, l1, y0, y1, hcv, hs1, _⟩ := hRB i r.i (by rw [List.getElem?_map, hr]; rfl)
  have x0 : w.cell? ⟨g, i * 2, none⟩ = some (.int .i64 (r.kind : Int)) := y0
  have x1 : w.cell? ⟨g, i * 2 + 1, none⟩ = some (.slice Dv r.data.length cv) := y1
  have hs1 : SlAt w Dv (u8v r.data) := hs1
  clear y0 y1
  obtain ⟨Z, hZ⟩ : ∃ Z, Z = w.alloc (.cells #[.int .i64 0, .slice none 0 0] 30) := ⟨_, rfl⟩
  have hZs : Z.heap.size = w.heap.size + 1 := by rw [hZ]; simp
  have iZ : Within w Z := by rw [hZ]; exact (Within.refl w).alloc _
  have zh0 : Z.cell? ⟨xb, 0, none⟩ = some (.int .i64 1) := (iZ.cells _ _ hxb).trans h0
  obtain ⟨W1, hW1⟩ : ∃ W, W = Z.alloc (.cells #[.int .i64 (r.kind : Int), .slice Dv r.data.length cv] 30) := ⟨_, rfl⟩
  have i1 : Within Z W1 := by rw [hW1]; exact (Within.refl Z).alloc _
  have hws : W1.heap.size = w.heap.size + 2 := by rw [hW1]; simp [hZs]
  have q0 : W1.cell? ⟨w.heap.size, 0, none⟩ = some (.int .i64 0) := (i1.cells _ _ (by omega)).trans (by rw [hZ]; simp)
  have q1 : W1.cell? ⟨w.heap.size, 1, none⟩ = some (.slice none 0 0) := (i1.cells _ _ (by omega)).trans (by rw [hZ]; simp)
  have qf0 : W1.frozen? ⟨w.heap.size, 0, none⟩ = false := (i1.frozens _ _ (by omega)).trans (by rw [hZ]; simp)
  have qf1 : W1.frozen? ⟨w.heap.size, 1, none⟩ = false := (i1.frozens _ _ (by omega)).trans (by rw [hZ]; simp)
  have qs : w.heap.size < W1.heap.size := by omega
  have z0 : W1.cell? ⟨Z.heap.size, 0, none⟩ = some (.int .i64 (r.kind : Int)) := by rw [hW1]; simp
  have z1 : W1.cell? ⟨Z.heap.size, 1, none⟩ = some (.slice Dv r.data.length cv) := by rw [hW1]; simp
  have zs : Z.heap.size < W1.heap.size := by omega
  have CL := Lib.hid (fun W (h : Within W1 W) => clone_any Dv cv r.data hrd W (hs1.of ((iZ.trans i1).trans h)))
  have IS : Hid (Calls Tryz.prog 31 #[.pointer (some ⟨xb, 0, none⟩)] Z fun e w' => e = .returned (.bool true) ∧ w' = Z) := Lib.hid (is_true xb Z zh0)
  have b0 : ((i : Int) < 0) = False := by simp
  have b1 : decide ((rs.length : Int) ≤ (i : Int)) = false := decide_eq_false (by omega)
  have b2 : (0 : Int) ≤ (i : Int) := by omega
  have b3 : (i : Int) < (rs.length : Int) := by omega
  obtain ⟨n, hn⟩ : ∃ n, rs.length = n := ⟨_, rfl⟩
  rw [hn] at h1 hcl b1 b3 hlt
  obtain ⟨nd, hnd⟩ : ∃ n, r.data.length = n := ⟨_, rfl⟩
  rw [hnd] at x1 CL hW1 z1
  obtain ⟨k, hk⟩ : ∃ k, r.kind = k := ⟨_, rfl⟩
  rw [hk] at x0 hW1 z0 ⊢
  have zh1 := (iZ.cells _ 1 hxb).trans h1
  have zx0 := (iZ.cells _ (i * 2) l1).trans x0
  have zx1 := (iZ.cells _ (i * 2 + 1) l1).trans x1
  have zg := Nat.lt_of_lt_of_le l1 iZ.size
  have zxb := Nat.lt_of_lt_of_le hxb iZ.size
  have HZ := Lib.hid hZ; have HW1 := Lib.hid hW1; clear hZ hW1
  have HI := Lib.hid (iZ.trans i1); have HWS := Lib.hid hws; have HZS := Lib.hid hZs; have HND := Lib.hid hnd
  clear hP hr hRB hs1 hcv hn hnd hk iZ i1 hrd h0 h1 x0 x1 hxb l1 hZs hws
  go_enter Tryz.func41, Tryz.ntmps41
  go_wp2_with fail
  rw [← HZ.out]
  refine IS.out.mono ?_; rintro e1 w1 ⟨rfl, rfl⟩
  have zne : ¬ w1.heap.size = w.heap.size := by rw [HZS.out]; omega
  go_wp2_with fail
  rw [← HW1.out]
  refine wp_region_schT (fun j => j = w.heap.size) (fun W => W.cell? ⟨w.heap.size, 0, none⟩ = some (.int .i64 0) ∧ W.cell? ⟨w.heap.size, 1, none⟩ = some (.slice none 0 0) ∧ W.frozen? ⟨w.heap.size, 0, none⟩ = false ∧ W.frozen? ⟨w.heap.size, 1, none⟩ = false ∧ w.heap.size < W.heap.size ∧ W.cell? ⟨w1.heap.size, 0, none⟩ = some (.int .i64 (k : Int)) ∧ W.cell? ⟨w1.heap.size, 1, none⟩ = some (.slice Dv nd cv) ∧ w1.heap.size < W.heap.size ∧ Within W1 W) 7 (.firm 0 (.firm 1 (.firm 2 (.firm 3 (.one 4 (.firm 5 (.one 6 (.one 7 .nil)))))))) (by kernel_rfl) (by kernel_rfl) ⟨q0, q1, qf0, qf1, qs, z0, z1, zs, Within.refl _⟩ ?_
  rintro w0 ⟨q0, q1, qf0, qf1, qs, z0, z1, zs, hw0⟩
  try simp only [Act.put, List.setIfInBounds_toArray, List.set_cons_zero, List.set_cons_succ]
  iterate 4
    apply sch_firm rfl rfl (by repeat (first | with_reducible exact ButS.refl _ _ | with_reducible assumption | with_reducible refine ButS.drew ?_ | with_reducible refine ButS.alloc ?_ _ | with_reducible refine ButS.within ?_ (by assumption)))
    · intro wq hq
      have g0 := (hq.cells _ 0 zs zne).trans z0
      have g1 := (hq.cells _ 1 zs zne).trans z1
      have g2 := Nat.lt_of_lt_of_le zs hq.size
      clear hq
      go_simp
      rfl
    try simp only [Act.put, List.setIfInBounds_toArray, List.set_cons_zero, List.set_cons_succ]
  refine sch_one rfl rfl (fun K hK => ?_)
  go_simp
  refine (CL.out _ (by exact hw0.drew)).mono ?_; rintro e2 w2 ⟨v2, rfl, hO2, h2⟩
  obtain ⟨A2, c2, rfl, _, _, _⟩ := hO2.form
  rw [HND.out] at hO2 ⊢
  have HO2 := Lib.hid hO2; have H2 := Lib.hid (hw0.drew.trans h2)
  have BK : Hid (ButS (fun j => j = w.heap.size) w0 w2) := Lib.hid (ButS.in_ ((Within.refl w0).drew.trans h2))
  have c0 := (h2.cells w.heap.size 0 qs).trans q0
  have c1 := (h2.cells w.heap.size 1 qs).trans q1
  have cf0 := (h2.frozens w.heap.size 0 qs).trans qf0
  have cf1 := (h2.frozens w.heap.size 1 qs).trans qf1
  have cs := Nat.lt_of_lt_of_le qs h2.size
  clear hO2
  refine hK _ _ (fun _ => (by first | exact (BK.out.set (p := ⟨w.heap.size, 0, none⟩) (.inl rfl) _).set (p := ⟨w.heap.size, 1, none⟩) (.inl rfl) _ | (repeat (first | with_reducible exact ButS.refl _ _ | with_reducible assumption | with_reducible refine ButS.drew ?_ | with_reducible refine ButS.within ?_ (by assumption))))) ?_
  clear hK K
  try simp only [Act.put, List.setIfInBounds_toArray, List.set_cons_zero, List.set_cons_succ]
  apply sch_firm rfl rfl (by repeat (first | with_reducible exact ButS.refl _ _ | with_reducible assumption | with_reducible refine ButS.drew ?_ | with_reducible refine ButS.alloc ?_ _ | with_reducible refine ButS.within ?_ (by assumption)))
  · intro wq hq
    have g0 := (hq.cells _ 0 zs zne).trans z0
    have g1 := (hq.cells _ 1 zs zne).trans z1
    have g2 := Nat.lt_of_lt_of_le zs hq.size
    clear hq
    go_simp
    rfl
  try simp only [Act.put, List.setIfInBounds_toArray, List.set_cons_zero, List.set_cons_succ]
  refine sch_one rfl rfl (fun K hK => ?_)
  go_simp
  refine hK _ _ (fun _ => (by first | exact (BK.out.set (p := ⟨w.heap.size, 0, none⟩) (.inl rfl) _).set (p := ⟨w.heap.size, 1, none⟩) (.inl rfl) _ | (repeat (first | with_reducible exact ButS.refl _ _ | with_reducible assumption | with_reducible refine ButS.drew ?_ | with_reducible refine ButS.within ?_ (by assumption))))) ?_
  clear hK K
  try simp only [Act.put, List.setIfInBounds_toArray, List.set_cons_zero, List.set_cons_succ]
  refine sch_one rfl rfl (fun K hK => ?_)
  go_simp
  refine hK _ _ (fun h => absurd h (by decide)) ?_
  clear hK K
  try simp only [Act.put, List.setIfInBounds_toArray, List.set_cons_zero, List.set_cons_succ]
  refine sch_nil ?_
  have hK : But w.heap.size w2 ((w2.setCell ⟨w.heap.size, 0, none⟩ (.int .i64 (k : Int))).setCell ⟨w.heap.size, 1, none⟩ (.slice A2 nd c2)) := ((But.refl _ w2).set (p := ⟨w.heap.size, 0, none⟩) (.inl rfl) _).set (p := ⟨w.heap.size, 1, none⟩) (.inl rfl) _
  have hI9 : Within w ((w2.setCell ⟨w.heap.size, 0, none⟩ (.int .i64 (k : Int))).setCell ⟨w.heap.size, 1, none⟩ (.slice A2 nd c2)) := ((HI.out.trans H2.out).setCell (Nat.le_refl _) _).setCell (Nat.le_refl _) _
  have hO9 := HO2.out.but hK (by exact qs)
  have HO9 := Lib.hid (hO9.less (Nat.le_of_lt (by exact qs)))
  have HI9 := Lib.hid hI9; clear hK hI9 hO9
  go_wp2
  refine bodyPost_ret (v := .tuple #[.agg #[.int .i64 (k : Int), .slice A2 nd c2], .int .i64 0]) (by simp [results, Tryz.results41, go_sem, c0, c1, cf0, cf1, cs]) rfl ⟨_, rfl, HO9.out, HI9.out⟩
end Go.Proofs.YtpmjlaiafgbjgaaGreatDoor
end

section
namespace Go.Proofs.YtpmjlaiafgbjgaaGreatDoor
open Go.RowKit
attribute [local go_sem] Oper.semAt_some
structure Yd where
  i : Nat
  k : Int
  v : Value
  d : List Nat
def Yd.enc (x : Yd) : Array Value := #[.int .i64 (x.i : Int), .agg #[.int .i64 x.k, x.v]]
def Yd.at_ (n₀ : Nat) (x : Yd) (W : World) : Prop := OwnB W n₀ x.v x.d ∧ Bytes x.d ∧ x.d.length ≤ 1048576
def YdAll (rs : List Rec) (m : Nat) (xs : List Yd) : Prop := xs.map (fun x => ((x.k, x.d) : IRec)) = (rs.map Rec.i).drop m ∧ ∀ j x, xs[j]? = some x → x.i = m + j
def YdPre (rs : List Rec) (m : Nat) (pre : List Yd) : Prop := pre.map (fun x => ((x.k, x.d) : IRec)) = ((rs.map Rec.i).drop m).take pre.length ∧ (∀ j x, pre[j]? = some x → x.i = m + j) ∧ m + pre.length ≤ rs.length
theorem YdPre.nil {rs : List Rec} {m : Nat} (h : m ≤ rs.length) : YdPre rs m [] := ⟨rfl, fun j x hx => by simp at hx, h⟩
theorem YdPre.more {rs : List Rec} {m : Nat} {pre : List Yd} {r : Rec} {v : Value} (h : YdPre rs m pre) (hr : rs[m + pre.length]? = some r) : YdPre rs m (pre ++ [⟨m + pre.length, (r.kind : Int), v, r.data⟩]) := by
  obtain ⟨h1, h2, h3⟩ := h
  obtain ⟨hlt, _⟩ := List.getElem?_eq_some_iff.1 hr
  refine ⟨?_, fun j x hx => ?_, by rw [List.length_append]; simp; omega⟩
  · rw [List.map_append, h1, List.length_append]
    show _ ++ [r.i] = List.take (pre.length + 1) _
    rw [List.take_add_one, List.getElem?_drop, List.getElem?_map, hr]; rfl
  · by_cases hj : j < pre.length
    · rw [List.getElem?_append_left hj] at hx; exact h2 j x hx
    · rw [List.getElem?_append_right (by omega)] at hx
      have hj0 : j - pre.length = 0 := by
        rcases Nat.eq_zero_or_pos (j - pre.length) with h | h
        · exact h
        · rw [List.getElem?_eq_none (by simp; omega)] at hx; cases hx
      rw [hj0] at hx
      have := Option.some.inj hx
      rw [← this]
      show m + pre.length = m + j
      omega
theorem YdPre.all {rs : List Rec} {m : Nat} {pre : List Yd} (h : YdPre rs m pre) (hn : m + pre.length = rs.length) : YdAll rs m pre := by
  obtain ⟨h1, h2, h3⟩ := h
  refine ⟨?_, h2⟩
  rw [h1]
  refine List.take_of_length_le ?_
  rw [List.length_drop, List.length_map]; omega
set_option maxRecDepth 100000 in
set_option maxHeartbeats 1000000 in
theorem Each_any (x : Option Addr) (m : Int) (w : World) : Calls Tryz.prog 37 #[.pointer x, .int .i64 m] w fun e w' => e = .returned (.func (.func 61) #[] #[.pointer (some ⟨w.heap.size, 0, none⟩), .pointer (some ⟨w.heap.size + 1, 0, none⟩)]) ∧ w' = (w.alloc (.cells #[.pointer x] 23)).alloc (.cells #[.int .i64 m] 3) := by
  go_enter Tryz.func37, Tryz.ntmps37
  go_wp2
  go_ret
  exact ⟨rfl, rfl⟩
end Go.Proofs.YtpmjlaiafgbjgaaGreatDoor
end

section
namespace Go.Proofs.YtpmjlaiafgbjgaaGreatDoor
open Go.RowKit
section
variable {F : Fence} {n : Nat} {P : Program}
def SeqG {α : Type} (F : Fence) (n : Nat) (P : Program) (g : Nat) (lb : Array Value) (encs : α → Array Value) (G : List α → World → Prop) (T : List α → α → World → World → Prop) (S Sp : List α → Prop) (N : Nat) : Prop :=
  ∀ (l : Nat) (J Jx : List α → World → Prop) (W : World), AbidesFrom W.heap.size J → AbidesFrom W.heap.size Jx → (∀ pre W, J pre W → G pre W) →
    (∀ pre x W0 W1, J pre W0 → Within W0 W1 → T pre x W0 W1 → pre.length < N → YieldAt F (n - 1) P l (encs x) W1 fun e W' => (e = .returned (.bool true) ∧ J (pre ++ [x]) W') ∨ (e = .returned (.bool false) ∧ Jx (pre ++ [x]) W')) →
    J [] W → CallsIn F n P g (#[.func (.yield l) #[] #[]] ++ lb) W fun e W' => (∃ v, e = .returned v) ∧ ((∃ xs, S xs ∧ J xs W') ∨ (∃ pre, Sp pre ∧ Jx pre W'))
def roundEnds {α : Type} (B : Nat) (I : List α → World → Prop) (Ix : Code → List α → World → Prop) (xs : List α) (W : World) : Exit → Act → World → Prop
  | .normal, _, W' => KeepsFrom B W W' ∧ I xs W'
  | .ret, _, W' => KeepsFrom B W W' ∧ Ix .ret xs W'
  | .exit id, _, W' => KeepsFrom B W W' ∧ Ix (.exit id) xs W'
  | .goto t, _, W' => KeepsFrom B W W' ∧ Ix (.goto t) xs W'
  | _, _, _ => False
theorem range_G {α : Type} {g : Operand} {ps : Array Tmp} {assign body : Code} {Q : Exit → Act → World → Prop} {a : Act} {w : World}
    (hro : F.round = none) (h1 : 1 ≤ n) {gf : Nat} {lb : Array Value} (hg : a.eval g = .func (.func gf) #[] lb) (hFg : F.fn gf) (eg : ∀ args w, (callFunc gf args).run P w = .ok (.enter gf args) w)
    {encs : α → Array Value} {G : List α → World → Prop} {T : List α → α → World → World → Prop} {S Sp : List α → Prop} {M : Nat} (hseq : SeqG F (n - 1) P gf lb encs G T S Sp M)
    (hps : ∀ x, (encs x).size = ps.size)
    (I : List α → World → Prop) (Ix : Code → List α → World → Prop) (hI : OwnFrom w.heap.size I) (hIx : ∀ c, OwnFrom w.heap.size (Ix c)) (hG : ∀ pre W, I pre W → G pre W) (h0 : I [] w)
    (Ax : List α → α → Act → World → Prop) (hAx : ∀ pre x a', OwnFrom w.heap.size (fun (_ : Unit) W => Ax pre x a' W))
    (hassign : ∀ (l : Nat) (pre : List α) (x : α) (W0 W : World) (K : Act → World → Prop), I pre W0 → Within W0 W → T pre x W0 W → pre.length < M → (∀ a' W', KeepsFrom w.heap.size W W' → I pre W' → Ax pre x a' W' → K a' W') →
      assign.wpIn (F.inRound l) (n - 1 - 1) P (Exit.then K (fun _ _ _ => False)) { tmps := (ps.zip (encs x)).foldl (fun t (p, v) => t.setIfInBounds p v) a.tmps, defers := [] } W)
    (hbody : ∀ (l : Nat) (pre : List α) (x : α) (a' : Act) (W : World), I pre W → Ax pre x a' W → pre.length < M → body.wpIn (F.inRound l) (n - 1 - 1) P (roundEnds w.heap.size I Ix (pre ++ [x]) W) a' W)
    (hdone : ∀ (D : Nat) (xs : List α) (W : World), w.heap.size ≤ D → S xs → I xs W → W.heap[D]? = some (.deferred (some [])) → Q .normal { a with defers := { target := .collected D, args := #[] } :: a.defers } W)
    (hstop : ∀ (D : Nat) (c : Code) (pre : List α) (W : World), w.heap.size ≤ D → Sp pre → Ix c pre W → W.heap[D]? = some (.deferred (some [])) → c.wpIn F n P Q { a with defers := { target := .collected D, args := #[] } :: a.defers } W) :
    (Code.rangeFunc g ps assign body).wpIn F n P Q a w := by
  refine wpIn_rangeFunc ?_
  intro fn hfn
  rw [hro]
  obtain ⟨rc, hrc⟩ : ∃ rc, rc = loopRec fn a ps assign body w.heap.size := ⟨_, rfl⟩
  obtain ⟨N, hN⟩ : ∃ N, N = w.heap.size := ⟨_, rfl⟩
  obtain ⟨W1, hW1⟩ : ∃ W1, (w.alloc (.deferred (some []))).alloc (.loop (rc .ready none)) = W1 := ⟨_, rfl⟩
  have hL1 : W1.heap[N + 1]? = some (.loop (rc .ready none)) := by
    rw [← hW1, hN]; have := World.alloc_heap_new (w.alloc (.deferred (some []))) (.loop (rc .ready none)); rwa [World.size_alloc] at this
  have hK1 : W1.heap[N]? = some (.deferred (some [])) := by
    rw [← hW1, hN]; exact (Below.heap_alloc _ _ _ (by simp)).trans (World.alloc_heap_new w _)
  have hI1 : I [] W1 := by rw [← hW1]; exact hI.alloc _ (hI.alloc _ h0)
  have hb1 : Below w.heap.size w W1 := by rw [← hW1]; exact ((Below.refl _ w).alloc (Nat.le_refl _) _).alloc (by simp) _
  refine ⟨N + 1, [{ target := .collected N, args := #[] }], W1, { target := .fn (.func gf) lb, args := #[.func (.yield (N + 1)) #[] #[]] }, W1, gf,
    #[.func (.yield (N + 1)) #[] #[]] ++ lb, W1, ?_, ?_, ?_, ?_, fun _ => h1, ?_⟩
  · rw [← hW1, hrc, hN]; exact run_enterLoop_outer _ _ _ _ _
  · simp only [resolve, hg]
    simp [go_sem]
  · intro f' hf'; simp [Target.leads] at hf'; subst hf'; exact hFg
  · simp [invoke, go_sem, eg]
  have turn : ∀ {A B : World} {row : Option Nat}, (∀ r, row = some r → W1.heap.size ≤ r ∧ ∃ o : Obj, A.heap[r]? = some o ∧ o.isWalk = true) → (∀ r, row = some r → w.heap.size ≤ r ∧ ∃ o : Obj, A.heap[r]? = some o ∧ o.isCells = false) :=
    fun hr r e => by obtain ⟨hB, o, ho, hw⟩ := hr r e; exact ⟨Nat.le_trans hb1.size hB, o, ho, Obj.not_cells_of_walk hw⟩
  refine (hseq (N + 1) (fun pre W => I pre W ∧ W.heap[N + 1]? = some (.loop (rc .ready none)) ∧ W.heap[N]? = some (.deferred (some [])))
    (fun pre W => ∃ c, Ix c pre W ∧ W.heap[N + 1]? = some (.loop (rc .done (some c))) ∧ W.heap[N]? = some (.deferred (some []))) W1
    (fun s A B row hs hg' hr => ⟨hI s A B row hs.1 hg' (turn (B := B) hr), (grownBy_keeps hg' (fun r e => (hr r e).2) hs.2.1 rfl).trans hs.2.1, (grownBy_keeps hg' (fun r e => (hr r e).2) hs.2.2 rfl).trans hs.2.2⟩)
    (fun s A B row hs hg' hr => by
      obtain ⟨c, hc, hl, hk⟩ := hs
      exact ⟨c, hIx c s A B row hc hg' (turn (B := B) hr), (grownBy_keeps hg' (fun r e => (hr r e).2) hl rfl).trans hl, (grownBy_keeps hg' (fun r e => (hr r e).2) hk rfl).trans hk⟩)
    (fun pre W h => hG pre W h.1) ?_ ⟨hI1, hL1, hK1⟩).mono ?_
  · rintro pre x Wj W ⟨hij, hlj, hkj⟩ hin ht hlen
    have hl := (hin.block _ (Array.getElem?_eq_some_iff.1 hlj).1).trans hlj
    have hk := (hin.block _ (Array.getElem?_eq_some_iff.1 hkj).1).trans hkj
    have hy := run_yield (P := P) (args := encs x) hl (by rw [hrc]; exact hps x)
    rw [hrc] at hy
    refine ⟨fn, _, assign, body, hy, roundIn_of_wpIn hfn (hassign _ pre x Wj W _ hij hin ht hlen ?_)⟩
    intro a' Wa kf hia hax
    have hla := kf.same _ _ (by omega) hl rfl
    have hka := kf.same _ _ (by omega) hk rfl
    have hlt : N + 1 < Wa.heap.size := (Array.getElem?_eq_some_iff.1 hla).1
    refine ⟨_, run_beginRound hla (by rw [hrc]; rfl), ?_⟩
    obtain ⟨bz, hbz⟩ : ∃ bz : Loop, bz = { rc .ready none with state := .busy } := ⟨_, rfl⟩
    rw [← hbz]
    have hl2 : (Wa.putObj (N + 1) (.loop bz)).heap[N + 1]? = some (.loop bz) := World.putObj_heap_same hlt
    have hk2 : (Wa.putObj (N + 1) (.loop bz)).heap[N]? = some (.deferred (some [])) := (World.putObj_heap_other (by omega)).trans hka
    refine wpIn_mono (hbody _ pre x a' _ (hI.putObj _ hia (by omega) hla rfl) ((hAx pre x a').putObj (s := ()) _ hax (by omega) hla rfl) hlen) ?_
    have fin : ∀ (jump : Option Code) (W3 : World), KeepsFrom w.heap.size (Wa.putObj (N + 1) (.loop bz)) W3 →
        (Instr.endRound (N + 1) jump).run P W3 = .ok (.bool jump.isNone) (W3.putObj (N + 1) (.loop (rc (if jump.isNone then .ready else .done) jump))) ∧
        W3.heap[N + 1]? = some (.loop bz) ∧
        (W3.putObj (N + 1) (.loop (rc (if jump.isNone then .ready else .done) jump))).heap[N + 1]? = some (.loop (rc (if jump.isNone then .ready else .done) jump)) ∧
        (W3.putObj (N + 1) (.loop (rc (if jump.isNone then .ready else .done) jump))).heap[N]? = some (.deferred (some [])) := fun jump W3 hk3 => by
      have hl3 := hk3.same _ _ (by omega) hl2 rfl
      have hk3' := hk3.same _ _ (by omega) hk2 rfl
      have hend := run_endRound (P := P) jump hl3
      rw [hbz, hrc] at hend
      refine ⟨by rw [hrc]; exact hend, hl3, World.putObj_heap_same (Array.getElem?_eq_some_iff.1 hl3).1, (World.putObj_heap_other (by omega)).trans hk3'⟩
    rintro e a3 W3 hp
    cases e with
    | normal =>
      obtain ⟨k3, hi3⟩ := hp
      obtain ⟨hr, hl3, hl4, hk4⟩ := fin none W3 k3
      exact ⟨_, _, hr, .inl ⟨rfl, hI.putObj _ hi3 (by omega) hl3 rfl, hl4, hk4⟩⟩
    | ret =>
      obtain ⟨k3, hi3⟩ := hp
      obtain ⟨hr, hl3, hl4, hk4⟩ := fin (some .ret) W3 k3
      exact ⟨_, _, hr, .inr ⟨rfl, .ret, (hIx _).putObj _ hi3 (by omega) hl3 rfl, hl4, hk4⟩⟩
    | exit id =>
      obtain ⟨k3, hi3⟩ := hp
      obtain ⟨hr, hl3, hl4, hk4⟩ := fin (some (.exit id)) W3 k3
      exact ⟨_, _, hr, .inr ⟨rfl, .exit id, (hIx _).putObj _ hi3 (by omega) hl3 rfl, hl4, hk4⟩⟩
    | goto t =>
      obtain ⟨k3, hi3⟩ := hp
      obtain ⟨hr, hl3, hl4, hk4⟩ := fin (some (.goto t)) W3 k3
      exact ⟨_, _, hr, .inr ⟨rfl, .goto t, (hIx _).putObj _ hi3 (by omega) hl3 rfl, hl4, hk4⟩⟩
    | panic ch => exact hp.elim
    | outgrown => exact hp.elim
  · rintro e W2 ⟨⟨v, rfl⟩, (⟨xs, hS, hi, hl, hk⟩ | ⟨pre, hSp, c, hi, hl, hk⟩)⟩
    · have hend := run_endLoop (P := P) hl (by rw [hrc]; simp [loopRec])
      rw [hrc] at hend
      exact ⟨none, _, hend, hdone N xs _ (by omega) hS (hI.putObj _ hi (by omega) hl rfl) ((World.putObj_heap_other (by omega)).trans hk)⟩
    · have hend := run_endLoop (P := P) hl (by rw [hrc]; simp [loopRec])
      rw [hrc] at hend
      exact ⟨some c, _, hend, hstop N c pre _ (by omega) hSp ((hIx c).putObj _ hi (by omega) hl rfl) ((World.putObj_heap_other (by omega)).trans hk)⟩
end
end Go.Proofs.YtpmjlaiafgbjgaaGreatDoor
end

section
namespace Go.Proofs.YtpmjlaiafgbjgaaGreatDoor
open Go.RowKit
attribute [local go_sem] Oper.semAt_some
set_option maxRecDepth 100000 in
set_option maxHeartbeats 1000000 in
theorem Mark_log (S : Nat → Prop) (xb : Nat) (rs : List Rec) (hle : rs.length ≤ 1048576) (w : World) (hP : LogS w S xb rs) : Calls Tryz.prog 38 #[.pointer (some ⟨xb, 0, none⟩)] w fun e w' => e = .returned (.tuple #[.int .i64 (markV rs).1, .bool (markV rs).2]) ∧ w' = w := by
  have hxb := hP.lt
  have LN := Lib.hid (Len_log S xb rs w hP)
  obtain ⟨A, c, h1, hcl, hRB⟩ := hP.listB
  have hmk : markV rs = markAt rs.length rs := rfl
  obtain ⟨mv, hmv⟩ : ∃ m, markV rs = m := ⟨_, rfl⟩
  rw [hmv] at hmk ⊢
  have HM := Lib.hid hmk.symm; clear hmk hmv
  have HB := Lib.hid hRB; clear hRB hP
  obtain ⟨n, hn⟩ : ∃ n, rs.length = n := ⟨_, rfl⟩
  rw [hn] at h1 hle HM hcl
  have HN := Lib.hid hn; clear hn
  rw [HN.out] at LN
  go_enter Tryz.func38, Tryz.ntmps38
  go_wp2_with fail
  refine LN.out.mono ?_; rintro e1 w1 ⟨rfl, hw⟩
  have hw' := hw.symm; subst hw'; clear hw
  go_wp2
  go_loopw [4] (fun iv wr => ∃ j : Nat, j ≤ n ∧ iv = .int .i64 ((j : Int) - 1) ∧ markAt j rs = mv ∧ wr = w) (fun iv _ => (intOf iv + 1).toNat)
  case atStart => exact ⟨n, Nat.le_refl _, rfl, HM.out, rfl⟩
  case round =>
    obtain ⟨j, hj, rfl, hm, rfl⟩ := hrel
    cases j with
    | zero =>
      have hmv : mv = (0, false) := hm.symm
      subst hmv
      have e0 : ((0 : Nat) : Int) - 1 = -1 := rfl
      rw [e0]
      clear hm e0
      go_wp2
      go_ret2
      exact ⟨rfl, rfl⟩
    | succ j =>
      have e1 : ((j + 1 : Nat) : Int) - 1 = (j : Int) := by omega
      rw [e1]
      have hlt : j < rs.length := by rw [HN.out]; omega
      obtain ⟨r, hr⟩ : ∃ r, rs[j]? = some r := ⟨_, List.getElem?_eq_getElem hlt⟩
      obtain ⟨g, Dv, cv, rfl, hg, y0, y1⟩ := HB.out j r.i (by rw [List.getElem?_map, hr]; rfl)
      have x0 : wr.cell? ⟨g, j * 2, none⟩ = some (.int .i64 (r.kind : Int)) := y0
      clear y0 y1
      have hgd : rs.getD j ⟨0, []⟩ = r := by rw [List.getD_eq_getElem?_getD, hr]; rfl
      have hm : (if r.kind = 2 then ((j : Int), true) else markAt j rs) = mv := by rw [← hm]; show _ = if (rs.getD j ⟨0, []⟩).kind = 2 then _ else _; rw [hgd]
      have b1 : (j : Int) < (n : Int) := by omega
      have hwr : decide ((0 : Int) ≤ (j : Int)) = true := decide_eq_true (by omega)
      have wj : IntKind.i64.wrap ((j : Int) - 1) = (j : Int) - 1 := by rw [IntKind.wrap_i64]; omega
      by_cases hk : r.kind = 2
      · rw [if_pos hk] at hm
        subst hm
        have hk' : ((r.kind : Int) == 2) = true := by rw [hk]; rfl
        have hkp : (r.kind : Int) = 2 := by rw [hk]; rfl
        clear hgd hr hlt e1
        go_wp2
        go_ret2
        exact ⟨rfl, rfl⟩
      · rw [if_neg hk] at hm
        have HMM := Lib.hid hm; clear hm hgd hr hlt e1
        have hk' : ((r.kind : Int) == 2) = false := by rw [beq_eq_false_iff_ne]; omega
        have hkp : ¬ (r.kind : Int) = 2 := by omega
        go_wp2
        go_roundw
        case rel => exact ⟨j, by omega, by go_num, HMM.out, by first | rfl | trivial⟩
        case measure => simp [intOf] <;> omega
set_option maxRecDepth 100000 in
set_option maxHeartbeats 1000000 in
theorem Get_bad (S : Nat → Prop) (xb : Nat) (rs : List Rec) (m : Int) (hbad : m < 0 ∨ (rs.length : Int) ≤ m) (w : World) (hP : LogS w S xb rs) : Calls Tryz.prog 41 #[.pointer (some ⟨xb, 0, none⟩), .int .i64 m] w fun e w' => e = .returned (.tuple #[.agg #[.int .i64 0, .slice none 0 0], .int .i64 1]) ∧ Within w w' := by
  have h0 := hP.made
  have hxb := hP.lt
  obtain ⟨Al, cl, h1, hcl, _⟩ := hP.listB
  obtain ⟨Z, hZ⟩ : ∃ Z, Z = w.alloc (.cells #[.int .i64 0, .slice none 0 0] 30) := ⟨_, rfl⟩
  have iZ : Within w Z := by rw [hZ]; exact (Within.refl w).alloc _
  have z0 : Z.cell? ⟨w.heap.size, 0, none⟩ = some (.int .i64 0) := by rw [hZ]; simp
  have z1 : Z.cell? ⟨w.heap.size, 1, none⟩ = some (.slice none 0 0) := by rw [hZ]; simp
  have zf0 : Z.frozen? ⟨w.heap.size, 0, none⟩ = false := by rw [hZ]; simp
  have zf1 : Z.frozen? ⟨w.heap.size, 1, none⟩ = false := by rw [hZ]; simp
  have zs : w.heap.size < Z.heap.size := by rw [hZ]; simp
  have zh0 : Z.cell? ⟨xb, 0, none⟩ = some (.int .i64 1) := (iZ.cells _ _ hxb).trans h0
  have zh1 := (iZ.cells _ 1 hxb).trans h1
  have zxb := Nat.lt_of_lt_of_le hxb iZ.size
  have IS := Lib.hid (is_true xb Z zh0)
  obtain ⟨n, hn⟩ : ∃ n, rs.length = n := ⟨_, rfl⟩
  rw [hn] at h1 zh1 hcl hbad
  have HI := Lib.hid iZ; clear iZ hP hn
  by_cases hb : m < 0
  · have d1 : decide (m < 0) = true := decide_eq_true hb
    go_enter Tryz.func41, Tryz.ntmps41
    go_wp2_with fail
    rw [← hZ]
    clear hZ
    refine IS.out.mono ?_; rintro e1 w1 ⟨rfl, rfl⟩
    go_wp2
    have hI9 : Within w ((w1.setCell ⟨w.heap.size, 0, none⟩ (.int .i64 0)).setCell ⟨w.heap.size, 1, none⟩ (.slice none 0 0)) := (HI.out.setCell (Nat.le_refl _) _).setCell (Nat.le_refl _) _
    refine bodyPost_ret (v := .tuple #[.agg #[.int .i64 0, .slice none 0 0], .int .i64 1]) (by simp [results, Tryz.results41, go_sem, z0, z1, zf0, zf1, zs]) rfl ⟨rfl, hI9⟩
  · have d1 : decide (m < 0) = false := decide_eq_false hb
    have d2 : decide ((n : Int) ≤ m) = true := decide_eq_true (by omega)
    go_enter Tryz.func41, Tryz.ntmps41
    go_wp2_with fail
    rw [← hZ]
    clear hZ
    refine IS.out.mono ?_; rintro e1 w1 ⟨rfl, rfl⟩
    go_wp2
    have hI9 : Within w ((w1.setCell ⟨w.heap.size, 0, none⟩ (.int .i64 0)).setCell ⟨w.heap.size, 1, none⟩ (.slice none 0 0)) := (HI.out.setCell (Nat.le_refl _) _).setCell (Nat.le_refl _) _
    refine bodyPost_ret (v := .tuple #[.agg #[.int .i64 0, .slice none 0 0], .int .i64 1]) (by simp [results, Tryz.results41, go_sem, z0, z1, zf0, zf1, zs]) rfl ⟨rfl, hI9⟩
set_option maxRecDepth 100000 in
set_option maxHeartbeats 1000000 in
theorem Cut_bad (S : Nat → Prop) (xb : Nat) (rs : List Rec) (m : Int) (hbad : m < 0 ∨ (rs.length : Int) < m) (w : World) (hP : LogS w S xb rs) : Calls Tryz.prog 11 #[.pointer (some ⟨xb, 0, none⟩), .int .i64 m] w fun e w' => e = .returned (.int .i64 1) ∧ w' = w := by
  have h0 := hP.made
  have hxb := hP.lt
  obtain ⟨Al, cl, h1, hcl, _⟩ := hP.listB
  have IS := Lib.hid (is_true xb w h0)
  obtain ⟨n, hn⟩ : ∃ n, rs.length = n := ⟨_, rfl⟩
  rw [hn] at h1 hcl hbad
  clear hP hn
  by_cases hb : m < 0
  · have d1 : decide (m < 0) = true := decide_eq_true hb
    go_enter Tryz.func11, Tryz.ntmps11
    go_wp2_with fail
    refine IS.out.mono ?_; rintro e1 w1 ⟨rfl, hw⟩
    have hw' := hw.symm; subst hw'; clear hw
    go_wp2
    go_ret
    exact ⟨rfl, rfl⟩
  · have d1 : decide (m < 0) = false := decide_eq_false hb
    have d2 : decide ((n : Int) < m) = true := decide_eq_true (by omega)
    go_enter Tryz.func11, Tryz.ntmps11
    go_wp2_with fail
    refine IS.out.mono ?_; rintro e1 w1 ⟨rfl, hw⟩
    have hw' := hw.symm; subst hw'; clear hw
    go_wp2
    go_ret
    exact ⟨rfl, rfl⟩
theorem LogS.moved {w w' : World} {S : Nat → Prop} {nb xb : Nat} {rs : List Rec} (h : LogS w S nb rs) (hx : ¬ S xb) (hc : ∀ a b c d, XC w nb a b c d → XC w' xb a b c d) (hk : ∀ j, j ≠ xb → w'.heap[j]? = w.heap[j]?) : LogS w' (fun j => S j ∨ j = xb) xb rs := by
  obtain ⟨hS, hmade, hfirm, ps, lv, kv, bv, hps, p1, p2, p3, hRW, hown⟩ := h
  have hX := hc _ _ _ _ (XC.mk hmade p1 p2 p3 hfirm)
  have hne : ∀ j, Owned ps lv kv bv j → j ≠ xb := fun j hj e => hx (e ▸ (hown j hj).1)
  exact ⟨.inr rfl, hX.c0, hX.firm, ps, lv, kv, bv, hps, hX.c1, hX.c2, hX.c3, hRW.keepO (fun j hj _ => hk j (hne j hj)), fun j hj => ⟨.inl (hown j hj).1, hne j hj⟩⟩
theorem LogS.cells {w : World} {S : Nat → Prop} {xb : Nat} {rs : List Rec} (h : LogS w S xb rs) : ∃ A1 n1 c1 A2 n2 c2 A3 n3 c3, XC w xb (.int .i64 1) (.slice A1 n1 c1) (.slice A2 n2 c2) (.slice A3 n3 c3) ∧ S xb := by
  obtain ⟨hS, hmade, hfirm, ps, lv, kv, bv, hps, p1, p2, p3, hRW, hown⟩ := h
  obtain ⟨A1, c1, rfl, _⟩ := RecsO.at (rs := ps.map Prod.fst) ⟨ps, rfl, hRW.recs⟩
  obtain ⟨A2, c2, rfl, _⟩ := owns_form hRW.links
  obtain ⟨A3, c3, rfl, _⟩ := hRW.bytes.form
  exact ⟨_, _, _, _, _, _, _, _, _, XC.mk hmade p1 p2 p3 hfirm, hS⟩
theorem XC.same {w : World} {xb : Nat} {a b c d a' b' c' d' : Value} (h : XC w xb a b c d) (k : XC w xb a' b' c' d') : a = a' ∧ b = b' ∧ c = c' ∧ d = d' :=
  ⟨Option.some.inj (h.c0.symm.trans k.c0), Option.some.inj (h.c1.symm.trans k.c1), Option.some.inj (h.c2.symm.trans k.c2), Option.some.inj (h.c3.symm.trans k.c3)⟩
theorem XC.over {w : World} {xb : Nat} {a b c d : Value} (h : XC w xb a b c d) (a' b' c' d' : Value) : XC ((((w.setCell ⟨xb, 0, none⟩ a').setCell ⟨xb, 1, none⟩ b').setCell ⟨xb, 2, none⟩ c').setCell ⟨xb, 3, none⟩ d') xb a' b' c' d' := by
  obtain ⟨h0, h1, h2, h3, hf⟩ := h
  have hn : ∀ {i j : Nat}, i ≠ j → (⟨xb, i, none⟩ : Addr) ≠ ⟨xb, j, none⟩ := fun h e => h (by injection e)
  refine ⟨?_, ?_, ?_, ?_, fun o => by simp only [World.frozen?_setCell]; exact hf o⟩
  · rw [World.cell?_setCell_other _ _ _ _ (hn (by decide)), World.cell?_setCell_other _ _ _ _ (hn (by decide)), World.cell?_setCell_other _ _ _ _ (hn (by decide))]
    exact World.cell?_setCell_same _ _ _ h0
  · rw [World.cell?_setCell_other _ _ _ _ (hn (by decide)), World.cell?_setCell_other _ _ _ _ (hn (by decide))]
    exact World.cell?_setCell_same _ _ _ ((World.cell?_setCell_other _ _ _ _ (hn (by decide))).trans h1)
  · rw [World.cell?_setCell_other _ _ _ _ (hn (by decide))]
    exact World.cell?_setCell_same _ _ _ ((World.cell?_setCell_other _ _ _ _ (hn (by decide))).trans ((World.cell?_setCell_other _ _ _ _ (hn (by decide))).trans h2))
  · exact World.cell?_setCell_same _ _ _ ((World.cell?_setCell_other _ _ _ _ (hn (by decide))).trans ((World.cell?_setCell_other _ _ _ _ (hn (by decide))).trans ((World.cell?_setCell_other _ _ _ _ (hn (by decide))).trans h3)))
end Go.Proofs.YtpmjlaiafgbjgaaGreatDoor
end

section
namespace Go.Proofs.YtpmjlaiafgbjgaaGreatDoor
open Go.RowKit
theorem RecP.atD {w : World} {base : Nat} {v : Value} {ps : List (IRec × Value)} {D : Nat → Prop} (h : RecP w base v ps) (hD : ∀ j, (v.ownBlock = some j ∨ ∃ p ∈ ps, p.2.ownBlock = some j) → D j) : ∃ A c, v = .slice A ps.length c ∧ ps.length ≤ c ∧ RecAt w D A (ps.map Prod.fst) := by
  obtain ⟨hrow, hps⟩ := h
  rcases hrow.2 with ⟨rfl, h0⟩ | ⟨g, cap, cur, rfl, hg, hb, hc, h7, h8, h9⟩
  · have : ps = [] := List.eq_nil_of_length_eq_zero h0
    subst this
    exact ⟨none, 0, rfl, Nat.le_refl _, fun i r hi => by simp at hi⟩
  · obtain ⟨hlt, _⟩ := Array.getElem?_eq_some_iff.1 hb
    refine ⟨_, _, rfl, hc, fun i r hi => ?_⟩
    rw [List.getElem?_map, Option.map_eq_some_iff] at hi
    obtain ⟨p, hp, rfl⟩ := hi
    have hm := List.mem_of_getElem? hp
    obtain ⟨h1, h2, _⟩ := hps p hm
    obtain ⟨Dv, cv, hv, hl, hs, _⟩ := h1.form
    have key : ∀ j u, (recC p.1 p.2)[j]? = some u → w.cell? ⟨g, i * 2 + j, none⟩ = some u := fun j u hu => by rw [← add_at]; exact World.ownsRow.cells (g := g) hrow rfl _ _ (cellsI_get ps i p hp j u hu)
    refine ⟨⟨g, 0, none⟩, Dv, cv, rfl, hlt, hD g (.inl rfl), by rw [add_at]; exact key 0 _ rfl, by rw [add_at]; exact (key 1 _ rfl).trans (by rw [hv]), hl, hs, fun x hx => ?_, h2⟩
    refine hD _ (.inr ⟨p, hm, ?_⟩)
    rcases h1.2 with ⟨e, _⟩ | ⟨g', cap', cur', e, _⟩
    · rw [hv] at e; injection e with e1; rw [hx] at e1; cases e1
    · rw [hv] at e; injection e with e1; rw [hx] at e1; rw [hv, hx, Option.some.inj e1]; rfl
theorem LogS.listD {w : World} {S : Nat → Prop} {xb : Nat} {rs : List Rec} (h : LogS w S xb rs) : ∃ Al cl, w.cell? ⟨xb, 1, none⟩ = some (.slice Al rs.length cl) ∧ rs.length ≤ cl ∧ RecAt w (fun j => j ≠ xb) Al (rs.map Rec.i) := by
  obtain ⟨hS, hmade, hfirm, ps, lv, kv, bv, hps, p1, p2, p3, hRW, hown⟩ := h
  have hlen : ps.length = rs.length := by have := congrArg List.length hps; rwa [List.length_map, List.length_map] at this
  obtain ⟨Al, cl, rfl, hcl, hA⟩ := hRW.recs.atD (D := fun j => j ≠ xb) (fun j hj => (hown j (by rcases hj with hj | hj; exact .inl hj; exact .inr (.inr (.inr hj)))).2)
  rw [hps] at hA
  rw [hlen] at hcl p1
  exact ⟨Al, cl, p1, hcl, hA⟩
set_option maxRecDepth 100000 in
set_option maxHeartbeats 1000000 in
theorem Cut_good (S : Nat → Prop) (xb : Nat) (rs : List Rec) (hok : ∀ q ∈ rs, q.Ok pf) (hle : rs.length ≤ 1048576) (m : Nat) (hm : m ≤ rs.length) (w : World) (hP : LogS w S xb rs) : Calls Tryz.prog 11 #[.pointer (some ⟨xb, 0, none⟩), .int .i64 (m : Int)] w fun e w' => e = .returned (.int .i64 0) ∧ LogS w' (More S w w') xb (rs.take m) ∧ ButS S w w' := by
  have h0 := hP.made
  have hxb := hP.lt
  obtain ⟨Al, cl, h1, hcl, hA⟩ := hP.listD
  obtain ⟨_, _, _, _, _, _, _, _, _, hXC, hSx⟩ := hP.cells
  have IS := Lib.hid (is_true xb w h0)
  have HA := Lib.hid hA; have HXC := Lib.hid hXC; have HSX := Lib.hid hSx; clear hA hXC hSx hP
  have d1 : decide ((m : Int) < 0) = false := decide_eq_false (by omega)
  have d3 : (0 : Int) ≤ (m : Int) := by omega
  obtain ⟨n, hn⟩ : ∃ n, rs.length = n := ⟨_, rfl⟩
  have HN := Lib.hid hn
  rw [hn] at h1 hcl hm hle
  clear hn
  have d2 : decide ((n : Int) < (m : Int)) = false := decide_eq_false (by omega)
  have d4 : (m : Int) ≤ (cl : Int) := by omega
  have d5 : m ≤ cl := by omega
  have HOK := Lib.hid hok; clear hok
  go_enter Tryz.func11, Tryz.ntmps11
  go_wp2_with fail
  refine IS.out.mono ?_; rintro e1 w1 ⟨rfl, hw⟩
  have hw' := hw.symm; subst hw'; clear hw IS
  go_wp2_with fail
  refine (New_log w).mono ?_; rintro e2 w2 ⟨nb, rfl, hN, h2⟩
  obtain ⟨A1, m1, c1, A2, m2, c2, A3, m3, c3, hNC, hnb⟩ := hN.cells
  have hX2 := HXC.out.of h2
  have n0 := hNC.c0; have n1 := hNC.c1; have n2 := hNC.c2; have n3 := hNC.c3; have nl := hNC.lt; have x0 := hX2.c0; have x1 := hX2.c1; have x2 := hX2.c2; have x3 := hX2.c3; have xl := hX2.lt; have xf := hX2.firm
  have HNC := Lib.hid hNC; have HX2 := Lib.hid hX2; have HNL := Lib.hid hN; have H2 := Lib.hid h2; have HNB := Lib.hid hnb; clear hNC hX2 hN h2 hnb h0
  go_wp2_with fail
  obtain ⟨W3, hW3⟩ : ∃ W, W = ((((w2.setCell ⟨xb, 0, none⟩ (.int .i64 1)).setCell ⟨xb, 1, none⟩ (.slice A1 m1 c1)).setCell ⟨xb, 2, none⟩ (.slice A2 m2 c2)).setCell ⟨xb, 3, none⟩ (.slice A3 m3 c3)) := ⟨_, rfl⟩
  have hX3 := HX2.out.over (.int .i64 1) (.slice A1 m1 c1) (.slice A2 m2 c2) (.slice A3 m3 c3)
  rw [← hW3] at hX3 ⊢
  have hk3 : ∀ j, j ≠ xb → W3.heap[j]? = w2.heap[j]? := fun j hj => by rw [hW3, Below.heap_setCell _ _ _ j hj, Below.heap_setCell _ _ _ j hj, Below.heap_setCell _ _ _ j hj, Below.heap_setCell _ _ _ j hj]
  have hs3 : W3.heap.size = w2.heap.size := by rw [hW3]; simp [World.setCell]
  have hL3 := HNL.out.moved (w' := W3) (xb := xb) (fun h => by omega) (fun a' b' c' d' h => by obtain ⟨rfl, rfl, rfl, rfl⟩ := h.same HNC.out; exact hX3) hk3
  have hB3 : ButS (fun j => j = xb) w W3 := by rw [hW3]; exact (((((ButS.in_ (S := fun j => j = xb) H2.out).set (p := ⟨xb, 0, none⟩) (.inl rfl) _).set (p := ⟨xb, 1, none⟩) (.inl rfl) _).set (p := ⟨xb, 2, none⟩) (.inl rfl) _).set (p := ⟨xb, 3, none⟩) (.inl rfl) _)
  have HL3 : Hid (LogS W3 (fun j => j = xb ∨ (w.heap.size ≤ j ∧ j < W3.heap.size)) xb []) := Lib.hid (hL3.mono (fun j hj => by rcases hj with hj | hj; exact .inr ⟨hj.1, by rw [hs3]; exact hj.2⟩; exact .inl hj))
  have HB3 := Lib.hid hB3; clear hB3 hL3 hX3 hk3 hs3 hW3 n0 n1 n2 n3 nl x0 x1 x2 x3 xl xf
  go_loopw [35] (fun iv wr => ∃ i : Nat, i ≤ m ∧ iv = .int .i64 (i : Int) ∧ LogS wr (fun j => j = xb ∨ (w.heap.size ≤ j ∧ j < wr.heap.size)) xb (rs.take i) ∧ ButS (fun j => j = xb) w wr) (fun iv _ => m - (intOf iv).toNat)
  case atStart => exact ⟨0, Nat.zero_le _, rfl, HL3.out, HB3.out⟩
  case round =>
    obtain ⟨i, hi, rfl, hPi, hBi⟩ := hrel
    by_cases hlt : i < m
    · obtain ⟨r, hr⟩ : ∃ r, rs[i]? = some r := ⟨_, List.getElem?_eq_getElem (by rw [HN.out]; omega)⟩
      obtain ⟨ad, Dv, cv, rfl, l1, y0, y1, hcv', hs1', _⟩ := (HA.out.butS hBi (fun j hj => hj)).cells' (by rw [List.getElem?_map, hr]; rfl : (rs.map Rec.i)[i]? = some r.i)
      have x0 : wr.cell? (ad.add (i * 2)) = some (.int .i64 (r.kind : Int)) := y0
      have x1 : wr.cell? ⟨(ad.add (i * 2)).block, (ad.add (i * 2)).off + 1, none⟩ = some (.slice Dv r.data.length cv) := y1
      have hcv : r.data.length ≤ cv := hcv'
      have hs1 : SlAt wr Dv (u8v r.data) := hs1'; clear y0 y1 hs1' hcv'
      have hmr : r ∈ rs := List.mem_of_getElem? hr
      have PU : Hid (∀ W, Within wr W → Calls Tryz.prog 33 #[.pointer (some ⟨xb, 0, none⟩), .agg #[.int .i64 (r.kind : Int), .slice Dv r.data.length cv]] W fun e w' => e = .returned (.tuple #[]) ∧ LogS w' (More (fun j => j = xb ∨ (w.heap.size ≤ j ∧ j < wr.heap.size)) W w') xb (rs.take i ++ [r]) ∧ ButS (fun j => j = xb ∨ (w.heap.size ≤ j ∧ j < wr.heap.size)) W w') := Lib.hid (fun W h => jput_any _ xb (rs.take i) r (fun q hq => HOK.out q (by rcases List.mem_append.1 hq with hq | hq; exact List.mem_of_mem_take hq; rw [List.mem_singleton] at hq; rw [hq]; exact hmr)) (by rw [List.length_take, HN.out]; omega) Dv cv hcv W (hPi.of h) (hs1.of h))
      have HTS := Lib.hid (take_snoc hr)
      have b1 : (i : Int) < (m : Int) := by omega
      have HBI := Lib.hid hBi; clear hPi hBi hs1 hr hmr hcv
      obtain ⟨nd, hnd⟩ : ∃ n, r.data.length = n := ⟨_, rfl⟩
      obtain ⟨kd, hkd⟩ : ∃ n, r.kind = n := ⟨_, rfl⟩
      rw [hnd, hkd] at PU
      rw [hnd] at x1
      rw [hkd] at x0
      clear hnd hkd
      go_wp2_with fail
      refine (PU.out _ (by repeat (first | with_reducible exact Within.refl _ | with_reducible assumption | with_reducible refine Within.alloc ?_ _ | with_reducible refine Within.drew ?_ | with_reducible refine Within.drewN ?_ _ | with_reducible refine Within.setCell ?_ (by first | (simp; done) | (simp; omega)) _ | with_reducible refine Within.trans ?_ (by assumption)))).mono ?_; rintro e3 w3 ⟨rfl, hL3, hB3⟩
      have hB3' : ButS (fun j => j = xb ∨ (w.heap.size ≤ j ∧ j < wr.heap.size)) wr w3 := (ButS.in_ (by repeat (first | with_reducible exact Within.refl _ | with_reducible assumption | with_reducible refine Within.alloc ?_ _ | with_reducible refine Within.drew ?_ | with_reducible refine Within.drewN ?_ _ | with_reducible refine Within.setCell ?_ (by first | (simp; done) | (simp; omega)) _ | with_reducible refine Within.trans ?_ (by assumption)))).trans hB3 (fun j _ h => h)
      have hw3 : ButS (fun j => j = xb) w w3 := HBI.out.trans hB3' (fun j hl hj => by rcases hj with hj | hj; exact hj; omega)
      have hL3' := hL3.mono (T := fun j => j = xb ∨ (w.heap.size ≤ j ∧ j < w3.heap.size)) (fun j hj => by
        rcases hj with (hj | hj) | hj
        · exact .inl hj
        · exact .inr ⟨hj.1, Nat.lt_of_lt_of_le hj.2 hB3'.size⟩
        · have h1 := HBI.out.size; have h2 := hj.1; simp at h2; exact .inr ⟨by omega, hj.2⟩)
      rw [HTS.out] at hL3'
      have HW3 := Lib.hid hw3; have HL3 := Lib.hid hL3'; clear hL3 hB3 hB3' hw3 hL3'
      go_wp2
      go_roundw
      case rel => exact ⟨i + 1, hlt, by go_num, HL3.out, HW3.out⟩
      case measure => simp [intOf]; omega
    · obtain rfl : i = m := by omega
      have HPI := Lib.hid hPi; have HBI := Lib.hid hBi; clear hPi hBi
      go_wp2
      go_ret
      exact ⟨rfl, HPI.out.mono (fun j hj => by rcases hj with hj | hj; rw [hj]; exact .inl HSX.out; exact .inr hj), HBI.out.mono (fun j _ hj => by rw [hj]; exact HSX.out)⟩
theorem Cut_any (S : Nat → Prop) (xb : Nat) (rs : List Rec) (hok : ∀ q ∈ rs, q.Ok pf) (hle : rs.length ≤ 1048576) (n : Int) (w : World) (hP : LogS w S xb rs) : Calls Tryz.prog 11 #[.pointer (some ⟨xb, 0, none⟩), .int .i64 n] w fun e w' => e = .returned (.int .i64 (cutV rs n).2) ∧ LogS w' (More S w w') xb (cutV rs n).1 ∧ ButS S w w' := by
  by_cases h : n < 0 ∨ (rs.length : Int) < n
  · unfold cutV
    rw [if_pos h]
    refine (Cut_bad S xb rs n h w hP).mono ?_
    rintro e w' ⟨rfl, rfl⟩
    exact ⟨rfl, hP.mono (fun j hj => .inl hj), ButS.refl _ _⟩
  · unfold cutV
    rw [if_neg h]
    obtain ⟨m, rfl⟩ : ∃ m : Nat, n = (m : Int) := ⟨n.toNat, by omega⟩
    exact Cut_good S xb rs hok hle m (by omega) w hP
end Go.Proofs.YtpmjlaiafgbjgaaGreatDoor
end

section
namespace Go.Proofs.YtpmjlaiafgbjgaaGreatDoor
open Go.RowKit
def U8s (w : World) (g n : Nat) : Prop := (∀ i, i < n → ∃ x : Nat, x < 256 ∧ w.cell? ⟨g, i, none⟩ = some (.int .u8 (x : Int))) ∧ ∀ o, w.frozen? ⟨g, o, none⟩ = false
theorem RowB.u8s {w : World} {g : Nat} {l : List Nat} (h : RowB w g l) (hb : Bytes l) : U8s w g l.length := ⟨fun i hi => ⟨l.getD i 0, hb.at hi, h.1 i hi⟩, h.2⟩
theorem U8s.set {w : World} {g n : Nat} (h : U8s w g n) (i x : Nat) (hx : x < 256) : U8s (w.setCell ⟨g, i, none⟩ (.int .u8 (x : Int))) g n := by
  refine ⟨fun j hj => ?_, fun o => by rw [World.frozen?_setCell]; exact h.2 o⟩
  obtain ⟨y, hy, hc⟩ := h.1 j hj
  by_cases e : i = j
  · subst e
    exact ⟨x, hx, World.cell?_setCell_same _ _ _ hc⟩
  · exact ⟨y, hy, (World.cell?_setCell_other _ _ _ _ (fun h => e (by cases h; rfl))).trans hc⟩
theorem U8s.of {w w' : World} {g n : Nat} (h : U8s w g n) (k : Within w w') (hg : g < w.heap.size) : U8s w' g n := ⟨fun i hi => by
    obtain ⟨x, hx, hc⟩ := h.1 i hi
    exact ⟨x, hx, (k.cells _ _ hg).trans hc⟩, fun o => (k.frozens _ _ hg).trans (h.2 o)⟩
theorem OwnB.u8s {w : World} {base : Nat} {v : Value} {l : List Nat} (h : OwnB w base v l) (hb : Bytes l) (g0 : Nat) (hg0 : base ≤ g0) : ∃ A c g, v = .slice A l.length c ∧ l.length ≤ c ∧ base ≤ g ∧ SlAt w A (u8v l) ∧ (0 < l.length → A = some ⟨g, 0, none⟩ ∧ g < w.heap.size ∧ U8s w g l.length) ∧ (l.length = 0 → g = g0) := by
  rcases Nat.eq_zero_or_pos l.length with h0 | h0
  · obtain ⟨A, c, e, hc, hs, _⟩ := h.form
    exact ⟨A, c, g0, e, hc, hg0, hs, fun hp => by omega, fun _ => rfl⟩
  · obtain ⟨g, c, e, hc, hg, hl, hr⟩ := h.row h0
    exact ⟨_, c, g, e, hc, hg, hr.at hl, fun _ => ⟨rfl, hl, hr.u8s hb⟩, fun h => by omega⟩
set_option maxRecDepth 100000 in
set_option maxHeartbeats 1000000 in
theorem looks_bad (S Sy : Nat → Prop) (xb yb : Nat) (rs : List Rec) (hle : rs.length ≤ 1048576) (n : Int) (hbad : n < 0 ∨ (rs.length : Int) ≤ n) (w : World) (hX : LogS w S xb rs) (hY : RlogS w Sy yb rs) : Calls Tryz.prog 16 #[.pointer (some ⟨xb, 0, none⟩), .pointer (some ⟨yb, 0, none⟩), .int .i64 n] w fun e w' => e = .returned (.bool true) ∧ Within w w' := by
  have MK := Lib.hid (Mark_log S xb rs hle w hX)
  have RM := Lib.hid (Rmark_log Sy yb rs hle w hY)
  obtain ⟨⟨mi, mb⟩, hmv⟩ : ∃ t, markV rs = t := ⟨_, rfl⟩
  rw [hmv] at MK RM
  clear hmv
  have LN := Lib.hid (fun W (h : Within w W) => Len_log S xb rs W (hX.of h))
  have hyb := hY.lt
  obtain ⟨Ay, cy, p1, hcy, hyB, hyA⟩ := hY.list
  have HYG := Lib.hid (fun W (h : Within w W) => hyA.g.of h)
  have em : (mi != mi) = false := by simp
  have eb : (mb != mb) = false := by simp
  have en : ((rs.length : Int) != (rs.length : Int)) = false := by simp
  have GB := Lib.hid (fun W (h : Within w W) => Get_bad S xb rs n hbad W (hX.of h))
  obtain ⟨nn, hnn⟩ : ∃ n, rs.length = n := ⟨_, rfl⟩
  rw [hnn] at p1 hcy LN en hbad
  have HNN := Lib.hid hnn; clear hnn hX hY hyB hyA
  by_cases hb : n < 0
  · have d1 : decide (n < 0) = true := decide_eq_true hb
    go_enter Tryz.func16, Tryz.ntmps16
    go_wp2_with fail
    refine MK.out.mono ?_; rintro e1 w1 ⟨rfl, hw⟩
    have hw' := hw.symm; subst hw'; clear hw MK
    go_wp2_with fail
    refine RM.out.mono ?_; rintro e1 w1 ⟨rfl, hw⟩
    have hw' := hw.symm; subst hw'; clear hw RM
    go_wp2_with fail
    refine wp_region_schG (fun W => W.cell? ⟨yb, 0, none⟩ = some (.slice Ay nn cy) ∧ yb < W.heap.size ∧ Within w W) 17 (.firm 0 (.firm 2 (.firm 3 (.firm 4 (.firm 5 (.firm 6 (.one 1 (.firm 7 (.firm 8 (.firm 9 (.firm 10 (.firm 11 (.firm 12 (.firm 13 (.firm 14 (.firm 15 (.firm 16 (.one 17 .nil)))))))))))))))))) (by kernel_rfl) (by kernel_rfl) ⟨p1, hyb, Within.refl _⟩ ?_
    rintro w0 ⟨p1, hyb, hw0⟩
    try simp only [Act.put, List.setIfInBounds_toArray, List.set_cons_zero, List.set_cons_succ]
    iterate 6
      apply sch_firm rfl rfl (by repeat (first | with_reducible exact Within.refl _ | with_reducible assumption | with_reducible refine Within.alloc ?_ _ | with_reducible refine Within.drew ?_ | with_reducible refine Within.drewN ?_ _ | with_reducible refine Within.setCell ?_ (by first | (simp; done) | (simp; omega)) _ | with_reducible refine Within.trans ?_ (by assumption)))
      · intro wq hq
        have hcq := hq.cells
        clear hq
        go_simp
        rfl
      try simp only [Act.put, List.setIfInBounds_toArray, List.set_cons_zero, List.set_cons_succ]
    refine sch_one rfl rfl (fun K hK => ?_)
    go_simp
    refine (LN.out _ (by first | exact hw0 | exact hw0.drew)).mono ?_; rintro e1 w1 ⟨rfl, hw⟩
    have hw' := hw.symm; subst hw'; clear hw
    refine hK _ _ (fun _ => (by repeat (first | with_reducible exact Within.refl _ | with_reducible assumption | with_reducible refine Within.alloc ?_ _ | with_reducible refine Within.drew ?_ | with_reducible refine Within.drewN ?_ _ | with_reducible refine Within.setCell ?_ (by first | (simp; done) | (simp; omega)) _ | with_reducible refine Within.trans ?_ (by assumption)))) ?_
    clear hK K
    try simp only [Act.put, List.setIfInBounds_toArray, List.set_cons_zero, List.set_cons_succ]
    iterate 2
      apply sch_firm rfl rfl (by repeat (first | with_reducible exact Within.refl _ | with_reducible assumption | with_reducible refine Within.alloc ?_ _ | with_reducible refine Within.drew ?_ | with_reducible refine Within.drewN ?_ _ | with_reducible refine Within.setCell ?_ (by first | (simp; done) | (simp; omega)) _ | with_reducible refine Within.trans ?_ (by assumption)))
      · intro wq hq
        have hcq := hq.cells
        clear hq
        go_simp
        rfl
      try simp only [Act.put, List.setIfInBounds_toArray, List.set_cons_zero, List.set_cons_succ]
    iterate 3
      apply sch_want rfl (by first | rfl | decide | (simp [Region.wanted, yielded]; done)) (by repeat (first | with_reducible exact Within.refl _ | with_reducible assumption | with_reducible refine Within.alloc ?_ _ | with_reducible refine Within.drew ?_ | with_reducible refine Within.drewN ?_ _ | with_reducible refine Within.setCell ?_ (by first | (simp; done) | (simp; omega)) _ | with_reducible refine Within.trans ?_ (by assumption)))
      · intro wq hq
        have hcq := hq.cells
        clear hq
        go_simp
        rfl
      try simp only [Act.put, List.setIfInBounds_toArray, List.set_cons_zero, List.set_cons_succ]
    iterate 2
      apply sch_firm rfl rfl (by repeat (first | with_reducible exact Within.refl _ | with_reducible assumption | with_reducible refine Within.alloc ?_ _ | with_reducible refine Within.drew ?_ | with_reducible refine Within.drewN ?_ _ | with_reducible refine Within.setCell ?_ (by first | (simp; done) | (simp; omega)) _ | with_reducible refine Within.trans ?_ (by assumption)))
      · intro wq hq
        have hcq := hq.cells
        clear hq
        go_simp
        rfl
      try simp only [Act.put, List.setIfInBounds_toArray, List.set_cons_zero, List.set_cons_succ]
    iterate 3
      apply sch_want rfl (by first | rfl | decide | (simp [Region.wanted, yielded]; done)) (by repeat (first | with_reducible exact Within.refl _ | with_reducible assumption | with_reducible refine Within.alloc ?_ _ | with_reducible refine Within.drew ?_ | with_reducible refine Within.drewN ?_ _ | with_reducible refine Within.setCell ?_ (by first | (simp; done) | (simp; omega)) _ | with_reducible refine Within.trans ?_ (by assumption)))
      · intro wq hq
        have hcq := hq.cells
        clear hq
        go_simp
        rfl
      try simp only [Act.put, List.setIfInBounds_toArray, List.set_cons_zero, List.set_cons_succ]
    refine sch_one rfl rfl (fun K hK => ?_)
    go_simp
    refine hK _ _ (fun h => absurd h (by decide)) ?_
    clear hK K
    try simp only [Act.put, List.setIfInBounds_toArray, List.set_cons_zero, List.set_cons_succ]
    refine sch_nil ?_
    go_wp2_with fail
    refine (GB.out _ (by first | exact hw0 | exact hw0.drew)).mono ?_; rintro e2 w2 ⟨rfl, h2⟩
    have p2 := (h2.cells _ _ hyb).trans p1
    have hyb2 := Nat.lt_of_lt_of_le hyb h2.size
    go_wp2
    go_ret
    exact ⟨rfl, (hw0.trans (by first | exact h2 | exact ((Within.refl _).drew).trans h2)).alloc _⟩
  · have d1 : decide (n < 0) = false := decide_eq_false hb
    have d2 : decide ((nn : Int) ≤ n) = true := decide_eq_true (by omega)
    go_enter Tryz.func16, Tryz.ntmps16
    go_wp2_with fail
    refine MK.out.mono ?_; rintro e1 w1 ⟨rfl, hw⟩
    have hw' := hw.symm; subst hw'; clear hw MK
    go_wp2_with fail
    refine RM.out.mono ?_; rintro e1 w1 ⟨rfl, hw⟩
    have hw' := hw.symm; subst hw'; clear hw RM
    go_wp2_with fail
    refine wp_region_schG (fun W => W.cell? ⟨yb, 0, none⟩ = some (.slice Ay nn cy) ∧ yb < W.heap.size ∧ Within w W) 17 (.firm 0 (.firm 2 (.firm 3 (.firm 4 (.firm 5 (.firm 6 (.one 1 (.firm 7 (.firm 8 (.firm 9 (.firm 10 (.firm 11 (.firm 12 (.firm 13 (.firm 14 (.firm 15 (.firm 16 (.one 17 .nil)))))))))))))))))) (by kernel_rfl) (by kernel_rfl) ⟨p1, hyb, Within.refl _⟩ ?_
    rintro w0 ⟨p1, hyb, hw0⟩
    try simp only [Act.put, List.setIfInBounds_toArray, List.set_cons_zero, List.set_cons_succ]
    iterate 6
      apply sch_firm rfl rfl (by repeat (first | with_reducible exact Within.refl _ | with_reducible assumption | with_reducible refine Within.alloc ?_ _ | with_reducible refine Within.drew ?_ | with_reducible refine Within.drewN ?_ _ | with_reducible refine Within.setCell ?_ (by first | (simp; done) | (simp; omega)) _ | with_reducible refine Within.trans ?_ (by assumption)))
      · intro wq hq
        have hcq := hq.cells
        clear hq
        go_simp
        rfl
      try simp only [Act.put, List.setIfInBounds_toArray, List.set_cons_zero, List.set_cons_succ]
    refine sch_one rfl rfl (fun K hK => ?_)
    go_simp
    refine (LN.out _ (by first | exact hw0 | exact hw0.drew)).mono ?_; rintro e1 w1 ⟨rfl, hw⟩
    have hw' := hw.symm; subst hw'; clear hw
    refine hK _ _ (fun _ => (by repeat (first | with_reducible exact Within.refl _ | with_reducible assumption | with_reducible refine Within.alloc ?_ _ | with_reducible refine Within.drew ?_ | with_reducible refine Within.drewN ?_ _ | with_reducible refine Within.setCell ?_ (by first | (simp; done) | (simp; omega)) _ | with_reducible refine Within.trans ?_ (by assumption)))) ?_
    clear hK K
    try simp only [Act.put, List.setIfInBounds_toArray, List.set_cons_zero, List.set_cons_succ]
    iterate 2
      apply sch_firm rfl rfl (by repeat (first | with_reducible exact Within.refl _ | with_reducible assumption | with_reducible refine Within.alloc ?_ _ | with_reducible refine Within.drew ?_ | with_reducible refine Within.drewN ?_ _ | with_reducible refine Within.setCell ?_ (by first | (simp; done) | (simp; omega)) _ | with_reducible refine Within.trans ?_ (by assumption)))
      · intro wq hq
        have hcq := hq.cells
        clear hq
        go_simp
        rfl
      try simp only [Act.put, List.setIfInBounds_toArray, List.set_cons_zero, List.set_cons_succ]
    iterate 3
      apply sch_want rfl (by first | rfl | decide | (simp [Region.wanted, yielded]; done)) (by repeat (first | with_reducible exact Within.refl _ | with_reducible assumption | with_reducible refine Within.alloc ?_ _ | with_reducible refine Within.drew ?_ | with_reducible refine Within.drewN ?_ _ | with_reducible refine Within.setCell ?_ (by first | (simp; done) | (simp; omega)) _ | with_reducible refine Within.trans ?_ (by assumption)))
      · intro wq hq
        have hcq := hq.cells
        clear hq
        go_simp
        rfl
      try simp only [Act.put, List.setIfInBounds_toArray, List.set_cons_zero, List.set_cons_succ]
    iterate 2
      apply sch_firm rfl rfl (by repeat (first | with_reducible exact Within.refl _ | with_reducible assumption | with_reducible refine Within.alloc ?_ _ | with_reducible refine Within.drew ?_ | with_reducible refine Within.drewN ?_ _ | with_reducible refine Within.setCell ?_ (by first | (simp; done) | (simp; omega)) _ | with_reducible refine Within.trans ?_ (by assumption)))
      · intro wq hq
        have hcq := hq.cells
        clear hq
        go_simp
        rfl
      try simp only [Act.put, List.setIfInBounds_toArray, List.set_cons_zero, List.set_cons_succ]
    iterate 3
      apply sch_want rfl (by first | rfl | decide | (simp [Region.wanted, yielded]; done)) (by repeat (first | with_reducible exact Within.refl _ | with_reducible assumption | with_reducible refine Within.alloc ?_ _ | with_reducible refine Within.drew ?_ | with_reducible refine Within.drewN ?_ _ | with_reducible refine Within.setCell ?_ (by first | (simp; done) | (simp; omega)) _ | with_reducible refine Within.trans ?_ (by assumption)))
      · intro wq hq
        have hcq := hq.cells
        clear hq
        go_simp
        rfl
      try simp only [Act.put, List.setIfInBounds_toArray, List.set_cons_zero, List.set_cons_succ]
    refine sch_one rfl rfl (fun K hK => ?_)
    go_simp
    refine hK _ _ (fun h => absurd h (by decide)) ?_
    clear hK K
    try simp only [Act.put, List.setIfInBounds_toArray, List.set_cons_zero, List.set_cons_succ]
    refine sch_nil ?_
    go_wp2_with fail
    refine (GB.out _ (by first | exact hw0 | exact hw0.drew)).mono ?_; rintro e2 w2 ⟨rfl, h2⟩
    have p2 := (h2.cells _ _ hyb).trans p1
    have hyb2 := Nat.lt_of_lt_of_le hyb h2.size
    go_wp2
    go_ret
    exact ⟨rfl, (hw0.trans (by first | exact h2 | exact ((Within.refl _).drew).trans h2)).alloc _⟩
theorem one_at {α : Type} {l : List α} {i : Nat} {x : α} (h : l[i]? = some x) : (l.drop i).take 1 = [x] := by
  obtain ⟨hi, rfl⟩ := List.getElem?_eq_some_iff.1 h
  rw [List.drop_eq_getElem_cons hi]; rfl
set_option maxRecDepth 100000 in
set_option maxHeartbeats 1000000 in
theorem looks_good (S Sy : Nat → Prop) (xb yb : Nat) (rs : List Rec) (hle : rs.length ≤ 1048576) (i : Nat) (r : Rec) (hr : rs[i]? = some r) (hrd : r.data.length ≤ 1048576 ∧ Bytes r.data) (w : World) (hX : LogS w S xb rs) (hY : RlogS w Sy yb rs) : Calls Tryz.prog 16 #[.pointer (some ⟨xb, 0, none⟩), .pointer (some ⟨yb, 0, none⟩), .int .i64 (i : Int)] w fun e w' => e = .returned (.bool true) ∧ Within w w' := by
  have MK := Lib.hid (Mark_log S xb rs hle w hX)
  have RM := Lib.hid (Rmark_log Sy yb rs hle w hY)
  obtain ⟨⟨mi, mb⟩, hmv⟩ : ∃ t, markV rs = t := ⟨_, rfl⟩
  rw [hmv] at MK RM
  clear hmv
  have LN := Lib.hid (fun W (h : Within w W) => Len_log S xb rs W (hX.of h))
  have hyb := hY.lt
  obtain ⟨Ay, cy, p1, hcy, hyB, hyA⟩ := hY.list
  have HYG := Lib.hid (fun W (h : Within w W) => hyA.g.of h)
  have em : (mi != mi) = false := by simp
  have eb : (mb != mb) = false := by simp
  have en : ((rs.length : Int) != (rs.length : Int)) = false := by simp
  have hrl : r.data.length ≤ 1048576 := hrd.1
  have hrb := hrd.2
  obtain ⟨hlt, _⟩ := List.getElem?_eq_some_iff.1 hr
  have GL := Lib.hid (fun W (h : Within w W) => Get_log S xb rs i r hr (by omega) W (hX.of h))
  have hone : ((rs.map Rec.i).drop i).take 1 = [r.i] := one_at (by rw [List.getElem?_map, hr]; rfl)
  obtain ⟨ay, rfl, hay⟩ : ∃ ay, Ay = some ay ∧ ay.block < w.heap.size := by obtain ⟨ad, _, _, e, h, _⟩ := hyA.g i r.i (by rw [List.getElem?_map, hr]; rfl); exact ⟨ad, e, h⟩
  have HYO : Hid (∀ W, Within w W → RecG W (some (ay.add (i * 2))) [r.i]) := Lib.hid (fun W h => by have := ((hyA.g.of h).drop i).take 1; rwa [hone] at this)
  have SM : Hid (∀ W A B c d, RecG W A [r.i] → RecG W B [r.i] → Calls Tryz.prog 22 #[.slice A 1 c, .slice B 1 d] W fun e w' => e = .returned (.bool true) ∧ Within W w') := Lib.hid (fun W A B c d h1 h2 => Rsame22_at A B c d [r.i] (by simp) W h1 h2)
  obtain ⟨nn, hnn⟩ : ∃ n, rs.length = n := ⟨_, rfl⟩
  rw [hnn] at p1 hcy LN en hlt
  have HNN := Lib.hid hnn; clear hnn hX hY hyB hyA hrd hone HYG
  have P1 := Lib.hid p1; have HYL := Lib.hid hyb
  obtain ⟨nd, hnd⟩ : ∃ n, r.data.length = n := ⟨_, rfl⟩
  have HND := Lib.hid hnd
  have hndl : nd ≤ 1048576 := by omega
  have d1 : decide ((i : Int) < 0) = false := decide_eq_false (by omega)
  have d2 : decide ((nn : Int) ≤ (i : Int)) = false := decide_eq_false (by omega)
  have d3 : (0 : Int) ≤ (i : Int) := by omega
  have d4 : (i : Int) < (nn : Int) := by omega
  have wi : IntKind.i64.wrap ((i : Int) + 1) = (i : Int) + 1 := by rw [IntKind.wrap_i64]; omega
  have d5 : (i : Int) + 1 ≤ (cy : Int) := by omega
  have d6 : (0 : Int) ≤ (i : Int) + 1 := by omega
  have d7 : (i : Int) ≤ (i : Int) + 1 := by omega
  have d8 : ((i : Int) + 1).toNat - i = 1 := by omega
  have d9 : ¬ cy = i := by omega
  obtain ⟨kd, hkd⟩ : ∃ k, (r.kind : Int) = k := ⟨_, rfl⟩
  have ONE : Hid (∀ W A c, nd ≤ c → SlAt W A (u8v r.data) → RecG (W.alloc (.cells #[.int .i64 kd, .slice A nd c] 30)) (some ⟨W.heap.size, 0, none⟩) [r.i]) := Lib.hid (fun W A c h1 h2 => by rw [← hkd, ← hnd]; exact RecG.one W r.i A c _ (by show r.data.length ≤ c; omega) h2)
  have HKD := Lib.hid hkd; have HBY := Lib.hid hrb; rw [hkd] at GL; clear hnd hkd hrb
  go_enter Tryz.func16, Tryz.ntmps16
  go_wp2_with fail
  refine MK.out.mono ?_; rintro e1 w1 ⟨rfl, hw⟩
  have hw' := hw.symm; subst hw'; clear hw MK
  go_wp2_with fail
  refine RM.out.mono ?_; rintro e1 w1 ⟨rfl, hw⟩
  have hw' := hw.symm; subst hw'; clear hw RM
  go_wp2_with fail
  refine wp_region_schG (fun W => W.cell? ⟨yb, 0, none⟩ = some (.slice (some ay) nn cy) ∧ yb < W.heap.size ∧ Within w W) 17 (.firm 0 (.firm 2 (.firm 3 (.firm 4 (.firm 5 (.firm 6 (.one 1 (.firm 7 (.firm 8 (.firm 9 (.firm 10 (.firm 11 (.firm 12 (.firm 13 (.firm 14 (.firm 15 (.firm 16 (.one 17 .nil)))))))))))))))))) (by kernel_rfl) (by kernel_rfl) ⟨p1, hyb, Within.refl _⟩ ?_
  rintro w0 ⟨p1, hyb, hw0⟩
  try simp only [Act.put, List.setIfInBounds_toArray, List.set_cons_zero, List.set_cons_succ]
  iterate 6
    apply sch_firm rfl rfl (by repeat (first | with_reducible exact Within.refl _ | with_reducible assumption | with_reducible refine Within.alloc ?_ _ | with_reducible refine Within.drew ?_ | with_reducible refine Within.drewN ?_ _ | with_reducible refine Within.setCell ?_ (by first | (simp; done) | (simp; omega)) _ | with_reducible refine Within.trans ?_ (by assumption)))
    · intro wq hq
      have hcq := hq.cells
      clear hq
      go_simp
      rfl
    try simp only [Act.put, List.setIfInBounds_toArray, List.set_cons_zero, List.set_cons_succ]
  refine sch_one rfl rfl (fun K hK => ?_)
  go_simp
  refine (LN.out _ (by first | exact hw0 | exact hw0.drew)).mono ?_; rintro e1 w1 ⟨rfl, hw⟩
  have hw' := hw.symm; subst hw'; clear hw
  refine hK _ _ (fun _ => (by repeat (first | with_reducible exact Within.refl _ | with_reducible assumption | with_reducible refine Within.alloc ?_ _ | with_reducible refine Within.drew ?_ | with_reducible refine Within.drewN ?_ _ | with_reducible refine Within.setCell ?_ (by first | (simp; done) | (simp; omega)) _ | with_reducible refine Within.trans ?_ (by assumption)))) ?_
  clear hK K
  try simp only [Act.put, List.setIfInBounds_toArray, List.set_cons_zero, List.set_cons_succ]
  iterate 2
    apply sch_firm rfl rfl (by repeat (first | with_reducible exact Within.refl _ | with_reducible assumption | with_reducible refine Within.alloc ?_ _ | with_reducible refine Within.drew ?_ | with_reducible refine Within.drewN ?_ _ | with_reducible refine Within.setCell ?_ (by first | (simp; done) | (simp; omega)) _ | with_reducible refine Within.trans ?_ (by assumption)))
    · intro wq hq
      have hcq := hq.cells
      clear hq
      go_simp
      rfl
    try simp only [Act.put, List.setIfInBounds_toArray, List.set_cons_zero, List.set_cons_succ]
  iterate 3
    apply sch_want rfl (by first | rfl | decide | (simp [Region.wanted, yielded]; done)) (by repeat (first | with_reducible exact Within.refl _ | with_reducible assumption | with_reducible refine Within.alloc ?_ _ | with_reducible refine Within.drew ?_ | with_reducible refine Within.drewN ?_ _ | with_reducible refine Within.setCell ?_ (by first | (simp; done) | (simp; omega)) _ | with_reducible refine Within.trans ?_ (by assumption)))
    · intro wq hq
      have hcq := hq.cells
      clear hq
      go_simp
      rfl
    try simp only [Act.put, List.setIfInBounds_toArray, List.set_cons_zero, List.set_cons_succ]
  iterate 2
    apply sch_firm rfl rfl (by repeat (first | with_reducible exact Within.refl _ | with_reducible assumption | with_reducible refine Within.alloc ?_ _ | with_reducible refine Within.drew ?_ | with_reducible refine Within.drewN ?_ _ | with_reducible refine Within.setCell ?_ (by first | (simp; done) | (simp; omega)) _ | with_reducible refine Within.trans ?_ (by assumption)))
    · intro wq hq
      have hcq := hq.cells
      clear hq
      go_simp
      rfl
    try simp only [Act.put, List.setIfInBounds_toArray, List.set_cons_zero, List.set_cons_succ]
  iterate 3
    apply sch_want rfl (by first | rfl | decide | (simp [Region.wanted, yielded]; done)) (by repeat (first | with_reducible exact Within.refl _ | with_reducible assumption | with_reducible refine Within.alloc ?_ _ | with_reducible refine Within.drew ?_ | with_reducible refine Within.drewN ?_ _ | with_reducible refine Within.setCell ?_ (by first | (simp; done) | (simp; omega)) _ | with_reducible refine Within.trans ?_ (by assumption)))
    · intro wq hq
      have hcq := hq.cells
      clear hq
      go_simp
      rfl
    try simp only [Act.put, List.setIfInBounds_toArray, List.set_cons_zero, List.set_cons_succ]
  refine sch_one rfl rfl (fun K hK => ?_)
  go_simp
  refine hK _ _ (fun h => absurd h (by decide)) ?_
  clear hK K
  try simp only [Act.put, List.setIfInBounds_toArray, List.set_cons_zero, List.set_cons_succ]
  refine sch_nil ?_
  go_wp2_with fail
  refine (GL.out _ (by first | exact hw0 | exact hw0.drew)).mono ?_; rintro e2 w2 ⟨v2, rfl, hO2, h2⟩
  have h02 : Within w0 w2 := by first | exact h2 | exact ((Within.refl _).drew).trans h2
  obtain ⟨rb, hrb⟩ : ∃ b, w2.heap.size = b := ⟨_, rfl⟩
  obtain ⟨A2, c2, gg, rfl, hc2, hgg, hs2, hU2, hz2⟩ := hO2.u8s HBY.out (rb + 1) (Nat.le_succ_of_le (by rw [← hrb]; exact h2.size))
  rw [HND.out] at hc2 hU2 hz2 ⊢
  have hgr : gg ≠ rb := fun h => by rcases Nat.eq_zero_or_pos nd with h0 | h0; have := hz2 h0; omega; have := (hU2 h0).2.1; omega
  have hgw : w.heap.size ≤ gg := Nat.le_trans (by first | exact hw0.size | exact hw0.drew.size) hgg
  obtain ⟨W3, hW3⟩ : ∃ W, W = w2.alloc (.cells #[.int .i64 kd, .slice A2 nd c2] 30) := ⟨_, rfl⟩
  have i3 : Within w2 W3 := by rw [hW3]; exact (Within.refl _).alloc _
  have b0 : W3.cell? ⟨rb, 0, none⟩ = some (.int .i64 kd) := by rw [hW3, ← hrb]; simp
  have b1 : W3.cell? ⟨rb, 1, none⟩ = some (.slice A2 nd c2) := by rw [hW3, ← hrb]; simp
  have bf : ∀ o, W3.frozen? ⟨rb, o, none⟩ = false := fun o => by rw [hW3, ← hrb]; exact World.frozen?_alloc_new _ _ _ _
  have bl : rb < W3.heap.size := World.block_lt_of_cell? _ _ b0
  have hw3 : Within w W3 := (hw0.trans h02).trans i3
  have p3 := (hw3.cells _ _ HYL.out).trans P1.out
  have hyb3 := Nat.lt_of_lt_of_le HYL.out hw3.size
  have hU3 : 0 < nd → A2 = some ⟨gg, 0, none⟩ ∧ gg < W3.heap.size ∧ U8s W3 gg nd := fun h => ⟨(hU2 h).1, Nat.lt_of_lt_of_le (hU2 h).2.1 i3.size, (hU2 h).2.2.of i3 (hU2 h).2.1⟩
  have hrb2 : w.heap.size ≤ rb := by rw [← hrb]; exact (hw0.trans h02).size
  have hs3 := hs2.of i3
  have p2 := (h02.cells _ _ hyb).trans p1
  have hyb2 := Nat.lt_of_lt_of_le hyb h02.size
  have HB0 := Lib.hid b0; have HBL := Lib.hid bl; have HB1 := Lib.hid b1; have HU3 := Lib.hid hU3; have HS3 := Lib.hid hs3; have HW3 := Lib.hid hw3; have HGR := Lib.hid hgr; have HGW := Lib.hid hgw; have HBF := Lib.hid bf; have HRB2 := Lib.hid hrb2; have HC2 := Lib.hid hc2; clear hU2 hU3 hs2 hs3 hw3 hgr hgw hgg bf hrb2 hO2 h2 hc2 hz2 i3
  have p3x := p3
  rw [hW3] at p3x
  go_wp2
  rw [← hW3]
  clear hW3 p2 hyb2 h02 p3x
  refine wp_region_schG (fun W => W.cell? ⟨rb, 0, none⟩ = some (.int .i64 kd) ∧ W.cell? ⟨rb, 1, none⟩ = some (.slice A2 nd c2) ∧ W.cell? ⟨yb, 0, none⟩ = some (.slice (some ay) nn cy) ∧ rb < W.heap.size ∧ yb < W.heap.size ∧ Within W3 W) 15 (.firm 0 (.firm 1 (.firm 2 (.firm 3 (.firm 5 (.firm 6 (.firm 7 (.firm 8 (.firm 9 (.firm 10 (.firm 11 (.firm 12 (.one 4 (.one 13 (.firm 14 (.one 15 .nil)))))))))))))))) (by kernel_rfl) (by kernel_rfl) ⟨b0, b1, p3, bl, hyb3, Within.refl _⟩ ?_
  rintro w0 ⟨b0, b1, p3, bl, hyb3, hw4⟩
  try simp only [Act.put, List.setIfInBounds_toArray, List.set_cons_zero, List.set_cons_succ]
  iterate 3
    apply sch_firm rfl rfl (by repeat (first | with_reducible exact Within.refl _ | with_reducible assumption | with_reducible refine Within.alloc ?_ _ | with_reducible refine Within.drew ?_ | with_reducible refine Within.drewN ?_ _ | with_reducible refine Within.setCell ?_ (by first | (simp; done) | (simp; omega)) _ | with_reducible refine Within.trans ?_ (by assumption)))
    · intro wq hq
      have hcq := hq.cells
      clear hq
      go_simp
      rfl
    try simp only [Act.put, List.setIfInBounds_toArray, List.set_cons_zero, List.set_cons_succ]
  iterate 9
    apply sch_want rfl (by first | rfl | decide | (simp [Region.wanted, yielded]; done)) (by repeat (first | with_reducible exact Within.refl _ | with_reducible assumption | with_reducible refine Within.alloc ?_ _ | with_reducible refine Within.drew ?_ | with_reducible refine Within.drewN ?_ _ | with_reducible refine Within.setCell ?_ (by first | (simp; done) | (simp; omega)) _ | with_reducible refine Within.trans ?_ (by assumption)))
    · intro wq hq
      have hcq := hq.cells
      clear hq
      go_simp
      rfl
    try simp only [Act.put, List.setIfInBounds_toArray, List.set_cons_zero, List.set_cons_succ]
  refine sch_one_want rfl (by first | rfl | decide | (simp [Region.wanted, yielded]; done)) (fun K hK => ?_)
  go_simp
  refine hK _ _ (fun _ => (by repeat (first | with_reducible exact Within.refl _ | with_reducible assumption | with_reducible refine Within.alloc ?_ _ | with_reducible refine Within.drew ?_ | with_reducible refine Within.drewN ?_ _ | with_reducible refine Within.setCell ?_ (by first | (simp; done) | (simp; omega)) _ | with_reducible refine Within.trans ?_ (by assumption)))) ?_
  clear hK K
  try simp only [Act.put, List.setIfInBounds_toArray, List.set_cons_zero, List.set_cons_succ]
  refine sch_one_want rfl (by first | rfl | decide | (simp [Region.wanted, yielded]; done)) (fun K hK => ?_)
  go_simp
  refine (SM.out _ _ _ _ _ (by exact ONE.out _ A2 c2 HC2.out (by exact HS3.out.of (by first | exact hw4 | exact hw4.drew))) (HYO.out _ (by first | exact (HW3.out.trans hw4).alloc _ | exact (HW3.out.trans hw4.drew).alloc _))).mono ?_; rintro e5 w5 ⟨rfl, h5⟩
  refine hK _ _ (fun _ => (by repeat (first | with_reducible exact Within.refl _ | with_reducible assumption | with_reducible refine Within.alloc ?_ _ | with_reducible refine Within.drew ?_ | with_reducible refine Within.drewN ?_ _ | with_reducible refine Within.setCell ?_ (by first | (simp; done) | (simp; omega)) _ | with_reducible refine Within.trans ?_ (by assumption)))) ?_
  clear hK K
  try simp only [Act.put, List.setIfInBounds_toArray, List.set_cons_zero, List.set_cons_succ]
  apply sch_want rfl (by first | rfl | decide | (simp [Region.wanted, yielded]; done)) (by repeat (first | with_reducible exact Within.refl _ | with_reducible assumption | with_reducible refine Within.alloc ?_ _ | with_reducible refine Within.drew ?_ | with_reducible refine Within.drewN ?_ _ | with_reducible refine Within.setCell ?_ (by first | (simp; done) | (simp; omega)) _ | with_reducible refine Within.trans ?_ (by assumption)))
  · intro wq hq
    have hcq := hq.cells
    clear hq
    go_simp
    rfl
  try simp only [Act.put, List.setIfInBounds_toArray, List.set_cons_zero, List.set_cons_succ]
  refine sch_one rfl rfl (fun K hK => ?_)
  go_simp
  refine hK _ _ (fun h => absurd h (by decide)) ?_
  clear hK K
  try simp only [Act.put, List.setIfInBounds_toArray, List.set_cons_zero, List.set_cons_succ]
  refine sch_nil ?_
  have hw5 : Within W3 w5 := by first | exact (hw4.alloc _).trans h5 | exact (hw4.drew.alloc _).trans h5
  have c0 := (hw5.cells rb 0 (World.block_lt_of_cell? _ _ HB0.out)).trans HB0.out
  have c1 := (hw5.cells rb 1 (World.block_lt_of_cell? _ _ HB0.out)).trans HB1.out
  have clx := World.block_lt_of_cell? _ _ c0
  clear h5
  have HW5 := Lib.hid hw5; clear hw5
  go_wp2
  have hU5 : 0 < nd → gg < w5.heap.size ∧ U8s w5 gg nd := fun h => ⟨Nat.lt_of_lt_of_le (HU3.out h).2.1 HW5.out.size, (HU3.out h).2.2.of HW5.out (HU3.out h).2.1⟩
  have HU5 := Lib.hid hU5; clear hU5
  go_loopw [13] (fun iv wr => ∃ j : Nat, j ≤ nd ∧ iv = .int .i64 (j : Int) ∧ But gg w5 wr ∧ (0 < nd → U8s wr gg nd)) (fun iv _ => nd - (intOf iv).toNat)
  case atStart => exact ⟨0, Nat.zero_le _, rfl, by first | exact But.refl _ _ | exact (But.refl _ _).drew, fun h => by first | exact (HU5.out h).2 | exact (HU5.out h).2.of ((Within.refl _).drew) (HU5.out h).1⟩
  case round =>
    obtain ⟨j, hj, rfl, hbut, hu⟩ := hrel
    have k0 := (hbut.cells rb 0 clx (Ne.symm HGR.out)).trans c0
    have k1 := (hbut.cells rb 1 clx (Ne.symm HGR.out)).trans c1
    have kl := Nat.lt_of_lt_of_le clx hbut.size
    by_cases hlt : j < nd
    · obtain ⟨hA, _, _⟩ := HU3.out (by omega)
      subst hA
      obtain ⟨x, hxl, cx⟩ := (hu (by omega)).1 j hlt
      have fx := (hu (by omega)).2
      have gl : gg < wr.heap.size := Nat.lt_of_lt_of_le (HU5.out (by omega)).1 hbut.size
      have hxor := u8_xor_nat x 85 hxl (by decide)
      have hnl : x ^^^ 85 < 256 := Nat.xor_lt_two_pow (n := 8) hxl (by decide)
      have hxor' : bits .xor .u8 (x : Int) 85 = ((x ^^^ 85 : Nat) : Int) := hxor
      have HNL := Lib.hid hnl; clear hxor hnl
      obtain ⟨xx, hxx⟩ : ∃ xx, x ^^^ 85 = xx := ⟨_, rfl⟩
      rw [hxx] at HNL hxor'
      clear hxx
      have lt1 : (j : Int) < (nd : Int) := by omega
      have gl0 := Lib.hid gl; have HBUT := Lib.hid hbut; have HUU := Lib.hid (hu (by omega)); clear hbut hu
      go_wp2_with fail
      refine wp_region_schG (fun W => W.cell? ⟨rb, 1, none⟩ = some (.slice (some ⟨gg, 0, none⟩) nd c2) ∧ W.cell? ⟨gg, j, none⟩ = some (.int .u8 (x : Int)) ∧ (∀ o, W.frozen? ⟨gg, o, none⟩ = false) ∧ rb < W.heap.size ∧ gg < W.heap.size ∧ Within wr W) 10 (.firm 0 (.firm 1 (.firm 2 (.firm 3 (.firm 4 (.firm 5 (.firm 6 (.firm 7 (.firm 8 (.firm 9 (.one 10 .nil))))))))))) (by kernel_rfl) (by kernel_rfl) ⟨k1, cx, fx, kl, gl, Within.refl _⟩ ?_
      rintro w0 ⟨k1, cx, fx, kl, gl, hw7⟩
      try simp only [Act.put, List.setIfInBounds_toArray, List.set_cons_zero, List.set_cons_succ]
      iterate 10
        apply sch_firm rfl rfl (by repeat (first | with_reducible exact Within.refl _ | with_reducible assumption | with_reducible refine Within.alloc ?_ _ | with_reducible refine Within.drew ?_ | with_reducible refine Within.drewN ?_ _ | with_reducible refine Within.setCell ?_ (by first | (simp; done) | (simp; omega)) _ | with_reducible refine Within.trans ?_ (by assumption)))
        · intro wq hq
          have hcq := hq.cells
          clear hq
          go_simp
          rfl
        try simp only [Act.put, List.setIfInBounds_toArray, List.set_cons_zero, List.set_cons_succ]
      refine sch_one rfl rfl (fun K hK => ?_)
      go_simp
      refine hK _ _ (fun h => absurd h (by decide)) ?_
      clear hK K
      try simp only [Act.put, List.setIfInBounds_toArray, List.set_cons_zero, List.set_cons_succ]
      refine sch_nil ?_
      have hu7 := (HUU.out.of hw7 gl0.out).set j xx HNL.out
      have hb7 := (HBUT.out.within hw7).set (p := ⟨gg, j, none⟩) (.inl rfl) (.int .u8 (xx : Int))
      have HU7 := Lib.hid hu7; have HB7 := Lib.hid hb7; clear hu7 hb7
      go_wp2
      go_roundw
      case rel => exact ⟨j + 1, hlt, by go_num, by first | exact HB7.out | exact HB7.out.drew, fun _ => by first | exact HU7.out | exact HU7.out.of ((Within.refl _).drew) (by show gg < (World.setCell _ _ _).heap.size; simpa [World.setCell] using gl)⟩
      case measure => simp [intOf]; omega
    · obtain rfl : j = nd := by omega
      have hwr : Within w wr := (HW3.out.trans HW5.out).aside hbut HGW.out
      have kf0 := (hbut.frozens rb 0 clx (Ne.symm HGR.out)).trans ((HW5.out.frozens rb 0 HBL.out).trans (HBF.out 0))
      have kf1 := (hbut.frozens rb 1 clx (Ne.symm HGR.out)).trans ((HW5.out.frozens rb 1 HBL.out).trans (HBF.out 1))
      have HWR := Lib.hid hwr; clear hwr hu hbut
      go_wp2_with fail
      refine (GL.out _ HWR.out).mono ?_; rintro e6 w6 ⟨v6, rfl, hO6, h6⟩
      obtain ⟨A6, c6, rfl, hc6, hs6, hA6⟩ := hO6.form
      rw [HND.out] at hc6 ⊢
      have m0 := (h6.cells rb 0 kl).trans k0
      have m1 := (h6.cells rb 1 kl).trans k1
      have mf0 := (h6.frozens rb 0 kl).trans kf0
      have mf1 := (h6.frozens rb 1 kl).trans kf1
      have ml := Nat.lt_of_lt_of_le kl h6.size
      obtain ⟨W7, hW7⟩ : ∃ W, W = (w6.setCell ⟨rb, 0, none⟩ (.int .i64 kd)).setCell ⟨rb, 1, none⟩ (.slice A6 j c6) := ⟨_, rfl⟩
      have n0 : W7.cell? ⟨rb, 0, none⟩ = some (.int .i64 kd) := by rw [hW7, World.cell?_setCell_other _ _ _ _ (by simp)]; exact World.cell?_setCell_same _ _ _ m0
      have n1 : W7.cell? ⟨rb, 1, none⟩ = some (.slice A6 j c6) := by rw [hW7]; exact World.cell?_setCell_same _ _ _ ((World.cell?_setCell_other _ _ _ _ (by simp)).trans m1)
      have nl := World.block_lt_of_cell? _ _ n0
      have hb7 : But rb w6 W7 := by rw [hW7]; exact ((But.refl rb w6).set (p := ⟨rb, 0, none⟩) (.inl rfl) _).set (p := ⟨rb, 1, none⟩) (.inl rfl) _
      have hw7 : Within w W7 := (HWR.out.trans h6).aside hb7 HRB2.out
      have hs7 : SlAt W7 A6 (u8v r.data) := hs6.but hb7 (fun ad e => by have := hA6 ad e; omega)
      have p7 := (hw7.cells _ _ HYL.out).trans P1.out
      have hyb7 := Nat.lt_of_lt_of_le HYL.out hw7.size
      have HW7 := Lib.hid hw7; have HS7 := Lib.hid hs7; have HC6 := Lib.hid hc6; clear hw7 hs7 hb7 hs6 hA6 hO6 h6 hc6
      go_wp2
      rw [← hW7]
      clear hW7 m0 m1 mf0 mf1 ml
      refine wp_region_schG (fun W => W.cell? ⟨rb, 0, none⟩ = some (.int .i64 kd) ∧ W.cell? ⟨rb, 1, none⟩ = some (.slice A6 j c6) ∧ W.cell? ⟨yb, 0, none⟩ = some (.slice (some ay) nn cy) ∧ rb < W.heap.size ∧ yb < W.heap.size ∧ Within W7 W) 11 (.firm 0 (.firm 2 (.firm 3 (.firm 4 (.firm 5 (.firm 6 (.firm 7 (.firm 8 (.firm 9 (.one 1 (.one 10 (.one 11 .nil)))))))))))) (by kernel_rfl) (by kernel_rfl) ⟨n0, n1, p7, nl, hyb7, Within.refl _⟩ ?_
      rintro w0 ⟨n0, n1, p7, nl, hyb7, hw8⟩
      try simp only [Act.put, List.setIfInBounds_toArray, List.set_cons_zero, List.set_cons_succ]
      iterate 9
        apply sch_firm rfl rfl (by repeat (first | with_reducible exact Within.refl _ | with_reducible assumption | with_reducible refine Within.alloc ?_ _ | with_reducible refine Within.drew ?_ | with_reducible refine Within.drewN ?_ _ | with_reducible refine Within.setCell ?_ (by first | (simp; done) | (simp; omega)) _ | with_reducible refine Within.trans ?_ (by assumption)))
        · intro wq hq
          have hcq := hq.cells
          clear hq
          go_simp
          rfl
        try simp only [Act.put, List.setIfInBounds_toArray, List.set_cons_zero, List.set_cons_succ]
      refine sch_one rfl rfl (fun K hK => ?_)
      go_simp
      refine hK _ _ (fun _ => (by repeat (first | with_reducible exact Within.refl _ | with_reducible assumption | with_reducible refine Within.alloc ?_ _ | with_reducible refine Within.drew ?_ | with_reducible refine Within.drewN ?_ _ | with_reducible refine Within.setCell ?_ (by first | (simp; done) | (simp; omega)) _ | with_reducible refine Within.trans ?_ (by assumption)))) ?_
      clear hK K
      try simp only [Act.put, List.setIfInBounds_toArray, List.set_cons_zero, List.set_cons_succ]
      refine sch_one rfl rfl (fun K hK => ?_)
      go_simp
      refine (SM.out _ _ _ _ _ (by exact ONE.out _ A6 c6 HC6.out (by exact HS7.out.of (by first | exact hw8 | exact hw8.drew))) (HYO.out _ (by first | exact (HW7.out.trans hw8).alloc _ | exact (HW7.out.trans hw8.drew).alloc _))).mono ?_; rintro e9 w9 ⟨rfl, h9⟩
      refine hK _ _ (fun _ => (by repeat (first | with_reducible exact Within.refl _ | with_reducible assumption | with_reducible refine Within.alloc ?_ _ | with_reducible refine Within.drew ?_ | with_reducible refine Within.drewN ?_ _ | with_reducible refine Within.setCell ?_ (by first | (simp; done) | (simp; omega)) _ | with_reducible refine Within.trans ?_ (by assumption)))) ?_
      clear hK K
      try simp only [Act.put, List.setIfInBounds_toArray, List.set_cons_zero, List.set_cons_succ]
      refine sch_one rfl rfl (fun K hK => ?_)
      go_simp
      refine hK _ _ (fun h => absurd h (by decide)) ?_
      clear hK K
      try simp only [Act.put, List.setIfInBounds_toArray, List.set_cons_zero, List.set_cons_succ]
      refine sch_nil ?_
      have hw9 : Within W7 w9 := by first | exact (hw8.alloc _).trans h9 | exact (hw8.drew.alloc _).trans h9
      go_wp2
      go_ret
      exact ⟨rfl, by first | exact HW7.out.trans hw9 | exact (HW7.out.trans hw9).drew⟩
end Go.Proofs.YtpmjlaiafgbjgaaGreatDoor
end

section
namespace Go.Proofs.YtpmjlaiafgbjgaaGreatDoor
open Go.RowKit
attribute [local go_sem] Oper.semAt_some
theorem wpListIn_append_run {F : Fence} {n : Nat} {P : Program} {w : World} {ops : Array Oper} {rest : List Oper} {o : Oper} {a : Act} {Q : Exit → Act → World → Prop} (hgd : o.guard = none) (s x : Operand) (t : TypeId)
    (ho : o.op = .call { callee := .builtin .append, args := #[s, x], argTypes := #[t, t] }) (vs vx : Value) (hs : a.eval s = vs) (hx : a.eval x = vx) {v' : Value} {w' : World}
    (hrun : (Builtin.append_ #[t, t] o.type #[vs, vx]).run P w = .ok v' w') (h : wpListIn F n P ops Q rest (a.put o.dst v') w') : wpListIn F n P ops Q (o :: rest) a w := by
  refine wpListIn_plain hgd fun K hK' => ?_
  unfold Oper.wpIn
  refine ⟨?_, ?_⟩
  · simp [Oper.about, ho, resolve, Target.leads, Sem.run_pure]
  · rw [Oper.semAt_plain F _ _ (by rw [ho]; intro c hc'; cases hc')]
    simp [execOp, ho, resolve, invoke, builtin, hs, hx, hrun, Result.andThen]
    exact hK' _ _ h
theorem ownsRow_block {w : World} {base : Nat} {e : TypeId} {size : Nat} {v : Value} {n : Nat} {xs : List Value} (h : w.ownsRow base e size v n xs) {j : Nat} (hj : v.ownBlock = some j) : ∃ cur, w.heap[j]? = some (.cells cur e (0, 0)) := by
  rcases h.2 with ⟨rfl, _⟩ | ⟨g, cap, cur, rfl, _, hg, _⟩
  · cases hj
  · obtain rfl : g = j := Option.some.inj hj
    exact ⟨cur, hg⟩
theorem owns_types {w : World} {b1 b2 : Nat} {e1 e2 : TypeId} {s1 s2 n1 n2 : Nat} {u v : Value} {xs ys : List Value} (h : w.ownsRow b1 e1 s1 u n1 xs) (k : w.ownsRow b2 e2 s2 v n2 ys) (hne : e1 ≠ e2) : u.ownBlock = none ∨ u.ownBlock ≠ v.ownBlock := by
  cases hu : u.ownBlock with
  | none => exact .inl rfl
  | some j =>
    refine .inr (fun e => ?_)
    obtain ⟨c1, h1⟩ := ownsRow_block h hu
    obtain ⟨c2, h2⟩ := ownsRow_block k e.symm
    rw [h1] at h2
    injection h2 with h2
    injection h2 with _ h3 _
    exact hne h3
theorem ownsRow_away {w w' : World} {row : Option Nat} {base : Nat} {e : TypeId} {size : Nat} {v : Value} {n : Nat} {xs : List Value} (h : w.ownsRow base e size v n xs) (hg : w.grownBy w' row) (hr : ∀ r, row = some r → ∃ o : Obj, w.heap[r]? = some o ∧ o.isCells = false) : w'.ownsRow base e size v n xs :=
  ownsRow_keep h fun j hj => hg.block j (h.lt j hj).2 (fun e' => by
    obtain ⟨o, ho, hc⟩ := hr j e'.symm
    obtain ⟨cur, hcur⟩ := ownsRow_block h hj
    rw [hcur] at ho
    injection ho with ho
    rw [← ho] at hc
    cases hc)
theorem RecP.away {w w' : World} {row : Option Nat} {base : Nat} {v : Value} {ps : List (IRec × Value)} (h : RecP w base v ps) (hg : w.grownBy w' row) (hr : ∀ r, row = some r → ∃ o : Obj, w.heap[r]? = some o ∧ o.isCells = false) : RecP w' base v ps :=
  ⟨ownsRow_away h.1 hg hr, fun p hp => ⟨ownsRow_away (h.2 p hp).1 hg hr, (h.2 p hp).2⟩⟩
def Yd.p (x : Yd) : IRec × Value := ((x.k, x.d), x.v)
def AllI (n₁ : Nat) (w : World) (pre : List Yd) (W : World) : Prop := (∃ v, Boxed W w.heap.size 52 v ∧ RecP W n₁ v (pre.map Yd.p)) ∧ Below w.heap.size w W ∧ n₁ ≤ W.heap.size
theorem AllI.own (n₁ : Nat) (w : World) {B : Nat} (hB : w.heap.size ≤ B) : OwnFrom B (AllI n₁ w) := by
  rintro s A C row ⟨⟨v, h1, h2⟩, h3, h4⟩ hg hr
  have hr' : ∀ r, row = some r → ∃ o : Obj, A.heap[r]? = some o ∧ o.isCells = false := fun r e => (hr r e).2
  refine ⟨⟨v, h1.kept hg (fun e => ?_), h2.away hg hr'⟩, h3.grown hg h3.size (fun k e => Nat.le_trans hB (hr k e).1), Nat.le_trans h4 hg.size⟩
  obtain ⟨o, ho, hc⟩ := hr' _ e.symm
  rw [show A.heap[w.heap.size]? = _ from h1] at ho
  injection ho with ho
  rw [← ho] at hc
  cases hc
def AllX (n₁ : Nat) (w : World) (a : Nat → Value → Value → Act) (x : Yd) (a' : Act) (W : World) : Prop := ∃ Bx, w.heap.size < Bx ∧ W.heap[Bx]? = some (.cells #[.int .i64 x.k, x.v] 30 (0, 0)) ∧ (OwnB W n₁ x.v x.d ∧ Bytes x.d) ∧ a' = a Bx (.int .i64 (x.i : Int)) (.agg #[.int .i64 x.k, x.v])
theorem AllX.own (n₁ : Nat) (w : World) (a : Nat → Value → Value → Act) (x : Yd) (a' : Act) (B : Nat) : OwnFrom B (fun (_ : Unit) W => AllX n₁ w a x a' W) := by
  rintro s A C row ⟨Bx, h1, h2, ⟨h3, h4⟩, h5⟩ hg hr
  have hr' : ∀ r, row = some r → ∃ o : Obj, A.heap[r]? = some o ∧ o.isCells = false := fun r e => (hr r e).2
  refine ⟨Bx, h1, (hg.block Bx (Array.getElem?_eq_some_iff.1 h2).1 (fun e => ?_)).trans h2, ⟨ownsRow_away h3 hg hr', h4⟩, h5⟩
  obtain ⟨o, ho, hc⟩ := hr' _ e.symm
  rw [h2] at ho
  injection ho with ho
  rw [← ho] at hc
  cases hc
end Go.Proofs.YtpmjlaiafgbjgaaGreatDoor
end

section
namespace Go.Proofs.YtpmjlaiafgbjgaaGreatDoor
open Go.RowKit
attribute [local go_sem] Oper.semAt_some
abbrev NotCells (w : World) (row : Option Nat) : Prop := ∀ r, row = some r → ∃ o : Obj, w.heap[r]? = some o ∧ o.isCells = false
theorem OwnM.cells {w : World} {base : Nat} {v : Value} {l : List Nat} (h : OwnM w base v l) {j : Nat} (hj : v.ownBlock = some j) : ∃ c e f, w.heap[j]? = some (.cells c e f) := by
  rcases h with h | ⟨g, rfl, _, hg, _⟩
  · obtain ⟨c, hc⟩ := ownsRow_block h hj
    exact ⟨_, _, _, hc⟩
  · obtain rfl : g = j := Option.some.inj hj
    exact ⟨_, _, _, hg⟩
theorem Rws.owned_cells {w : World} {base : Nat} {ps : List (IRec × Value)} {lv : Value} {ks : List Nat} {kv : Value} {bs : List Nat} {bv : Value} (h : Rws w base ps lv ks kv bs bv) {j : Nat} (hj : Owned ps lv kv bv j) : ∃ c e f, w.heap[j]? = some (.cells c e f) := by
  rcases hj with hj | hj | hj | ⟨p, hp, hj⟩
  · obtain ⟨c, hc⟩ := ownsRow_block h.recs.1 hj; exact ⟨_, _, _, hc⟩
  · obtain ⟨c, hc⟩ := ownsRow_block h.links hj; exact ⟨_, _, _, hc⟩
  · exact h.bytes.cells hj
  · obtain ⟨c, hc⟩ := ownsRow_block (h.recs.2 p hp).1 hj; exact ⟨_, _, _, hc⟩
theorem grown_cells {w w' : World} {row : Option Nat} (hg : w.grownBy w' row) (hr : NotCells w row) {j : Nat} {c : Array Value} {e : TypeId} {f : Nat × Nat} (hc : w.heap[j]? = some (.cells c e f)) : w'.heap[j]? = w.heap[j]? :=
  hg.block j (Array.getElem?_eq_some_iff.1 hc).1 (fun e' => by
    obtain ⟨o, ho, hcc⟩ := hr j e'.symm
    rw [hc] at ho
    injection ho with ho
    rw [← ho] at hcc
    cases hcc)
theorem LogS.away {w w' : World} {row : Option Nat} {S : Nat → Prop} {xb : Nat} {rs : List Rec} (h : LogS w S xb rs) (hg : w.grownBy w' row) (hr : NotCells w row) : LogS w' S xb rs := by
  obtain ⟨hS, hmade, hfirm, ps, lv, kv, bv, hps, p1, p2, p3, hRW, hown⟩ := h
  obtain ⟨o, ho, hc⟩ := cells_of_cell hmade
  have hx := grownBy_keeps_cells hg hr ho hc
  have hx : w'.heap[xb]? = w.heap[xb]? := hx
  refine ⟨hS, (World.cell?_of_block hx).trans hmade, fun i => (World.frozen?_of_block hx).trans (hfirm i), ps, lv, kv, bv, hps, (World.cell?_of_block hx).trans p1, (World.cell?_of_block hx).trans p2, (World.cell?_of_block hx).trans p3, hRW.keepO (fun j hj _ => ?_), hown⟩
  obtain ⟨c, e, f, hc⟩ := hRW.owned_cells hj
  exact grown_cells hg hr hc
def CellsOf (w : World) (S : Nat → Prop) (j : Nat) : Prop := S j ∧ ∃ c e f, w.heap[j]? = some (.cells c e f)
theorem LogS.shrink {w : World} {S : Nat → Prop} {xb : Nat} {rs : List Rec} (h : LogS w S xb rs) : LogS w (CellsOf w S) xb rs := by
  obtain ⟨hS, hmade, hfirm, ps, lv, kv, bv, hps, p1, p2, p3, hRW, hown⟩ := h
  have hx : ∃ c e f, w.heap[xb]? = some (.cells c e f) := by
    obtain ⟨o, ho, hc⟩ := cells_of_cell hmade
    cases o with
    | cells c e f => exact ⟨c, e, f, ho⟩
    | _ => cases hc
  exact ⟨⟨hS, hx⟩, hmade, hfirm, ps, lv, kv, bv, hps, p1, p2, p3, hRW, fun j hj => ⟨⟨(hown j hj).1, hRW.owned_cells hj⟩, (hown j hj).2⟩⟩
theorem ButS.keepsFrom {S : Nat → Prop} {w w' : World} (h : ButS S w w') (hc : ∀ j, S j → ∃ c e f, w.heap[j]? = some (.cells c e f)) (B : Nat) : KeepsFrom B w w' := ⟨h.size, fun k o _ hk ho => (h.block k (Array.getElem?_eq_some_iff.1 hk).1 (fun hs => by
    obtain ⟨c, e, f, hc⟩ := hc k hs
    rw [hc] at hk
    injection hk with hk
    rw [← hk] at ho
    cases ho)).trans hk⟩
def YdP (rs : List Rec) (m : Nat) (pre : List Yd) : Prop := pre.map (fun x => ((x.k, x.d) : IRec)) = ((rs.map Rec.i).drop m).take pre.length ∧ (∀ j x, pre[j]? = some x → x.i = m + j) ∧ pre.length ≤ rs.length - m
theorem YdP.nil (rs : List Rec) (m : Nat) : YdP rs m [] := ⟨rfl, fun j x hx => by simp at hx, Nat.zero_le _⟩
theorem YdP.more {rs : List Rec} {m : Nat} {pre : List Yd} {r : Rec} {v : Value} (h : YdP rs m pre) (hr : rs[m + pre.length]? = some r) : YdP rs m (pre ++ [⟨m + pre.length, (r.kind : Int), v, r.data⟩]) := by
  obtain ⟨h1, h2, h3⟩ := h
  obtain ⟨hlt, _⟩ := List.getElem?_eq_some_iff.1 hr
  refine ⟨?_, fun j x hx => ?_, by rw [List.length_append]; simp; omega⟩
  · rw [List.map_append, h1, List.length_append]
    show _ ++ [r.i] = List.take (pre.length + 1) _
    rw [List.take_add_one, List.getElem?_drop, List.getElem?_map, hr]; rfl
  · by_cases hj : j < pre.length
    · rw [List.getElem?_append_left hj] at hx; exact h2 j x hx
    · rw [List.getElem?_append_right (by omega)] at hx
      have hj0 : j - pre.length = 0 := by
        rcases Nat.eq_zero_or_pos (j - pre.length) with h | h
        · exact h
        · rw [List.getElem?_eq_none (by simp; omega)] at hx; cases hx
      rw [hj0] at hx
      have := Option.some.inj hx
      rw [← this]
      show m + pre.length = m + j
      omega
theorem YdP.last {rs : List Rec} {m : Nat} {pre : List Yd} {x : Yd} (h : YdP rs m (pre ++ [x])) : x.i = m + pre.length ∧ (rs.map Rec.i)[m + pre.length]? = some (x.k, x.d) := by
  obtain ⟨h1, h2, h3⟩ := h
  have hg : (pre ++ [x])[pre.length]? = some x := by rw [List.getElem?_append_right (Nat.le_refl _)]; simp
  refine ⟨h2 _ _ hg, ?_⟩
  have h4 : ((pre ++ [x]).map (fun x => ((x.k, x.d) : IRec)))[pre.length]? = some (x.k, x.d) := by rw [List.getElem?_map, hg]; rfl
  rw [h1, List.getElem?_take] at h4
  split at h4
  · rwa [List.getElem?_drop] at h4
  · cases h4
def EachG (xb bx bf : Nat) (cf : Int) (rs : List Rec) (pre : List Yd) (W : World) : Prop := (∃ S0 extra, LogS W S0 xb (rs ++ extra) ∧ (pre = [] → extra = [])) ∧ W.cell? ⟨bx, 0, none⟩ = some (.pointer (some ⟨xb, 0, none⟩)) ∧ W.cell? ⟨bf, 0, none⟩ = some (.int .i64 cf)
def EachT (rs : List Rec) (m : Nat) (pre : List Yd) (x : Yd) (W0 W1 : World) : Prop := YdP rs m (pre ++ [x]) ∧ OwnB W1 W0.heap.size x.v x.d ∧ Bytes x.d ∧ x.d.length ≤ 1048576
set_option maxRecDepth 100000 in
set_option maxHeartbeats 1000000 in
theorem Each1_G (xb bx bf m : Nat) (cf : Int) (hmx : max cf 0 = (m : Int)) (rs : List Rec) (hrd : ∀ r ∈ rs, r.data.length ≤ 1048576 ∧ Bytes r.data) (hrs : rs.length ≤ 1048576) : SeqG Fence.wide 2 Tryz.prog 61 #[.pointer (some ⟨bx, 0, none⟩), .pointer (some ⟨bf, 0, none⟩)] Yd.enc (EachG xb bx bf cf rs) (EachT rs m) (fun xs => YdP rs m xs ∧ xs.length = rs.length - m) (YdP rs m) rs.length := by
  intro l J Jx W hJ hJx hG hY h0
  obtain ⟨⟨S0, extra, hP, he⟩, hbx, hbf⟩ := hG _ _ h0
  obtain rfl := he rfl
  rw [List.append_nil] at hP
  clear he
  have hbxl := World.block_lt_of_cell? _ _ hbx
  have hbfl := World.block_lt_of_cell? _ _ hbf
  have hxbl := hP.lt
  have LN := Lib.hid (Len_log S0 xb rs W hP)
  clear hP
  have HJ := Lib.hid hJ; have HG := Lib.hid hG; have HY := Lib.hid hY; have H0 := Lib.hid h0; have HRD := Lib.hid hrd; clear hJ hJx hG hY h0 hrd
  refine callsIn_of_wp Tryz.func61 rfl trivial ?_ rfl
  simp only [Tryz.ntmps61, List.size_toArray, List.length_cons, List.length_nil, Nat.reduceAdd, Nat.reduceSub, Array.replicate_succ, Array.replicate_zero, List.push_toArray, List.append_toArray, List.nil_append, List.cons_append]
  gi_wp2_with (refine ⟨trivial, ?_⟩; gi_at_call 40; refine (callsIn_wide.2 LN.out).mono ?_; rintro e1 w1 ⟨rfl, hw1⟩; have hw2 := hw1.symm; subst hw2)
  gi_loopw [5] (fun iv wr => ∃ pre : List Yd, iv = .int .i64 ((m + pre.length : Nat) : Int) ∧ YdP rs m pre ∧ J pre wr) (fun iv _ => rs.length - (intOf iv).toNat)
  case atStart => exact ⟨[], by simp, YdP.nil rs m, H0.out⟩
  case round =>
    obtain ⟨pre, rfl, hpre, hJs⟩ := hrel
    obtain ⟨⟨S1, ex, hPr, _⟩, hbx', hbf'⟩ := HG.out _ _ hJs
    have hxl := World.block_lt_of_cell? _ _ hbx'
    have hfl := World.block_lt_of_cell? _ _ hbf'
    obtain ⟨k, hk⟩ : ∃ k, m + pre.length = k := ⟨_, rfl⟩
    by_cases hlt : k < rs.length
    · obtain ⟨r, hr⟩ : ∃ r, rs[k]? = some r := ⟨_, List.getElem?_eq_getElem hlt⟩
      have hr2 : (rs ++ ex)[k]? = some r := by rw [List.getElem?_append_left hlt]; exact hr
      have GL := Lib.hid (Get_log S1 xb (rs ++ ex) k r hr2 (by have := (HRD.out r (List.mem_of_getElem? hr)).1; omega) wr hPr)
      have hmore := fun v => hpre.more (r := r) (v := v) (by rw [hk]; exact hr)
      rw [hk] at hmore
      have HR := Lib.hid (And.intro (HRD.out r (List.mem_of_getElem? hr)).2 (HRD.out r (List.mem_of_getElem? hr)).1)
      have HYY : Hid (∀ w2 v2, OwnB w2 wr.heap.size v2 r.data → Within wr w2 → YieldAt Fence.wide (2 - 1) Tryz.prog l (Yd.enc ⟨k, (r.kind : Int), v2, r.data⟩) (w2.alloc (.cells #[.int .i64 (r.kind : Int), v2] 30)) fun e W' => (e = .returned (.bool true) ∧ J (pre ++ [⟨k, (r.kind : Int), v2, r.data⟩]) W') ∨ (e = .returned (.bool false) ∧ Jx (pre ++ [⟨k, (r.kind : Int), v2, r.data⟩]) W')) := Lib.hid (fun w2 v2 hO h => HY.out pre _ wr _ hJs (h.alloc _) ⟨hmore v2, hO.of ((Within.refl _).alloc _), HR.out⟩ (by omega))
      have b1 : (k : Int) < (rs.length : Int) := by omega
      obtain ⟨kd, hkd⟩ : ∃ k, (r.kind : Int) = k := ⟨_, rfl⟩
      rw [hkd] at GL HYY hmore
      obtain ⟨nd, hnd⟩ : ∃ n, r.data.length = n := ⟨_, rfl⟩
      have HND := Lib.hid hnd
      have HM := Lib.hid hmore; have HK := Lib.hid hk; clear hmore hPr hr hr2 hkd hnd hpre hJs
      rw [HK.out]
      gi_wp2_with (refine ⟨trivial, ?_⟩; gi_at_call 41; refine (callsIn_wide.2 GL.out).mono ?_; rintro e2 w2 ⟨v2, rfl, hO2, h2⟩; obtain ⟨A2, c2, rfl, _, _, _⟩ := hO2.form; obtain ⟨fn, tmps, assign, body, hy, hR⟩ := HYY.out w2 _ hO2 h2; dsimp only [Yd.enc] at hy; rw [HND.out] at hy hR ⊢)
      refine hR.mono ?_; rintro e3 W3 (⟨rfl, hJ3⟩ | ⟨rfl, hJ3⟩)
      · have HJ3 := Lib.hid hJ3; clear hJ3 h2 hO2
        gi_wp2
        go_roundw
        case rel => exact ⟨_, by rw [List.length_append]; show Value.int _ _ = Value.int _ _; congr 1; have := HK.out; simp; omega, HM.out _, HJ3.out⟩
        case measure => simp [intOf]; omega
      · have HJ3 := Lib.hid hJ3; clear hJ3 h2 hO2
        gi_wp2
        refine bodyPost_ret (results_none rfl _ _ _) rfl ⟨⟨_, rfl⟩, .inr ⟨_, HM.out _, HJ3.out⟩⟩
    · have hlen : pre.length = rs.length - m := by have := hpre.2.2; omega
      have b2 : ¬ (k : Int) < (rs.length : Int) := by omega
      have HA := Lib.hid hpre; have HL := Lib.hid hlen; have HJS := Lib.hid hJs; have b3 : decide ((k : Int) < (rs.length : Int)) = false := decide_eq_false b2; clear hpre hlen hJs hPr
      rw [hk]
      gi_wp2
      go_end0
      exact ⟨⟨_, rfl⟩, .inl ⟨pre, ⟨HA.out, HL.out⟩, HJS.out⟩⟩
end Go.Proofs.YtpmjlaiafgbjgaaGreatDoor
end

section
namespace Go.Proofs.YtpmjlaiafgbjgaaGreatDoor
open Go.RowKit
attribute [local go_sem] Oper.semAt_some
theorem SlAt.away {w w' : World} {row : Option Nat} {A : Option Addr} {xs : List Value} (h : SlAt w A xs) (hg : w.grownBy w' row) (hr : NotCells w row) : SlAt w' A xs := fun hn => by
  obtain ⟨ad, e, hl, hx⟩ := h hn
  exact ⟨ad, e, Nat.lt_of_lt_of_le hl hg.size, fun j u hj => cell_kept (hx j u hj) hg hr⟩
structure CloI (w : World) (S0 : Nat → Prop) (xb nb bY bx bf : Nat) (rs : List Rec) (pre : List Yd) (W : World) : Prop where
  y : Boxed W bY 23 (.pointer (some ⟨nb, 0, none⟩))
  new : ∃ S, LogS W S nb (rs.take pre.length) ∧ ∀ j, S j → (w.heap.size ≤ j ∧ j < W.heap.size) ∧ (j ≠ bY ∧ j ≠ bx ∧ j ≠ bf) ∧ ∃ c e f, W.heap[j]? = some (.cells c e f)
  old : LogS W S0 xb rs
  cx : W.cell? ⟨bx, 0, none⟩ = some (.pointer (some ⟨xb, 0, none⟩))
  cf : W.cell? ⟨bf, 0, none⟩ = some (.int .i64 0)
  bel : Below w.heap.size w W
theorem CloI.own (w : World) (S0 : Nat → Prop) (xb nb bY bx bf : Nat) (rs : List Rec) {B : Nat} (hB : w.heap.size ≤ B) : OwnFrom B (CloI w S0 xb nb bY bx bf rs) := by
  rintro s A C row ⟨h1, ⟨S, h2, h3⟩, h4, h5, h6, h7⟩ hg hr
  have hr' : NotCells A row := fun r e => (hr r e).2
  refine ⟨h1.kept hg (fun e => ?_), ⟨S, h2.away hg hr', fun j hj => ?_⟩, h4.away hg hr', cell_kept h5 hg hr', cell_kept h6 hg hr', h7.grown hg h7.size (fun k e => Nat.le_trans hB (hr k e).1)⟩
  · obtain ⟨o, ho, hc⟩ := hr' _ e.symm
    rw [show A.heap[bY]? = _ from h1] at ho
    injection ho with ho
    rw [← ho] at hc
    cases hc
  · obtain ⟨h8, h9, c, e, f, h10⟩ := h3 j hj
    exact ⟨⟨h8.1, Nat.lt_of_lt_of_le h8.2 hg.size⟩, h9, c, e, f, (grown_cells hg hr' h10).trans h10⟩
def CloX (B : Nat) (rs : List Rec) (a : Nat → Value → Value → Act) (pre : List Yd) (x : Yd) (a' : Act) (W : World) : Prop := ∃ Bx A c r, rs[pre.length]? = some r ∧ x.k = (r.kind : Int) ∧ x.d = r.data ∧ x.v = .slice A r.data.length c ∧ r.data.length ≤ c ∧ W.heap[Bx]? = some (.cells #[.int .i64 (r.kind : Int), .slice A r.data.length c] 30 (0, 0)) ∧ SlAt W A (u8v r.data) ∧ a' = a Bx (.int .i64 (x.i : Int)) (.agg #[.int .i64 (r.kind : Int), .slice A r.data.length c])
theorem CloX.own (rs : List Rec) (a : Nat → Value → Value → Act) (pre : List Yd) (x : Yd) (a' : Act) (B : Nat) : OwnFrom B (fun (_ : Unit) W => CloX B rs a pre x a' W) := by
  rintro s A C row ⟨Bx, A', c, r, h1, h2, h3, h4, h5, h6, h7, h8⟩ hg hr
  have hr' : NotCells A row := fun r e => (hr r e).2
  exact ⟨Bx, A', c, r, h1, h2, h3, h4, h5, (grown_cells hg hr' h6).trans h6, h7.away hg hr', h8⟩
set_option maxRecDepth 100000 in
set_option maxHeartbeats 1000000 in
theorem Clone_log (S0 : Nat → Prop) (xb : Nat) (rs : List Rec) (hok : ∀ q ∈ rs, q.Ok pf) (hrs : rs.length ≤ 1048576) (w : World) (hP : LogS w S0 xb rs) (hS : ∀ j, S0 j → j < w.heap.size) : Calls Tryz.prog 15 #[.pointer (some ⟨xb, 0, none⟩)] w fun e w' => ∃ nb, e = .returned (.pointer (some ⟨nb, 0, none⟩)) ∧ LogS w' (fun j => w.heap.size ≤ j ∧ j < w'.heap.size) nb rs ∧ Within w w' := by
  have IS := Lib.hid (is_true xb w hP.made)
  refine (callsIn_wide (n := 3)).1 ?_
  refine callsIn_of_wp_marks Tryz.func15 rfl trivial ?_ rfl
  simp only [Tryz.ntmps15, List.size_toArray, List.length_cons, List.length_nil, Nat.reduceAdd, Nat.reduceSub, Array.replicate_succ, Array.replicate_zero, List.push_toArray, List.append_toArray, List.nil_append, List.cons_append]
  gi_wp2_with (refine ⟨trivial, ?_⟩; gi_at_call 31; refine (callsIn_wide.2 IS.out).mono ?_; rintro e1 w1 ⟨rfl, hw⟩; have hw' := hw.symm; subst hw'; clear hw)
  gi_wp2_with (refine ⟨trivial, ?_⟩; gi_at_call 5; refine (callsIn_wide.2 (New_log w)).mono ?_; rintro e2 w2 ⟨nb, rfl, hN, h2⟩)
  gi_wp2_with (refine ⟨trivial, ?_⟩; gi_at_call 37; refine (callsIn_wide.2 (Each_any _ _ _)).mono ?_; rintro e3 w3 ⟨rfl, rfl⟩)
  obtain ⟨bY, hbY⟩ : ∃ q, w2.heap.size = q := ⟨_, rfl⟩
  obtain ⟨X, hX⟩ : ∃ V, V = w2.alloc (.cells #[.pointer (some ⟨nb, 0, none⟩)] 23) := ⟨_, rfl⟩
  have s1 : X.heap.size = bY + 1 := by rw [hX]; simp [hbY]
  obtain ⟨Y, hY⟩ : ∃ V, V = X.alloc (.cells #[.pointer (some ⟨xb, 0, none⟩)] 23) := ⟨_, rfl⟩
  have s2 : Y.heap.size = bY + 1 + 1 := by rw [hY]; simp [s1]
  obtain ⟨V, hV⟩ : ∃ V, V = Y.alloc (.cells #[.int .i64 0] 3) := ⟨_, rfl⟩
  have s3 : V.heap.size = bY + 1 + 1 + 1 := by rw [hV]; simp [s2]
  have iV : Within w2 V := by rw [hV, hY, hX]; exact (((Within.refl _).alloc _).alloc _).alloc _
  have qy : Boxed V bY 23 (.pointer (some ⟨nb, 0, none⟩)) := by rw [hV, hY, hX, ← hbY]; exact ((Boxed.new w2 _ _).alloc _).alloc _
  have qx : V.cell? ⟨bY + 1, 0, none⟩ = some (.pointer (some ⟨xb, 0, none⟩)) := by rw [hV]; refine (Within.cells ((Within.refl Y).alloc _) _ _ (by omega)).trans ?_; rw [hY, ← s1]; simp
  have qf : V.cell? ⟨bY + 1 + 1, 0, none⟩ = some (.int .i64 0) := by rw [hV, ← s2]; simp
  have hwV : Within w V := h2.trans iV
  have hw2 : w.heap.size ≤ bY := by rw [← hbY]; exact h2.size
  have hNs := (hN.of iV).shrink
  rw [hbY] at hNs
  have hI0 : CloI w S0 xb nb bY (bY + 1) (bY + 1 + 1) rs [] V := ⟨qy, ⟨_, hNs, fun j hj => ⟨⟨hj.1.1, by have := hj.1.2; omega⟩, by have := hj.1.2; omega, hj.2⟩⟩, hP.of hwV, qx, qf, hwV⟩
  rw [hbY]
  rw [← hX, ← hY, ← hV]
  have HI0 := Lib.hid hI0; have HOK := Lib.hid hok; have HS := Lib.hid hS; clear hX hY hV hbY hI0 hok hS hP hN h2 iV qy qx qf hwV hNs s1 s2 IS
  refine range_G rfl (by decide) (gf := 61) (lb := #[.pointer (some ⟨bY + 1, 0, none⟩), .pointer (some ⟨bY + 1 + 1, 0, none⟩)]) rfl trivial (enters_of Tryz.func61 (by kernel_rfl) rfl)
    (Each1_G xb (bY + 1) (bY + 1 + 1) 0 0 (by decide) rs (fun q hq => ⟨(HOK.out q hq).parts.2.2, (HOK.out q hq).bytes⟩) hrs) (fun _ => rfl)
    (CloI w S0 xb nb bY (bY + 1) (bY + 1 + 1) rs) (fun _ _ _ => False) (CloI.own _ _ _ _ _ _ _ _ HI0.out.bel.size) (fun c s A B row h _ _ => h)
    (fun pre W h => ⟨⟨S0, [], by rw [List.append_nil]; exact h.old, fun _ => rfl⟩, h.cx, h.cf⟩) HI0.out (CloX V.heap.size rs (fun Bx iv rv => { tmps := #[.pointer (some ⟨xb, 0, none⟩), undef, .pointer none, .pointer (some ⟨bY, 0, none⟩), undef, .pointer (some ⟨Bx, 0, none⟩), .pointer (some ⟨xb, 0, none⟩), .bool true, .bool false, .pointer (some ⟨nb, 0, none⟩), .pointer (some ⟨xb, 0, none⟩), .func (.func 61) #[] #[.pointer (some ⟨bY + 1, 0, none⟩), .pointer (some ⟨bY + 1 + 1, 0, none⟩)], iv, rv, undef, undef, undef, undef], defers := [] })) (fun pre x a' => CloX.own _ _ _ _ _ _) ?assign ?body ?done ?stop
  case stop =>
    intro D c pre W _ _ h _
    exact h.elim
  case assign =>
    rintro l pre ⟨i, k, v, d⟩ W0 W K hI hW ⟨hY1, hO, hby, hdl⟩ hlen hK
    obtain ⟨hi, hr⟩ := hY1.last
    have hi2 : i = pre.length := by have h : i = 0 + pre.length := hi; omega
    clear hi
    subst hi2
    rw [Nat.zero_add, List.getElem?_map, Option.map_eq_some_iff] at hr
    obtain ⟨r, hr, hre⟩ := hr
    have hk : (r.kind : Int) = k := congrArg Prod.fst hre
    have hd : r.data = d := congrArg Prod.snd hre
    subst hk hd
    have hO : OwnB W W0.heap.size v r.data := hO
    obtain ⟨A, c, rfl, hc, hs, _⟩ := hO.form
    dsimp only [Yd.enc]
    have HKK := Lib.hid hK; have HI := Lib.hid (((CloI.own w S0 xb nb bY (bY + 1) (bY + 1 + 1) rs HI0.out.bel.size) pre W0 W none hI (within_grown hW) (fun r e => by cases e))); have HS2 := Lib.hid hs; have HR := Lib.hid hr; have HC := Lib.hid hc; clear hK hI hs hr hre hO hby hdl hY1 hc hW
    gi_wp2
    exact HKK.out _ _ ((KeepsOthers.alloc _ _).from _) ((CloI.own w S0 xb nb bY (bY + 1) (bY + 1 + 1) rs HI0.out.bel.size).alloc _ HI.out) ⟨W.heap.size, A, c, r, HR.out, rfl, rfl, rfl, HC.out, World.alloc_heap_new W _, HS2.out.of ((Within.refl W).alloc _), rfl⟩
  case body =>
    rintro l pre ⟨i, k, v, d⟩ a' W hI ⟨Bx, A, c, r, hr, rfl, rfl, rfl, hc, hcell, hs, rfl⟩ hlen
    obtain ⟨S, hL, hSS⟩ := hI.new
    have y0 := hI.y.cell
    have yl := hI.y.lt
    have c0 : W.cell? ⟨Bx, 0, none⟩ = some (.int .i64 (r.kind : Int)) := by simp [World.cell?, hcell]
    have c1 : W.cell? ⟨Bx, 1, none⟩ = some (.slice A r.data.length c) := by simp [World.cell?, hcell]
    have cl : Bx < W.heap.size := (Array.getElem?_eq_some_iff.1 hcell).1
    have hmr : r ∈ rs := List.mem_of_getElem? hr
    have hl : (rs.take pre.length).length = pre.length := by rw [List.length_take]; have := (List.getElem?_eq_some_iff.1 hr).1; omega
    have PU := Lib.hid (jput_any S nb (rs.take pre.length) r (fun q hq => HOK.out q (by rcases List.mem_append.1 hq with hq | hq; exact List.mem_of_mem_take hq; rw [List.mem_singleton] at hq; rw [hq]; exact hmr)) (by rw [hl]; have := (List.getElem?_eq_some_iff.1 hr).1; omega) A c hc W hL hs)
    have HTS := Lib.hid (take_snoc hr)
    have HI := Lib.hid hI; have HSS := Lib.hid hSS; clear hI hSS hL hs hc hr hmr hl hcell
    obtain ⟨nd, hnd⟩ : ∃ n, r.data.length = n := ⟨_, rfl⟩
    obtain ⟨kd, hkd⟩ : ∃ n, r.kind = n := ⟨_, rfl⟩
    rw [hnd, hkd] at PU
    rw [hnd] at c1 ⊢
    rw [hkd] at c0 ⊢
    clear hnd hkd
    gi_wp2_with (refine ⟨trivial, ?_⟩; gi_at_call 33; refine CallsIn.inRound l (callsIn_wide.2 (PU.out.mono ?_)); rintro e4 w4 ⟨rfl, hL4, hB4⟩)
    have hkf := hB4.keepsFrom (fun j hj => (HSS.out j hj).2.2) V.heap.size
    have hL5 := hL4.shrink
    rw [HTS.out] at hL5
    have hI := HI.out
    have hlx : bY + 1 < W.heap.size := World.block_lt_of_cell? _ _ hI.cx
    have hlf : bY + 1 + 1 < W.heap.size := World.block_lt_of_cell? _ _ hI.cf
    have hws := hI.bel.size
    refine ⟨hkf, ⟨(hB4.block bY yl (fun h => (HSS.out _ h).2.1.1 rfl)).trans hI.y, ⟨_, by rw [List.length_append]; exact hL5, fun j hj => ?_⟩, hI.old.butS hB4 (fun j hj _ hs => by have h1 := HS.out j hj; have h2 := (HSS.out j hs).1.1; omega), (hB4.cells _ 0 hlx (fun h => (HSS.out _ h).2.1.2.1 rfl)).trans hI.cx, (hB4.cells _ 0 hlf (fun h => (HSS.out _ h).2.1.2.2 rfl)).trans hI.cf, Within.asides hI.bel hB4 (fun j hj => (HSS.out j hj).1.1)⟩⟩
    obtain ⟨hj1, hj2⟩ := hj
    rcases hj1 with hj1 | hj1
    · have h1 := HSS.out j hj1; exact ⟨⟨h1.1.1, Nat.lt_of_lt_of_le h1.1.2 hB4.size⟩, h1.2.1, hj2⟩
    · exact ⟨⟨by omega, hj1.2⟩, by omega, hj2⟩
  case done =>
    rintro D xs W hD ⟨_, hl⟩ hI hK
    have y0 := hI.y.cell
    have yl := hI.y.lt
    obtain ⟨S, hL, hSS⟩ := hI.new
    rw [hl, Nat.sub_zero, List.take_length] at hL
    have hL9 := (hL.away (grownBy_putObj' W D (.deferred none)) (fun r e => by cases e; exact ⟨_, hK, rfl⟩)).mono (T := fun j => w.heap.size ≤ j ∧ j < (W.putObj D (.deferred none)).heap.size) (fun j hj => ⟨(hSS j hj).1.1, by rw [show (W.putObj D (.deferred none)).heap.size = W.heap.size by simp [World.putObj]]; exact (hSS j hj).1.2⟩)
    have hwV := HI0.out.bel.size
    have hB9 := hI.bel.trans (belowK_b (w := w) (Nat.le_refl _) W D _ (.deferred none) (by omega) hK rfl rfl)
    have HL9 := Lib.hid hL9; have HB9 := Lib.hid hB9; clear hL hL9 hB9 hSS hI
    gi_wp2
    refine ⟨by simp, .inl ⟨_, _, rfl, run_takeDeferred hK, ?_⟩⟩
    exact ⟨_, results_tmp rfl _ _ _, nb, rfl, HL9.out, HB9.out⟩
end Go.Proofs.YtpmjlaiafgbjgaaGreatDoor
end

section
namespace Go.Proofs.YtpmjlaiafgbjgaaGreatDoor
open Go.RowKit
section
variable {P : Program} {ops : Array Oper} {l n : Nat}
theorem letsOut_onlyN (Q : Exit → Act → World → Prop) : ¬ LetsOut (OnlyN Q) := fun ⟨_, _, h⟩ => h
def noDefer (ops : Array Oper) : Bool := ops.toList.all fun o => match o.op with | .defer _ => false | _ => true
theorem noDefer_spec (h : noDefer ops = true) {i : Nat} {o : Oper} (ho : ops[i]? = some o) : ∀ c, o.op ≠ .defer c := by
  intro c hc
  have hm := List.all_eq_true.1 h o (by rw [Array.getElem?_eq_some_iff] at ho; obtain ⟨hi, rfl⟩ := ho; exact Array.getElem_mem_toList hi)
  rw [hc] at hm
  cases hm
end
end Go.Proofs.YtpmjlaiafgbjgaaGreatDoor
end

section
namespace Go.Proofs.YtpmjlaiafgbjgaaGreatDoor
open Go.RowKit
section
variable {P : Program} {ops : Array Oper} {n : Nat}
theorem rows_inW {row : String} {args : Array Value} {w : World} {m : Nat} {R : Value → World → Prop} (h : Rows P row args w R) : RowsIn Fence.wide m P row args w R := fun c cs _ => by
  obtain ⟨v, w', r, s⟩ := h c cs
  exact ⟨v, w', r, stepsIn_wide.2 s⟩
theorem oper_inW {o : Oper} (hd : ∀ c, o.op ≠ .defer c) {a : Act} {w : World} {K : Act → World → Prop} {Q : Exit → Act → World → Prop} (h : o.wp P a w K Q) : o.wpIn Fence.wide n P a w K Q := by
  unfold Oper.wpIn
  unfold Oper.wp at h
  refine ⟨fun _ _ => trivial, ?_⟩
  rw [Oper.semAt_eq _ _ _ hd]
  generalize (execOp a.eval o).run P w = r at *
  cases r with
  | ok x w' =>
    cases x <;> simp only [Oper.upon, Oper.uponIn] at h ⊢ <;> first | exact h | exact ⟨fun e => (by cases e), callsIn_wide.2 h⟩ | exact ⟨fun e => (by cases e), rows_inW h⟩
  | halt x w' => cases x <;> simp only [Oper.upon, Oper.uponIn] at h ⊢ <;> exact h
theorem wpOp_inW (hd : noDefer ops = true) {Q : Exit → Act → World → Prop} {i : Nat} {K K' : Act → World → Prop} {a : Act} {w : World} (hK : ∀ a w, K a w → K' a w) (h : wpOp P ops (OnlyN Q) i K a w) : wpOpIn Fence.wide n P ops (OnlyN Q) i K' a w := by
  unfold wpOp at h
  unfold wpOpIn
  cases ho : ops[i]? with
  | none => rw [ho] at h; exact hK _ _ h
  | some o =>
    rw [ho] at h
    simp only at h ⊢
    split
    · rename_i hw
      rw [if_pos hw] at h
      rcases h with h | ⟨_, h⟩
      · exact Oper.wpIn_mono hK (oper_inW (noDefer_spec hd ho) h)
      · exact absurd h (letsOut_onlyN Q)
    · rename_i hw
      rw [if_neg hw] at h
      exact ⟨fun _ _ => trivial, hK _ _ h⟩
theorem wpAny_inW (hd : noDefer ops = true) {Q : Exit → Act → World → Prop} {md : Region.Mode} : ∀ (fuel : Nat) (listed : Array Bool) (a : Act) (w : World), wpAny P md ops (OnlyN Q) fuel listed a w → wpAnyIn Fence.wide n P md ops (OnlyN Q) fuel listed a w
  | 0, _, _, _, h => h
  | fuel + 1, listed, a, w, h => ⟨h.1, fun i hi => wpOp_inW hd (fun a w => wpAny_inW hd fuel _ a w) (h.2 i hi)⟩
theorem wpIn_region_schW {Q : Exit → Act → World → Prop} {id : Nat} {a : Act} {w : World} (S : World → Prop) (p : Nat) (t : Sch) (hd : noDefer ops = true) (hm : P.follows .mixedOrders = true) (hB : t.okAll ops p = true) (hS : S w.drew)
    (h : S w.drew → wpSch P ops (OnlyN Q) S p t a w.drew) : (Code.region id ops true).wpIn Fence.wide n P Q a w := by
  simp only [Sch.okAll, Bool.and_eq_true, decide_eq_true_eq] at hB
  obtain ⟨⟨⟨⟨⟨hsel, hn⟩, hs⟩, hc⟩, hlen⟩, hsc⟩ := hB
  have inv0 : HeadInv .any ops p (Array.replicate ops.size false) :=
    ⟨by simp, fun j oj _ hl => (by rw [getD_replicate_false] at hl; cases hl), fun t _ ht => Go.getD_in (by simpa using ht) (getD_replicate_false _ _)⟩
  exact wpIn_mono (wpIn_region_any hm (wpAny_inW hd _ _ _ _ (wpAny_of_G _ _ _ _ (wpAnyG_sch (md := .any) (S := S) hsel (Q := OnlyN Q) (fun c a d v w h => h) hs hc hn t _ _ a w.drew hlen (.inl inv0) hsc (h hS))))) OnlyN.imp
theorem wpIn_region_schGW {Q : Exit → Act → World → Prop} {id : Nat} {a : Act} {w : World} (F : World → Prop) (p : Nat) (t : Sch) (hm : P.follows .mixedOrders = true) (hB : (t.okAll ops p && noDefer ops) = true) (hF : F w)
    (h : ∀ w0, F w0 → wpSch P ops (OnlyN Q) (Within w0) p t a w0.drew) : (Code.region id ops true).wpIn Fence.wide n P Q a w := by
  rw [Bool.and_eq_true] at hB
  exact wpIn_region_schW (Within w) p t hB.2 hm hB.1 ((Within.refl w).drew) fun _ => h w hF
theorem sch_op_want {S : World → Prop} {Q : Exit → Act → World → Prop} {a : Act} {w : World} {k : Nat} {o : Oper} {R : Act → World → Prop} (ho : ops.toList[k]? = some o) (hg : Region.wanted o (yielded ops a.tmps) = true) (h : ∀ K : Act → World → Prop, (∀ a' w', R a' w' → K a' w') → o.wp P a w K (OnlyN Q)) : wpOp P ops (OnlyN Q) k R a w := by
  unfold wpOp
  rw [Array.getElem?_toList] at ho
  simp only [ho]
  rw [if_pos hg]
  exact .inl (h _ fun a' w' hr => hr)
theorem sch_two_want {S : World → Prop} {Q : Exit → Act → World → Prop} {a : Act} {w : World} {p i j : Nat} {t u : Sch} {o o' : Oper} (ho : ops.toList[i]? = some o) (hg : Region.wanted o (yielded ops a.tmps) = true) (ho' : ops.toList[j]? = some o') (hg' : Region.wanted o' (yielded ops a.tmps) = true)
    (h : ∀ K : Act → World → Prop, (∀ a' w', S w' → wpSch P ops (OnlyN Q) S p t a' w' → K a' w') → o.wp P a w K (OnlyN Q))
    (h' : ∀ K : Act → World → Prop, (∀ a' w', S w' → wpSch P ops (OnlyN Q) S p u a' w' → K a' w') → o'.wp P a w K (OnlyN Q)) : wpSch P ops (OnlyN Q) S p (.two i t j u) a w :=
  ⟨sch_op_want (S := S) ho hg fun K hK => h K fun a' w' hS hr => hK a' w' ⟨hS, hr⟩, sch_op_want (S := S) ho' hg' fun K hK => h' K fun a' w' hS hr => hK a' w' ⟨hS, hr⟩⟩
end
end Go.Proofs.YtpmjlaiafgbjgaaGreatDoor
end

section
namespace Go.Proofs.YtpmjlaiafgbjgaaGreatDoor
open Go.RowKit
attribute [local go_sem] Oper.semAt_some
structure GoF (w : World) (q xb : Nat) (fr bg : Int) (W : World) : Prop where
  v : Boxed W q 4 (.bool false)
  g : Boxed W (q + 1 + 1 + 1) 3 (.int .i64 bg)
  cx : W.cell? ⟨q + 1, 0, none⟩ = some (.pointer (some ⟨xb, 0, none⟩))
  cf : W.cell? ⟨q + 1 + 1, 0, none⟩ = some (.int .i64 fr)
  bel : Below w.heap.size w W
theorem boxed_away {w w' : World} {row : Option Nat} {b t : Nat} {v : Value} (h : Boxed w b t v) (hg : w.grownBy w' row) (hr : NotCells w row) : Boxed w' b t v := h.kept hg (fun e => by
  obtain ⟨o, ho, hc⟩ := hr _ e.symm
  rw [show w.heap[b]? = _ from h] at ho
  injection ho with ho
  rw [← ho] at hc
  cases hc)
theorem GoF.grown {w : World} {q xb : Nat} {fr bg : Int} {W W' : World} {row : Option Nat} (h : GoF w q xb fr bg W) (hg : W.grownBy W' row) (hr : ∀ r, row = some r → w.heap.size ≤ r ∧ ∃ o : Obj, W.heap[r]? = some o ∧ o.isCells = false) : GoF w q xb fr bg W' := by
  have hr' : NotCells W row := fun r e => (hr r e).2
  exact ⟨boxed_away h.v hg hr', boxed_away h.g hg hr', cell_kept h.cx hg hr', cell_kept h.cf hg hr', h.bel.grown hg h.bel.size (fun j e => (hr j e).1)⟩
theorem GoF.of {w : World} {q xb : Nat} {fr bg : Int} {W W' : World} (h : GoF w q xb fr bg W) (hi : Within W W') : GoF w q xb fr bg W' := h.grown (within_grown hi) (fun r e => by cases e)
structure GoI (w : World) (q xb : Nat) (fr bg : Int) (rs : List Rec) (m p n₁ D : Nat) (pre : List Yd) (W : World) : Prop where
  f : GoF w q xb fr bg W
  l : ∃ v, Boxed W p 52 v ∧ RecP W n₁ v (pre.map Yd.p)
  n : n₁ ≤ W.heap.size
  d : W.heap[D]? = some (.deferred (some []))
  y : YdP rs m pre
theorem GoI.own (w : World) (q xb : Nat) (fr bg : Int) (rs : List Rec) (m p n₁ D : Nat) {B : Nat} (hB : w.heap.size ≤ B) (hD : D < B) : OwnFrom B (GoI w q xb fr bg rs m p n₁ D) := by
  rintro s A C row ⟨h1, ⟨v, h2, h3⟩, h4, h5, h6⟩ hg hr
  have hr' : NotCells A row := fun r e => (hr r e).2
  exact ⟨h1.grown hg (fun r e => ⟨Nat.le_trans hB (hr r e).1, (hr r e).2⟩), ⟨v, boxed_away h2 hg hr', h3.away hg hr'⟩, Nat.le_trans h4 hg.size, (hg.block _ (Array.getElem?_eq_some_iff.1 h5).1 (fun e => by have := (hr _ e.symm).1; omega)).trans h5, h6⟩
def GoX (n₁ : Nat) (rs : List Rec) (m : Nat) (a : Nat → Value → Value → Act) (pre : List Yd) (x : Yd) (a' : Act) (W : World) : Prop := ∃ Bx, n₁ ≤ Bx ∧ W.heap[Bx]? = some (.cells #[.int .i64 x.k, x.v] 30 (0, 0)) ∧ OwnB W n₁ x.v x.d ∧ Bytes x.d ∧ YdP rs m (pre ++ [x]) ∧ a' = a Bx (.int .i64 (x.i : Int)) (.agg #[.int .i64 x.k, x.v])
theorem GoX.own (n₁ : Nat) (rs : List Rec) (m : Nat) (a : Nat → Value → Value → Act) (pre : List Yd) (x : Yd) (a' : Act) (B : Nat) : OwnFrom B (fun (_ : Unit) W => GoX n₁ rs m a pre x a' W) := by
  rintro s A C row ⟨Bx, h1, h2, h3, h4, h5, h6⟩ hg hr
  have hr' : NotCells A row := fun r e => (hr r e).2
  exact ⟨Bx, h1, (grown_cells hg hr' h2).trans h2, ownsRow_away h3 hg hr', h4, h5, h6⟩
set_option maxRecDepth 100000 in
set_option maxHeartbeats 4000000 in
theorem goes_some (S Sy : Nat → Prop) (xb yb : Nat) (rs : List Rec) (hok : ∀ q ∈ rs, q.Ok pf) (hle : rs.length ≤ 1048576) (fr : Int) (m : Nat) (hmx : max fr 0 = (m : Int)) (hm : m < rs.length) (w : World) (hX : LogS w S xb rs) (hY : RlogS w Sy yb rs) : Calls Tryz.prog 17 #[.pointer (some ⟨xb, 0, none⟩), .pointer (some ⟨yb, 0, none⟩), .int .i64 fr] w fun e w' => e = .returned (.bool true) ∧ Within w w' := by
  have hyb := hY.lt
  obtain ⟨Ay, cy, p1, hcy, hyB, hyA⟩ := hY.list
  obtain ⟨ay, rfl⟩ : ∃ ay, Ay = some ay := by obtain ⟨ad, _, _, e, _⟩ := hyA.g m (rs[m].i) (by rw [List.getElem?_map, List.getElem?_eq_getElem hm]; rfl); exact ⟨ad, e⟩
  have HYD : Hid (∀ W, Within w W → RecG W (some (ay.add (m * 2))) ((rs.map Rec.i).drop m)) := Lib.hid (fun W h => (hyA.g.of h).drop m)
  obtain ⟨nn, hnn⟩ : ∃ n, rs.length = n := ⟨_, rfl⟩
  have P1 := Lib.hid p1
  rw [hnn] at p1 hcy hle hm
  have HNN := Lib.hid hnn; clear hnn
  have b1 : max 0 (min fr (nn : Int)) = (m : Int) := by omega
  have HXX := Lib.hid hX; have HYY := Lib.hid hY; have HOK := Lib.hid hok; clear hX hY hok hyB hyA
  refine (callsIn_wide (n := 3)).1 ?_
  refine callsIn_of_wp_marks Tryz.func17 rfl trivial ?_ rfl
  simp only [Tryz.ntmps17, List.size_toArray, List.length_cons, List.length_nil, Nat.reduceAdd, Nat.reduceSub, Array.replicate_succ, Array.replicate_zero, List.push_toArray, List.append_toArray, List.nil_append, List.cons_append]
  obtain ⟨W0, hW0⟩ : ∃ V, V = w.alloc (.cells #[.bool false] 4) := ⟨_, rfl⟩
  obtain ⟨q, hq⟩ : ∃ q, w.heap.size = q := ⟨_, rfl⟩
  have s0 : W0.heap.size = q + 1 := by rw [hW0]; simp [hq]
  have i0 : Within w W0 := by rw [hW0]; exact (Within.refl w).alloc _
  have p1' := (i0.cells _ _ hyb).trans p1
  have hyb' := Nat.lt_of_lt_of_le hyb i0.size
  obtain ⟨W1, hW1⟩ : ∃ V, V = W0.alloc (.cells #[.pointer (some ⟨xb, 0, none⟩)] 23) := ⟨_, rfl⟩
  have s1 : W1.heap.size = q + 1 + 1 := by rw [hW1]; simp [s0]
  obtain ⟨W2, hW2⟩ : ∃ V, V = W1.alloc (.cells #[.int .i64 fr] 3) := ⟨_, rfl⟩
  have s2 : W2.heap.size = q + 1 + 1 + 1 := by rw [hW2]; simp [s1]
  have i2 : Within w W2 := by rw [hW2, hW1]; exact (i0.alloc _).alloc _
  have p2' := (i2.cells _ _ hyb).trans p1
  have hyb2 := Nat.lt_of_lt_of_le hyb i2.size
  obtain ⟨V, hV⟩ : ∃ V, V = W2.alloc (.cells #[.int .i64 (m : Int)] 3) := ⟨_, rfl⟩
  have s3 : V.heap.size = q + 1 + 1 + 1 + 1 := by rw [hV]; simp [s2]
  have hG : GoF w q xb fr (m : Int) V := ⟨by rw [hV, hW2, hW1, hW0, ← hq]; exact (((Boxed.new w _ _).alloc _).alloc _).alloc _, by rw [hV, ← s2]; exact Boxed.new W2 _ _, by rw [hV]; refine (Within.cells ((Within.refl W2).alloc _) _ _ (by omega)).trans ?_; rw [hW2]; refine (Within.cells ((Within.refl W1).alloc _) _ _ (by omega)).trans ?_; rw [hW1, ← s0]; simp, by rw [hV]; refine (Within.cells ((Within.refl W2).alloc _) _ _ (by omega)).trans ?_; rw [hW2, ← s1]; simp, by rw [hV]; exact Within.alloc i2 _⟩
  have HG := Lib.hid hG; have HW0 := Lib.hid hW0; have HW1 := Lib.hid hW1; have HW2 := Lib.hid hW2; have HV := Lib.hid hV; clear hG hW0 hW1 hW2 hV i0 i2 p1'
  gi_wp2_with (refine ⟨trivial, ?_⟩; gi_at_call 37; refine (callsIn_wide.2 (Each_any _ _ _)).mono ?_; rintro e3 w3 ⟨rfl, rfl⟩; rw [← HW0.out, s0, ← HW1.out, ← HW2.out])
  rw [← HV.out]
  refine range_G rfl (by decide) (gf := 61) (lb := #[.pointer (some ⟨q + 1, 0, none⟩), .pointer (some ⟨q + 1 + 1, 0, none⟩)]) rfl trivial (enters_of Tryz.func61 (by kernel_rfl) rfl)
    (Each1_G xb (q + 1) (q + 1 + 1) m fr hmx rs (fun r hr => ⟨(HOK.out r hr).parts.2.2, (HOK.out r hr).bytes⟩) (by rw [HNN.out]; exact hle)) (fun _ => rfl)
    (fun pre W => pre = [] ∧ GoF w q xb fr (m : Int) W) (fun c _ W => c = .exit 0 ∧ GoF w q xb fr (m : Int) W) (fun s A B row h hg hr => ⟨h.1, h.2.grown hg (fun r e => ⟨by have := (hr r e).1; omega, (hr r e).2⟩)⟩) (fun c s A B row h hg hr => ⟨h.1, h.2.grown hg (fun r e => ⟨by have := (hr r e).1; omega, (hr r e).2⟩)⟩)
    (fun pre W h => ⟨⟨S, [], by rw [List.append_nil]; exact HXX.out.of h.2.bel, fun _ => rfl⟩, h.2.cx, h.2.cf⟩) ⟨rfl, HG.out⟩ (fun pre x a' W => pre = [] ∧ x.i = m ∧ a' = { tmps := #[.pointer (some ⟨xb, 0, none⟩), .pointer (some ⟨yb, 0, none⟩), .int .i64 fr, undef, undef, undef, .pointer (some ⟨q, 0, none⟩), .func (.func 61) #[] #[.pointer (some ⟨q + 1, 0, none⟩), .pointer (some ⟨q + 1 + 1, 0, none⟩)], .pointer (some ⟨q + 1 + 1 + 1, 0, none⟩), .int .i64 (x.i : Int), undef, undef, undef, .pointer (some ⟨xb, 0, none⟩), .int .i64 fr, .func (.func 61) #[] #[.pointer (some ⟨q + 1, 0, none⟩), .pointer (some ⟨q + 1 + 1, 0, none⟩)], .int .i64 fr, .pointer (some ⟨yb, 0, none⟩), .pointer (some ⟨yb, 0, none⟩), .pointer (some ⟨yb, 0, none⟩), .slice (some ay) nn cy, .int .i64 (nn : Int), .int .i64 (min fr (nn : Int)), .int .i64 (m : Int), .func (.func 61) #[] #[.pointer (some ⟨q + 1, 0, none⟩), .pointer (some ⟨q + 1 + 1, 0, none⟩)], .int .i64 (x.i : Int), .agg #[.int .i64 x.k, x.v], undef, undef, undef, undef, undef, undef, undef, undef, undef, undef, undef, undef, undef, undef, undef, undef, undef, undef, undef, undef, undef, undef, undef, undef, undef, undef, undef, undef, undef, undef, undef, undef, undef], defers := [] }) (fun pre x a' s A B row h _ _ => h) ?assign ?body ?done ?stop
  case assign =>
    rintro l pre ⟨i, k, v, d⟩ W0 W K hI hW ⟨hY1, hO, hby, hdl⟩ hlen hK
    obtain ⟨rfl, hF⟩ := hI
    have hi := hY1.last.1
    have hi2 : i = m := hi
    clear hi
    subst hi2
    have hO : OwnB W W0.heap.size v d := hO
    obtain ⟨A, c, rfl, _, _, _⟩ := hO.form
    dsimp only [Yd.enc]
    have HKK := Lib.hid hK; have HF := Lib.hid (hF.of hW); clear hK hF hO hby hdl hY1 hW
    gi_wp2
    exact HKK.out _ _ (KeepsFrom.refl _ _) ⟨by first | rfl | trivial, HF.out⟩ ⟨by first | rfl | trivial, by first | rfl | trivial, by first | rfl | trivial⟩
  case body =>
    rintro l pre x a' W ⟨_, hF⟩ ⟨rfl, hxi, rfl⟩ hlen
    have g0 := hF.g.cell
    have gl := hF.g.lt
    rw [hxi]
    have ei : ((m : Int) != (m : Int)) = false := by simp
    have HF := Lib.hid hF; clear hF hxi
    gi_wp2
    exact ⟨KeepsFrom.refl _ _, rfl, HF.out⟩
  case done =>
    rintro D xs W hD ⟨_, hl⟩ ⟨rfl, _⟩ _
    rw [HNN.out] at hl
    simp at hl
    omega
  case stop =>
    rintro D c pre W hD _ ⟨rfl, hF⟩ hK
    have HF := Lib.hid hF; have HK := Lib.hid hK; clear hF hK
    obtain ⟨p, hp⟩ : ∃ p, W.heap.size = p := ⟨_, rfl⟩
    obtain ⟨V2, hV2⟩ : ∃ V, V = W.alloc (.cells #[.slice none 0 0] 52) := ⟨_, rfl⟩
    have t3 : V2.heap.size = p + 1 := by rw [hV2]; simp [hp]
    have j2 : Within W V2 := by rw [hV2]; exact (Within.refl _).alloc _
    have hwp : w.heap.size ≤ p := by rw [← hp]; exact HF.out.bel.size
    have hqp : q + 1 + 1 + 1 < p := by rw [← hp]; exact HF.out.g.lt
    have hDp : D < p := by rw [← hp]; exact (Array.getElem?_eq_some_iff.1 HK.out).1
    have hI2 : GoI w q xb fr (m : Int) rs m p V2.heap.size D [] V2 := ⟨HF.out.of j2, ⟨_, by rw [hV2, ← hp]; exact Boxed.new _ _ _, World.ownsRow_nil _ _ _ _, fun x hx => by cases hx⟩, Nat.le_refl _, (j2.block _ (by omega)).trans HK.out, YdP.nil _ _⟩
    have HI2 := Lib.hid hI2; have HV2 := Lib.hid hV2; have HP := Lib.hid hp; clear hI2 hV2 j2 hp
    gi_wp2
    rw [HP.out, ← HV2.out]
    refine range_G rfl (by decide) (gf := 61) (lb := #[.pointer (some ⟨q + 1, 0, none⟩), .pointer (some ⟨q + 1 + 1, 0, none⟩)]) rfl trivial (enters_of Tryz.func61 (by kernel_rfl) rfl)
      (Each1_G xb (q + 1) (q + 1 + 1) m fr hmx rs (fun r hr => ⟨(HOK.out r hr).parts.2.2, (HOK.out r hr).bytes⟩) (by rw [HNN.out]; exact hle)) (fun _ => rfl)
      (GoI w q xb fr (m : Int) rs m p V2.heap.size D) (fun _ _ _ => False) (GoI.own _ _ _ _ _ _ _ _ _ _ (by omega) (by omega)) (fun c s A B row h _ _ => h)
      (fun pre W h => ⟨⟨S, [], by rw [List.append_nil]; exact HXX.out.of h.f.bel, fun _ => rfl⟩, h.f.cx, h.f.cf⟩) HI2.out (GoX V2.heap.size rs m (fun Bx iv rv => { tmps := #[.pointer (some ⟨xb, 0, none⟩), .pointer (some ⟨yb, 0, none⟩), .int .i64 fr, undef, undef, undef, .pointer (some ⟨q, 0, none⟩), .func (.func 61) #[] #[.pointer (some ⟨q + 1, 0, none⟩), .pointer (some ⟨q + 1 + 1, 0, none⟩)], .pointer (some ⟨q + 1 + 1 + 1, 0, none⟩), undef, .pointer (some ⟨p, 0, none⟩), iv, .pointer (some ⟨Bx, 0, none⟩), .pointer (some ⟨xb, 0, none⟩), .int .i64 fr, .func (.func 61) #[] #[.pointer (some ⟨q + 1, 0, none⟩), .pointer (some ⟨q + 1 + 1, 0, none⟩)], .int .i64 fr, .pointer (some ⟨yb, 0, none⟩), .pointer (some ⟨yb, 0, none⟩), .pointer (some ⟨yb, 0, none⟩), .slice (some ay) nn cy, .int .i64 (nn : Int), .int .i64 (min fr (nn : Int)), .int .i64 (m : Int), .func (.func 61) #[] #[.pointer (some ⟨q + 1, 0, none⟩), .pointer (some ⟨q + 1 + 1, 0, none⟩)], undef, undef, undef, undef, undef, .func (.func 61) #[] #[.pointer (some ⟨q + 1, 0, none⟩), .pointer (some ⟨q + 1 + 1, 0, none⟩)], iv, rv, undef, undef, undef, undef, undef, undef, undef, undef, undef, undef, undef, undef, undef, undef, undef, undef, undef, undef, undef, undef, undef, undef, undef, undef, undef, undef, undef], defers := [] })) (fun pre x a' => GoX.own _ _ _ _ _ _ _ _) ?assign2 ?body2 ?done2 ?stop2
    case stop2 =>
      intro D' c pre W _ _ h _
      exact h.elim
    case assign2 =>
      rintro l pre ⟨i, k, v, d⟩ W0 W K hI hW ⟨hY1, hO, hby, hdl⟩ hlen hK
      have hO : OwnB W W0.heap.size v d := hO
      have hby : Bytes d := hby
      have hO1 := hO.less hI.n
      obtain ⟨A, c, rfl, _, _, _⟩ := hO.form
      dsimp only [Yd.enc]
      have HKK := Lib.hid hK; have HIW := Lib.hid ((GoI.own w q xb fr (m : Int) rs m p V2.heap.size D (B := V2.heap.size) (by omega) (by omega)) pre W0 W none hI (within_grown hW) (fun r e => by cases e)); have HO1 := Lib.hid hO1; have HBY := Lib.hid hby; have HY1 := Lib.hid hY1; clear hK hI hO hO1 hby hdl hY1 hW
      gi_wp2
      exact HKK.out _ _ ((KeepsOthers.alloc _ _).from _) ((GoI.own w q xb fr (m : Int) rs m p V2.heap.size D (B := V2.heap.size) (by omega) (by omega)).alloc _ HIW.out) ⟨W.heap.size, HIW.out.n, World.alloc_heap_new W _, HO1.out.of ((Within.refl W).alloc _), HBY.out, HY1.out, rfl⟩
    case body2 =>
      rintro l pre ⟨i, k, v, d⟩ a' W hI ⟨Bx, hBx, hcell, hO, hby, hY1, rfl⟩ hlen
      have hO : OwnB W V2.heap.size v d := hO
      have hby : Bytes d := hby
      have hcell : W.heap[Bx]? = some (.cells #[.int .i64 k, v] 30 (0, 0)) := hcell
      have hiv := hY1.last.1
      have hiv2 : i = m + pre.length := hiv
      clear hiv
      have hmlen : m + pre.length < rs.length := by have := hY1.last.2; rw [List.getElem?_map, Option.map_eq_some_iff] at this; obtain ⟨r, hr, _⟩ := this; exact (List.getElem?_eq_some_iff.1 hr).1
      rw [HNN.out] at hmlen
      have hbgm : (m : Int) = (m : Int) := by omega
      obtain ⟨vo, hb, hR⟩ := hI.l
      obtain ⟨Ao, co, rfl, _, _, _, _⟩ := RecsO.at (rs := (pre.map Yd.p).map Prod.fst) ⟨_, rfl, hR⟩
      obtain ⟨A, c, rfl, _, _, _⟩ := hO.form
      have c0 : W.cell? ⟨Bx, 0, none⟩ = some (.int .i64 k) := by simp [World.cell?, hcell]
      have c1 : W.cell? ⟨Bx, 1, none⟩ = some (.slice A d.length c) := by simp [World.cell?, hcell]
      have cl : Bx < W.heap.size := (Array.getElem?_eq_some_iff.1 hcell).1
      have o0 := hb.cell
      have of := hb.frozen
      have ol := hb.lt
      have g0 := hI.f.g.cell
      have gl := hI.f.g.lt
      obtain ⟨v4, w4, hrun, hR4, hg4, hb4⟩ := run_app_recP W V2.heap.size (.slice Ao ((pre.map Yd.p).map Prod.fst).length co) (pre.map Yd.p) (k, d) (.slice A d.length c) hR hO hby (owns_types hO hR.1 (by decide)) (by rw [List.length_map]; omega) hI.n
      obtain ⟨A4, c4, rfl, _, _, _, _⟩ := RecsO.at (rs := (pre.map Yd.p ++ [((k, d), Value.slice A d.length c)]).map Prod.fst) ⟨_, rfl, hR4⟩
      have own1 : ∀ j, (Value.slice Ao ((pre.map Yd.p).map Prod.fst).length co).ownBlock = some j → V2.heap.size ≤ j := fun j hj => (hR.1.lt j hj).1
      have hb4' : Boxed w4 p 52 (.slice Ao ((pre.map Yd.p).map Prod.fst).length co) := hb.kept hg4 (fun e => by have := own1 _ e.symm; omega)
      have p0 := hb4'.cell
      have pf_ := hb4'.frozen
      have pl := hb4'.lt
      have hF4 : GoF w q xb fr (m : Int) w4 := ⟨hI.f.v.kept hg4 (fun e => by have := own1 _ e.symm; omega), hI.f.g.kept hg4 (fun e => by have := own1 _ e.symm; omega), (World.cell?_of_block (hg4.block _ (World.block_lt_of_cell? _ _ hI.f.cx) (fun e => by have h := own1 _ e.symm; have h2 : V2.heap.size ≤ q + 1 := h; omega))).trans hI.f.cx, (World.cell?_of_block (hg4.block _ (World.block_lt_of_cell? _ _ hI.f.cf) (fun e => by have h := own1 _ e.symm; have h2 : V2.heap.size ≤ q + 1 + 1 := h; omega))).trans hI.f.cf, hI.f.bel.grown hg4 hI.f.bel.size (fun j e => by have := own1 j e; omega)⟩
      have hD4 : w4.heap[D]? = some (.deferred (some [])) := (hg4.block _ (Array.getElem?_eq_some_iff.1 hI.d).1 (fun e => by have := own1 _ e.symm; omega)).trans hI.d
      have hkf : KeepsFrom V2.heap.size W w4 := ⟨hg4.size, fun q ob _ hq hoc => (hg4.block q (Array.getElem?_eq_some_iff.1 hq).1 (fun e => by obtain ⟨cur, hcur⟩ := ownsRow_block hR.1 e.symm; rw [hcur] at hq; injection hq with hq; rw [← hq] at hoc; cases hoc)).trans hq⟩
      obtain ⟨no, hno⟩ : ∃ n, ((pre.map Yd.p).map Prod.fst).length = n := ⟨_, rfl⟩
      have hnop : no = pre.length := by rw [← hno, List.length_map, List.length_map]
      rw [hno] at hrun o0 p0 hb hb4'
      obtain ⟨n4, hn4⟩ : ∃ n, ((pre.map Yd.p ++ [((k, d), Value.slice A d.length c)]).map Prod.fst).length = n := ⟨_, rfl⟩
      rw [hn4] at hrun hR4
      have hps : pre.map Yd.p ++ [((k, d), Value.slice A d.length c)] = (pre ++ [(⟨i, k, .slice A d.length c, d⟩ : Yd)]).map Yd.p := by rw [List.map_append]; rfl
      rw [hps] at hR4
      have wz : IntKind.i64.wrap ((m : Int) + (no : Int)) = (m : Int) + (no : Int) := by rw [IntKind.wrap_i64]; omega
      have ei : ((i : Int) != (m : Int) + (no : Int)) = false := by rw [bne_eq_false_iff_eq]; omega
      skip
      have RUN := Lib.hid hrun; have HR4 := Lib.hid hR4; have HF4 := Lib.hid hF4; have HD4 := Lib.hid hD4; have HKF := Lib.hid hkf; have HBX := Lib.hid hb4'; have HY1 := Lib.hid hY1; have HIN := Lib.hid hI.n; have HW4 := Lib.hid hg4.size; clear hrun hR4 hF4 hD4 hkf hb4' hR hO hg4 hb4 hps hn4 hno hb hcell hI hY1 own1 hiv2 hnop hmlen hbgm
      skip
      gi_wp2_with (gi_at_builtin; refine wpListIn_append_run rfl (.tmp 39) (.tmp 41) 52 rfl _ _ rfl rfl RUN.out ?_)
      have hX := HBX.out.set (.slice A4 n4 c4)
      rw [t3] at HKF HR4 HIN
      have keep : ∀ j, j ≠ p → (w4.setCell ⟨p, 0, none⟩ (.slice A4 n4 c4)).heap[j]? = w4.heap[j]? := fun j hj => Below.heap_setCell w4 ⟨p, 0, none⟩ _ j hj
      have hF := HF4.out
      refine ⟨HKF.out.trans ((KeepsOthers.setCell _ _ _).from _), ⟨(keep q (by omega)).trans hF.v, (keep _ (by omega)).trans hF.g, (World.cell?_of_block (keep _ (by show q + 1 ≠ p; omega))).trans hF.cx, (World.cell?_of_block (keep _ (by show q + 1 + 1 ≠ p; omega))).trans hF.cf, hF.bel.setCell (p := ⟨p, 0, none⟩) hwp _⟩, ⟨_, hX, ?_⟩, ?_, (keep _ (by omega)).trans HD4.out, HY1.out⟩
      · exact ⟨ownsRow_keep HR4.out.1 (fun j hj => keep j (by have := (HR4.out.1.lt j hj).1; omega)), fun x hx => ⟨ownsRow_keep (HR4.out.2 x hx).1 (fun j hj => keep j (by have := ((HR4.out.2 x hx).1.lt j hj).1; omega)), (HR4.out.2 x hx).2⟩⟩
      · have h1 := HIN.out; have h2 := HW4.out; first | (simp [World.setCell]; done) | (simp [World.setCell]; omega)
    case done2 =>
      rintro D2 xs WQ hD2 ⟨hY2, hl2⟩ hI hK2
      obtain ⟨vo, hb, hR⟩ := hI.l
      have hw := hI.f.bel
      have hmap : (xs.map Yd.p).map Prod.fst = (rs.map Rec.i).drop m := by
        have h1 := hY2.1; rw [List.map_map]; show xs.map (fun x => ((x.k, x.d) : IRec)) = _; rw [h1]; refine List.take_of_length_le ?_; rw [List.length_drop, List.length_map]; omega
      obtain ⟨Al, cl, rfl, hcl, hRB, _, _⟩ := RecsO.at (rs := (xs.map Yd.p).map Prod.fst) ⟨_, rfl, hR⟩
      rw [hmap] at hRB hcl hb
      have hll : ((rs.map Rec.i).drop m).length = nn - m := by rw [List.length_drop, List.length_map, HNN.out] <;> omega
      have HSM := Lib.hid (fun W A B c d (h1 : RecG W A ((rs.map Rec.i).drop m)) (h2 : RecG W B ((rs.map Rec.i).drop m)) => Rsame22_at A B c d ((rs.map Rec.i).drop m) (by rw [hll]; omega) W h1 h2)
      rw [hll] at HSM hcl hb
      have HL := Lib.hid (fun W' (h : Within WQ W') => hRB.g.of h)
      have hlog := logV_le (fun r hr => (HOK.out r hr).parts.2.2) (by rw [HNN.out]; exact hle)
      have BX := Lib.hid (fun W' (h : Within w W') => Bytes_log S xb rs hlog W' (HXX.out.of h))
      have BY := Lib.hid (fun W' (h : Within w W') => Rbytes_log Sy yb rs HOK.out (by rw [HNN.out]; exact hle) W' (HYY.out.of h))
      obtain ⟨sl, hsl⟩ : ∃ s, strB (logV rs) = s := ⟨_, rfl⟩
      obtain ⟨mb, hmb⟩ : ∃ m, (logV rs).length = m := ⟨_, rfl⟩
      have ST : Hid (∀ W A' c', SlAt W A' (u8v (logV rs)) → (convert 28 9 (.slice A' mb c')).run Tryz.prog W = .ok (.string sl) W) := Lib.hid (fun W A' c' h => by rw [← hmb, ← hsl]; exact run_str A' c' (logV rs) W h)
      have es : (sl.toList == sl.toList) = true := by simp
      have HMB := Lib.hid hmb; clear hmb hsl
      have o0 := hb.cell
      have ol := hb.lt
      have g0 := hI.f.g.cell
      have gl := hI.f.g.lt
      have v0 := hI.f.v.cell
      have vf := hI.f.v.frozen
      have vl := hI.f.v.lt
      have p9 := (Within.cells hw _ _ hyb).trans p1
      have hyb9 := Nat.lt_of_lt_of_le hyb (Below.size hw)
      have d1 : (0 : Int) ≤ (m : Int) := by omega
      have d2 : (m : Int) ≤ (nn : Int) := by omega
      have d3 : (nn : Int) ≤ (cy : Int) := by omega
      have d4 : (m : Int) ≤ (cy : Int) := by omega
      have d5 : ¬ cy = m := by omega
      have HHW := Lib.hid hw; have HV9 := Lib.hid hI.f.v; have HDD := Lib.hid hI.d; have HK2 := Lib.hid hK2; clear hw hI hY2 hl2 hR hRB hcl hb hK2 hlog hmap
      gi_wp2
      refine wpIn_region_schGW (fun W => W.cell? ⟨p, 0, none⟩ = some (.slice Al (nn - m) cl) ∧ p < W.heap.size ∧ W.cell? ⟨yb, 0, none⟩ = some (.slice (some ay) nn cy) ∧ yb < W.heap.size ∧ W.cell? ⟨q + 1 + 1 + 1, 0, none⟩ = some (.int .i64 (m : Int)) ∧ q + 1 + 1 + 1 < W.heap.size ∧ W.cell? ⟨q, 0, none⟩ = some (.bool false) ∧ W.frozen? ⟨q, 0, none⟩ = false ∧ q < W.heap.size ∧ W = WQ) 17 (.firm 0 (.firm 1 (.firm 2 (.firm 3 (.firm 4 (.firm 5 (.firm 6 (.one 7 (.firm 8 (.firm 9 (.firm 12 (.one 10 (.two 11 (.one 13 (.one 14 (.firm 15 (.firm 16 (.one 17 .nil))))) 13 (.two 11 (.one 14 (.firm 15 (.firm 16 (.one 17 .nil)))) 14 (.one 11 (.firm 15 (.firm 16 (.one 17 .nil)))))))))))))))))) (by kernel_rfl) (by kernel_rfl) ⟨o0, ol, p9, hyb9, g0, gl, v0, vf, vl, rfl⟩ ?_
      rintro w0 ⟨o0, ol, p9, hyb9, g0, gl, v0, vf, vl, rfl⟩
      try simp only [Act.put, List.setIfInBounds_toArray, List.set_cons_zero, List.set_cons_succ]
      iterate 7
        apply sch_firm rfl rfl (by repeat (first | with_reducible exact Within.refl _ | with_reducible assumption | with_reducible refine Within.alloc ?_ _ | with_reducible refine Within.drew ?_ | with_reducible refine Within.drewN ?_ _ | with_reducible refine Within.setCell ?_ (by first | (simp; done) | (simp; omega)) _ | with_reducible refine Within.trans ?_ (by assumption)))
        · intro wq hq
          have hcq := hq.cells
          clear hq
          go_simp
          rfl
        try simp only [Act.put, List.setIfInBounds_toArray, List.set_cons_zero, List.set_cons_succ]
      refine sch_one rfl rfl (fun K hK => ?_)
      go_simp
      refine (HSM.out _ _ _ _ _ (HL.out _ (by first | exact (Within.refl _).drew | exact Within.refl _)) (HYD.out _ (by first | exact HHW.out.drew | exact HHW.out))).mono ?_; rintro e3 w3 ⟨rfl, h3⟩
      refine hK _ _ (fun _ => (by repeat (first | with_reducible exact Within.refl _ | with_reducible assumption | with_reducible refine Within.alloc ?_ _ | with_reducible refine Within.drew ?_ | with_reducible refine Within.drewN ?_ _ | with_reducible refine Within.setCell ?_ (by first | (simp; done) | (simp; omega)) _ | with_reducible refine Within.trans ?_ (by assumption)))) ?_
      clear hK K
      try simp only [Act.put, List.setIfInBounds_toArray, List.set_cons_zero, List.set_cons_succ]
      apply sch_firm rfl rfl (by repeat (first | with_reducible exact Within.refl _ | with_reducible assumption | with_reducible refine Within.alloc ?_ _ | with_reducible refine Within.drew ?_ | with_reducible refine Within.drewN ?_ _ | with_reducible refine Within.setCell ?_ (by first | (simp; done) | (simp; omega)) _ | with_reducible refine Within.trans ?_ (by assumption)))
      · intro wq hq
        have hcq := hq.cells
        clear hq
        go_simp
        rfl
      try simp only [Act.put, List.setIfInBounds_toArray, List.set_cons_zero, List.set_cons_succ]
      iterate 2
        apply sch_want rfl (by first | rfl | decide | (simp [Region.wanted, yielded]; done)) (by repeat (first | with_reducible exact Within.refl _ | with_reducible assumption | with_reducible refine Within.alloc ?_ _ | with_reducible refine Within.drew ?_ | with_reducible refine Within.drewN ?_ _ | with_reducible refine Within.setCell ?_ (by first | (simp; done) | (simp; omega)) _ | with_reducible refine Within.trans ?_ (by assumption)))
        · intro wq hq
          have hcq := hq.cells
          clear hq
          go_simp
          rfl
        try simp only [Act.put, List.setIfInBounds_toArray, List.set_cons_zero, List.set_cons_succ]
      refine sch_one_want rfl (by first | rfl | decide | (simp [Region.wanted, yielded]; done)) (fun K hK => ?_)
      go_simp
      refine (BX.out _ (by exact Within.trans (Within.drew HHW.out) h3)).mono ?_; rintro e4 w4 ⟨v4, rfl, hO4, h4⟩
      obtain ⟨A4, c4, rfl, _, hs4, _⟩ := hO4.form
      rw [HMB.out]
      clear hO4
      have st1 := ST.out w4 A4 c4 hs4
      refine hK _ _ (fun _ => (by repeat (first | with_reducible exact Within.refl _ | with_reducible assumption | with_reducible refine Within.alloc ?_ _ | with_reducible refine Within.drew ?_ | with_reducible refine Within.drewN ?_ _ | with_reducible refine Within.setCell ?_ (by first | (simp; done) | (simp; omega)) _ | with_reducible refine Within.trans ?_ (by assumption)))) ?_
      clear hK K
      try simp only [Act.put, List.setIfInBounds_toArray, List.set_cons_zero, List.set_cons_succ]
      refine sch_two_want rfl (by first | rfl | decide | (simp [Region.wanted, yielded]; done)) rfl (by first | rfl | decide | (simp [Region.wanted, yielded]; done)) (fun K hK => ?_) (fun K hK => ?_)
      · go_simp
        refine hK _ _ (by repeat (first | with_reducible exact Within.refl _ | with_reducible assumption | with_reducible refine Within.alloc ?_ _ | with_reducible refine Within.drew ?_ | with_reducible refine Within.drewN ?_ _ | with_reducible refine Within.setCell ?_ (by first | (simp; done) | (simp; omega)) _ | with_reducible refine Within.trans ?_ (by assumption))) ?_
        clear hK K
        try simp only [Act.put, List.setIfInBounds_toArray, List.set_cons_zero, List.set_cons_succ]
        refine sch_one_want rfl (by first | rfl | decide | (simp [Region.wanted, yielded]; done)) (fun K hK => ?_)
        go_simp
        refine (BY.out _ (by exact Within.trans (Within.trans (Within.drew HHW.out) h3) h4)).mono ?_; rintro e5 w5 ⟨v5, rfl, hO5, h5⟩
        obtain ⟨A5, c5, rfl, _, hs5, _⟩ := hO5.form
        rw [HMB.out]
        clear hO5
        have st2 := ST.out w5 A5 c5 hs5
        have st3 := ST.out w5 A4 c4 (hs4.of h5)
        refine hK _ _ (fun _ => (by repeat (first | with_reducible exact Within.refl _ | with_reducible assumption | with_reducible refine Within.alloc ?_ _ | with_reducible refine Within.drew ?_ | with_reducible refine Within.drewN ?_ _ | with_reducible refine Within.setCell ?_ (by first | (simp; done) | (simp; omega)) _ | with_reducible refine Within.trans ?_ (by assumption)))) ?_
        clear hK K
        try simp only [Act.put, List.setIfInBounds_toArray, List.set_cons_zero, List.set_cons_succ]
        refine sch_one_want rfl (by first | rfl | decide | (simp [Region.wanted, yielded]; done)) (fun K hK => ?_)
        go_simp
        refine hK _ _ (fun _ => (by repeat (first | with_reducible exact Within.refl _ | with_reducible assumption | with_reducible refine Within.alloc ?_ _ | with_reducible refine Within.drew ?_ | with_reducible refine Within.drewN ?_ _ | with_reducible refine Within.setCell ?_ (by first | (simp; done) | (simp; omega)) _ | with_reducible refine Within.trans ?_ (by assumption)))) ?_
        clear hK K
        try simp only [Act.put, List.setIfInBounds_toArray, List.set_cons_zero, List.set_cons_succ]
        apply sch_want rfl (by first | rfl | decide | (simp [Region.wanted, yielded]; done)) (by repeat (first | with_reducible exact Within.refl _ | with_reducible assumption | with_reducible refine Within.alloc ?_ _ | with_reducible refine Within.drew ?_ | with_reducible refine Within.drewN ?_ _ | with_reducible refine Within.setCell ?_ (by first | (simp; done) | (simp; omega)) _ | with_reducible refine Within.trans ?_ (by assumption)))
        · intro wq hq
          have hcq := hq.cells
          clear hq
          go_simp
          rfl
        try simp only [Act.put, List.setIfInBounds_toArray, List.set_cons_zero, List.set_cons_succ]
        apply sch_firm rfl rfl (by repeat (first | with_reducible exact Within.refl _ | with_reducible assumption | with_reducible refine Within.alloc ?_ _ | with_reducible refine Within.drew ?_ | with_reducible refine Within.drewN ?_ _ | with_reducible refine Within.setCell ?_ (by first | (simp; done) | (simp; omega)) _ | with_reducible refine Within.trans ?_ (by assumption)))
        · intro wq hq
          have hcq := hq.cells
          clear hq
          go_simp
          rfl
        try simp only [Act.put, List.setIfInBounds_toArray, List.set_cons_zero, List.set_cons_succ]
        refine sch_one rfl rfl (fun K hK => ?_)
        have h05 : Within w0 w5 := (((Within.refl w0).drew.trans h3).trans h4).trans h5
        have u0 := (h05.cells q 0 vl).trans v0
        have uf := (h05.frozens q 0 vl).trans vf
        have ul := Nat.lt_of_lt_of_le vl h05.size
        go_simp
        refine hK _ _ (fun h => absurd h (by decide)) ?_
        clear hK K
        try simp only [Act.put, List.setIfInBounds_toArray, List.set_cons_zero, List.set_cons_succ]
        refine sch_nil ?_
        have hw5 : Within w w5 := Within.trans HHW.out h05
        have HW5 := Lib.hid hw5; have U0 := Lib.hid u0; have H05 := Lib.hid h05; clear hw5 h05 h3 h4 h5
        gi_wp2
        all_goals
          obtain ⟨R1, hR1⟩ : ∃ R, R = w5.setCell ⟨q, 0, none⟩ (.bool true) := ⟨_, rfl⟩
          rw [← hR1]
          have hne : D ≠ D2 := by omega
          have kb1 : R1.heap[D2]? = some (.deferred (some [])) := by rw [hR1]; exact (KeepsOthers.setCell _ _ _).same D2 _ ((H05.out.block _ (Array.getElem?_eq_some_iff.1 HK2.out).1).trans HK2.out) rfl
          have ka1 : R1.heap[D]? = some (.deferred (some [])) := by rw [hR1]; exact (KeepsOthers.setCell _ _ _).same D _ ((H05.out.block _ (Array.getElem?_eq_some_iff.1 HDD.out).1).trans HDD.out) rfl
          have ka2 : (R1.putObj D2 (.deferred none)).heap[D]? = some (.deferred (some [])) := (World.putObj_heap_other hne).trans ka1
          have x1 : R1.cell? ⟨q, 0, none⟩ = some (.bool true) := by rw [hR1]; exact World.cell?_setCell_same _ _ _ U0.out
          have x2 := cell_kept x1 (grownBy_putObj' R1 D2 (.deferred none)) (fun r e => by cases e; exact ⟨_, kb1, rfl⟩)
          have x3 := cell_kept x2 (grownBy_putObj' _ D (.deferred none)) (fun r e => by cases e; exact ⟨_, ka2, rfl⟩)
          have x3l := World.block_lt_of_cell? _ _ x3
          have B1 : Below w.heap.size w R1 := by rw [hR1]; exact Below.setCell HW5.out (p := ⟨q, 0, none⟩) (by show w.heap.size ≤ q; omega) _
          have B2 := B1.trans (belowK_b (w := w) (Nat.le_refl _) R1 D2 _ (.deferred none) (by omega) kb1 rfl rfl)
          have B3 := B2.trans (belowK_b (w := w) (Nat.le_refl _) _ D _ (.deferred none) (by omega) ka2 rfl rfl)
          refine ⟨by simp, .inl ⟨_, _, rfl, run_takeDeferred kb1, ?_⟩⟩
          refine ⟨by simp, .inl ⟨_, _, rfl, run_takeDeferred ka2, ?_⟩⟩
          obtain ⟨R3, hR3⟩ : ∃ R, R = (R1.putObj D2 (.deferred none)).putObj D (.deferred none) := ⟨_, rfl⟩
          rw [← hR3] at x3 x3l B3 ⊢
          exact ⟨_, by simp [results, Tryz.results17, go_sem, x3, x3l], rfl, B3⟩
      · go_simp
        refine (BY.out _ (by exact Within.trans (Within.trans (Within.drew HHW.out) h3) h4)).mono ?_; rintro e5 w5 ⟨v5, rfl, hO5, h5⟩
        obtain ⟨A5, c5, rfl, _, hs5, _⟩ := hO5.form
        rw [HMB.out]
        clear hO5
        have st2 := ST.out w5 A5 c5 hs5
        have st3 := ST.out w5 A4 c4 (hs4.of h5)
        refine hK _ _ (by repeat (first | with_reducible exact Within.refl _ | with_reducible assumption | with_reducible refine Within.alloc ?_ _ | with_reducible refine Within.drew ?_ | with_reducible refine Within.drewN ?_ _ | with_reducible refine Within.setCell ?_ (by first | (simp; done) | (simp; omega)) _ | with_reducible refine Within.trans ?_ (by assumption))) ?_
        clear hK K
        try simp only [Act.put, List.setIfInBounds_toArray, List.set_cons_zero, List.set_cons_succ]
        refine sch_two_want rfl (by first | rfl | decide | (simp [Region.wanted, yielded]; done)) rfl (by first | rfl | decide | (simp [Region.wanted, yielded]; done)) (fun K hK => ?_) (fun K hK => ?_)
        · go_simp
          refine hK _ _ (by repeat (first | with_reducible exact Within.refl _ | with_reducible assumption | with_reducible refine Within.alloc ?_ _ | with_reducible refine Within.drew ?_ | with_reducible refine Within.drewN ?_ _ | with_reducible refine Within.setCell ?_ (by first | (simp; done) | (simp; omega)) _ | with_reducible refine Within.trans ?_ (by assumption))) ?_
          clear hK K
          try simp only [Act.put, List.setIfInBounds_toArray, List.set_cons_zero, List.set_cons_succ]
          refine sch_one_want rfl (by first | rfl | decide | (simp [Region.wanted, yielded]; done)) (fun K hK => ?_)
          go_simp
          refine hK _ _ (fun _ => (by repeat (first | with_reducible exact Within.refl _ | with_reducible assumption | with_reducible refine Within.alloc ?_ _ | with_reducible refine Within.drew ?_ | with_reducible refine Within.drewN ?_ _ | with_reducible refine Within.setCell ?_ (by first | (simp; done) | (simp; omega)) _ | with_reducible refine Within.trans ?_ (by assumption)))) ?_
          clear hK K
          try simp only [Act.put, List.setIfInBounds_toArray, List.set_cons_zero, List.set_cons_succ]
          apply sch_want rfl (by first | rfl | decide | (simp [Region.wanted, yielded]; done)) (by repeat (first | with_reducible exact Within.refl _ | with_reducible assumption | with_reducible refine Within.alloc ?_ _ | with_reducible refine Within.drew ?_ | with_reducible refine Within.drewN ?_ _ | with_reducible refine Within.setCell ?_ (by first | (simp; done) | (simp; omega)) _ | with_reducible refine Within.trans ?_ (by assumption)))
          · intro wq hq
            have hcq := hq.cells
            clear hq
            go_simp
            rfl
          try simp only [Act.put, List.setIfInBounds_toArray, List.set_cons_zero, List.set_cons_succ]
          apply sch_firm rfl rfl (by repeat (first | with_reducible exact Within.refl _ | with_reducible assumption | with_reducible refine Within.alloc ?_ _ | with_reducible refine Within.drew ?_ | with_reducible refine Within.drewN ?_ _ | with_reducible refine Within.setCell ?_ (by first | (simp; done) | (simp; omega)) _ | with_reducible refine Within.trans ?_ (by assumption)))
          · intro wq hq
            have hcq := hq.cells
            clear hq
            go_simp
            rfl
          try simp only [Act.put, List.setIfInBounds_toArray, List.set_cons_zero, List.set_cons_succ]
          refine sch_one rfl rfl (fun K hK => ?_)
          have h05 : Within w0 w5 := (((Within.refl w0).drew.trans h3).trans h4).trans h5
          have u0 := (h05.cells q 0 vl).trans v0
          have uf := (h05.frozens q 0 vl).trans vf
          have ul := Nat.lt_of_lt_of_le vl h05.size
          go_simp
          refine hK _ _ (fun h => absurd h (by decide)) ?_
          clear hK K
          try simp only [Act.put, List.setIfInBounds_toArray, List.set_cons_zero, List.set_cons_succ]
          refine sch_nil ?_
          have hw5 : Within w w5 := Within.trans HHW.out h05
          have HW5 := Lib.hid hw5; have U0 := Lib.hid u0; have H05 := Lib.hid h05; clear hw5 h05 h3 h4 h5
          gi_wp2
          all_goals
            obtain ⟨R1, hR1⟩ : ∃ R, R = w5.setCell ⟨q, 0, none⟩ (.bool true) := ⟨_, rfl⟩
            rw [← hR1]
            have hne : D ≠ D2 := by omega
            have kb1 : R1.heap[D2]? = some (.deferred (some [])) := by rw [hR1]; exact (KeepsOthers.setCell _ _ _).same D2 _ ((H05.out.block _ (Array.getElem?_eq_some_iff.1 HK2.out).1).trans HK2.out) rfl
            have ka1 : R1.heap[D]? = some (.deferred (some [])) := by rw [hR1]; exact (KeepsOthers.setCell _ _ _).same D _ ((H05.out.block _ (Array.getElem?_eq_some_iff.1 HDD.out).1).trans HDD.out) rfl
            have ka2 : (R1.putObj D2 (.deferred none)).heap[D]? = some (.deferred (some [])) := (World.putObj_heap_other hne).trans ka1
            have x1 : R1.cell? ⟨q, 0, none⟩ = some (.bool true) := by rw [hR1]; exact World.cell?_setCell_same _ _ _ U0.out
            have x2 := cell_kept x1 (grownBy_putObj' R1 D2 (.deferred none)) (fun r e => by cases e; exact ⟨_, kb1, rfl⟩)
            have x3 := cell_kept x2 (grownBy_putObj' _ D (.deferred none)) (fun r e => by cases e; exact ⟨_, ka2, rfl⟩)
            have x3l := World.block_lt_of_cell? _ _ x3
            have B1 : Below w.heap.size w R1 := by rw [hR1]; exact Below.setCell HW5.out (p := ⟨q, 0, none⟩) (by show w.heap.size ≤ q; omega) _
            have B2 := B1.trans (belowK_b (w := w) (Nat.le_refl _) R1 D2 _ (.deferred none) (by omega) kb1 rfl rfl)
            have B3 := B2.trans (belowK_b (w := w) (Nat.le_refl _) _ D _ (.deferred none) (by omega) ka2 rfl rfl)
            refine ⟨by simp, .inl ⟨_, _, rfl, run_takeDeferred kb1, ?_⟩⟩
            refine ⟨by simp, .inl ⟨_, _, rfl, run_takeDeferred ka2, ?_⟩⟩
            obtain ⟨R3, hR3⟩ : ∃ R, R = (R1.putObj D2 (.deferred none)).putObj D (.deferred none) := ⟨_, rfl⟩
            rw [← hR3] at x3 x3l B3 ⊢
            exact ⟨_, by simp [results, Tryz.results17, go_sem, x3, x3l], rfl, B3⟩
        · go_simp
          refine hK _ _ (by repeat (first | with_reducible exact Within.refl _ | with_reducible assumption | with_reducible refine Within.alloc ?_ _ | with_reducible refine Within.drew ?_ | with_reducible refine Within.drewN ?_ _ | with_reducible refine Within.setCell ?_ (by first | (simp; done) | (simp; omega)) _ | with_reducible refine Within.trans ?_ (by assumption))) ?_
          clear hK K
          try simp only [Act.put, List.setIfInBounds_toArray, List.set_cons_zero, List.set_cons_succ]
          refine sch_one_want rfl (by first | rfl | decide | (simp [Region.wanted, yielded]; done)) (fun K hK => ?_)
          go_simp
          refine hK _ _ (fun _ => (by repeat (first | with_reducible exact Within.refl _ | with_reducible assumption | with_reducible refine Within.alloc ?_ _ | with_reducible refine Within.drew ?_ | with_reducible refine Within.drewN ?_ _ | with_reducible refine Within.setCell ?_ (by first | (simp; done) | (simp; omega)) _ | with_reducible refine Within.trans ?_ (by assumption)))) ?_
          clear hK K
          try simp only [Act.put, List.setIfInBounds_toArray, List.set_cons_zero, List.set_cons_succ]
          apply sch_want rfl (by first | rfl | decide | (simp [Region.wanted, yielded]; done)) (by repeat (first | with_reducible exact Within.refl _ | with_reducible assumption | with_reducible refine Within.alloc ?_ _ | with_reducible refine Within.drew ?_ | with_reducible refine Within.drewN ?_ _ | with_reducible refine Within.setCell ?_ (by first | (simp; done) | (simp; omega)) _ | with_reducible refine Within.trans ?_ (by assumption)))
          · intro wq hq
            have hcq := hq.cells
            clear hq
            go_simp
            rfl
          try simp only [Act.put, List.setIfInBounds_toArray, List.set_cons_zero, List.set_cons_succ]
          apply sch_firm rfl rfl (by repeat (first | with_reducible exact Within.refl _ | with_reducible assumption | with_reducible refine Within.alloc ?_ _ | with_reducible refine Within.drew ?_ | with_reducible refine Within.drewN ?_ _ | with_reducible refine Within.setCell ?_ (by first | (simp; done) | (simp; omega)) _ | with_reducible refine Within.trans ?_ (by assumption)))
          · intro wq hq
            have hcq := hq.cells
            clear hq
            go_simp
            rfl
          try simp only [Act.put, List.setIfInBounds_toArray, List.set_cons_zero, List.set_cons_succ]
          refine sch_one rfl rfl (fun K hK => ?_)
          have h05 : Within w0 w5 := (((Within.refl w0).drew.trans h3).trans h4).trans h5
          have u0 := (h05.cells q 0 vl).trans v0
          have uf := (h05.frozens q 0 vl).trans vf
          have ul := Nat.lt_of_lt_of_le vl h05.size
          go_simp
          refine hK _ _ (fun h => absurd h (by decide)) ?_
          clear hK K
          try simp only [Act.put, List.setIfInBounds_toArray, List.set_cons_zero, List.set_cons_succ]
          refine sch_nil ?_
          have hw5 : Within w w5 := Within.trans HHW.out h05
          have HW5 := Lib.hid hw5; have U0 := Lib.hid u0; have H05 := Lib.hid h05; clear hw5 h05 h3 h4 h5
          gi_wp2
          all_goals
            obtain ⟨R1, hR1⟩ : ∃ R, R = w5.setCell ⟨q, 0, none⟩ (.bool true) := ⟨_, rfl⟩
            rw [← hR1]
            have hne : D ≠ D2 := by omega
            have kb1 : R1.heap[D2]? = some (.deferred (some [])) := by rw [hR1]; exact (KeepsOthers.setCell _ _ _).same D2 _ ((H05.out.block _ (Array.getElem?_eq_some_iff.1 HK2.out).1).trans HK2.out) rfl
            have ka1 : R1.heap[D]? = some (.deferred (some [])) := by rw [hR1]; exact (KeepsOthers.setCell _ _ _).same D _ ((H05.out.block _ (Array.getElem?_eq_some_iff.1 HDD.out).1).trans HDD.out) rfl
            have ka2 : (R1.putObj D2 (.deferred none)).heap[D]? = some (.deferred (some [])) := (World.putObj_heap_other hne).trans ka1
            have x1 : R1.cell? ⟨q, 0, none⟩ = some (.bool true) := by rw [hR1]; exact World.cell?_setCell_same _ _ _ U0.out
            have x2 := cell_kept x1 (grownBy_putObj' R1 D2 (.deferred none)) (fun r e => by cases e; exact ⟨_, kb1, rfl⟩)
            have x3 := cell_kept x2 (grownBy_putObj' _ D (.deferred none)) (fun r e => by cases e; exact ⟨_, ka2, rfl⟩)
            have x3l := World.block_lt_of_cell? _ _ x3
            have B1 : Below w.heap.size w R1 := by rw [hR1]; exact Below.setCell HW5.out (p := ⟨q, 0, none⟩) (by show w.heap.size ≤ q; omega) _
            have B2 := B1.trans (belowK_b (w := w) (Nat.le_refl _) R1 D2 _ (.deferred none) (by omega) kb1 rfl rfl)
            have B3 := B2.trans (belowK_b (w := w) (Nat.le_refl _) _ D _ (.deferred none) (by omega) ka2 rfl rfl)
            refine ⟨by simp, .inl ⟨_, _, rfl, run_takeDeferred kb1, ?_⟩⟩
            refine ⟨by simp, .inl ⟨_, _, rfl, run_takeDeferred ka2, ?_⟩⟩
            obtain ⟨R3, hR3⟩ : ∃ R, R = (R1.putObj D2 (.deferred none)).putObj D (.deferred none) := ⟨_, rfl⟩
            rw [← hR3] at x3 x3l B3 ⊢
            exact ⟨_, by simp [results, Tryz.results17, go_sem, x3, x3l], rfl, B3⟩
set_option maxRecDepth 100000 in
set_option maxHeartbeats 4000000 in
theorem goes_none (S Sy : Nat → Prop) (xb yb : Nat) (rs : List Rec) (hok : ∀ q ∈ rs, q.Ok pf) (hle : rs.length ≤ 1048576) (fr : Int) (m : Nat) (hmx : max fr 0 = (m : Int)) (hm : rs.length ≤ m) (w : World) (hX : LogS w S xb rs) (hY : RlogS w Sy yb rs) : Calls Tryz.prog 17 #[.pointer (some ⟨xb, 0, none⟩), .pointer (some ⟨yb, 0, none⟩), .int .i64 fr] w fun e w' => e = .returned (.bool true) ∧ Within w w' := by
  have hyb := hY.lt
  obtain ⟨Ay, cy, p1, hcy, hyB, hyA⟩ := hY.list
  have HYD : Hid (∀ (W : World) (A : Option Addr), Within w W → RecG W A ((rs.map Rec.i).drop m)) := Lib.hid (fun W A h => by rw [List.drop_eq_nil_of_le (by rw [List.length_map]; omega)]; exact RecG.nil)
  obtain ⟨nn, hnn⟩ : ∃ n, rs.length = n := ⟨_, rfl⟩
  have P1 := Lib.hid p1
  rw [hnn] at p1 hcy hle hm
  have HNN := Lib.hid hnn; clear hnn
  have b1 : max 0 (min fr (nn : Int)) = (nn : Int) := by omega
  have HXX := Lib.hid hX; have HYY := Lib.hid hY; have HOK := Lib.hid hok; clear hX hY hok hyB hyA
  refine (callsIn_wide (n := 3)).1 ?_
  refine callsIn_of_wp_marks Tryz.func17 rfl trivial ?_ rfl
  simp only [Tryz.ntmps17, List.size_toArray, List.length_cons, List.length_nil, Nat.reduceAdd, Nat.reduceSub, Array.replicate_succ, Array.replicate_zero, List.push_toArray, List.append_toArray, List.nil_append, List.cons_append]
  obtain ⟨W0, hW0⟩ : ∃ V, V = w.alloc (.cells #[.bool false] 4) := ⟨_, rfl⟩
  obtain ⟨q, hq⟩ : ∃ q, w.heap.size = q := ⟨_, rfl⟩
  have s0 : W0.heap.size = q + 1 := by rw [hW0]; simp [hq]
  have i0 : Within w W0 := by rw [hW0]; exact (Within.refl w).alloc _
  have p1' := (i0.cells _ _ hyb).trans p1
  have hyb' := Nat.lt_of_lt_of_le hyb i0.size
  obtain ⟨W1, hW1⟩ : ∃ V, V = W0.alloc (.cells #[.pointer (some ⟨xb, 0, none⟩)] 23) := ⟨_, rfl⟩
  have s1 : W1.heap.size = q + 1 + 1 := by rw [hW1]; simp [s0]
  obtain ⟨W2, hW2⟩ : ∃ V, V = W1.alloc (.cells #[.int .i64 fr] 3) := ⟨_, rfl⟩
  have s2 : W2.heap.size = q + 1 + 1 + 1 := by rw [hW2]; simp [s1]
  have i2 : Within w W2 := by rw [hW2, hW1]; exact (i0.alloc _).alloc _
  have p2' := (i2.cells _ _ hyb).trans p1
  have hyb2 := Nat.lt_of_lt_of_le hyb i2.size
  obtain ⟨V, hV⟩ : ∃ V, V = W2.alloc (.cells #[.int .i64 (nn : Int)] 3) := ⟨_, rfl⟩
  have s3 : V.heap.size = q + 1 + 1 + 1 + 1 := by rw [hV]; simp [s2]
  have hG : GoF w q xb fr (nn : Int) V := ⟨by rw [hV, hW2, hW1, hW0, ← hq]; exact (((Boxed.new w _ _).alloc _).alloc _).alloc _, by rw [hV, ← s2]; exact Boxed.new W2 _ _, by rw [hV]; refine (Within.cells ((Within.refl W2).alloc _) _ _ (by omega)).trans ?_; rw [hW2]; refine (Within.cells ((Within.refl W1).alloc _) _ _ (by omega)).trans ?_; rw [hW1, ← s0]; simp, by rw [hV]; refine (Within.cells ((Within.refl W2).alloc _) _ _ (by omega)).trans ?_; rw [hW2, ← s1]; simp, by rw [hV]; exact Within.alloc i2 _⟩
  have HG := Lib.hid hG; have HW0 := Lib.hid hW0; have HW1 := Lib.hid hW1; have HW2 := Lib.hid hW2; have HV := Lib.hid hV; clear hG hW0 hW1 hW2 hV i0 i2 p1'
  gi_wp2_with (refine ⟨trivial, ?_⟩; gi_at_call 37; refine (callsIn_wide.2 (Each_any _ _ _)).mono ?_; rintro e3 w3 ⟨rfl, rfl⟩; rw [← HW0.out, s0, ← HW1.out, ← HW2.out])
  rw [← HV.out]
  refine range_G rfl (by decide) (gf := 61) (lb := #[.pointer (some ⟨q + 1, 0, none⟩), .pointer (some ⟨q + 1 + 1, 0, none⟩)]) rfl trivial (enters_of Tryz.func61 (by kernel_rfl) rfl)
    (Each1_G xb (q + 1) (q + 1 + 1) m fr hmx rs (fun r hr => ⟨(HOK.out r hr).parts.2.2, (HOK.out r hr).bytes⟩) (by rw [HNN.out]; exact hle)) (fun _ => rfl)
    (fun pre W => GoF w q xb fr (nn : Int) W) (fun _ _ _ => False) (fun s A B row h hg hr => h.grown hg (fun r e => ⟨by have := (hr r e).1; omega, (hr r e).2⟩)) (fun c s A B row h _ _ => h)
    (fun pre W h => ⟨⟨S, [], by rw [List.append_nil]; exact HXX.out.of h.bel, fun _ => rfl⟩, h.cx, h.cf⟩) HG.out (fun pre x a' W => False) (fun pre x a' s A B row h _ _ => h) ?assign ?body ?done ?stop
  case assign =>
    rintro l pre x W0 W K hI hW ⟨hY1, _⟩ hlen hK
    have h := hY1.last.2
    rw [List.getElem?_eq_none (by rw [List.length_map, HNN.out]; omega)] at h
    cases h
  case body =>
    rintro l pre x a' W _ h hlen
    exact h.elim
  case stop =>
    rintro D c pre W hD _ h hK
    exact h.elim
  case done =>
    rintro D xs W hD _ hF hK
    have HF := Lib.hid hF; have HK := Lib.hid hK; clear hF hK
    obtain ⟨p, hp⟩ : ∃ p, W.heap.size = p := ⟨_, rfl⟩
    obtain ⟨V2, hV2⟩ : ∃ V, V = W.alloc (.cells #[.slice none 0 0] 52) := ⟨_, rfl⟩
    have t3 : V2.heap.size = p + 1 := by rw [hV2]; simp [hp]
    have j2 : Within W V2 := by rw [hV2]; exact (Within.refl _).alloc _
    have hwp : w.heap.size ≤ p := by rw [← hp]; exact HF.out.bel.size
    have hqp : q + 1 + 1 + 1 < p := by rw [← hp]; exact HF.out.g.lt
    have hDp : D < p := by rw [← hp]; exact (Array.getElem?_eq_some_iff.1 HK.out).1
    have hI2 : GoI w q xb fr (nn : Int) rs m p V2.heap.size D [] V2 := ⟨HF.out.of j2, ⟨_, by rw [hV2, ← hp]; exact Boxed.new _ _ _, World.ownsRow_nil _ _ _ _, fun x hx => by cases hx⟩, Nat.le_refl _, (j2.block _ (by omega)).trans HK.out, YdP.nil _ _⟩
    have HI2 := Lib.hid hI2; have HV2 := Lib.hid hV2; have HP := Lib.hid hp; clear hI2 hV2 j2 hp
    gi_wp2
    rw [HP.out, ← HV2.out]
    refine range_G rfl (by decide) (gf := 61) (lb := #[.pointer (some ⟨q + 1, 0, none⟩), .pointer (some ⟨q + 1 + 1, 0, none⟩)]) rfl trivial (enters_of Tryz.func61 (by kernel_rfl) rfl)
      (Each1_G xb (q + 1) (q + 1 + 1) m fr hmx rs (fun r hr => ⟨(HOK.out r hr).parts.2.2, (HOK.out r hr).bytes⟩) (by rw [HNN.out]; exact hle)) (fun _ => rfl)
      (GoI w q xb fr (nn : Int) rs m p V2.heap.size D) (fun _ _ _ => False) (GoI.own _ _ _ _ _ _ _ _ _ _ (by omega) (by omega)) (fun c s A B row h _ _ => h)
      (fun pre W h => ⟨⟨S, [], by rw [List.append_nil]; exact HXX.out.of h.f.bel, fun _ => rfl⟩, h.f.cx, h.f.cf⟩) HI2.out (GoX V2.heap.size rs m (fun Bx iv rv => { tmps := #[.pointer (some ⟨xb, 0, none⟩), .pointer (some ⟨yb, 0, none⟩), .int .i64 fr, undef, undef, undef, .pointer (some ⟨q, 0, none⟩), .func (.func 61) #[] #[.pointer (some ⟨q + 1, 0, none⟩), .pointer (some ⟨q + 1 + 1, 0, none⟩)], .pointer (some ⟨q + 1 + 1 + 1, 0, none⟩), undef, .pointer (some ⟨p, 0, none⟩), iv, .pointer (some ⟨Bx, 0, none⟩), .pointer (some ⟨xb, 0, none⟩), .int .i64 fr, .func (.func 61) #[] #[.pointer (some ⟨q + 1, 0, none⟩), .pointer (some ⟨q + 1 + 1, 0, none⟩)], .int .i64 fr, .pointer (some ⟨yb, 0, none⟩), .pointer (some ⟨yb, 0, none⟩), .pointer (some ⟨yb, 0, none⟩), .slice Ay nn cy, .int .i64 (nn : Int), .int .i64 (min fr (nn : Int)), .int .i64 (nn : Int), .func (.func 61) #[] #[.pointer (some ⟨q + 1, 0, none⟩), .pointer (some ⟨q + 1 + 1, 0, none⟩)], undef, undef, undef, undef, undef, .func (.func 61) #[] #[.pointer (some ⟨q + 1, 0, none⟩), .pointer (some ⟨q + 1 + 1, 0, none⟩)], iv, rv, undef, undef, undef, undef, undef, undef, undef, undef, undef, undef, undef, undef, undef, undef, undef, undef, undef, undef, undef, undef, undef, undef, undef, undef, undef, undef, undef], defers := [] })) (fun pre x a' => GoX.own _ _ _ _ _ _ _ _) ?assign2 ?body2 ?done2 ?stop2
    case stop2 =>
      intro D' c pre W _ _ h _
      exact h.elim
    case assign2 =>
      rintro l pre ⟨i, k, v, d⟩ W0 W K hI hW ⟨hY1, hO, hby, hdl⟩ hlen hK
      have hO : OwnB W W0.heap.size v d := hO
      have hby : Bytes d := hby
      have hO1 := hO.less hI.n
      obtain ⟨A, c, rfl, _, _, _⟩ := hO.form
      dsimp only [Yd.enc]
      have HKK := Lib.hid hK; have HIW := Lib.hid ((GoI.own w q xb fr (nn : Int) rs m p V2.heap.size D (B := V2.heap.size) (by omega) (by omega)) pre W0 W none hI (within_grown hW) (fun r e => by cases e)); have HO1 := Lib.hid hO1; have HBY := Lib.hid hby; have HY1 := Lib.hid hY1; clear hK hI hO hO1 hby hdl hY1 hW
      gi_wp2
      exact HKK.out _ _ ((KeepsOthers.alloc _ _).from _) ((GoI.own w q xb fr (nn : Int) rs m p V2.heap.size D (B := V2.heap.size) (by omega) (by omega)).alloc _ HIW.out) ⟨W.heap.size, HIW.out.n, World.alloc_heap_new W _, HO1.out.of ((Within.refl W).alloc _), HBY.out, HY1.out, rfl⟩
    case body2 =>
      rintro l pre ⟨i, k, v, d⟩ a' W hI ⟨Bx, hBx, hcell, hO, hby, hY1, rfl⟩ hlen
      have hO : OwnB W V2.heap.size v d := hO
      have hby : Bytes d := hby
      have hcell : W.heap[Bx]? = some (.cells #[.int .i64 k, v] 30 (0, 0)) := hcell
      have hiv := hY1.last.1
      have hiv2 : i = m + pre.length := hiv
      clear hiv
      have hmlen : m + pre.length < rs.length := by have := hY1.last.2; rw [List.getElem?_map, Option.map_eq_some_iff] at this; obtain ⟨r, hr, _⟩ := this; exact (List.getElem?_eq_some_iff.1 hr).1
      rw [HNN.out] at hmlen
      have hbgm : (nn : Int) = (m : Int) := by omega
      obtain ⟨vo, hb, hR⟩ := hI.l
      obtain ⟨Ao, co, rfl, _, _, _, _⟩ := RecsO.at (rs := (pre.map Yd.p).map Prod.fst) ⟨_, rfl, hR⟩
      obtain ⟨A, c, rfl, _, _, _⟩ := hO.form
      have c0 : W.cell? ⟨Bx, 0, none⟩ = some (.int .i64 k) := by simp [World.cell?, hcell]
      have c1 : W.cell? ⟨Bx, 1, none⟩ = some (.slice A d.length c) := by simp [World.cell?, hcell]
      have cl : Bx < W.heap.size := (Array.getElem?_eq_some_iff.1 hcell).1
      have o0 := hb.cell
      have of := hb.frozen
      have ol := hb.lt
      have g0 := hI.f.g.cell
      have gl := hI.f.g.lt
      obtain ⟨v4, w4, hrun, hR4, hg4, hb4⟩ := run_app_recP W V2.heap.size (.slice Ao ((pre.map Yd.p).map Prod.fst).length co) (pre.map Yd.p) (k, d) (.slice A d.length c) hR hO hby (owns_types hO hR.1 (by decide)) (by rw [List.length_map]; omega) hI.n
      obtain ⟨A4, c4, rfl, _, _, _, _⟩ := RecsO.at (rs := (pre.map Yd.p ++ [((k, d), Value.slice A d.length c)]).map Prod.fst) ⟨_, rfl, hR4⟩
      have own1 : ∀ j, (Value.slice Ao ((pre.map Yd.p).map Prod.fst).length co).ownBlock = some j → V2.heap.size ≤ j := fun j hj => (hR.1.lt j hj).1
      have hb4' : Boxed w4 p 52 (.slice Ao ((pre.map Yd.p).map Prod.fst).length co) := hb.kept hg4 (fun e => by have := own1 _ e.symm; omega)
      have p0 := hb4'.cell
      have pf_ := hb4'.frozen
      have pl := hb4'.lt
      have hF4 : GoF w q xb fr (nn : Int) w4 := ⟨hI.f.v.kept hg4 (fun e => by have := own1 _ e.symm; omega), hI.f.g.kept hg4 (fun e => by have := own1 _ e.symm; omega), (World.cell?_of_block (hg4.block _ (World.block_lt_of_cell? _ _ hI.f.cx) (fun e => by have h := own1 _ e.symm; have h2 : V2.heap.size ≤ q + 1 := h; omega))).trans hI.f.cx, (World.cell?_of_block (hg4.block _ (World.block_lt_of_cell? _ _ hI.f.cf) (fun e => by have h := own1 _ e.symm; have h2 : V2.heap.size ≤ q + 1 + 1 := h; omega))).trans hI.f.cf, hI.f.bel.grown hg4 hI.f.bel.size (fun j e => by have := own1 j e; omega)⟩
      have hD4 : w4.heap[D]? = some (.deferred (some [])) := (hg4.block _ (Array.getElem?_eq_some_iff.1 hI.d).1 (fun e => by have := own1 _ e.symm; omega)).trans hI.d
      have hkf : KeepsFrom V2.heap.size W w4 := ⟨hg4.size, fun q ob _ hq hoc => (hg4.block q (Array.getElem?_eq_some_iff.1 hq).1 (fun e => by obtain ⟨cur, hcur⟩ := ownsRow_block hR.1 e.symm; rw [hcur] at hq; injection hq with hq; rw [← hq] at hoc; cases hoc)).trans hq⟩
      obtain ⟨no, hno⟩ : ∃ n, ((pre.map Yd.p).map Prod.fst).length = n := ⟨_, rfl⟩
      have hnop : no = pre.length := by rw [← hno, List.length_map, List.length_map]
      rw [hno] at hrun o0 p0 hb hb4'
      obtain ⟨n4, hn4⟩ : ∃ n, ((pre.map Yd.p ++ [((k, d), Value.slice A d.length c)]).map Prod.fst).length = n := ⟨_, rfl⟩
      rw [hn4] at hrun hR4
      have hps : pre.map Yd.p ++ [((k, d), Value.slice A d.length c)] = (pre ++ [(⟨i, k, .slice A d.length c, d⟩ : Yd)]).map Yd.p := by rw [List.map_append]; rfl
      rw [hps] at hR4
      have wz : IntKind.i64.wrap ((nn : Int) + (no : Int)) = (nn : Int) + (no : Int) := by rw [IntKind.wrap_i64]; omega
      have ei : ((i : Int) != (nn : Int) + (no : Int)) = false := by rw [bne_eq_false_iff_eq]; omega
      skip
      have RUN := Lib.hid hrun; have HR4 := Lib.hid hR4; have HF4 := Lib.hid hF4; have HD4 := Lib.hid hD4; have HKF := Lib.hid hkf; have HBX := Lib.hid hb4'; have HY1 := Lib.hid hY1; have HIN := Lib.hid hI.n; have HW4 := Lib.hid hg4.size; clear hrun hR4 hF4 hD4 hkf hb4' hR hO hg4 hb4 hps hn4 hno hb hcell hI hY1 own1 hiv2 hnop hmlen hbgm
      skip
      gi_wp2_with (gi_at_builtin; refine wpListIn_append_run rfl (.tmp 39) (.tmp 41) 52 rfl _ _ rfl rfl RUN.out ?_)
      have hX := HBX.out.set (.slice A4 n4 c4)
      rw [t3] at HKF HR4 HIN
      have keep : ∀ j, j ≠ p → (w4.setCell ⟨p, 0, none⟩ (.slice A4 n4 c4)).heap[j]? = w4.heap[j]? := fun j hj => Below.heap_setCell w4 ⟨p, 0, none⟩ _ j hj
      have hF := HF4.out
      refine ⟨HKF.out.trans ((KeepsOthers.setCell _ _ _).from _), ⟨(keep q (by omega)).trans hF.v, (keep _ (by omega)).trans hF.g, (World.cell?_of_block (keep _ (by show q + 1 ≠ p; omega))).trans hF.cx, (World.cell?_of_block (keep _ (by show q + 1 + 1 ≠ p; omega))).trans hF.cf, hF.bel.setCell (p := ⟨p, 0, none⟩) hwp _⟩, ⟨_, hX, ?_⟩, ?_, (keep _ (by omega)).trans HD4.out, HY1.out⟩
      · exact ⟨ownsRow_keep HR4.out.1 (fun j hj => keep j (by have := (HR4.out.1.lt j hj).1; omega)), fun x hx => ⟨ownsRow_keep (HR4.out.2 x hx).1 (fun j hj => keep j (by have := ((HR4.out.2 x hx).1.lt j hj).1; omega)), (HR4.out.2 x hx).2⟩⟩
      · have h1 := HIN.out; have h2 := HW4.out; first | (simp [World.setCell]; done) | (simp [World.setCell]; omega)
    case done2 =>
      rintro D2 xs WQ hD2 ⟨hY2, hl2⟩ hI hK2
      obtain ⟨vo, hb, hR⟩ := hI.l
      have hw := hI.f.bel
      have hmap : (xs.map Yd.p).map Prod.fst = (rs.map Rec.i).drop m := by
        have h1 := hY2.1; rw [List.map_map]; show xs.map (fun x => ((x.k, x.d) : IRec)) = _; rw [h1]; refine List.take_of_length_le ?_; rw [List.length_drop, List.length_map]; omega
      obtain ⟨Al, cl, rfl, hcl, hRB, _, _⟩ := RecsO.at (rs := (xs.map Yd.p).map Prod.fst) ⟨_, rfl, hR⟩
      rw [hmap] at hRB hcl hb
      have hll : ((rs.map Rec.i).drop m).length = 0 := by rw [List.length_drop, List.length_map, HNN.out] <;> omega
      have HSM := Lib.hid (fun W A B c d (h1 : RecG W A ((rs.map Rec.i).drop m)) (h2 : RecG W B ((rs.map Rec.i).drop m)) => Rsame22_at A B c d ((rs.map Rec.i).drop m) (by rw [hll]; omega) W h1 h2)
      rw [hll] at HSM hcl hb
      have HL := Lib.hid (fun W' (h : Within WQ W') => hRB.g.of h)
      have hlog := logV_le (fun r hr => (HOK.out r hr).parts.2.2) (by rw [HNN.out]; exact hle)
      have BX := Lib.hid (fun W' (h : Within w W') => Bytes_log S xb rs hlog W' (HXX.out.of h))
      have BY := Lib.hid (fun W' (h : Within w W') => Rbytes_log Sy yb rs HOK.out (by rw [HNN.out]; exact hle) W' (HYY.out.of h))
      obtain ⟨sl, hsl⟩ : ∃ s, strB (logV rs) = s := ⟨_, rfl⟩
      obtain ⟨mb, hmb⟩ : ∃ m, (logV rs).length = m := ⟨_, rfl⟩
      have ST : Hid (∀ W A' c', SlAt W A' (u8v (logV rs)) → (convert 28 9 (.slice A' mb c')).run Tryz.prog W = .ok (.string sl) W) := Lib.hid (fun W A' c' h => by rw [← hmb, ← hsl]; exact run_str A' c' (logV rs) W h)
      have es : (sl.toList == sl.toList) = true := by simp
      have HMB := Lib.hid hmb; clear hmb hsl
      have o0 := hb.cell
      have ol := hb.lt
      have g0 := hI.f.g.cell
      have gl := hI.f.g.lt
      have v0 := hI.f.v.cell
      have vf := hI.f.v.frozen
      have vl := hI.f.v.lt
      have p9 := (Within.cells hw _ _ hyb).trans p1
      have hyb9 := Nat.lt_of_lt_of_le hyb (Below.size hw)
      have d1 : (0 : Int) ≤ (nn : Int) := by omega
      have d2 : (nn : Int) ≤ (nn : Int) := by omega
      have d3 : (nn : Int) ≤ (cy : Int) := by omega
      have d4 : (nn : Int) ≤ (cy : Int) := by omega
      have HHW := Lib.hid hw; have HV9 := Lib.hid hI.f.v; have HDD := Lib.hid hI.d; have HK2 := Lib.hid hK2; clear hw hI hY2 hl2 hR hRB hcl hb hK2 hlog hmap
      gi_wp2
      refine wpIn_region_schGW (fun W => W.cell? ⟨p, 0, none⟩ = some (.slice Al (0) cl) ∧ p < W.heap.size ∧ W.cell? ⟨yb, 0, none⟩ = some (.slice Ay nn cy) ∧ yb < W.heap.size ∧ W.cell? ⟨q + 1 + 1 + 1, 0, none⟩ = some (.int .i64 (nn : Int)) ∧ q + 1 + 1 + 1 < W.heap.size ∧ W.cell? ⟨q, 0, none⟩ = some (.bool false) ∧ W.frozen? ⟨q, 0, none⟩ = false ∧ q < W.heap.size ∧ W = WQ) 17 (.firm 0 (.firm 1 (.firm 2 (.firm 3 (.firm 4 (.firm 5 (.firm 6 (.one 7 (.firm 8 (.firm 9 (.firm 12 (.one 10 (.two 11 (.one 13 (.one 14 (.firm 15 (.firm 16 (.one 17 .nil))))) 13 (.two 11 (.one 14 (.firm 15 (.firm 16 (.one 17 .nil)))) 14 (.one 11 (.firm 15 (.firm 16 (.one 17 .nil)))))))))))))))))) (by kernel_rfl) (by kernel_rfl) ⟨o0, ol, p9, hyb9, g0, gl, v0, vf, vl, rfl⟩ ?_
      rintro w0 ⟨o0, ol, p9, hyb9, g0, gl, v0, vf, vl, rfl⟩
      try simp only [Act.put, List.setIfInBounds_toArray, List.set_cons_zero, List.set_cons_succ]
      iterate 7
        apply sch_firm rfl rfl (by repeat (first | with_reducible exact Within.refl _ | with_reducible assumption | with_reducible refine Within.alloc ?_ _ | with_reducible refine Within.drew ?_ | with_reducible refine Within.drewN ?_ _ | with_reducible refine Within.setCell ?_ (by first | (simp; done) | (simp; omega)) _ | with_reducible refine Within.trans ?_ (by assumption)))
        · intro wq hq
          have hcq := hq.cells
          clear hq
          go_simp
          rfl
        try simp only [Act.put, List.setIfInBounds_toArray, List.set_cons_zero, List.set_cons_succ]
      refine sch_one rfl rfl (fun K hK => ?_)
      go_simp
      refine (HSM.out _ _ _ _ _ (HL.out _ (by first | exact (Within.refl _).drew | exact Within.refl _)) (HYD.out _ _ (by first | exact HHW.out.drew | exact HHW.out))).mono ?_; rintro e3 w3 ⟨rfl, h3⟩
      refine hK _ _ (fun _ => (by repeat (first | with_reducible exact Within.refl _ | with_reducible assumption | with_reducible refine Within.alloc ?_ _ | with_reducible refine Within.drew ?_ | with_reducible refine Within.drewN ?_ _ | with_reducible refine Within.setCell ?_ (by first | (simp; done) | (simp; omega)) _ | with_reducible refine Within.trans ?_ (by assumption)))) ?_
      clear hK K
      try simp only [Act.put, List.setIfInBounds_toArray, List.set_cons_zero, List.set_cons_succ]
      apply sch_firm rfl rfl (by repeat (first | with_reducible exact Within.refl _ | with_reducible assumption | with_reducible refine Within.alloc ?_ _ | with_reducible refine Within.drew ?_ | with_reducible refine Within.drewN ?_ _ | with_reducible refine Within.setCell ?_ (by first | (simp; done) | (simp; omega)) _ | with_reducible refine Within.trans ?_ (by assumption)))
      · intro wq hq
        have hcq := hq.cells
        clear hq
        go_simp
        rfl
      try simp only [Act.put, List.setIfInBounds_toArray, List.set_cons_zero, List.set_cons_succ]
      iterate 2
        apply sch_want rfl (by first | rfl | decide | (simp [Region.wanted, yielded]; done)) (by repeat (first | with_reducible exact Within.refl _ | with_reducible assumption | with_reducible refine Within.alloc ?_ _ | with_reducible refine Within.drew ?_ | with_reducible refine Within.drewN ?_ _ | with_reducible refine Within.setCell ?_ (by first | (simp; done) | (simp; omega)) _ | with_reducible refine Within.trans ?_ (by assumption)))
        · intro wq hq
          have hcq := hq.cells
          clear hq
          go_simp
          rfl
        try simp only [Act.put, List.setIfInBounds_toArray, List.set_cons_zero, List.set_cons_succ]
      refine sch_one_want rfl (by first | rfl | decide | (simp [Region.wanted, yielded]; done)) (fun K hK => ?_)
      go_simp
      refine (BX.out _ (by exact Within.trans (Within.drew HHW.out) h3)).mono ?_; rintro e4 w4 ⟨v4, rfl, hO4, h4⟩
      obtain ⟨A4, c4, rfl, _, hs4, _⟩ := hO4.form
      rw [HMB.out]
      clear hO4
      have st1 := ST.out w4 A4 c4 hs4
      refine hK _ _ (fun _ => (by repeat (first | with_reducible exact Within.refl _ | with_reducible assumption | with_reducible refine Within.alloc ?_ _ | with_reducible refine Within.drew ?_ | with_reducible refine Within.drewN ?_ _ | with_reducible refine Within.setCell ?_ (by first | (simp; done) | (simp; omega)) _ | with_reducible refine Within.trans ?_ (by assumption)))) ?_
      clear hK K
      try simp only [Act.put, List.setIfInBounds_toArray, List.set_cons_zero, List.set_cons_succ]
      refine sch_two_want rfl (by first | rfl | decide | (simp [Region.wanted, yielded]; done)) rfl (by first | rfl | decide | (simp [Region.wanted, yielded]; done)) (fun K hK => ?_) (fun K hK => ?_)
      · go_simp
        refine hK _ _ (by repeat (first | with_reducible exact Within.refl _ | with_reducible assumption | with_reducible refine Within.alloc ?_ _ | with_reducible refine Within.drew ?_ | with_reducible refine Within.drewN ?_ _ | with_reducible refine Within.setCell ?_ (by first | (simp; done) | (simp; omega)) _ | with_reducible refine Within.trans ?_ (by assumption))) ?_
        clear hK K
        try simp only [Act.put, List.setIfInBounds_toArray, List.set_cons_zero, List.set_cons_succ]
        refine sch_one_want rfl (by first | rfl | decide | (simp [Region.wanted, yielded]; done)) (fun K hK => ?_)
        go_simp
        refine (BY.out _ (by exact Within.trans (Within.trans (Within.drew HHW.out) h3) h4)).mono ?_; rintro e5 w5 ⟨v5, rfl, hO5, h5⟩
        obtain ⟨A5, c5, rfl, _, hs5, _⟩ := hO5.form
        rw [HMB.out]
        clear hO5
        have st2 := ST.out w5 A5 c5 hs5
        have st3 := ST.out w5 A4 c4 (hs4.of h5)
        refine hK _ _ (fun _ => (by repeat (first | with_reducible exact Within.refl _ | with_reducible assumption | with_reducible refine Within.alloc ?_ _ | with_reducible refine Within.drew ?_ | with_reducible refine Within.drewN ?_ _ | with_reducible refine Within.setCell ?_ (by first | (simp; done) | (simp; omega)) _ | with_reducible refine Within.trans ?_ (by assumption)))) ?_
        clear hK K
        try simp only [Act.put, List.setIfInBounds_toArray, List.set_cons_zero, List.set_cons_succ]
        refine sch_one_want rfl (by first | rfl | decide | (simp [Region.wanted, yielded]; done)) (fun K hK => ?_)
        go_simp
        refine hK _ _ (fun _ => (by repeat (first | with_reducible exact Within.refl _ | with_reducible assumption | with_reducible refine Within.alloc ?_ _ | with_reducible refine Within.drew ?_ | with_reducible refine Within.drewN ?_ _ | with_reducible refine Within.setCell ?_ (by first | (simp; done) | (simp; omega)) _ | with_reducible refine Within.trans ?_ (by assumption)))) ?_
        clear hK K
        try simp only [Act.put, List.setIfInBounds_toArray, List.set_cons_zero, List.set_cons_succ]
        apply sch_want rfl (by first | rfl | decide | (simp [Region.wanted, yielded]; done)) (by repeat (first | with_reducible exact Within.refl _ | with_reducible assumption | with_reducible refine Within.alloc ?_ _ | with_reducible refine Within.drew ?_ | with_reducible refine Within.drewN ?_ _ | with_reducible refine Within.setCell ?_ (by first | (simp; done) | (simp; omega)) _ | with_reducible refine Within.trans ?_ (by assumption)))
        · intro wq hq
          have hcq := hq.cells
          clear hq
          go_simp
          rfl
        try simp only [Act.put, List.setIfInBounds_toArray, List.set_cons_zero, List.set_cons_succ]
        apply sch_firm rfl rfl (by repeat (first | with_reducible exact Within.refl _ | with_reducible assumption | with_reducible refine Within.alloc ?_ _ | with_reducible refine Within.drew ?_ | with_reducible refine Within.drewN ?_ _ | with_reducible refine Within.setCell ?_ (by first | (simp; done) | (simp; omega)) _ | with_reducible refine Within.trans ?_ (by assumption)))
        · intro wq hq
          have hcq := hq.cells
          clear hq
          go_simp
          rfl
        try simp only [Act.put, List.setIfInBounds_toArray, List.set_cons_zero, List.set_cons_succ]
        refine sch_one rfl rfl (fun K hK => ?_)
        have h05 : Within w0 w5 := (((Within.refl w0).drew.trans h3).trans h4).trans h5
        have u0 := (h05.cells q 0 vl).trans v0
        have uf := (h05.frozens q 0 vl).trans vf
        have ul := Nat.lt_of_lt_of_le vl h05.size
        go_simp
        refine hK _ _ (fun h => absurd h (by decide)) ?_
        clear hK K
        try simp only [Act.put, List.setIfInBounds_toArray, List.set_cons_zero, List.set_cons_succ]
        refine sch_nil ?_
        have hw5 : Within w w5 := Within.trans HHW.out h05
        have HW5 := Lib.hid hw5; have U0 := Lib.hid u0; have H05 := Lib.hid h05; clear hw5 h05 h3 h4 h5
        gi_wp2
        all_goals
          obtain ⟨R1, hR1⟩ : ∃ R, R = w5.setCell ⟨q, 0, none⟩ (.bool true) := ⟨_, rfl⟩
          rw [← hR1]
          have hne : D ≠ D2 := by omega
          have kb1 : R1.heap[D2]? = some (.deferred (some [])) := by rw [hR1]; exact (KeepsOthers.setCell _ _ _).same D2 _ ((H05.out.block _ (Array.getElem?_eq_some_iff.1 HK2.out).1).trans HK2.out) rfl
          have ka1 : R1.heap[D]? = some (.deferred (some [])) := by rw [hR1]; exact (KeepsOthers.setCell _ _ _).same D _ ((H05.out.block _ (Array.getElem?_eq_some_iff.1 HDD.out).1).trans HDD.out) rfl
          have ka2 : (R1.putObj D2 (.deferred none)).heap[D]? = some (.deferred (some [])) := (World.putObj_heap_other hne).trans ka1
          have x1 : R1.cell? ⟨q, 0, none⟩ = some (.bool true) := by rw [hR1]; exact World.cell?_setCell_same _ _ _ U0.out
          have x2 := cell_kept x1 (grownBy_putObj' R1 D2 (.deferred none)) (fun r e => by cases e; exact ⟨_, kb1, rfl⟩)
          have x3 := cell_kept x2 (grownBy_putObj' _ D (.deferred none)) (fun r e => by cases e; exact ⟨_, ka2, rfl⟩)
          have x3l := World.block_lt_of_cell? _ _ x3
          have B1 : Below w.heap.size w R1 := by rw [hR1]; exact Below.setCell HW5.out (p := ⟨q, 0, none⟩) (by show w.heap.size ≤ q; omega) _
          have B2 := B1.trans (belowK_b (w := w) (Nat.le_refl _) R1 D2 _ (.deferred none) (by omega) kb1 rfl rfl)
          have B3 := B2.trans (belowK_b (w := w) (Nat.le_refl _) _ D _ (.deferred none) (by omega) ka2 rfl rfl)
          refine ⟨by simp, .inl ⟨_, _, rfl, run_takeDeferred kb1, ?_⟩⟩
          refine ⟨by simp, .inl ⟨_, _, rfl, run_takeDeferred ka2, ?_⟩⟩
          obtain ⟨R3, hR3⟩ : ∃ R, R = (R1.putObj D2 (.deferred none)).putObj D (.deferred none) := ⟨_, rfl⟩
          rw [← hR3] at x3 x3l B3 ⊢
          exact ⟨_, by simp [results, Tryz.results17, go_sem, x3, x3l], rfl, B3⟩
      · go_simp
        refine (BY.out _ (by exact Within.trans (Within.trans (Within.drew HHW.out) h3) h4)).mono ?_; rintro e5 w5 ⟨v5, rfl, hO5, h5⟩
        obtain ⟨A5, c5, rfl, _, hs5, _⟩ := hO5.form
        rw [HMB.out]
        clear hO5
        have st2 := ST.out w5 A5 c5 hs5
        have st3 := ST.out w5 A4 c4 (hs4.of h5)
        refine hK _ _ (by repeat (first | with_reducible exact Within.refl _ | with_reducible assumption | with_reducible refine Within.alloc ?_ _ | with_reducible refine Within.drew ?_ | with_reducible refine Within.drewN ?_ _ | with_reducible refine Within.setCell ?_ (by first | (simp; done) | (simp; omega)) _ | with_reducible refine Within.trans ?_ (by assumption))) ?_
        clear hK K
        try simp only [Act.put, List.setIfInBounds_toArray, List.set_cons_zero, List.set_cons_succ]
        refine sch_two_want rfl (by first | rfl | decide | (simp [Region.wanted, yielded]; done)) rfl (by first | rfl | decide | (simp [Region.wanted, yielded]; done)) (fun K hK => ?_) (fun K hK => ?_)
        · go_simp
          refine hK _ _ (by repeat (first | with_reducible exact Within.refl _ | with_reducible assumption | with_reducible refine Within.alloc ?_ _ | with_reducible refine Within.drew ?_ | with_reducible refine Within.drewN ?_ _ | with_reducible refine Within.setCell ?_ (by first | (simp; done) | (simp; omega)) _ | with_reducible refine Within.trans ?_ (by assumption))) ?_
          clear hK K
          try simp only [Act.put, List.setIfInBounds_toArray, List.set_cons_zero, List.set_cons_succ]
          refine sch_one_want rfl (by first | rfl | decide | (simp [Region.wanted, yielded]; done)) (fun K hK => ?_)
          go_simp
          refine hK _ _ (fun _ => (by repeat (first | with_reducible exact Within.refl _ | with_reducible assumption | with_reducible refine Within.alloc ?_ _ | with_reducible refine Within.drew ?_ | with_reducible refine Within.drewN ?_ _ | with_reducible refine Within.setCell ?_ (by first | (simp; done) | (simp; omega)) _ | with_reducible refine Within.trans ?_ (by assumption)))) ?_
          clear hK K
          try simp only [Act.put, List.setIfInBounds_toArray, List.set_cons_zero, List.set_cons_succ]
          apply sch_want rfl (by first | rfl | decide | (simp [Region.wanted, yielded]; done)) (by repeat (first | with_reducible exact Within.refl _ | with_reducible assumption | with_reducible refine Within.alloc ?_ _ | with_reducible refine Within.drew ?_ | with_reducible refine Within.drewN ?_ _ | with_reducible refine Within.setCell ?_ (by first | (simp; done) | (simp; omega)) _ | with_reducible refine Within.trans ?_ (by assumption)))
          · intro wq hq
            have hcq := hq.cells
            clear hq
            go_simp
            rfl
          try simp only [Act.put, List.setIfInBounds_toArray, List.set_cons_zero, List.set_cons_succ]
          apply sch_firm rfl rfl (by repeat (first | with_reducible exact Within.refl _ | with_reducible assumption | with_reducible refine Within.alloc ?_ _ | with_reducible refine Within.drew ?_ | with_reducible refine Within.drewN ?_ _ | with_reducible refine Within.setCell ?_ (by first | (simp; done) | (simp; omega)) _ | with_reducible refine Within.trans ?_ (by assumption)))
          · intro wq hq
            have hcq := hq.cells
            clear hq
            go_simp
            rfl
          try simp only [Act.put, List.setIfInBounds_toArray, List.set_cons_zero, List.set_cons_succ]
          refine sch_one rfl rfl (fun K hK => ?_)
          have h05 : Within w0 w5 := (((Within.refl w0).drew.trans h3).trans h4).trans h5
          have u0 := (h05.cells q 0 vl).trans v0
          have uf := (h05.frozens q 0 vl).trans vf
          have ul := Nat.lt_of_lt_of_le vl h05.size
          go_simp
          refine hK _ _ (fun h => absurd h (by decide)) ?_
          clear hK K
          try simp only [Act.put, List.setIfInBounds_toArray, List.set_cons_zero, List.set_cons_succ]
          refine sch_nil ?_
          have hw5 : Within w w5 := Within.trans HHW.out h05
          have HW5 := Lib.hid hw5; have U0 := Lib.hid u0; have H05 := Lib.hid h05; clear hw5 h05 h3 h4 h5
          gi_wp2
          all_goals
            obtain ⟨R1, hR1⟩ : ∃ R, R = w5.setCell ⟨q, 0, none⟩ (.bool true) := ⟨_, rfl⟩
            rw [← hR1]
            have hne : D ≠ D2 := by omega
            have kb1 : R1.heap[D2]? = some (.deferred (some [])) := by rw [hR1]; exact (KeepsOthers.setCell _ _ _).same D2 _ ((H05.out.block _ (Array.getElem?_eq_some_iff.1 HK2.out).1).trans HK2.out) rfl
            have ka1 : R1.heap[D]? = some (.deferred (some [])) := by rw [hR1]; exact (KeepsOthers.setCell _ _ _).same D _ ((H05.out.block _ (Array.getElem?_eq_some_iff.1 HDD.out).1).trans HDD.out) rfl
            have ka2 : (R1.putObj D2 (.deferred none)).heap[D]? = some (.deferred (some [])) := (World.putObj_heap_other hne).trans ka1
            have x1 : R1.cell? ⟨q, 0, none⟩ = some (.bool true) := by rw [hR1]; exact World.cell?_setCell_same _ _ _ U0.out
            have x2 := cell_kept x1 (grownBy_putObj' R1 D2 (.deferred none)) (fun r e => by cases e; exact ⟨_, kb1, rfl⟩)
            have x3 := cell_kept x2 (grownBy_putObj' _ D (.deferred none)) (fun r e => by cases e; exact ⟨_, ka2, rfl⟩)
            have x3l := World.block_lt_of_cell? _ _ x3
            have B1 : Below w.heap.size w R1 := by rw [hR1]; exact Below.setCell HW5.out (p := ⟨q, 0, none⟩) (by show w.heap.size ≤ q; omega) _
            have B2 := B1.trans (belowK_b (w := w) (Nat.le_refl _) R1 D2 _ (.deferred none) (by omega) kb1 rfl rfl)
            have B3 := B2.trans (belowK_b (w := w) (Nat.le_refl _) _ D _ (.deferred none) (by omega) ka2 rfl rfl)
            refine ⟨by simp, .inl ⟨_, _, rfl, run_takeDeferred kb1, ?_⟩⟩
            refine ⟨by simp, .inl ⟨_, _, rfl, run_takeDeferred ka2, ?_⟩⟩
            obtain ⟨R3, hR3⟩ : ∃ R, R = (R1.putObj D2 (.deferred none)).putObj D (.deferred none) := ⟨_, rfl⟩
            rw [← hR3] at x3 x3l B3 ⊢
            exact ⟨_, by simp [results, Tryz.results17, go_sem, x3, x3l], rfl, B3⟩
        · go_simp
          refine hK _ _ (by repeat (first | with_reducible exact Within.refl _ | with_reducible assumption | with_reducible refine Within.alloc ?_ _ | with_reducible refine Within.drew ?_ | with_reducible refine Within.drewN ?_ _ | with_reducible refine Within.setCell ?_ (by first | (simp; done) | (simp; omega)) _ | with_reducible refine Within.trans ?_ (by assumption))) ?_
          clear hK K
          try simp only [Act.put, List.setIfInBounds_toArray, List.set_cons_zero, List.set_cons_succ]
          refine sch_one_want rfl (by first | rfl | decide | (simp [Region.wanted, yielded]; done)) (fun K hK => ?_)
          go_simp
          refine hK _ _ (fun _ => (by repeat (first | with_reducible exact Within.refl _ | with_reducible assumption | with_reducible refine Within.alloc ?_ _ | with_reducible refine Within.drew ?_ | with_reducible refine Within.drewN ?_ _ | with_reducible refine Within.setCell ?_ (by first | (simp; done) | (simp; omega)) _ | with_reducible refine Within.trans ?_ (by assumption)))) ?_
          clear hK K
          try simp only [Act.put, List.setIfInBounds_toArray, List.set_cons_zero, List.set_cons_succ]
          apply sch_want rfl (by first | rfl | decide | (simp [Region.wanted, yielded]; done)) (by repeat (first | with_reducible exact Within.refl _ | with_reducible assumption | with_reducible refine Within.alloc ?_ _ | with_reducible refine Within.drew ?_ | with_reducible refine Within.drewN ?_ _ | with_reducible refine Within.setCell ?_ (by first | (simp; done) | (simp; omega)) _ | with_reducible refine Within.trans ?_ (by assumption)))
          · intro wq hq
            have hcq := hq.cells
            clear hq
            go_simp
            rfl
          try simp only [Act.put, List.setIfInBounds_toArray, List.set_cons_zero, List.set_cons_succ]
          apply sch_firm rfl rfl (by repeat (first | with_reducible exact Within.refl _ | with_reducible assumption | with_reducible refine Within.alloc ?_ _ | with_reducible refine Within.drew ?_ | with_reducible refine Within.drewN ?_ _ | with_reducible refine Within.setCell ?_ (by first | (simp; done) | (simp; omega)) _ | with_reducible refine Within.trans ?_ (by assumption)))
          · intro wq hq
            have hcq := hq.cells
            clear hq
            go_simp
            rfl
          try simp only [Act.put, List.setIfInBounds_toArray, List.set_cons_zero, List.set_cons_succ]
          refine sch_one rfl rfl (fun K hK => ?_)
          have h05 : Within w0 w5 := (((Within.refl w0).drew.trans h3).trans h4).trans h5
          have u0 := (h05.cells q 0 vl).trans v0
          have uf := (h05.frozens q 0 vl).trans vf
          have ul := Nat.lt_of_lt_of_le vl h05.size
          go_simp
          refine hK _ _ (fun h => absurd h (by decide)) ?_
          clear hK K
          try simp only [Act.put, List.setIfInBounds_toArray, List.set_cons_zero, List.set_cons_succ]
          refine sch_nil ?_
          have hw5 : Within w w5 := Within.trans HHW.out h05
          have HW5 := Lib.hid hw5; have U0 := Lib.hid u0; have H05 := Lib.hid h05; clear hw5 h05 h3 h4 h5
          gi_wp2
          all_goals
            obtain ⟨R1, hR1⟩ : ∃ R, R = w5.setCell ⟨q, 0, none⟩ (.bool true) := ⟨_, rfl⟩
            rw [← hR1]
            have hne : D ≠ D2 := by omega
            have kb1 : R1.heap[D2]? = some (.deferred (some [])) := by rw [hR1]; exact (KeepsOthers.setCell _ _ _).same D2 _ ((H05.out.block _ (Array.getElem?_eq_some_iff.1 HK2.out).1).trans HK2.out) rfl
            have ka1 : R1.heap[D]? = some (.deferred (some [])) := by rw [hR1]; exact (KeepsOthers.setCell _ _ _).same D _ ((H05.out.block _ (Array.getElem?_eq_some_iff.1 HDD.out).1).trans HDD.out) rfl
            have ka2 : (R1.putObj D2 (.deferred none)).heap[D]? = some (.deferred (some [])) := (World.putObj_heap_other hne).trans ka1
            have x1 : R1.cell? ⟨q, 0, none⟩ = some (.bool true) := by rw [hR1]; exact World.cell?_setCell_same _ _ _ U0.out
            have x2 := cell_kept x1 (grownBy_putObj' R1 D2 (.deferred none)) (fun r e => by cases e; exact ⟨_, kb1, rfl⟩)
            have x3 := cell_kept x2 (grownBy_putObj' _ D (.deferred none)) (fun r e => by cases e; exact ⟨_, ka2, rfl⟩)
            have x3l := World.block_lt_of_cell? _ _ x3
            have B1 : Below w.heap.size w R1 := by rw [hR1]; exact Below.setCell HW5.out (p := ⟨q, 0, none⟩) (by show w.heap.size ≤ q; omega) _
            have B2 := B1.trans (belowK_b (w := w) (Nat.le_refl _) R1 D2 _ (.deferred none) (by omega) kb1 rfl rfl)
            have B3 := B2.trans (belowK_b (w := w) (Nat.le_refl _) _ D _ (.deferred none) (by omega) ka2 rfl rfl)
            refine ⟨by simp, .inl ⟨_, _, rfl, run_takeDeferred kb1, ?_⟩⟩
            refine ⟨by simp, .inl ⟨_, _, rfl, run_takeDeferred ka2, ?_⟩⟩
            obtain ⟨R3, hR3⟩ : ∃ R, R = (R1.putObj D2 (.deferred none)).putObj D (.deferred none) := ⟨_, rfl⟩
            rw [← hR3] at x3 x3l B3 ⊢
            exact ⟨_, by simp [results, Tryz.results17, go_sem, x3, x3l], rfl, B3⟩
end Go.Proofs.YtpmjlaiafgbjgaaGreatDoor
end
