/- What the law's walk rests on, part 6: contracts of functions and plain facts. -/
import Derived.Test.YtpmjlaiafgbjgaaGreatDoorRows
import Derived.WalkKit
import Derived.WalkSpells
import Derived.WalkLawsBesides
import Derived.BigQuiet
import Derived.Lib.Hide
import Ieee.Arith
import Derived.Lib.TrailingZeros
import Derived.Lib.BitFns
import Derived.Lib.Strings
import Derived.Lib.Slices
import Derived.Lib.Small
import Derived.Lib.Walk
import Derived.OwnWalk
import Derived.Maps.AppendAt
import Derived.Laws.OwnMore
import Derived.Deep.AppendLies
import Derived.Deep.Draws
import Derived.OrdersHeld
import Derived.StillTail
import Derived.Deep.RegionHeld3
import Derived.Deep.DeepCutAuto
import Derived.IntWalk
import Derived.Maps.Range
import Derived.Maps.RangeWalk
import Derived.Laws.BytesArg
import Derived.Laws.Strings
import Derived.Lib.SlBytesConst
import Derived.RangeFuncNested
import Derived.RangeFuncBound
import Derived.RangeFuncCalls
import Derived.RangeFuncLeaves
import Derived.OwnWalkIn
import Derived.Shelf.Abstract
import Derived.Shelf.RegionOpen
import Derived.TacticsInMore
import Derived.LoopNIn
import Derived.LoopIn
import Derived.RangeFuncBox
import Derived.Laws.IdiomStrings
import Derived.ProofKit
import Derived.OpenShut
import Derived.ShutString
import Derived.ChangeOld
import Derived.ChangeSlices
import Derived.Below
import Derived.Carry
import Derived.SizedLaws
import Derived.Deep.DeepHandedRow
import Derived.Deep.Strs
import Derived.Lib.LaidTab
import Derived.Lib.SmallJoins
import Derived.Deep.Slices
import Derived.Test.YtpmjlaiafgbjgaaGreatDoorZFresh5
set_option linter.unusedVariables false
set_option linter.unusedSimpArgs false
section
namespace Go.Proofs.YtpmjlaiafgbjgaaGreatDoor
open Go.RowKit
def linksV : List Rec → Nat → Nat → List Nat
  | [], _, _ => []
  | r :: l, n, last => nextV r n last :: linksV l (n + 1) (nextV r n last)
theorem linksV_len : ∀ (l : List Rec) (n last : Nat), (linksV l n last).length = l.length
  | [], _, _ => rfl
  | r :: l, n, last => by show (linksV l _ _).length + 1 = l.length + 1; rw [linksV_len l]
theorem linksV_snoc : ∀ (l : List Rec) (r : Rec) (n last : Nat), linksV (l ++ [r]) n last = linksV l n last ++ [nextV r (n + l.length) (lastV l n last)]
  | [], r, n, last => rfl
  | q :: l, r, n, last => by
    show nextV q n last :: linksV (l ++ [r]) (n + 1) (nextV q n last) = nextV q n last :: (linksV l (n + 1) (nextV q n last) ++ _)
    rw [linksV_snoc l]
    show _ = nextV q n last :: (_ ++ [nextV r (n + (l.length + 1)) (lastV l (n + 1) (nextV q n last))])
    rw [show n + (l.length + 1) = n + 1 + l.length by omega]
theorem lastV_snoc : ∀ (l : List Rec) (r : Rec) (n last : Nat), lastV (l ++ [r]) n last = nextV r (n + l.length) (lastV l n last)
  | [], r, n, last => rfl
  | q :: l, r, n, last => by
    show lastV (l ++ [r]) (n + 1) (nextV q n last) = nextV r (n + (l.length + 1)) (lastV l (n + 1) (nextV q n last))
    rw [lastV_snoc l, show n + (l.length + 1) = n + 1 + l.length by omega]
theorem laidV_snoc : ∀ (l : List Rec) (r : Rec) (n last : Nat), laidV (l ++ [r]) n last = laidV l n last ++ layV r (n + l.length) (lastV l n last)
  | [], r, n, last => by show layV r n last ++ [] = [] ++ layV r n last; rw [List.append_nil, List.nil_append]
  | q :: l, r, n, last => by
    show layV q n last ++ laidV (l ++ [r]) (n + 1) (nextV q n last) = (layV q n last ++ laidV l (n + 1) (nextV q n last)) ++ layV r (n + (l.length + 1)) (lastV l (n + 1) (nextV q n last))
    rw [laidV_snoc l, show n + (l.length + 1) = n + 1 + l.length by omega, List.append_assoc]
theorem logV_snoc (l : List Rec) (r : Rec) : logV (l ++ [r]) = logV l ++ layV r l.length (lastV l 0 startV) := by
  unfold logV; rw [laidV_snoc, Nat.zero_add, List.append_assoc]
theorem linksV_last : ∀ (l : List Rec) (n last : Nat), l ≠ [] → (linksV l n last).getD (l.length - 1) 0 = lastV l n last
  | [], _, _, h => absurd rfl h
  | [r], n, last, _ => by
    show ([nextV r n last] : List Nat).getD 0 0 = nextV r n last
    exact List.getD_cons_zero
  | r :: q :: l, n, last, _ => by
    have h := linksV_last (q :: l) (n + 1) (nextV r n last) (by simp)
    show (nextV r n last :: linksV (q :: l) (n + 1) (nextV r n last)).getD (l.length + 1) 0 = lastV (q :: l) (n + 1) (nextV r n last)
    rw [List.getD_cons_succ]
    exact h
end Go.Proofs.YtpmjlaiafgbjgaaGreatDoor
end

section
namespace Go.Proofs.YtpmjlaiafgbjgaaGreatDoor
open Go.RowKit
def u32v (l : List Nat) : List Value := l.map fun (x : Nat) => Value.int .u32 (x : Int)
set_option maxRecDepth 100000 in
set_option maxHeartbeats 1000000 in
theorem last_none (xb : Nat) (K : Option Addr) (ck : Nat) (w : World) (h2 : w.cell? ⟨xb, 2, none⟩ = some (.slice K 0 ck)) : Calls Tryz.prog 58 #[.pointer (some ⟨xb, 0, none⟩)] w fun e w' => e = .returned (.int .u32 (startV : Int)) ∧ Within w w' := by
  go_enter Tryz.func58, Tryz.ntmps58
  go_wp2_with fail
  refine (begin_any _).mono ?_; rintro e1 w1 ⟨rfl, h1⟩
  go_wp2
  go_ret
  exact ⟨rfl, (by repeat (first | with_reducible exact Within.refl _ | with_reducible assumption | with_reducible refine Within.alloc ?_ _ | with_reducible refine Within.drew ?_ | with_reducible refine Within.drewN ?_ _ | with_reducible refine Within.setCell ?_ (by first | (simp; done) | (simp; omega)) _ | with_reducible refine Within.trans ?_ (by assumption)))⟩
set_option maxRecDepth 100000 in
set_option maxHeartbeats 1000000 in
theorem last_some (xb : Nat) (ad : Addr) (ck n x : Nat) (hn : n ≤ 1048576) (w : World) (h2 : w.cell? ⟨xb, 2, none⟩ = some (.slice (some ad) (n + 1) ck)) (hx : w.cell? (ad.add n) = some (.int .u32 (x : Int))) : Calls Tryz.prog 58 #[.pointer (some ⟨xb, 0, none⟩)] w fun e w' => e = .returned (.int .u32 (x : Int)) ∧ Within w w' := by
  have v1 : (0 : Int) < (n : Int) + 1 := by omega
  have v2 : (n : Int) + 1 - 1 = (n : Int) := by omega
  have v3 : (n : Int) < (n : Int) + 1 := by omega
  have v4 : n < n + 1 := by omega
  have v5 : (0 : Int) ≤ (n : Int) := by omega
  go_enter Tryz.func58, Tryz.ntmps58
  go_wp2
  go_ret
  exact ⟨rfl, (by repeat (first | with_reducible exact Within.refl _ | with_reducible assumption | with_reducible refine Within.alloc ?_ _ | with_reducible refine Within.drew ?_ | with_reducible refine Within.drewN ?_ _ | with_reducible refine Within.setCell ?_ (by first | (simp; done) | (simp; omega)) _ | with_reducible refine Within.trans ?_ (by assumption)))⟩
end Go.Proofs.YtpmjlaiafgbjgaaGreatDoor
end

section
namespace Go.Proofs.YtpmjlaiafgbjgaaGreatDoor
open Go.RowKit
def Apart (u v : Value) : Prop := u.ownBlock = none ∨ u.ownBlock ≠ v.ownBlock
theorem Apart.symm {u v : Value} (h : Apart u v) : Apart v u := by
  unfold Apart at *
  cases hv : v.ownBlock with
  | none => exact .inl rfl
  | some j => rcases h with h | h
              · exact .inr (by rw [h]; simp)
              · exact .inr (by rw [← hv]; exact Ne.symm h)
end Go.Proofs.YtpmjlaiafgbjgaaGreatDoor
end

section
namespace Go.Proofs.YtpmjlaiafgbjgaaGreatDoor
open Go.RowKit
theorem Tryz.infoU32 : (Tryz.prog.info? 48).map (fun i => (i.zero, i.size, i.bytes)) = some (some (.int .u32 0), 1, 4) := by kernel_rfl
theorem u32v_len (l : List Nat) : (u32v l).length = l.length := List.length_map _
theorem u32v_one (l : List Nat) : ∀ u ∈ u32v l, u.oneCell' = true := by
  intro u hu; unfold u32v at hu; obtain ⟨x, _, rfl⟩ := List.mem_map.1 hu; rfl
theorem run_app_u8g (w : World) (base : Nat) (v : Value) (l m : List Nat) (hown : OwnB w base v l) (A : Option Addr) (c : Nat) (hr : SlAt w A (u8v m)) (hl : l.length + m.length ≤ 140737488355328) (hbase : base ≤ w.heap.size) :
    ∃ v' w', (Builtin.append_ #[28, 28] 28 #[v, .slice A m.length c]).run Tryz.prog w = .ok v' w' ∧ OwnB w' base v' (l ++ m) ∧ w.grownBy w' v.ownBlock ∧ (v'.ownBlock = v.ownBlock ∨ v'.ownBlock = some w.heap.size) := by
  obtain ⟨i0, hi0, hz0, hz1, hz2⟩ := info_parts Tryz.infoU8
  obtain ⟨v', w', h1, h2, h3, h5⟩ := run_app (P := Tryz.prog) w base 28 28 5 i0 (.int .u8 0) 1 (by kernel_rfl) hi0 hz0 hz1 hz2 rfl v l.length (u8v l) hown A c (u8v m) hr (u8v_one m) (by rw [u8v_len]; unfold maxLen; omega) (by rw [u8v_len]; omega) hbase
  rw [u8v_len] at h1 h2
  refine ⟨v', w', h1, ?_, h3, h5⟩
  unfold OwnB u8v
  rw [List.length_append, List.map_append]; exact h2
theorem run_app_u32g (w : World) (base : Nat) (v : Value) (l : List Nat) (x : Nat) (hown : w.ownsRow base 48 1 v l.length (u32v l)) (A : Option Addr) (c : Nat) (hr : SlAt w A (u32v [x])) (hl : (l.length + 1) * 4 ≤ 140737488355328) (hbase : base ≤ w.heap.size) :
    ∃ v' w', (Builtin.append_ #[73, 73] 73 #[v, .slice A 1 c]).run Tryz.prog w = .ok v' w' ∧ w'.ownsRow base 48 1 v' (l.length + 1) (u32v (l ++ [x])) ∧ w.grownBy w' v.ownBlock ∧ (v'.ownBlock = v.ownBlock ∨ v'.ownBlock = some w.heap.size) := by
  obtain ⟨i0, hi0, hz0, hz1, hz2⟩ := info_parts Tryz.infoU32
  obtain ⟨v', w', h1, h2, h3, h5⟩ := run_app (P := Tryz.prog) w base 73 73 48 i0 (.int .u32 0) 4 (by kernel_rfl) hi0 hz0 hz1 hz2 rfl v l.length (u32v l) hown A c (u32v [x]) hr (u32v_one [x]) (by rw [u32v_len]; unfold maxLen; simp; omega) (by rw [u32v_len]; simp; omega) hbase
  refine ⟨v', w', h1, ?_, h3, h5⟩
  unfold u32v at h2 ⊢
  rw [List.map_append]; exact h2
def OwnM (w : World) (base : Nat) (v : Value) (l : List Nat) : Prop := OwnB w base v l ∨
  ∃ g, v = .slice (some ⟨g, 0, none⟩) l.length l.length ∧ base ≤ g ∧ w.heap[g]? = some (.cells (u8v l).toArray 5 (l.length, l.length + 1)) ∧ 0 < l.length
theorem OwnM.lt {w : World} {base : Nat} {v : Value} {l : List Nat} (h : OwnM w base v l) : ∀ j, v.ownBlock = some j → base ≤ j ∧ j < w.heap.size := by
  rcases h with h | ⟨g, rfl, hb, hg, _⟩
  · exact h.lt
  · intro j hj
    obtain rfl : g = j := Option.some.inj hj
    exact ⟨hb, (Array.getElem?_eq_some_iff.1 hg).1⟩
theorem OwnM.keep {w w' : World} {base : Nat} {v : Value} {l : List Nat} (h : OwnM w base v l) (k : ∀ j, v.ownBlock = some j → w'.heap[j]? = w.heap[j]?) : OwnM w' base v l := by
  rcases h with h | ⟨g, rfl, hb, hg, hl⟩
  · exact .inl (ownsRow_keep h k)
  · exact .inr ⟨g, rfl, hb, (k g rfl).trans hg, hl⟩
theorem OwnM.form {w : World} {base : Nat} {v : Value} {l : List Nat} (h : OwnM w base v l) : ∃ A c, v = .slice A l.length c ∧ l.length ≤ c ∧ SlAt w A (u8v l) ∧ (∀ ad, A = some ad → base ≤ ad.block) := by
  rcases h with h | ⟨g, rfl, hb, hg, hl⟩
  · exact h.form
  · refine ⟨_, _, rfl, Nat.le_refl _, fun _ => ⟨_, rfl, (Array.getElem?_eq_some_iff.1 hg).1, fun j u hu => ?_⟩, fun ad e => by injection e with e; subst e; exact hb⟩
    rw [add_at, cell_of_row w g j _ _ _ hg]
    simpa using hu
theorem run_app_m (w : World) (base : Nat) (v : Value) (l m : List Nat) (hown : OwnM w base v l) (A : Option Addr) (c : Nat) (hr : SlAt w A (u8v m)) (hm : 0 < m.length) (hl : l.length + m.length ≤ 140737488355328) (hbase : base ≤ w.heap.size) :
    ∃ v' w', (Builtin.append_ #[28, 28] 28 #[v, .slice A m.length c]).run Tryz.prog w = .ok v' w' ∧ OwnM w' base v' (l ++ m) ∧ w.grownBy w' v.ownBlock ∧ (v'.ownBlock = v.ownBlock ∨ v'.ownBlock = some w.heap.size) := by
  rcases hown with h | ⟨g, rfl, hb, hg, hl0⟩
  · obtain ⟨v', w', h1, h2, h3, h4⟩ := run_app_u8g w base v l m h A c hr hl hbase
    exact ⟨v', w', h1, .inl h2, h3, h4⟩
  · obtain ⟨i0, hi0, hz0, hz1, hz2⟩ := info_parts Tryz.infoU8
    obtain ⟨ad, rfl, _, hc⟩ := hr (by rw [u8v_len]; exact hm)
    have hcells : ∀ (j : Nat) u, (u8v l)[j]? = some u → w.cell? ((⟨g, 0, none⟩ : Addr).add j) = some u := fun j u hu => by
      rw [add_at, cell_of_row w g j _ _ _ hg]
      simpa using hu
    have hrun := run_append_grow (P := Tryz.prog) (w := w) 28 28 5 i0 (.int .u8 0) (by kernel_rfl) hi0 hz0 ⟨g, 0, none⟩ l.length l.length (u8v l) (by rw [u8v_len, hz1, Nat.mul_one]) hcells ad m.length c (u8v m) (by rw [u8v_len, hz1, Nat.mul_one]) hc (by omega) (by omega) (by
      rw [hz2]
      exact growslice_fits (by omega) (by omega))
    have hge := grownCap_ge w (l.length + m.length) l.length 5
    have hcm := grownCap_le_maxLen w (l.length + m.length) l.length 5 (by unfold maxLen; omega)
    obtain ⟨N, hN⟩ : ∃ N, grownCap w (l.length + m.length) l.length 5 = N := ⟨_, rfl⟩
    rw [hN] at hrun hge hcm
    have e1 : (u8v (l ++ m)).length = (l.length + m.length) * 1 := by rw [u8v_len, List.length_append, Nat.mul_one]
    have e2 : u8v (l ++ m) = u8v l ++ u8v m := List.map_append
    refine ⟨_, _, hrun, .inl ?_, ⟨rfl, rfl, rfl, by simp, fun k hk _ => heap_alloc_old w.drew _ hk⟩, .inr rfl⟩
    unfold OwnB
    rw [List.length_append]
    refine ⟨e1, .inr ⟨w.heap.size, _, _, rfl, hbase, heap_alloc_new w.drew _, hge, hcm, ?_, ?_⟩⟩
    · simp only [Array.size_append, List.size_toArray, size_zeroCells, u8v_len]
      rw [show (Value.int IntKind.u8 0).cells.size = 1 from rfl]
      omega
    · simp only [Array.toList_append]
      rw [← e1, e2, List.take_left' rfl]
end Go.Proofs.YtpmjlaiafgbjgaaGreatDoor
end

section
namespace Go.Proofs.YtpmjlaiafgbjgaaGreatDoor
open Go.RowKit
structure Rws (w : World) (base : Nat) (ps : List (IRec × Value)) (lv : Value) (ks : List Nat) (kv : Value) (bs : List Nat) (bv : Value) : Prop where
  recs : RecP w base lv ps
  links : w.ownsRow base 48 1 kv ks.length (u32v ks)
  bytes : OwnM w base bv bs
  lk : Apart lv kv
  lb : Apart lv bv
  kb : Apart kv bv
  pk : ∀ p ∈ ps, Apart p.2 kv ∧ Apart p.2 bv
theorem RecP.keep {w w' : World} {base : Nat} {v : Value} {ps : List (IRec × Value)} (h : RecP w base v ps) (k1 : ∀ j, v.ownBlock = some j → w'.heap[j]? = w.heap[j]?) (k2 : ∀ p ∈ ps, ∀ j, p.2.ownBlock = some j → w'.heap[j]? = w.heap[j]?) : RecP w' base v ps :=
  ⟨ownsRow_keep h.1 k1, fun p hp => ⟨ownsRow_keep (h.2 p hp).1 (k2 p hp), (h.2 p hp).2⟩⟩
theorem Rws.keep {w w' : World} {base : Nat} {ps : List (IRec × Value)} {lv : Value} {ks : List Nat} {kv : Value} {bs : List Nat} {bv : Value} (h : Rws w base ps lv ks kv bs bv) (k : ∀ j, base ≤ j → j < w.heap.size → w'.heap[j]? = w.heap[j]?) : Rws w' base ps lv ks kv bs bv :=
  ⟨h.recs.keep (fun j hj => k j (h.recs.1.lt j hj).1 (h.recs.1.lt j hj).2) (fun p hp j hj => k j ((h.recs.2 p hp).1.lt j hj).1 ((h.recs.2 p hp).1.lt j hj).2), ownsRow_keep h.links (fun j hj => k j (h.links.lt j hj).1 (h.links.lt j hj).2), h.bytes.keep (fun j hj => k j (h.bytes.lt j hj).1 (h.bytes.lt j hj).2), h.lk, h.lb, h.kb, h.pk⟩
theorem Rws.of {w w' : World} {base : Nat} {ps : List (IRec × Value)} {lv : Value} {ks : List Nat} {kv : Value} {bs : List Nat} {bv : Value} (h : Rws w base ps lv ks kv bs bv) (k : Within w w') : Rws w' base ps lv ks kv bs bv := h.keep fun j _ hj => k.block j hj
theorem Rws.but {w w' : World} {bk base : Nat} {ps : List (IRec × Value)} {lv : Value} {ks : List Nat} {kv : Value} {bs : List Nat} {bv : Value} (h : Rws w base ps lv ks kv bs bv) (k : But bk w w') (hb : bk < base) : Rws w' base ps lv ks kv bs bv := h.keep fun j hj hl => k.block j hl (fun e => by have := Option.some.inj e; omega)
theorem apart_kept {w w' : World} {row u : Value} (k : w.grownBy w' row.ownBlock) (h : Apart u row) (j : Nat) (hj : u.ownBlock = some j) (hl : j < w.heap.size) : w'.heap[j]? = w.heap[j]? :=
  k.block j hl (fun e => by rcases h with h | h; rw [h] at hj; cases hj; exact h (hj.trans e))
theorem apart_grown {w : World} {v v' u : Value} {N : Nat} (h : Apart v u) (hv : v'.ownBlock = v.ownBlock ∨ v'.ownBlock = some N) (hu : ∀ j, u.ownBlock = some j → j < N) : Apart v' u := by
  unfold Apart at *
  rcases hv with hv | hv
  · rw [hv]; exact h
  · refine .inr (fun e => ?_)
    rw [hv] at e
    have := hu N e.symm
    omega
theorem Rws.link {w : World} {base : Nat} {ps : List (IRec × Value)} {lv : Value} {ks : List Nat} {kv : Value} {bs : List Nat} {bv : Value} (h : Rws w base ps lv ks kv bs bv) (x : Nat) (A : Option Addr) (c : Nat) (hr : SlAt w A (u32v [x])) (hl : (ks.length + 1) * 4 ≤ 140737488355328) (hbase : base ≤ w.heap.size) :
    ∃ kv' w', (Builtin.append_ #[73, 73] 73 #[kv, .slice A 1 c]).run Tryz.prog w = .ok kv' w' ∧ Rws w' base ps lv (ks ++ [x]) kv' bs bv ∧ w.grownBy w' kv.ownBlock ∧ (kv'.ownBlock = kv.ownBlock ∨ kv'.ownBlock = some w.heap.size) := by
  obtain ⟨kv', w', h1, h2, h3, h4⟩ := run_app_u32g w base kv ks x h.links A c hr hl hbase
  refine ⟨kv', w', h1, ⟨h.recs.keep (fun j hj => apart_kept h3 h.lk j hj (h.recs.1.lt j hj).2) (fun p hp j hj => apart_kept h3 (h.pk p hp).1 j hj ((h.recs.2 p hp).1.lt j hj).2), ?_, h.bytes.keep (fun j hj => apart_kept h3 h.kb.symm j hj (h.bytes.lt j hj).2), ?_, h.lb, ?_, fun p hp => ⟨?_, (h.pk p hp).2⟩⟩, h3, h4⟩
  · rw [List.length_append]; exact h2
  · exact (apart_grown (w := w) h.lk.symm h4 (fun j hj => (h.recs.1.lt j hj).2)).symm
  · exact apart_grown (w := w) h.kb h4 (fun j hj => (h.bytes.lt j hj).2)
  · exact (apart_grown (w := w) (h.pk p hp).1.symm h4 (fun j hj => ((h.recs.2 p hp).1.lt j hj).2)).symm
theorem Rws.more {w : World} {base : Nat} {ps : List (IRec × Value)} {lv : Value} {ks : List Nat} {kv : Value} {bs : List Nat} {bv : Value} (h : Rws w base ps lv ks kv bs bv) (m : List Nat) (A : Option Addr) (c : Nat) (hr : SlAt w A (u8v m)) (hm : 0 < m.length) (hl : bs.length + m.length ≤ 140737488355328) (hbase : base ≤ w.heap.size) :
    ∃ bv' w', (Builtin.append_ #[28, 28] 28 #[bv, .slice A m.length c]).run Tryz.prog w = .ok bv' w' ∧ Rws w' base ps lv ks kv (bs ++ m) bv' ∧ w.grownBy w' bv.ownBlock ∧ (bv'.ownBlock = bv.ownBlock ∨ bv'.ownBlock = some w.heap.size) := by
  obtain ⟨bv', w', h1, h2, h3, h4⟩ := run_app_m w base bv bs m h.bytes A c hr hm hl hbase
  refine ⟨bv', w', h1, ⟨h.recs.keep (fun j hj => apart_kept h3 h.lb j hj (h.recs.1.lt j hj).2) (fun p hp j hj => apart_kept h3 (h.pk p hp).2 j hj ((h.recs.2 p hp).1.lt j hj).2), ownsRow_keep h.links (fun j hj => apart_kept h3 h.kb j hj (h.links.lt j hj).2), h2, h.lk, ?_, ?_, fun p hp => ⟨(h.pk p hp).1, ?_⟩⟩, h3, h4⟩
  · exact (apart_grown (w := w) h.lb.symm h4 (fun j hj => (h.recs.1.lt j hj).2)).symm
  · exact (apart_grown (w := w) h.kb.symm h4 (fun j hj => (h.links.lt j hj).2)).symm
  · exact (apart_grown (w := w) (h.pk p hp).2.symm h4 (fun j hj => ((h.recs.2 p hp).1.lt j hj).2)).symm
end Go.Proofs.YtpmjlaiafgbjgaaGreatDoor
end

section
namespace Go.Proofs.YtpmjlaiafgbjgaaGreatDoor
open Go.RowKit
def Owned (ps : List (IRec × Value)) (lv kv bv : Value) (j : Nat) : Prop := lv.ownBlock = some j ∨ kv.ownBlock = some j ∨ bv.ownBlock = some j ∨ ∃ p ∈ ps, p.2.ownBlock = some j
theorem Rws.keepO {w w' : World} {base : Nat} {ps : List (IRec × Value)} {lv : Value} {ks : List Nat} {kv : Value} {bs : List Nat} {bv : Value} (h : Rws w base ps lv ks kv bs bv) (k : ∀ j, Owned ps lv kv bv j → j < w.heap.size → w'.heap[j]? = w.heap[j]?) : Rws w' base ps lv ks kv bs bv :=
  ⟨h.recs.keep (fun j hj => k j (.inl hj) (h.recs.1.lt j hj).2) (fun p hp j hj => k j (.inr (.inr (.inr ⟨p, hp, hj⟩))) ((h.recs.2 p hp).1.lt j hj).2), ownsRow_keep h.links (fun j hj => k j (.inr (.inl hj)) (h.links.lt j hj).2), h.bytes.keep (fun j hj => k j (.inr (.inr (.inl hj))) (h.bytes.lt j hj).2), h.lk, h.lb, h.kb, h.pk⟩
theorem Rws.owned_lt {w : World} {base : Nat} {ps : List (IRec × Value)} {lv : Value} {ks : List Nat} {kv : Value} {bs : List Nat} {bv : Value} (h : Rws w base ps lv ks kv bs bv) {j : Nat} (hj : Owned ps lv kv bv j) : j < w.heap.size := by
  rcases hj with hj | hj | hj | ⟨p, hp, hj⟩
  · exact (h.recs.1.lt j hj).2
  · exact (h.links.lt j hj).2
  · exact (h.bytes.lt j hj).2
  · exact ((h.recs.2 p hp).1.lt j hj).2
structure LogS (w : World) (S : Nat → Prop) (xb : Nat) (rs : List Rec) : Prop where
  at_ : S xb
  made : w.cell? ⟨xb, 0, none⟩ = some (.int .i64 1)
  firm : ∀ o, w.frozen? ⟨xb, o, none⟩ = false
  rows : ∃ (ps : List (IRec × Value)) (lv kv bv : Value), ps.map Prod.fst = rs.map Rec.i ∧ w.cell? ⟨xb, 1, none⟩ = some lv ∧ w.cell? ⟨xb, 2, none⟩ = some kv ∧ w.cell? ⟨xb, 3, none⟩ = some bv ∧
    Rws w 0 ps lv (linksV rs 0 startV) kv (logV rs) bv ∧ ∀ j, Owned ps lv kv bv j → S j ∧ j ≠ xb
theorem LogS.lt {w : World} {S : Nat → Prop} {xb : Nat} {rs : List Rec} (h : LogS w S xb rs) : xb < w.heap.size := World.block_lt_of_cell? _ _ h.made
theorem LogS.keep {w w' : World} {S : Nat → Prop} {xb : Nat} {rs : List Rec} (h : LogS w S xb rs) (k : ∀ j, S j → j < w.heap.size → w'.heap[j]? = w.heap[j]?) : LogS w' S xb rs := by
  have hl := h.lt
  obtain ⟨h0, h1, h2, ps, lv, kv, bv, a1, a2, a3, a4, a5, a6⟩ := h
  have hx := k xb h0 hl
  exact ⟨h0, (World.cell?_of_block hx).trans h1, fun o => (World.frozen?_of_block hx).trans (h2 o), ps, lv, kv, bv, a1, (World.cell?_of_block hx).trans a2, (World.cell?_of_block hx).trans a3, (World.cell?_of_block hx).trans a4, a5.keepO (fun j hj hl => k j (a6 j hj).1 hl), a6⟩
theorem LogS.of {w w' : World} {S : Nat → Prop} {xb : Nat} {rs : List Rec} (h : LogS w S xb rs) (k : Within w w') : LogS w' S xb rs := h.keep fun j _ hj => k.block j hj
theorem LogS.butS {w w' : World} {S T : Nat → Prop} {xb : Nat} {rs : List Rec} (h : LogS w S xb rs) (k : ButS T w w') (hd : ∀ j, S j → j < w.heap.size → ¬ T j) : LogS w' S xb rs := h.keep fun j hj hl => k.block j hl (hd j hj hl)
theorem LogS.mono {w : World} {S T : Nat → Prop} {xb : Nat} {rs : List Rec} (h : LogS w S xb rs) (k : ∀ j, S j → T j) : LogS w T xb rs := by
  obtain ⟨h0, h1, h2, ps, lv, kv, bv, a1, a2, a3, a4, a5, a6⟩ := h
  exact ⟨k _ h0, h1, h2, ps, lv, kv, bv, a1, a2, a3, a4, a5, fun j hj => ⟨k _ (a6 j hj).1, (a6 j hj).2⟩⟩
theorem Rws.rec_ {w : World} {base : Nat} {ps : List (IRec × Value)} {lv : Value} {ks : List Nat} {kv : Value} {bs : List Nat} {bv : Value} (h : Rws w base ps lv ks kv bs bv) (r : IRec) (u : Value) (hu : OwnB w base u r.2) (hub : Bytes r.2) (hne : Apart u lv) (huk : Apart u kv) (hub2 : Apart u bv) (hl : (ps.length + 1) * 32 ≤ 140737488355328) (hbase : base ≤ w.heap.size) :
    ∃ lv' w', (Builtin.append_ #[52, 52] 52 #[lv, .slice (some ⟨w.heap.size, 0, none⟩) 1 1]).run Tryz.prog (w.alloc (.cells #[.int .i64 r.1, u] 30)) = .ok lv' w' ∧ Rws w' base (ps ++ [(r, u)]) lv' ks kv bs bv ∧ w.grownBy w' lv.ownBlock ∧ (lv'.ownBlock = lv.ownBlock ∨ lv'.ownBlock = some (w.heap.size + 1)) := by
  obtain ⟨lv', w', h1, h2, h3, h4⟩ := run_app_recP w base lv ps r u h.recs hu hub hne hl hbase
  refine ⟨lv', w', h1, ⟨h2, ownsRow_keep h.links (fun j hj => apart_kept h3 h.lk.symm j hj (h.links.lt j hj).2), h.bytes.keep (fun j hj => apart_kept h3 h.lb.symm j hj (h.bytes.lt j hj).2), ?_, ?_, h.kb, fun p hp => ?_⟩, h3, h4⟩
  · exact apart_grown (w := w) h.lk h4 (fun j hj => by have := (h.links.lt j hj).2; omega)
  · exact apart_grown (w := w) h.lb h4 (fun j hj => by have := (h.bytes.lt j hj).2; omega)
  · rcases List.mem_append.1 hp with hp | hp
    · exact h.pk p hp
    · rw [List.mem_singleton] at hp; rw [hp]; exact ⟨huk, hub2⟩
structure XC (w : World) (xb : Nat) (a b c d : Value) : Prop where
  c0 : w.cell? ⟨xb, 0, none⟩ = some a
  c1 : w.cell? ⟨xb, 1, none⟩ = some b
  c2 : w.cell? ⟨xb, 2, none⟩ = some c
  c3 : w.cell? ⟨xb, 3, none⟩ = some d
  firm : ∀ o, w.frozen? ⟨xb, o, none⟩ = false
theorem XC.lt {w : World} {xb : Nat} {a b c d : Value} (h : XC w xb a b c d) : xb < w.heap.size := World.block_lt_of_cell? _ _ h.c0
theorem XC.keep {w w' : World} {xb : Nat} {a b c d : Value} (h : XC w xb a b c d) (k : w'.heap[xb]? = w.heap[xb]?) : XC w' xb a b c d :=
  ⟨(World.cell?_of_block k).trans h.c0, (World.cell?_of_block k).trans h.c1, (World.cell?_of_block k).trans h.c2, (World.cell?_of_block k).trans h.c3, fun o => (World.frozen?_of_block k).trans (h.firm o)⟩
theorem XC.of {w w' : World} {xb : Nat} {a b c d : Value} (h : XC w xb a b c d) (i : Within w w') : XC w' xb a b c d := h.keep (i.block _ h.lt)
theorem XC.grown {w w' : World} {row : Option Nat} {xb : Nat} {a b c d : Value} (h : XC w xb a b c d) (i : w.grownBy w' row) (hne : row ≠ some xb) : XC w' xb a b c d := h.keep (i.block xb h.lt (Ne.symm hne))
theorem XC.set1 {w : World} {xb : Nat} {a b c d : Value} (h : XC w xb a b c d) (u : Value) : XC (w.setCell ⟨xb, 1, none⟩ u) xb a u c d := by
  refine ⟨?_, World.cell?_setCell_same _ _ _ h.c1, ?_, ?_, fun o => by rw [World.frozen?_setCell]; exact h.firm o⟩
  · rw [World.cell?_setCell_other _ _ _ _ (by simp)]; exact h.c0
  · rw [World.cell?_setCell_other _ _ _ _ (by simp)]; exact h.c2
  · rw [World.cell?_setCell_other _ _ _ _ (by simp)]; exact h.c3
theorem XC.set2 {w : World} {xb : Nat} {a b c d : Value} (h : XC w xb a b c d) (u : Value) : XC (w.setCell ⟨xb, 2, none⟩ u) xb a b u d := by
  refine ⟨?_, ?_, World.cell?_setCell_same _ _ _ h.c2, ?_, fun o => by rw [World.frozen?_setCell]; exact h.firm o⟩
  · rw [World.cell?_setCell_other _ _ _ _ (by simp)]; exact h.c0
  · rw [World.cell?_setCell_other _ _ _ _ (by simp)]; exact h.c1
  · rw [World.cell?_setCell_other _ _ _ _ (by simp)]; exact h.c3
theorem XC.set3 {w : World} {xb : Nat} {a b c d : Value} (h : XC w xb a b c d) (u : Value) : XC (w.setCell ⟨xb, 3, none⟩ u) xb a b c u := by
  refine ⟨?_, ?_, ?_, World.cell?_setCell_same _ _ _ h.c3, fun o => by rw [World.frozen?_setCell]; exact h.firm o⟩
  · rw [World.cell?_setCell_other _ _ _ _ (by simp)]; exact h.c0
  · rw [World.cell?_setCell_other _ _ _ _ (by simp)]; exact h.c1
  · rw [World.cell?_setCell_other _ _ _ _ (by simp)]; exact h.c2
theorem Rws.setX {w : World} {base : Nat} {ps : List (IRec × Value)} {lv : Value} {ks : List Nat} {kv : Value} {bs : List Nat} {bv : Value} (h : Rws w base ps lv ks kv bs bv) {p : Addr} (hp : ∀ j, Owned ps lv kv bv j → j ≠ p.block) (u : Value) : Rws (w.setCell p u) base ps lv ks kv bs bv :=
  h.keepO fun j hj _ => Below.heap_setCell _ _ _ _ (hp j hj)
theorem laidV_le : ∀ (l : List Rec) (n last : Nat), (∀ r ∈ l, r.data.length ≤ 1048576) → (laidV l n last).length ≤ l.length * 1048593
  | [], _, _, _ => Nat.zero_le _
  | r :: l, n, last, h => by
    show (layV r n last ++ laidV l (n + 1) (nextV r n last)).length ≤ (l.length + 1) * 1048593
    rw [List.length_append, layV_len]
    have h1 := h r (by simp)
    have h2 := laidV_le l (n + 1) (nextV r n last) (fun q hq => h q (by simp [hq]))
    omega
theorem logV_le {l : List Rec} (h : ∀ r ∈ l, r.data.length ≤ 1048576) (hn : l.length ≤ 1048576) : (logV l).length ≤ 70368744177664 := by
  have h1 := laidV_le l 0 startV h
  unfold logV
  rw [List.length_append, show magicV.length = 8 from rfl]
  omega
theorem apart_new {u v : Value} (N : Nat) (hu : ∀ j, u.ownBlock = some j → N ≤ j) (hv : ∀ j, v.ownBlock = some j → j < N) : Apart u v := by
  cases h : u.ownBlock with
  | none => exact .inl h
  | some j =>
    refine .inr (fun e => ?_)
    rw [h] at e
    have h1 := hu j h
    have h2 := hv j e.symm
    omega
end Go.Proofs.YtpmjlaiafgbjgaaGreatDoor
end

section
namespace Go.Proofs.YtpmjlaiafgbjgaaGreatDoor
open Go.RowKit
theorem last_any (xb : Nat) (rs : List Rec) (hn : rs.length ≤ 1048576) (K : Option Addr) (ck : Nat) (w : World) (h2 : w.cell? ⟨xb, 2, none⟩ = some (.slice K rs.length ck)) (hK : SlAt w K (u32v (linksV rs 0 startV))) : Calls Tryz.prog 58 #[.pointer (some ⟨xb, 0, none⟩)] w fun e w' => e = .returned (.int .u32 (lastV rs 0 startV : Int)) ∧ Within w w' := by
  rcases Nat.eq_zero_or_pos rs.length with h0 | h0
  · have e : rs = [] := List.eq_nil_of_length_eq_zero h0
    subst e
    exact last_none xb K ck w h2
  · obtain ⟨n, hn1⟩ : ∃ n, rs.length = n + 1 := ⟨rs.length - 1, by omega⟩
    have hne : rs ≠ [] := fun e => by rw [e] at h0; cases h0
    have hl := linksV_last rs 0 startV hne
    obtain ⟨ad, rfl, _, hc⟩ := hK (by rw [u32v_len, linksV_len]; exact h0)
    have hx := hc n (.int .u32 (lastV rs 0 startV : Int)) (by
      unfold u32v
      have hlt : n < (linksV rs 0 startV).length := by rw [linksV_len]; omega
      rw [List.getElem?_map, List.getElem?_eq_getElem hlt, ← hl, hn1]
      rw [show n + 1 - 1 = n by omega, List.getD_eq_getElem?_getD, List.getElem?_eq_getElem hlt]; rfl)
    rw [hn1] at h2
    exact last_some xb ad ck n _ (by omega) w h2 hx
set_option maxRecDepth 100000 in
set_option maxHeartbeats 1000000 in
theorem jput_any (S : Nat → Prop) (xb : Nat) (rs : List Rec) (r : Rec) (hok : ∀ q ∈ rs ++ [r], q.Ok pf) (hn : rs.length < 1048576) (D : Option Addr) (cd : Nat) (hcd : r.data.length ≤ cd) (w : World) (hP : LogS w S xb rs) (hr : SlAt w D (u8v r.data)) : Calls Tryz.prog 33 #[.pointer (some ⟨xb, 0, none⟩), .agg #[.int .i64 (r.kind : Int), .slice D r.data.length cd]] w fun e w' => e = .returned (.tuple #[]) ∧ LogS w' (More S w w') xb (rs ++ [r]) ∧ ButS S w w' := by
  have hokr : r.Ok pf := hok r (by simp)
  have hok' : ∀ q ∈ rs, q.Ok pf := fun q hq => hok q (by simp [hq])
  obtain ⟨hr1, hr2, hr4⟩ := hokr.parts
  have hr3 := hokr.bytes
  have hlast := lastV_lt rs 0 startV hok' startV_lt
  have hlog := logV_le (l := rs ++ [r]) (fun q hq => (hok q hq).parts.2.2) (by rw [List.length_append]; simp; omega)
  rw [logV_snoc, List.length_append] at hlog
  have hxb := hP.lt
  obtain ⟨hS, hmade, hfirm, ps, lv, kv, bv, hps, p1, p2, p3, hRW, hown⟩ := hP
  have hRO : RecsO w 0 lv (rs.map Rec.i) := ⟨ps, hps, hRW.recs⟩
  obtain ⟨Al, cl, rfl, hcl, _, _, _⟩ := hRO.at
  obtain ⟨Ak, ck, rfl, hck, hks, _⟩ := owns_form hRW.links
  obtain ⟨Ab, cb, rfl, hcb, hbs, _⟩ := hRW.bytes.form
  rw [List.length_map] at hcl p1 hRW hown
  rw [linksV_len] at hck p2 hRW hown
  have HX := Lib.hid (XC.mk hmade p1 p2 p3 hfirm)
  have hpl : ps.length = rs.length := by have := congrArg List.length hps; rwa [List.length_map, List.length_map] at this
  obtain ⟨W0, hW0⟩ : ∃ W0, W0 = w.alloc (.cells #[.int .i64 (r.kind : Int), .slice D r.data.length cd] 30) := ⟨_, rfl⟩
  have hI0 : Within w W0 := by rw [hW0]; exact (Within.refl w).alloc _
  have z0 : W0.cell? ⟨w.heap.size, 0, none⟩ = some (.int .i64 (r.kind : Int)) := by rw [hW0]; simp
  have z1 : W0.cell? ⟨w.heap.size, 1, none⟩ = some (.slice D r.data.length cd) := by rw [hW0]; simp
  have zs : w.heap.size < W0.heap.size := by rw [hW0]; simp
  have q1 := (hI0.cells _ _ hxb).trans p1
  have q2 := (hI0.cells _ _ hxb).trans p2
  have hxb0 := Nat.lt_of_lt_of_le hxb hI0.size
  have LL : Hid (∀ W, Within W0 W → Calls Tryz.prog 58 #[.pointer (some ⟨xb, 0, none⟩)] W fun e w' => e = .returned (.int .u32 (lastV rs 0 startV : Int)) ∧ Within W w') := Lib.hid (fun W h => last_any xb rs (by omega) Ak ck W ((h.cells _ _ hxb0).trans q2) (hks.of (hI0.trans h)))
  have LY : Hid (∀ W, Within W0 W → Calls Tryz.prog 57 #[.agg #[.int .i64 (r.kind : Int), .slice D r.data.length cd], .int .i64 (rs.length : Int), .int .u32 (lastV rs 0 startV : Int)] W fun e w' => ∃ v, e = .returned (.tuple #[v, .int .u32 (nextV r rs.length (lastV rs 0 startV) : Int)]) ∧ OwnB w' W.heap.size v (layV r rs.length (lastV rs 0 startV)) ∧ Within W w') := Lib.hid (fun W h => lay_any r rs.length (lastV rs 0 startV) D cd (by omega) (by omega) hlast hr4 hr3 W (hr.of (hI0.trans h)))
  have CL : Hid (∀ W, Within W0 W → Calls Tryz.prog 36 #[.slice D r.data.length cd] W fun e w' => ∃ v, e = .returned v ∧ OwnB w' W.heap.size v r.data ∧ Within W w') := Lib.hid (fun W h => clone_any D cd r.data (by omega) W (hr.of (hI0.trans h)))
  obtain ⟨n, hnn⟩ : ∃ n, rs.length = n := ⟨_, rfl⟩
  obtain ⟨la, hla⟩ : ∃ x, lastV rs 0 startV = x := ⟨_, rfl⟩
  obtain ⟨nx, hnx⟩ : ∃ x, nextV r rs.length (lastV rs 0 startV) = x := ⟨_, rfl⟩
  obtain ⟨nb, hnb⟩ : ∃ x, (logV rs).length = x := ⟨_, rfl⟩
  obtain ⟨nd, hnd⟩ : ∃ x, r.data.length = x := ⟨_, rfl⟩
  obtain ⟨k, hkk⟩ : ∃ x, r.kind = x := ⟨_, rfl⟩
  obtain ⟨LA, hLA⟩ : ∃ x, layV r rs.length (lastV rs 0 startV) = x := ⟨_, rfl⟩
  obtain ⟨nl, hnl⟩ : ∃ x, LA.length = x := ⟨_, rfl⟩
  rw [hnx, hLA] at LY
  rw [hLA, hnb, hnl] at hlog
  rw [hnn, hla, hnd, hkk] at LY
  rw [hla] at LL
  rw [hnd] at CL
  rw [hkk] at z0
  rw [hnd, hkk] at hW0
  rw [hnd] at z1 hcd
  rw [hnn] at p1 q1 q2 hn hcl hck hRW hown HX hpl
  rw [hnb] at hRW hown HX hcb
  rw [hnd] at hr4
  rw [hnn] at hLA hnx
  rw [hla] at hLA hnx hlast
  rw [hnn] at p2
  rw [hnb] at p3
  have HZ0 := Lib.hid z0; have HZ1 := Lib.hid z1; have HZS := Lib.hid zs
  have HLP : Hid (0 < LA.length) := Lib.hid (by rw [← hLA, layV_len]; omega)
  have HPS := Lib.hid hps; have HRW := Lib.hid hRW; have HOW := Lib.hid hown; have HSX := Lib.hid hS; have HI0 := Lib.hid hI0; have HND := Lib.hid hnd; have HKK := Lib.hid hkk; have HLA := Lib.hid hLA; have HNX := Lib.hid hnx; have HNL := Lib.hid hnl; have HNN := Lib.hid hnn; have HLL := Lib.hid hla; have HR3 := Lib.hid hr3; have HNB := Lib.hid hnb
  clear hps hRW hown hS hI0 hnd hkk hLA hnx hnl hnn hla hr3 hnb hok hok' hokr hr hmade hfirm hRO hks hbs p2 p3 q2
  rw [HND.out, HKK.out]
  go_enter Tryz.func33, Tryz.ntmps33
  go_wp2_with fail
  rw [← hW0]
  clear hW0
  refine wp_region_schG (fun W => W.cell? ⟨xb, 1, none⟩ = some (.slice Al n cl) ∧ xb < W.heap.size ∧ W.cell? ⟨w.heap.size, 0, none⟩ = some (.int .i64 (k : Int)) ∧ W.cell? ⟨w.heap.size, 1, none⟩ = some (.slice D nd cd) ∧ w.heap.size < W.heap.size ∧ Within W0 W) 13 (.firm 0 (.firm 1 (.firm 2 (.firm 3 (.firm 4 (.firm 5 (.firm 6 (.one 7 (.one 8 (.firm 9 (.firm 10 (.firm 11 (.firm 12 (.one 13 .nil)))))))))))))) (by kernel_rfl) (by kernel_rfl) ⟨q1, hxb0, z0, z1, zs, Within.refl W0⟩ ?_
  rintro w0 ⟨p1, hxb, z0, z1, zs, hww⟩
  try simp only [Act.put, List.setIfInBounds_toArray, List.set_cons_zero, List.set_cons_succ]
  iterate 7
    apply sch_firm rfl rfl (by repeat (first | with_reducible exact Within.refl _ | with_reducible assumption | with_reducible refine Within.alloc ?_ _ | with_reducible refine Within.drew ?_ | with_reducible refine Within.drewN ?_ _ | with_reducible refine Within.setCell ?_ (by first | (simp; done) | (simp; omega)) _ | with_reducible refine Within.trans ?_ (by assumption)))
    · intro wq hq
      have hcq := hq.cells
      clear hq
      go_simp
      rfl
    try simp only [Act.put, List.setIfInBounds_toArray, List.set_cons_zero, List.set_cons_succ]
  refine sch_one rfl rfl (fun K hK => ?_)
  go_simp
  refine (LL.out _ (by exact hww.trans (by first | assumption | repeat (first | with_reducible exact Within.refl _ | with_reducible assumption | with_reducible refine Within.alloc ?_ _ | with_reducible refine Within.drew ?_ | with_reducible refine Within.drewN ?_ _ | with_reducible refine Within.setCell ?_ (by first | (simp; done) | (simp; omega)) _ | with_reducible refine Within.trans ?_ (by assumption))))).mono ?_; rintro e1 w1 ⟨rfl, h1⟩
  refine hK _ _ (fun _ => (by repeat (first | with_reducible exact Within.refl _ | with_reducible assumption | with_reducible refine Within.alloc ?_ _ | with_reducible refine Within.drew ?_ | with_reducible refine Within.drewN ?_ _ | with_reducible refine Within.setCell ?_ (by first | (simp; done) | (simp; omega)) _ | with_reducible refine Within.trans ?_ (by assumption)))) ?_
  clear hK K
  try simp only [Act.put, List.setIfInBounds_toArray, List.set_cons_zero, List.set_cons_succ]
  refine sch_one rfl rfl (fun K hK => ?_)
  go_simp
  refine (LY.out _ (by exact hww.trans (by repeat (first | with_reducible exact Within.refl _ | with_reducible assumption | with_reducible refine Within.alloc ?_ _ | with_reducible refine Within.drew ?_ | with_reducible refine Within.drewN ?_ _ | with_reducible refine Within.setCell ?_ (by first | (simp; done) | (simp; omega)) _ | with_reducible refine Within.trans ?_ (by assumption))))).mono ?_; rintro e2 w2 ⟨vl, rfl, hO2, h2⟩
  obtain ⟨Av, cv, rfl, hcv, hsv, _⟩ := hO2.form
  rw [HNL.out] at hcv
  have HO2 := Lib.hid hO2; have HSV := Lib.hid hsv; clear hO2 hsv
  rw [HNL.out] at HO2 ⊢
  refine hK _ _ (fun _ => (by repeat (first | with_reducible exact Within.refl _ | with_reducible assumption | with_reducible refine Within.alloc ?_ _ | with_reducible refine Within.drew ?_ | with_reducible refine Within.drewN ?_ _ | with_reducible refine Within.setCell ?_ (by first | (simp; done) | (simp; omega)) _ | with_reducible refine Within.trans ?_ (by assumption)))) ?_
  clear hK K
  try simp only [Act.put, List.setIfInBounds_toArray, List.set_cons_zero, List.set_cons_succ]
  iterate 4
    apply sch_firm rfl rfl (by repeat (first | with_reducible exact Within.refl _ | with_reducible assumption | with_reducible refine Within.alloc ?_ _ | with_reducible refine Within.drew ?_ | with_reducible refine Within.drewN ?_ _ | with_reducible refine Within.setCell ?_ (by first | (simp; done) | (simp; omega)) _ | with_reducible refine Within.trans ?_ (by assumption)))
    · intro wq hq
      have hcq := hq.cells
      clear hq
      go_simp
      rfl
    try simp only [Act.put, List.setIfInBounds_toArray, List.set_cons_zero, List.set_cons_succ]
  refine sch_one rfl rfl (fun K hK => ?_)
  go_simp
  refine hK _ _ (fun h => absurd h (by decide)) ?_
  clear hK K
  try simp only [Act.put, List.setIfInBounds_toArray, List.set_cons_zero, List.set_cons_succ]
  refine sch_nil ?_
  have hX2 : Within W0 w2 := Within.trans (Within.trans hww.drew h1) h2
  have hW1 : Within W0 w1 := Within.trans hww.drew h1
  have HW1 := Lib.hid hW1; clear hW1
  have p1' := (hX2.cells _ _ hxb0).trans q1
  have p1' := (hX2.cells _ _ hxb0).trans q1
  have hT : ∀ j, (Value.slice Al n cl).ownBlock = some j → j < w.heap.size ∧ j ≠ xb := fun j hj => ⟨HRW.out.owned_lt (.inl hj), (HOW.out j (.inl hj)).2⟩
  have nT1 : ¬ ((Value.slice Al n cl).ownBlock = some xb) := fun h => (hT _ h).2 rfl
  have nT2 : ¬ ((Value.slice Al n cl).ownBlock = some w.heap.size) := fun h => by have := (hT _ h).1; omega
  have z0' := (hX2.cells _ 0 HZS.out).trans HZ0.out
  have z1' := (hX2.cells _ 1 HZS.out).trans HZ1.out
  have hxb2 := Nat.lt_of_lt_of_le hxb0 hX2.size
  have zs2 := Nat.lt_of_lt_of_le HZS.out hX2.size
  have HX2 := Lib.hid hX2; have HT1 := Lib.hid nT1; have HT2 := Lib.hid nT2; have HTT := Lib.hid hT; clear hX2 nT1 nT2 hT h1 h2 hww p1 hxb z0 z1 zs q1 LY LL
  go_wp2_with fail
  refine wp_region_schT (fun j => (Value.slice Al n cl).ownBlock = some j) (fun W => W.cell? ⟨xb, 1, none⟩ = some (.slice Al n cl) ∧ xb < W.heap.size ∧ W.cell? ⟨w.heap.size, 0, none⟩ = some (.int .i64 (k : Int)) ∧ W.cell? ⟨w.heap.size, 1, none⟩ = some (.slice D nd cd) ∧ w.heap.size < W.heap.size ∧ W = w2) 15 (.firm 0 (.firm 1 (.firm 2 (.firm 3 (.firm 4 (.firm 5 (.firm 6 (.firm 7 (.firm 8 (.one 9 (.firm 10 (.one 11 (.one 12 (.firm 13 (.firm 14 (.one 15 .nil)))))))))))))))) (by kernel_rfl) (by kernel_rfl) ⟨p1', hxb2, z0', z1', zs2, rfl⟩ ?_
  rintro w0 ⟨p1, hxb, z0, z1, zs, rfl⟩
  try simp only [Act.put, List.setIfInBounds_toArray, List.set_cons_zero, List.set_cons_succ]
  iterate 9
    apply sch_firm rfl rfl (by repeat (first | with_reducible exact ButS.refl _ _ | with_reducible assumption | with_reducible refine ButS.drew ?_ | with_reducible refine ButS.alloc ?_ _ | with_reducible refine ButS.within ?_ (by assumption)))
    · intro wq hq
      have g0 := (hq.cells xb 1 hxb HT1.out).trans p1
      have g1 := (hq.cells _ 0 zs HT2.out).trans z0
      have g2 := (hq.cells _ 1 zs HT2.out).trans z1
      have g3 := Nat.lt_of_lt_of_le hxb hq.size
      have g4 := Nat.lt_of_lt_of_le zs hq.size
      clear hq
      go_simp
      rfl
    try simp only [Act.put, List.setIfInBounds_toArray, List.set_cons_zero, List.set_cons_succ]
  refine sch_one rfl rfl (fun K hK => ?_)
  go_simp
  refine (CL.out _ (by exact HX2.out.drew)).mono ?_; rintro e3 w3 ⟨v3, rfl, hO3, h3⟩
  obtain ⟨A3, c3, rfl, hc3, _, _⟩ := hO3.form
  rw [HND.out] at hO3 hc3 ⊢
  have HO3 := Lib.hid hO3; have H3 := Lib.hid h3; clear hO3
  refine hK _ _ (fun _ => (by repeat (first | with_reducible exact ButS.refl _ _ | with_reducible assumption | with_reducible refine ButS.drew ?_ | with_reducible refine ButS.alloc ?_ _ | with_reducible refine ButS.within ?_ (by assumption)))) ?_
  clear hK K
  try simp only [Act.put, List.setIfInBounds_toArray, List.set_cons_zero, List.set_cons_succ]
  apply sch_firm rfl rfl (by repeat (first | with_reducible exact ButS.refl _ _ | with_reducible assumption | with_reducible refine ButS.drew ?_ | with_reducible refine ButS.alloc ?_ _ | with_reducible refine ButS.within ?_ (by assumption)))
  · intro wq hq
    have g0 := (hq.cells xb 1 hxb HT1.out).trans p1
    have g1 := (hq.cells _ 0 zs HT2.out).trans z0
    have g2 := (hq.cells _ 1 zs HT2.out).trans z1
    have g3 := Nat.lt_of_lt_of_le hxb hq.size
    have g4 := Nat.lt_of_lt_of_le zs hq.size
    clear hq
    go_simp
    rfl
  try simp only [Act.put, List.setIfInBounds_toArray, List.set_cons_zero, List.set_cons_succ]
  refine sch_one rfl rfl (fun K hK => ?_)
  go_simp
  refine hK _ _ (fun _ => (by repeat (first | with_reducible exact ButS.refl _ _ | with_reducible assumption | with_reducible refine ButS.drew ?_ | with_reducible refine ButS.alloc ?_ _ | with_reducible refine ButS.within ?_ (by assumption)))) ?_
  clear hK K
  try simp only [Act.put, List.setIfInBounds_toArray, List.set_cons_zero, List.set_cons_succ]
  refine sch_one rfl rfl (fun K hK => ?_)
  have hw3 : Within w w3 := HI0.out.trans (HX2.out.drew.trans H3.out)
  have hnew : ∀ j, (Value.slice A3 nd c3).ownBlock = some j → w.heap.size ≤ j := fun j hj => by have h1 := (HO3.out.lt j hj).1; have h2 := HX2.out.size; have h3 := HI0.out.size; simp at h1; omega
  have hap : ∀ v, (∀ j, v.ownBlock = some j → j < w.heap.size) → Apart (.slice A3 nd c3) v := fun v hv => apart_new w.heap.size hnew hv
  obtain ⟨lv4, w4, hrun4, hR4, hg4, hb4⟩ := Rws.rec_ (w := w3) (HRW.out.of hw3) ((k : Int), r.data) (.slice A3 nd c3) (HO3.out.less (Nat.zero_le _)) HR3.out (hap _ fun j hj => HRW.out.owned_lt (.inl hj)) (hap _ fun j hj => HRW.out.owned_lt (.inr (.inl hj))) (hap _ fun j hj => HRW.out.owned_lt (.inr (.inr (.inl hj)))) (by rw [hpl]; omega) (Nat.zero_le _)
  have hS4 : ButS (fun j => j = xb ∨ Owned ps (.slice Al n cl) (.slice Ak n ck) (.slice Ab nb cb) j) w0 w4 := (ButS.in_ ((Within.refl w0).drew.trans H3.out)).grown hg4 (fun j hj => .inl (.inr (.inl hj)))
  have hS4' : ButS (fun j => (Value.slice Al n cl).ownBlock = some j) w0 w4 := (ButS.in_ ((Within.refl w0).drew.trans H3.out)).grown hg4 (fun j hj => .inl hj)
  have hX4 : XC w4 xb (.int .i64 1) (.slice Al n cl) (.slice Ak n ck) (.slice Ab nb cb) := (HX.out.of hw3).grown hg4 (fun e => HT1.out e)
  have hO4 : ∀ j, Owned (ps ++ [(((k : Int), r.data), Value.slice A3 nd c3)]) lv4 (.slice Ak n ck) (.slice Ab nb cb) j → (Owned ps (.slice Al n cl) (.slice Ak n ck) (.slice Ab nb cb) j ∨ w.heap.size ≤ j) ∧ j ≠ xb := fun j hj => by
    have hxw : xb < w.heap.size := HX.out.lt
    have old : Owned ps (.slice Al n cl) (.slice Ak n ck) (.slice Ab nb cb) j → (Owned ps (.slice Al n cl) (.slice Ak n ck) (.slice Ab nb cb) j ∨ w.heap.size ≤ j) ∧ j ≠ xb := fun h => ⟨.inl h, (HOW.out j h).2⟩
    rcases hj with hj | hj | hj | ⟨p, hp, hj⟩
    · rcases hb4 with e | e
      · exact old (.inl (e ▸ hj))
      · rw [hj] at e; have e := Option.some.inj e; have h1 := hw3.size; exact ⟨.inr (by omega), by omega⟩
    · exact old (.inr (.inl hj))
    · exact old (.inr (.inr (.inl hj)))
    · rcases List.mem_append.1 hp with hp | hp
      · exact old (.inr (.inr (.inr ⟨p, hp, hj⟩)))
      · rw [List.mem_singleton] at hp; rw [hp] at hj; have h1 := hnew j hj; exact ⟨.inr h1, by omega⟩
  obtain ⟨A4, c4, rfl, hx9, hy9, hz9, hu9⟩ := RecsO.at (rs := (ps ++ [(((k : Int), r.data), Value.slice A3 nd c3)]).map Prod.fst) ⟨_, rfl, hR4.recs⟩
  clear hx9 hy9 hz9 hu9
  obtain ⟨n4, hn4⟩ : ∃ m, ((ps ++ [(((k : Int), r.data), Value.slice A3 nd c3)]).map Prod.fst).length = m := ⟨_, rfl⟩
  rw [hn4] at hrun4 hR4 hO4
  clear hn4 hb4
  have HR4 := Lib.hid hR4; have HX4 := Lib.hid hX4; have HO4 := Lib.hid hO4; have HS4 := Lib.hid hS4; have RUN4 := Lib.hid hrun4; clear hR4 hX4 hO4 hS4 hrun4 hg4 hap hnew hw3
  refine op_append_run (.tmp 22) (.tmp 29) 52 rfl _ _ rfl rfl RUN4.out ?_
  refine hK _ _ (fun _ => (by repeat (first | with_reducible exact ButS.refl _ _ | with_reducible assumption | with_reducible refine ButS.drew ?_ | with_reducible refine ButS.alloc ?_ _ | with_reducible refine ButS.within ?_ (by assumption)))) ?_
  clear hK K
  try simp only [Act.put, List.setIfInBounds_toArray, List.set_cons_zero, List.set_cons_succ]
  iterate 2
    apply sch_firm rfl rfl (by repeat (first | with_reducible exact ButS.refl _ _ | with_reducible assumption | with_reducible refine ButS.drew ?_ | with_reducible refine ButS.alloc ?_ _ | with_reducible refine ButS.within ?_ (by assumption)))
    · intro wq hq
      have g0 := (hq.cells xb 1 hxb HT1.out).trans p1
      have g1 := (hq.cells _ 0 zs HT2.out).trans z0
      have g2 := (hq.cells _ 1 zs HT2.out).trans z1
      have g3 := Nat.lt_of_lt_of_le hxb hq.size
      have g4 := Nat.lt_of_lt_of_le zs hq.size
      clear hq
      go_simp
      rfl
    try simp only [Act.put, List.setIfInBounds_toArray, List.set_cons_zero, List.set_cons_succ]
  refine sch_one rfl rfl (fun K hK => ?_)
  obtain ⟨r0, r1, r2, r3, rff⟩ := HX4.out
  have hrb4 := HX4.out.lt
  go_simp
  refine hK _ _ (fun h => absurd h (by decide)) ?_
  clear hK K
  try simp only [Act.put, List.setIfInBounds_toArray, List.set_cons_zero, List.set_cons_succ]
  refine sch_nil ?_
  have hps' : (ps ++ [(((k : Int), r.data), Value.slice A3 nd c3)]).map Prod.fst = (rs ++ [r]).map Rec.i := by rw [List.map_append, HPS.out, List.map_append]; show _ ++ [((k : Int), r.data)] = _ ++ [((r.kind : Int), r.data)]; rw [HKK.out]
  have HPS2 := Lib.hid hps'; clear hps'
  obtain ⟨X1, hX1⟩ : ∃ X, X = w4.setCell ⟨xb, 1, none⟩ (.slice A4 n4 c4) := ⟨_, rfl⟩
  have hXa : XC X1 xb (.int .i64 1) (.slice A4 n4 c4) (.slice Ak n ck) (.slice Ab nb cb) := by rw [hX1]; exact HX4.out.set1 _
  have hRa : Rws X1 0 (ps ++ [(((k : Int), r.data), Value.slice A3 nd c3)]) (.slice A4 n4 c4) (linksV rs 0 startV) (.slice Ak n ck) (logV rs) (.slice Ab nb cb) := by rw [hX1]; exact HR4.out.setX (fun j hj => (HO4.out j hj).2) _
  have hS1 : ButS (fun j => j = xb ∨ Owned ps (.slice Al n cl) (.slice Ak n ck) (.slice Ab nb cb) j) w0 X1 := by rw [hX1]; exact HS4.out.set (.inl (.inl rfl)) _
  obtain ⟨kv5, w5, hrun5, hR5, hg5, hb5⟩ := Rws.link (w := X1.alloc (.cells #[.int .u32 (nx : Int)] 48)) (hRa.of ((Within.refl _).alloc _)) nx (some ⟨X1.heap.size, 0, none⟩) 1 (SlAt.one X1 _ _) (by rw [linksV_len, HNN.out]; omega) (Nat.zero_le _)
  have hS5 : ButS (fun j => j = xb ∨ Owned ps (.slice Al n cl) (.slice Ak n ck) (.slice Ab nb cb) j) w0 w5 := (hS1.alloc _).grown hg5 (fun j hj => .inl (.inr (.inr (.inl hj))))
  have hX5 : XC w5 xb (.int .i64 1) (.slice A4 n4 c4) (.slice Ak n ck) (.slice Ab nb cb) := (hXa.of ((Within.refl _).alloc _)).grown hg5 (fun e => (HO4.out xb (.inr (.inl e))).2 rfl)
  have hO5 : ∀ j, Owned (ps ++ [(((k : Int), r.data), Value.slice A3 nd c3)]) (.slice A4 n4 c4) kv5 (.slice Ab nb cb) j → (Owned ps (.slice Al n cl) (.slice Ak n ck) (.slice Ab nb cb) j ∨ w.heap.size ≤ j) ∧ j ≠ xb := fun j hj => by
    rcases hj with hj | hj | hj | hj
    · exact HO4.out j (.inl hj)
    · rcases hb5 with e | e
      · exact HO4.out j (.inr (.inl (e ▸ hj)))
      · rw [hj] at e; have e := Option.some.inj e; have h1 := hS1.size; have h2 := HX2.out.size; have h3 := HI0.out.size; exact ⟨.inr (by have e := e; first | omega | (simp at e; omega)), by have e := e; first | omega | (simp at e; omega)⟩
    · exact HO4.out j (.inr (.inr (.inl hj)))
    · exact HO4.out j (.inr (.inr (.inr hj)))
  obtain ⟨A5, c5, rfl, _, _, _⟩ := owns_form hR5.links
  obtain ⟨n5, hn5⟩ : ∃ m, (linksV rs 0 startV ++ [nx]).length = m := ⟨_, rfl⟩
  rw [hn5] at hrun5 hR5 hO5
  rw [hn5] at hb5
  clear hn5 hb5
  have hX6 := hX5.set2 (.slice A5 n5 c5)
  have hR6 := hR5.setX (p := ⟨xb, 2, none⟩) (fun j hj => (hO5 j hj).2) (.slice A5 n5 c5)
  have hS6 := hS5.set (p := ⟨xb, 2, none⟩) (.inl (.inl rfl)) (.slice A5 n5 c5)
  obtain ⟨X2, hX2⟩ : ∃ X, X = w5.setCell ⟨xb, 2, none⟩ (.slice A5 n5 c5) := ⟨_, rfl⟩
  rw [← hX2] at hX6 hR6 hS6
  have hsv6 : SlAt X2 Av (u8v LA) := HSV.out.butS hS6 (fun ad e => by
    have h1 := HO2.out.lt ad.block (by rw [e]; rfl)
    have h2 := HW1.out.size; have h3 := HI0.out.size
    rintro (h | h)
    · omega
    · have := HRW.out.owned_lt h; omega)
  obtain ⟨bv7, w7, hrun7, hR7, hg7, hb7⟩ := Rws.more (w := X2) hR6 LA Av cv hsv6 HLP.out (by rw [HNB.out, HNL.out]; omega) (Nat.zero_le _)
  rw [HNL.out] at hrun7
  have hS7 := hS6.grown hg7 (fun j hj => .inl (.inr (.inr (.inr (.inl hj)))))
  have hX7 : XC w7 xb (.int .i64 1) (.slice A4 n4 c4) (.slice A5 n5 c5) (.slice Ab nb cb) := hX6.grown hg7 (fun e => (HO4.out xb (.inr (.inr (.inl e)))).2 rfl)
  have hO7 : ∀ j, Owned (ps ++ [(((k : Int), r.data), Value.slice A3 nd c3)]) (.slice A4 n4 c4) (.slice A5 n5 c5) bv7 j → (Owned ps (.slice Al n cl) (.slice Ak n ck) (.slice Ab nb cb) j ∨ w.heap.size ≤ j) ∧ j ≠ xb := fun j hj => by
    rcases hj with hj | hj | hj | hj
    · exact hO5 j (.inl hj)
    · exact hO5 j (.inr (.inl hj))
    · rcases hb7 with e | e
      · exact hO5 j (.inr (.inr (.inl (e ▸ hj))))
      · rw [hj] at e; have e := Option.some.inj e; have h1 := hS6.size; have h2 := HX2.out.size; have h3 := HI0.out.size; exact ⟨.inr (by have e := e; first | omega | (simp at e; omega)), by have e := e; first | omega | (simp at e; omega)⟩
    · exact hO5 j (.inr (.inr (.inr hj)))
  obtain ⟨A7, c7, rfl, _, _, _⟩ := hR7.bytes.form
  obtain ⟨n7, hn7⟩ : ∃ m, (logV rs ++ LA).length = m := ⟨_, rfl⟩
  rw [hn7] at hrun7 hR7 hO7
  clear hn7 hb7
  have hX8 := hX7.set3 (.slice A7 n7 c7)
  have hR8 := hR7.setX (p := ⟨xb, 3, none⟩) (fun j hj => (hO7 j hj).2) (.slice A7 n7 c7)
  have hS8 := hS7.set (p := ⟨xb, 3, none⟩) (.inl (.inl rfl)) (.slice A7 n7 c7)
  obtain ⟨r0, r1, r2, r3, rff⟩ := hXa
  have rlt := World.block_lt_of_cell? _ _ r0
  obtain ⟨s0, s1, s2, s3, sff⟩ := hX5
  have slt := World.block_lt_of_cell? _ _ s0
  have hX6' := hX6
  obtain ⟨t0, t1, t2, t3, tff⟩ := hX6'
  have tlt := World.block_lt_of_cell? _ _ t0
  obtain ⟨u0, u1, u2, u3, uff⟩ := hX7
  have ult := World.block_lt_of_cell? _ _ u0
  rw [hX2] at hrun7
  have RUN5 := Lib.hid hrun5; have RUN7 := Lib.hid hrun7; have HX8 := Lib.hid hX8; have HR8 := Lib.hid hR8; have HS8 := Lib.hid hS8; have HO7 := Lib.hid hO7; have HX2E := Lib.hid hX2
  rw [← hX1]
  clear hrun5 hrun7 hX8 hR8 hS8 hO7 hX2 hX1 hR7 hR6 hR5 hRa hS1 hS5 hS6 hS7 hg5 hg7 hO5 hX6 hsv6
  go_wp2_with (first | (at_builtin; refine wpList_append_run rfl (.tmp 37) (.tmp 39) 73 rfl _ _ rfl rfl RUN5.out ?_) | (at_builtin; refine wpList_append_run rfl (.tmp 47) (.tmp 48) 28 rfl _ _ rfl rfl RUN7.out ?_))
  first | go_end0 | refine bodyPost_ret (results_none rfl _ _ _) rfl ?_
  have hSw : ButS (fun j => j = xb ∨ Owned ps (.slice Al n cl) (.slice Ak n ck) (.slice Ab nb cb) j) w (w7.setCell ⟨xb, 3, none⟩ (.slice A7 n7 c7)) := (ButS.in_ (HI0.out.trans HX2.out)).trans HS8.out (fun _ _ h => h)
  refine ⟨rfl, ⟨.inl HSX.out, HX8.out.c0, HX8.out.firm, (ps ++ [(((k : Int), r.data), Value.slice A3 nd c3)]), _, _, _, HPS2.out, HX8.out.c1, HX8.out.c2, HX8.out.c3, ?_, fun j hj => ⟨?_, (HO7.out j hj).2⟩⟩, hSw.mono fun j hj h => ?_⟩
  · rw [linksV_snoc, logV_snoc, Nat.zero_add, HNN.out, HLL.out, HLA.out, HNX.out]; exact HR8.out
  · rcases (HO7.out j hj).1 with h | h
    · exact .inl (HOW.out j h).1
    · exact .inr ⟨h, HR8.out.owned_lt hj⟩
  · rcases h with h | h
    · rw [h]; exact HSX.out
    · exact (HOW.out j h).1
end Go.Proofs.YtpmjlaiafgbjgaaGreatDoor
end

section
namespace Go.Proofs.YtpmjlaiafgbjgaaGreatDoor
open Go.RowKit
theorem LogS.new (w w' : World) (g xb : Nat) (hg : w'.heap[g]? = some (.cells (u8v magicV).toArray 5 (8, 9))) (hx : w'.heap[xb]? = some (.cells #[.int .i64 1, .slice none 0 0, .slice none 0 0, .slice (some ⟨g, 0, none⟩) 8 8] 75)) (S : Nat → Prop) (h1 : S g) (h2 : S xb) (hne : g ≠ xb) : LogS w' S xb [] := by
  refine ⟨h2, by simp [World.cell?, hx], fun o => by simp [World.frozen?, hx], [], .slice none 0 0, .slice none 0 0, .slice (some ⟨g, 0, none⟩) 8 8, rfl, by simp [World.cell?, hx], by simp [World.cell?, hx], by simp [World.cell?, hx], ⟨⟨World.ownsRow_nil _ _ _ _, fun p hp => by cases hp⟩, World.ownsRow_nil _ _ _ _, .inr ⟨g, rfl, Nat.zero_le _, hg, by decide⟩, .inl rfl, .inl rfl, .inl rfl, fun p hp => by cases hp⟩, fun j hj => ?_⟩
  rcases hj with hj | hj | hj | ⟨p, hp, _⟩
  · cases hj
  · cases hj
  · obtain rfl : g = j := Option.some.inj hj
    exact ⟨h1, hne⟩
  · cases hp
set_option maxRecDepth 100000 in
set_option maxHeartbeats 1000000 in
theorem New_log (w : World) : Calls Tryz.prog 5 #[] w fun e w' => ∃ xb, e = .returned (.pointer (some ⟨xb, 0, none⟩)) ∧ LogS w' (fun j => w.heap.size ≤ j ∧ j < w'.heap.size) xb [] ∧ Within w w' := by
  have kc := fun (w : World) (C : Array Value) (n c : Nat) => Lib.run_convert_bytes_const (P := Tryz.prog) w 28 5 C n c (by kernel_rfl) (by kernel_rfl)
  go_enter Tryz.func5, Tryz.ntmps5
  go_wp2
  go_ret
  refine ⟨_, rfl, LogS.new w _ w.heap.size _ ?_ ?_ _ ⟨Nat.le_refl _, ?_⟩ ⟨?_, ?_⟩ ?_, (by repeat (first | with_reducible exact Within.refl _ | with_reducible assumption | with_reducible refine Within.alloc ?_ _ | with_reducible refine Within.drew ?_ | with_reducible refine Within.drewN ?_ _ | with_reducible refine Within.setCell ?_ (by first | (simp; done) | (simp; omega)) _ | with_reducible refine Within.trans ?_ (by assumption)))⟩
  · exact (heap_alloc_old _ _ (by simp)).trans (heap_alloc_new w _)
  · rw [show w.heap.size + 1 = (w.alloc (.cells (u8v magicV).toArray 5 (8, 9))).heap.size by simp]; exact heap_alloc_new (w.alloc (.cells (u8v magicV).toArray 5 (8, 9))) _
  all_goals first | rfl | (simp; done) | (simp; omega) | (simp [World.alloc]; done) | (trace_state; fail)
set_option maxRecDepth 100000 in
set_option maxHeartbeats 1000000 in
theorem is_true (xb : Nat) (w : World) (h0 : w.cell? ⟨xb, 0, none⟩ = some (.int .i64 1)) : Calls Tryz.prog 31 #[.pointer (some ⟨xb, 0, none⟩)] w fun e w' => e = .returned (.bool true) ∧ w' = w := by
  go_enter Tryz.func31, Tryz.ntmps31
  go_wp2
  go_ret
  exact ⟨rfl, rfl⟩
theorem LogS.list {w : World} {S : Nat → Prop} {xb : Nat} {rs : List Rec} (h : LogS w S xb rs) : ∃ Al cl, w.cell? ⟨xb, 1, none⟩ = some (.slice Al rs.length cl) ∧ rs.length ≤ cl ∧ RecAt w (fun _ => True) Al (rs.map Rec.i) := by
  obtain ⟨hS, hmade, hfirm, ps, lv, kv, bv, hps, p1, p2, p3, hRW, hown⟩ := h
  obtain ⟨Al, cl, rfl, hcl, _, _, h7⟩ := RecsO.at (rs := rs.map Rec.i) ⟨ps, hps, hRW.recs⟩
  rw [List.length_map] at hcl p1
  exact ⟨Al, cl, p1, hcl, h7.weak fun _ _ => trivial⟩
theorem LogS.bytes {w : World} {S : Nat → Prop} {xb : Nat} {rs : List Rec} (h : LogS w S xb rs) : ∃ Ab cb, w.cell? ⟨xb, 3, none⟩ = some (.slice Ab (logV rs).length cb) ∧ (logV rs).length ≤ cb ∧ SlAt w Ab (u8v (logV rs)) := by
  obtain ⟨hS, hmade, hfirm, ps, lv, kv, bv, hps, p1, p2, p3, hRW, hown⟩ := h
  obtain ⟨Ab, cb, rfl, hcb, hs, _⟩ := hRW.bytes.form
  exact ⟨Ab, cb, p3, hcb, hs⟩
set_option maxRecDepth 100000 in
set_option maxHeartbeats 1000000 in
theorem Len_log (S : Nat → Prop) (xb : Nat) (rs : List Rec) (w : World) (hP : LogS w S xb rs) : Calls Tryz.prog 40 #[.pointer (some ⟨xb, 0, none⟩)] w fun e w' => e = .returned (.int .i64 (rs.length : Int)) ∧ w' = w := by
  have h0 := hP.made
  obtain ⟨Al, cl, h1, hcl, _⟩ := hP.list
  obtain ⟨n, hn⟩ : ∃ n, rs.length = n := ⟨_, rfl⟩
  rw [hn] at h1 hcl ⊢
  clear hn hP
  go_enter Tryz.func40, Tryz.ntmps40
  go_wp2_with fail
  refine (is_true xb w h0).mono ?_; rintro e1 w1 ⟨rfl, rfl⟩
  go_wp2
  go_ret
  exact ⟨rfl, rfl⟩
set_option maxRecDepth 100000 in
set_option maxHeartbeats 1000000 in
theorem Bytes_log (S : Nat → Prop) (xb : Nat) (rs : List Rec) (hlen : (logV rs).length ≤ 70368744177664) (w : World) (hP : LogS w S xb rs) : Calls Tryz.prog 14 #[.pointer (some ⟨xb, 0, none⟩)] w fun e w' => ∃ v, e = .returned v ∧ OwnB w' w.heap.size v (logV rs) ∧ Within w w' := by
  have h0 := hP.made
  obtain ⟨Ab, cb, h3, hcb, hs⟩ := hP.bytes
  have CL := Lib.hid (clone_any Ab cb (logV rs) hlen w hs)
  obtain ⟨n, hn⟩ : ∃ n, (logV rs).length = n := ⟨_, rfl⟩
  rw [hn] at h3 hcb CL
  clear hn hP hs hlen
  go_enter Tryz.func14, Tryz.ntmps14
  go_wp2_with fail
  refine (is_true xb w h0).mono ?_; rintro e1 w1 ⟨rfl, rfl⟩
  go_wp2_with fail
  refine CL.out.mono ?_; rintro e1 w1 ⟨v, rfl, hO, h1⟩
  go_wp2
  go_ret
  exact ⟨_, rfl, hO, h1⟩
set_option maxRecDepth 100000 in
set_option maxHeartbeats 1000000 in
theorem Append_bad (S : Nat → Prop) (xb : Nat) (rs : List Rec) (hok : ∀ q ∈ rs, q.Ok pf) (D : Option Addr) (cd : Nat) (d : List Nat) (k : Int) (hbad : checkR pf k d ≠ 0) (hb : Bytes d) (hcd : d.length ≤ cd) (hdl : d.length ≤ 1152921504606846976) (w : World) (hT : FmS w) (hP : LogS w S xb rs) (hr : SlAt w D (u8v d)) : Calls Tryz.prog 9 #[.pointer (some ⟨xb, 0, none⟩), .agg #[.int .i64 k, .slice D d.length cd]] w fun e w' => e = .returned (.tuple #[.int .i64 0, .int .i64 (checkR pf k d)]) ∧ Within w w' := by
  have h0 := hP.made
  have hxb := hP.lt
  obtain ⟨Al, cl, h1, hcl, _⟩ := hP.list
  obtain ⟨W0, hW0⟩ : ∃ W0, W0 = w.alloc (.cells #[.int .i64 k, .slice D d.length cd] 30) := ⟨_, rfl⟩
  have hI0 : Within w W0 := by rw [hW0]; exact (Within.refl w).alloc _
  have z0 : W0.cell? ⟨w.heap.size, 0, none⟩ = some (.int .i64 k) := by rw [hW0]; simp
  have z1 : W0.cell? ⟨w.heap.size, 1, none⟩ = some (.slice D d.length cd) := by rw [hW0]; simp
  have zs : w.heap.size < W0.heap.size := by rw [hW0]; simp
  have q0 := (hI0.cells _ _ hxb).trans h0
  have q1 := (hI0.cells _ _ hxb).trans h1
  have hxb0 := Nat.lt_of_lt_of_le hxb hI0.size
  have JC := Lib.hid (jcheck_any k D cd d hb hcd hdl W0 (hT.of hI0) (hr.of hI0))
  obtain ⟨ck, hck⟩ : ∃ ck, checkR pf k d = ck := ⟨_, rfl⟩
  rw [hck] at JC hbad ⊢
  have v1 : (ck != 0) = true := bne_iff_ne.2 hbad
  obtain ⟨n, hn⟩ : ∃ n, rs.length = n := ⟨_, rfl⟩
  rw [hn] at h1 q1 hcl
  have HN := Lib.hid hn; obtain ⟨nd, hnd⟩ : ∃ n, d.length = n := ⟨_, rfl⟩
  rw [hnd] at JC hW0 z1 hcd ⊢
  have HI0 := Lib.hid hI0; clear hn hnd hck hP hT hr hb hdl hok
  have EI : Hid (Calls Tryz.prog 31 #[.pointer (some ⟨xb, 0, none⟩)] W0 fun e w' => e = .returned (.bool true) ∧ w' = W0) := Lib.hid (is_true xb W0 q0)
  go_enter Tryz.func9, Tryz.ntmps9
  go_wp2_with fail
  rw [← hW0]
  clear hW0
  refine EI.out.mono ?_; rintro e1 w1 ⟨rfl, rfl⟩
  go_wp2_with fail
  refine JC.out.mono ?_; rintro e1 w1 ⟨rfl, h2⟩
  go_wp2
  go_ret2
  exact ⟨rfl, HI0.out.trans h2⟩
set_option maxRecDepth 100000 in
set_option maxHeartbeats 1000000 in
theorem Append_full (S : Nat → Prop) (xb : Nat) (rs : List Rec) (hok : ∀ q ∈ rs, q.Ok pf) (D : Option Addr) (cd : Nat) (d : List Nat) (hfull : 1048576 ≤ rs.length) (k : Int) (hgood : checkR pf k d = 0) (hb : Bytes d) (hcd : d.length ≤ cd) (hdl : d.length ≤ 1152921504606846976) (w : World) (hT : FmS w) (hP : LogS w S xb rs) (hr : SlAt w D (u8v d)) : Calls Tryz.prog 9 #[.pointer (some ⟨xb, 0, none⟩), .agg #[.int .i64 k, .slice D d.length cd]] w fun e w' => e = .returned (.tuple #[.int .i64 0, .int .i64 2]) ∧ Within w w' := by
  have h0 := hP.made
  have hxb := hP.lt
  obtain ⟨Al, cl, h1, hcl, _⟩ := hP.list
  obtain ⟨W0, hW0⟩ : ∃ W0, W0 = w.alloc (.cells #[.int .i64 k, .slice D d.length cd] 30) := ⟨_, rfl⟩
  have hI0 : Within w W0 := by rw [hW0]; exact (Within.refl w).alloc _
  have z0 : W0.cell? ⟨w.heap.size, 0, none⟩ = some (.int .i64 k) := by rw [hW0]; simp
  have z1 : W0.cell? ⟨w.heap.size, 1, none⟩ = some (.slice D d.length cd) := by rw [hW0]; simp
  have zs : w.heap.size < W0.heap.size := by rw [hW0]; simp
  have q0 := (hI0.cells _ _ hxb).trans h0
  have q1 := (hI0.cells _ _ hxb).trans h1
  have hxb0 := Nat.lt_of_lt_of_le hxb hI0.size
  have JC := Lib.hid (jcheck_any k D cd d hb hcd hdl W0 (hT.of hI0) (hr.of hI0))
  rw [hgood] at JC
  have v1 : decide ((1048576 : Int) ≤ (rs.length : Int)) = true := decide_eq_true (by omega)
  obtain ⟨n, hn⟩ : ∃ n, rs.length = n := ⟨_, rfl⟩
  rw [hn] at h1 q1 hcl v1
  obtain ⟨nd, hnd⟩ : ∃ n, d.length = n := ⟨_, rfl⟩
  rw [hnd] at JC hW0 z1 hcd ⊢
  have HI0 := Lib.hid hI0; clear hn hnd hP hT hr hb hdl hok hgood hfull
  have EI : Hid (Calls Tryz.prog 31 #[.pointer (some ⟨xb, 0, none⟩)] W0 fun e w' => e = .returned (.bool true) ∧ w' = W0) := Lib.hid (is_true xb W0 q0)
  go_enter Tryz.func9, Tryz.ntmps9
  go_wp2_with fail
  rw [← hW0]
  clear hW0
  refine EI.out.mono ?_; rintro e1 w1 ⟨rfl, rfl⟩
  go_wp2_with fail
  refine JC.out.mono ?_; rintro e1 w1 ⟨rfl, h2⟩
  have q1' := (h2.cells _ _ hxb0).trans q1
  have hxb1 := Nat.lt_of_lt_of_le hxb0 h2.size
  go_wp2
  go_ret2
  exact ⟨rfl, HI0.out.trans h2⟩
set_option maxRecDepth 100000 in
set_option maxHeartbeats 1000000 in
theorem Append_good (S : Nat → Prop) (xb : Nat) (rs : List Rec) (hok : ∀ q ∈ rs, q.Ok pf) (D : Option Addr) (cd : Nat) (d : List Nat) (hfull : rs.length < 1048576) (k : Nat) (hgood : checkR pf (k : Int) d = 0) (hb : Bytes d) (hcd : d.length ≤ cd) (hdl : d.length ≤ 1152921504606846976) (w : World) (hT : FmS w) (hP : LogS w S xb rs) (hr : SlAt w D (u8v d)) : Calls Tryz.prog 9 #[.pointer (some ⟨xb, 0, none⟩), .agg #[.int .i64 (k : Int), .slice D d.length cd]] w fun e w' => e = .returned (.tuple #[.int .i64 (rs.length : Int), .int .i64 0]) ∧ LogS w' (More S w w') xb (rs ++ [⟨k, d⟩]) ∧ ButS S w w' := by
  have hokr : Rec.Ok pf ⟨k, d⟩ := ⟨hgood, hb⟩
  have hok2 : ∀ q ∈ rs ++ [⟨k, d⟩], q.Ok pf := fun q hq => by
    rcases List.mem_append.1 hq with hq | hq
    · exact hok q hq
    · rw [List.mem_singleton] at hq; rw [hq]; exact hokr
  have h0 := hP.made
  have hxb := hP.lt
  obtain ⟨Al, cl, h1, hcl, _⟩ := hP.list
  obtain ⟨W0, hW0⟩ : ∃ W0, W0 = w.alloc (.cells #[.int .i64 (k : Int), .slice D d.length cd] 30) := ⟨_, rfl⟩
  have hI0 : Within w W0 := by rw [hW0]; exact (Within.refl w).alloc _
  have z0 : W0.cell? ⟨w.heap.size, 0, none⟩ = some (.int .i64 (k : Int)) := by rw [hW0]; simp
  have z1 : W0.cell? ⟨w.heap.size, 1, none⟩ = some (.slice D d.length cd) := by rw [hW0]; simp
  have zs : w.heap.size < W0.heap.size := by rw [hW0]; simp
  have q0 := (hI0.cells _ _ hxb).trans h0
  have q1 := (hI0.cells _ _ hxb).trans h1
  have hxb0 := Nat.lt_of_lt_of_le hxb hI0.size
  have JC := Lib.hid (jcheck_any (k : Int) D cd d hb hcd hdl W0 (hT.of hI0) (hr.of hI0))
  rw [hgood] at JC
  have v1 : decide ((1048576 : Int) ≤ (rs.length : Int)) = false := decide_eq_false (by omega)
  have PU : Hid (∀ W, Within W0 W → Calls Tryz.prog 33 #[.pointer (some ⟨xb, 0, none⟩), .agg #[.int .i64 (k : Int), .slice D d.length cd]] W fun e w' => e = .returned (.tuple #[]) ∧ LogS w' (More S W w') xb (rs ++ [⟨k, d⟩]) ∧ ButS S W w') := Lib.hid (fun W h => jput_any S xb rs ⟨k, d⟩ hok2 hfull D cd hcd W (hP.of (hI0.trans h)) (hr.of (hI0.trans h)))
  obtain ⟨n, hn⟩ : ∃ n, rs.length = n := ⟨_, rfl⟩
  rw [hn] at h1 q1 hcl v1 hfull ⊢
  have HN := Lib.hid hn
  obtain ⟨nd, hnd⟩ : ∃ n, d.length = n := ⟨_, rfl⟩
  rw [hnd] at JC hW0 z1 hcd PU ⊢
  have HI0 := Lib.hid hI0; clear hn hnd hP hT hr hb hdl hok hok2 hokr hgood
  have EI : Hid (Calls Tryz.prog 31 #[.pointer (some ⟨xb, 0, none⟩)] W0 fun e w' => e = .returned (.bool true) ∧ w' = W0) := Lib.hid (is_true xb W0 q0)
  go_enter Tryz.func9, Tryz.ntmps9
  go_wp2_with fail
  rw [← hW0]
  clear hW0
  refine EI.out.mono ?_; rintro e1 w1 ⟨rfl, rfl⟩
  go_wp2_with fail
  refine JC.out.mono ?_; rintro e1 w1 ⟨rfl, h2⟩
  have q1' := (h2.cells _ _ hxb0).trans q1
  have hxb1 := Nat.lt_of_lt_of_le hxb0 h2.size
  have z0' := (h2.cells _ 0 zs).trans z0
  have z1' := (h2.cells _ 1 zs).trans z1
  have zs' := Nat.lt_of_lt_of_le zs h2.size
  go_wp2_with fail
  refine (PU.out _ h2).mono ?_; rintro e3 w3 ⟨rfl, hL3, hB3⟩
  have hxb3 := hL3.lt
  obtain ⟨Al3, cl3, q3, hcl3, _⟩ := hL3.list
  rw [List.length_append, HN.out] at q3 hcl3
  simp only [List.length_cons, List.length_nil, Nat.zero_add] at q3 hcl3
  have HL3 := Lib.hid hL3; have HB3 := Lib.hid hB3; clear hL3 hB3
  have v2 : ((n + 1 : Nat) : Int) - 1 = (n : Int) := by omega
  go_wp2
  go_ret2
  refine ⟨by first | rfl | (simp; done), ?_, ?_⟩
  · refine HL3.out.mono fun j hj => ?_
    rcases hj with hj | hj
    · exact .inl hj
    · exact .inr ⟨Nat.le_trans (HI0.out.trans h2).size hj.1, hj.2⟩
  · exact (ButS.in_ (HI0.out.trans h2)).trans HB3.out fun _ _ h => h
end Go.Proofs.YtpmjlaiafgbjgaaGreatDoor
end

section
namespace Go.Proofs.YtpmjlaiafgbjgaaGreatDoor
open Go.RowKit
theorem read_ok {b : List Nat} (hb : Bytes b) : (∀ r ∈ (readV pf (b.drop 8) 0 startV).1, r.Ok pf) ∧ (readV pf (b.drop 8) 0 startV).1.length ≤ 1048576 := by
  obtain ⟨h1, _, _, _, h5, _⟩ := readV_back (F := pf) _ (b.drop 8) 0 startV (Nat.le_refl _) (fun x hx => hb x (List.mem_of_mem_drop hx)) startV_lt
  refine ⟨h1, ?_⟩
  by_cases h : (readV pf (b.drop 8) 0 startV).1 = []
  · rw [h]; exact Nat.zero_le _
  · have := h5 h; omega
theorem take_snoc {α : Type} {l : List α} {i : Nat} {x : α} (h : l[i]? = some x) : l.take i ++ [x] = l.take (i + 1) := by
  obtain ⟨hi, rfl⟩ := List.getElem?_eq_some_iff.1 h
  rw [List.take_add_one, List.getElem?_eq_getElem hi]; rfl
set_option maxRecDepth 100000 in
set_option maxHeartbeats 1000000 in
theorem Open_any (A : Option Addr) (c : Nat) (b : List Nat) (hb : Bytes b) (hlen : b.length ≤ 140737488355328) (hc : b.length ≤ c) (w : World) (hT : FmS w) (hr : SlAt w A (u8v b)) : Calls Tryz.prog 13 #[.slice A b.length c] w fun e w' => (b.take 8 ≠ magicV ∧ e = .returned (.tuple #[.pointer none, .agg #[.int .i64 1, .int .i64 0]]) ∧ Within w w') ∨ (b.take 8 = magicV ∧ ∃ xb, e = .returned (.tuple #[.pointer (some ⟨xb, 0, none⟩), .agg #[.int .i64 ((logRead b).2.1 : Int), .int .i64 ((logRead b).2.2 : Int)]]) ∧ LogS w' (fun j => w.heap.size ≤ j ∧ j < w'.heap.size) xb (logRead b).1 ∧ Within w w') := by
  have RDA := Lib.hid (read_any A c b hb hlen hc (w.alloc (.cells #[.int .i64 0, .int .i64 0] 42)) (hT.of ((Within.refl w).alloc _)) (hr.of ((Within.refl w).alloc _)))
  obtain ⟨hok, hle⟩ := read_ok hb
  have HOK := Lib.hid hok
  clear hb hT hr hok
  obtain ⟨⟨rs, y, a⟩, hlr⟩ : ∃ t, logRead b = t := ⟨_, rfl⟩
  rw [hlr]
  have HLR := Lib.hid hlr; clear hlr
  go_enter Tryz.func13, Tryz.ntmps13
  go_wp2_with fail
  refine RDA.out.mono ?_; rintro e1 w1 hP
  clear RDA
  rcases hP with ⟨hn, rfl, h1⟩ | ⟨hm, rb, rfl, hP⟩
  · have HNO := Lib.hid hn; clear hn HOK hle HLR
    have hWT : Within w (w.alloc (.cells #[.int .i64 0, .int .i64 0] 42)) := (Within.refl w).alloc _
    have q0 : w1.cell? ⟨w.heap.size, 0, none⟩ = some (.int .i64 0) := (h1.cells _ _ (by simp)).trans (by simp)
    have q1 : w1.cell? ⟨w.heap.size, 1, none⟩ = some (.int .i64 0) := (h1.cells _ _ (by simp)).trans (by simp)
    have qf0 : w1.frozen? ⟨w.heap.size, 0, none⟩ = false := (h1.frozens _ _ (by simp)).trans (by simp)
    have qf1 : w1.frozen? ⟨w.heap.size, 1, none⟩ = false := (h1.frozens _ _ (by simp)).trans (by simp)
    have qs : w.heap.size < w1.heap.size := Nat.lt_of_lt_of_le (by simp) h1.size
    have H1 := Lib.hid h1; clear h1
    go_wp2
    obtain ⟨W1, hW1⟩ : ∃ W1, W1 = w1.alloc (.cells #[.int .i64 1, .int .i64 0] 42) := ⟨_, rfl⟩
    have hA : Within w1 W1 := by rw [hW1]; exact (Within.refl w1).alloc _
    have p0 : W1.cell? ⟨w1.heap.size, 0, none⟩ = some (.int .i64 1) := by rw [hW1]; simp
    have p1 : W1.cell? ⟨w1.heap.size, 1, none⟩ = some (.int .i64 0) := by rw [hW1]; simp
    have ps : w1.heap.size < W1.heap.size := by rw [hW1]; simp
    have qne : ¬ w.heap.size = w1.heap.size := by omega
    have q0 := (hA.cells _ 0 qs).trans q0
    have q1 := (hA.cells _ 1 qs).trans q1
    have qf0 := (hA.frozens _ 0 qs).trans qf0
    have qf1 := (hA.frozens _ 1 qs).trans qf1
    have qs := Nat.lt_of_lt_of_le qs hA.size
    rw [← hW1]
    clear hW1
    refine wp_region_schG (fun W => W.cell? ⟨w.heap.size, 0, none⟩ = some (.int .i64 0) ∧ W.cell? ⟨w.heap.size, 1, none⟩ = some (.int .i64 0) ∧ W.cell? ⟨w1.heap.size, 0, none⟩ = some (.int .i64 1) ∧ W.cell? ⟨w1.heap.size, 1, none⟩ = some (.int .i64 0) ∧ w.heap.size < W.heap.size ∧ w1.heap.size < W.heap.size ∧ W.frozen? ⟨w.heap.size, 0, none⟩ = false ∧ W.frozen? ⟨w.heap.size, 1, none⟩ = false ∧ Within W1 W) 2 (.firm 0 (.firm 1 (.one 2 .nil))) (by kernel_rfl) (by kernel_rfl) ⟨q0, q1, p0, p1, qs, ps, qf0, qf1, Within.refl _⟩ ?_
    rintro w0 ⟨q0, q1, p0, p1, qs, ps, qf0, qf1, hw0⟩
    try simp only [Act.put, List.setIfInBounds_toArray, List.set_cons_zero, List.set_cons_succ]
    iterate 2
      apply sch_firm rfl rfl (by repeat (first | with_reducible exact Within.refl _ | with_reducible assumption | with_reducible refine Within.alloc ?_ _ | with_reducible refine Within.drew ?_ | with_reducible refine Within.drewN ?_ _ | with_reducible refine Within.setCell ?_ (by first | (simp; done) | (simp; omega)) _ | with_reducible refine Within.trans ?_ (by assumption)))
      · intro wq hq
        have hcq := hq.cells
        clear hq
        go_simp
        rfl
      try simp only [Act.put, List.setIfInBounds_toArray, List.set_cons_zero, List.set_cons_succ]
    refine sch_one rfl rfl (fun K hK => ?_)
    go_simp
    refine hK _ _ (fun h => absurd h (by decide)) ?_
    clear hK K
    try simp only [Act.put, List.setIfInBounds_toArray, List.set_cons_zero, List.set_cons_succ]
    refine sch_nil ?_
    go_wp2
    have hX : Within w w0 := Within.trans ((Within.refl w).alloc _) (H1.out.trans (hA.trans hw0))
    have hK9 : But w.heap.size w0 (((w0.setCell ⟨w.heap.size, 0, none⟩ (.int .i64 1)).setCell ⟨w.heap.size, 1, none⟩ (.int .i64 0)).drew) := (((But.refl w.heap.size w0).set (.inl rfl) _).set (.inl rfl) _).drew
    have hI9 : Within w (((w0.setCell ⟨w.heap.size, 0, none⟩ (.int .i64 1)).setCell ⟨w.heap.size, 1, none⟩ (.int .i64 0)).drew) := (((hX.setCell (Nat.le_refl _) _).setCell (Nat.le_refl _) _).drew)
    refine bodyPost_ret (v := .tuple #[.pointer none, .agg #[.int .i64 1, .int .i64 0]]) (by simp [results, Tryz.results13, go_sem, q0, q1, qf0, qf1, qs]) rfl (.inl ⟨HNO.out, rfl, hI9⟩)
  · obtain ⟨lv, hwrb, hC, hL, h1⟩ := hP
    obtain ⟨hrs, hy, ha⟩ : (readV pf (b.drop 8) 0 startV).1 = rs ∧ (readV pf (b.drop 8) 0 startV).2.1 = y ∧ 8 + (readV pf (b.drop 8) 0 startV).2.2.1 = a := by have := HLR.out; rw [logRead_yes hm] at this; simpa only [Prod.mk.injEq] using this
    obtain ⟨k, hk⟩ : ∃ k, (readV pf (b.drop 8) 0 startV).2.2.2 = k := ⟨_, rfl⟩
    rw [hy, ha]
    rw [ha, hk] at hC
    rw [hrs] at hL hle
    have HOK2 : Hid (∀ r ∈ rs, r.Ok pf) := Lib.hid (by rw [← hrs]; exact HOK.out)
    have HM := Lib.hid hm
    clear hy ha hrs hk hm HOK
    have hWT : Within w (w.alloc (.cells #[.int .i64 0, .int .i64 0] 42)) := (Within.refl w).alloc _
    have q0 : w1.cell? ⟨w.heap.size, 0, none⟩ = some (.int .i64 0) := (h1.cells _ _ (by simp)).trans (by simp)
    have q1 : w1.cell? ⟨w.heap.size, 1, none⟩ = some (.int .i64 0) := (h1.cells _ _ (by simp)).trans (by simp)
    have qf0 : w1.frozen? ⟨w.heap.size, 0, none⟩ = false := (h1.frozens _ _ (by simp)).trans (by simp)
    have qf1 : w1.frozen? ⟨w.heap.size, 1, none⟩ = false := (h1.frozens _ _ (by simp)).trans (by simp)
    have qs : w.heap.size < w1.heap.size := Nat.lt_of_lt_of_le (by simp) h1.size
    have p3 := hC.2.2.2.1
    have hrb1 := hC.lt
    obtain ⟨Al, cl, rfl, hcl, hRB, _, _⟩ := hL.at
    rw [List.length_map] at hcl p3
    have H1 := Lib.hid h1; have HL := Lib.hid hL; have HRB := Lib.hid hRB; clear h1 hC hL hRB
    go_wp2_with fail
    obtain ⟨W1, hW1⟩ : ∃ W1, W1 = w1.alloc (.cells #[.int .i64 (y : Int), .int .i64 (a : Int)] 42) := ⟨_, rfl⟩
    have hA : Within w1 W1 := by rw [hW1]; exact (Within.refl w1).alloc _
    have p0 : W1.cell? ⟨w1.heap.size, 0, none⟩ = some (.int .i64 (y : Int)) := by rw [hW1]; simp
    have p1 : W1.cell? ⟨w1.heap.size, 1, none⟩ = some (.int .i64 (a : Int)) := by rw [hW1]; simp
    have ps : w1.heap.size < W1.heap.size := by rw [hW1]; simp
    have qne : ¬ w.heap.size = w1.heap.size := by omega
    have q0 := (hA.cells _ 0 qs).trans q0
    have q1 := (hA.cells _ 1 qs).trans q1
    have qf0 := (hA.frozens _ 0 qs).trans qf0
    have qf1 := (hA.frozens _ 1 qs).trans qf1
    have qs := Nat.lt_of_lt_of_le qs hA.size
    rw [← hW1]
    have hC3 := (hA.cells _ 3 hrb1).trans p3
    have hrb := Nat.lt_of_lt_of_le hrb1 hA.size
    have hne1 : ¬ rb = w.heap.size := by have := HL.out; simp at hwrb; omega
    have HRB1 := Lib.hid (HRB.out.of hA)
    have HA1 := Lib.hid (Within.trans ((Within.refl w).alloc _) (H1.out.trans hA))
    clear hW1 hA hcl p3 hrb1 HRB H1 HL
    refine (New_log W1).mono ?_; rintro e2 w2 ⟨xb, rfl, hN, h2⟩
    have q0 := (h2.cells _ _ qs).trans q0
    have q1 := (h2.cells _ _ qs).trans q1
    have p0 := (h2.cells _ _ ps).trans p0
    have p1 := (h2.cells _ _ ps).trans p1
    have hC3 := (h2.cells _ _ hrb).trans hC3
    have hrb2 := Nat.lt_of_lt_of_le hrb h2.size
    have HN := Lib.hid hN; have H2 := Lib.hid h2; clear hN h2
    have Q0 : Hid (W1.cell? ⟨w.heap.size, 0, none⟩ = some (.int .i64 0) ∧ W1.cell? ⟨w.heap.size, 1, none⟩ = some (.int .i64 0) ∧ W1.cell? ⟨w1.heap.size, 0, none⟩ = some (.int .i64 (y : Int)) ∧ W1.cell? ⟨w1.heap.size, 1, none⟩ = some (.int .i64 (a : Int)) ∧ W1.frozen? ⟨w.heap.size, 0, none⟩ = false ∧ W1.frozen? ⟨w.heap.size, 1, none⟩ = false) := Lib.hid ⟨by rw [← H2.out.cells _ _ qs]; exact q0, by rw [← H2.out.cells _ _ qs]; exact q1, by rw [← H2.out.cells _ _ ps]; exact p0, by rw [← H2.out.cells _ _ ps]; exact p1, qf0, qf1⟩
    clear q0 q1 p0 p1 qf0 qf1
    go_wp2
    go_loopw [23] (fun iv wr => ∃ i : Nat, i ≤ rs.length ∧ iv = .int .i64 (i : Int) ∧ LogS wr (fun j => W1.heap.size ≤ j ∧ j < wr.heap.size) xb (rs.take i) ∧ Within W1 wr) (fun iv _ => rs.length - (intOf iv).toNat)
    case atStart => exact ⟨0, by omega, rfl, HN.out, H2.out⟩
    case round =>
      obtain ⟨i, hi, rfl, hPi, hin⟩ := hrel
      by_cases hlt : i < rs.length
      · obtain ⟨r, hr⟩ : ∃ r, rs[i]? = some r := ⟨_, List.getElem?_eq_getElem hlt⟩
        obtain ⟨g, Dv, cv, rfl, l1, y0, y1, hcv', hs1', _⟩ := (HRB1.out.of hin) i r.i (by rw [List.getElem?_map, hr]; rfl)
        have x0 : wr.cell? ⟨g, i * 2, none⟩ = some (.int .i64 (r.kind : Int)) := y0
        have x1 : wr.cell? ⟨g, i * 2 + 1, none⟩ = some (.slice Dv r.data.length cv) := y1
        have hcv : r.data.length ≤ cv := hcv'
        have hs1 : SlAt wr Dv (u8v r.data) := hs1'; clear y0 y1 hs1'
        have hmr : r ∈ rs := List.mem_of_getElem? hr
        have PU : Hid (∀ W, Within wr W → Calls Tryz.prog 33 #[.pointer (some ⟨xb, 0, none⟩), .agg #[.int .i64 (r.kind : Int), .slice Dv r.data.length cv]] W fun e w' => e = .returned (.tuple #[]) ∧ LogS w' (More (fun j => W1.heap.size ≤ j ∧ j < wr.heap.size) W w') xb (rs.take i ++ [r]) ∧ ButS (fun j => W1.heap.size ≤ j ∧ j < wr.heap.size) W w') := Lib.hid (fun W h => jput_any _ xb (rs.take i) r (fun q hq => HOK2.out q (by rcases List.mem_append.1 hq with hq | hq; exact List.mem_of_mem_take hq; rw [List.mem_singleton] at hq; rw [hq]; exact hmr)) (by rw [List.length_take]; omega) Dv cv hcv W (hPi.of h) (hs1.of h))
        have HTS := Lib.hid (take_snoc hr)
        have b1 : (i : Int) < (rs.length : Int) := by omega
        have HPI := Lib.hid hPi; have HIN := Lib.hid hin; clear hPi hin hs1 hr hmr hcv hcv'
        obtain ⟨nd, hnd⟩ : ∃ n, r.data.length = n := ⟨_, rfl⟩
        obtain ⟨kd, hkd⟩ : ∃ n, r.kind = n := ⟨_, rfl⟩
        rw [hnd, hkd] at PU
        rw [hnd] at x1
        rw [hkd] at x0
        clear hnd hkd
        go_wp2_with fail
        refine (PU.out _ (by repeat (first | with_reducible exact Within.refl _ | with_reducible assumption | with_reducible refine Within.alloc ?_ _ | with_reducible refine Within.drew ?_ | with_reducible refine Within.drewN ?_ _ | with_reducible refine Within.setCell ?_ (by first | (simp; done) | (simp; omega)) _ | with_reducible refine Within.trans ?_ (by assumption)))).mono ?_; rintro e3 w3 ⟨rfl, hL3, hB3⟩
        have hB3' : ButS (fun j => W1.heap.size ≤ j) wr w3 := (ButS.in_ (by repeat (first | with_reducible exact Within.refl _ | with_reducible assumption | with_reducible refine Within.alloc ?_ _ | with_reducible refine Within.drew ?_ | with_reducible refine Within.drewN ?_ _ | with_reducible refine Within.setCell ?_ (by first | (simp; done) | (simp; omega)) _ | with_reducible refine Within.trans ?_ (by assumption)))).trans hB3 (fun j _ h => h.1)
        have hw3 : Within W1 w3 := HIN.out.asides hB3' fun j h => h
        have hL3' := hL3.mono (T := fun j => W1.heap.size ≤ j ∧ j < w3.heap.size) (fun j hj => by
          rcases hj with hj | hj
          · exact ⟨hj.1, Nat.lt_of_lt_of_le hj.2 hB3'.size⟩
          · have h1 := HIN.out.size; have h2 := hj.1; simp at h2; exact ⟨by omega, hj.2⟩)
        rw [HTS.out] at hL3'
        have HW3 := Lib.hid hw3; have HL3 := Lib.hid hL3'; clear hL3 hB3 hB3' hw3 hL3'
        go_wp2
        go_roundw
        case rel => exact ⟨i + 1, hlt, by go_num, HL3.out, HW3.out⟩
        case measure => simp [intOf]; omega
      · obtain rfl : i = rs.length := by omega
        rw [List.take_length] at hPi
        obtain ⟨q0, q1, p0, p1, qf0, qf1⟩ := Q0.out
        have q0 := (hin.cells _ _ qs).trans q0
        have q1 := (hin.cells _ _ qs).trans q1
        have p0 := (hin.cells _ _ ps).trans p0
        have p1 := (hin.cells _ _ ps).trans p1
        have qf0 := (hin.frozens _ _ qs).trans qf0
        have qf1 := (hin.frozens _ _ qs).trans qf1
        have qs := Nat.lt_of_lt_of_le qs hin.size
        have ps := Nat.lt_of_lt_of_le ps hin.size
        have HPI := Lib.hid hPi; have HIN := Lib.hid hin; clear hPi hin
        go_wp2
        refine wp_region_schG (fun W => W.cell? ⟨w.heap.size, 0, none⟩ = some (.int .i64 0) ∧ W.cell? ⟨w.heap.size, 1, none⟩ = some (.int .i64 0) ∧ W.cell? ⟨w1.heap.size, 0, none⟩ = some (.int .i64 (y : Int)) ∧ W.cell? ⟨w1.heap.size, 1, none⟩ = some (.int .i64 (a : Int)) ∧ w.heap.size < W.heap.size ∧ w1.heap.size < W.heap.size ∧ W.frozen? ⟨w.heap.size, 0, none⟩ = false ∧ W.frozen? ⟨w.heap.size, 1, none⟩ = false ∧ Within wr W) 3 (.firm 0 (.firm 1 (.firm 2 (.one 3 .nil)))) (by kernel_rfl) (by kernel_rfl) ⟨q0, q1, p0, p1, qs, ps, qf0, qf1, Within.refl _⟩ ?_
        rintro w0 ⟨q0, q1, p0, p1, qs, ps, qf0, qf1, hw0⟩
        try simp only [Act.put, List.setIfInBounds_toArray, List.set_cons_zero, List.set_cons_succ]
        iterate 3
          apply sch_firm rfl rfl (by repeat (first | with_reducible exact Within.refl _ | with_reducible assumption | with_reducible refine Within.alloc ?_ _ | with_reducible refine Within.drew ?_ | with_reducible refine Within.drewN ?_ _ | with_reducible refine Within.setCell ?_ (by first | (simp; done) | (simp; omega)) _ | with_reducible refine Within.trans ?_ (by assumption)))
          · intro wq hq
            have hcq := hq.cells
            clear hq
            go_simp
            rfl
          try simp only [Act.put, List.setIfInBounds_toArray, List.set_cons_zero, List.set_cons_succ]
        refine sch_one rfl rfl (fun K hK => ?_)
        go_simp
        refine hK _ _ (fun h => absurd h (by decide)) ?_
        clear hK K
        try simp only [Act.put, List.setIfInBounds_toArray, List.set_cons_zero, List.set_cons_succ]
        refine sch_nil ?_
        go_wp2
        have hX : Within w w0 := HA1.out.trans (HIN.out.trans hw0)
        have hK9 : But w.heap.size w0 (((w0.setCell ⟨w.heap.size, 0, none⟩ (.int .i64 (y : Int))).setCell ⟨w.heap.size, 1, none⟩ (.int .i64 (a : Int))).drew) := (((But.refl w.heap.size w0).set (.inl rfl) _).set (.inl rfl) _).drew
        have hI9 : Within w (((w0.setCell ⟨w.heap.size, 0, none⟩ (.int .i64 (y : Int))).setCell ⟨w.heap.size, 1, none⟩ (.int .i64 (a : Int))).drew) := (((hX.setCell (Nat.le_refl _) _).setCell (Nat.le_refl _) _).drew)
        have hL9 := (HPI.out.of hw0).keep (w' := ((w0.setCell ⟨w.heap.size, 0, none⟩ (.int .i64 (y : Int))).setCell ⟨w.heap.size, 1, none⟩ (.int .i64 (a : Int))).drew) (fun j hj hl => hK9.block j hl (fun e => by have h1 := Option.some.inj e; have h2 := HA1.out.size; have h3 := hj.1; omega))
        have hL8 := hL9.mono (T := fun j => w.heap.size ≤ j ∧ j < (((w0.setCell ⟨w.heap.size, 0, none⟩ (.int .i64 (y : Int))).setCell ⟨w.heap.size, 1, none⟩ (.int .i64 (a : Int))).drew).heap.size) (fun j hj => ⟨Nat.le_trans HA1.out.size hj.1, Nat.lt_of_lt_of_le hj.2 (Nat.le_trans hw0.size hK9.size)⟩)
        refine bodyPost_ret (v := .tuple #[.pointer (some ⟨xb, 0, none⟩), .agg #[.int .i64 (y : Int), .int .i64 (a : Int)]]) (by simp [results, Tryz.results13, go_sem, q0, q1, qf0, qf1, qs]) rfl (.inr ⟨HM.out, xb, rfl, hL8, hI9⟩)
end Go.Proofs.YtpmjlaiafgbjgaaGreatDoor
end

section
namespace Go.Proofs.YtpmjlaiafgbjgaaGreatDoor
open Go.RowKit
structure RlogS (w : World) (S : Nat → Prop) (yb : Nat) (rs : List Rec) : Prop where
  at_ : S yb
  firm : w.frozen? ⟨yb, 0, none⟩ = false
  rows : ∃ (ps : List (IRec × Value)) (lv : Value), ps.map Prod.fst = rs.map Rec.i ∧ w.cell? ⟨yb, 0, none⟩ = some lv ∧ RecP w 0 lv ps ∧ ∀ j, (lv.ownBlock = some j ∨ ∃ p ∈ ps, p.2.ownBlock = some j) → S j ∧ j ≠ yb
theorem RlogS.lt {w : World} {S : Nat → Prop} {yb : Nat} {rs : List Rec} (h : RlogS w S yb rs) : yb < w.heap.size := by
  obtain ⟨_, _, ps, lv, _, h1, _⟩ := h
  exact World.block_lt_of_cell? _ _ h1
theorem RlogS.keep {w w' : World} {S : Nat → Prop} {yb : Nat} {rs : List Rec} (h : RlogS w S yb rs) (k : ∀ j, S j → j < w.heap.size → w'.heap[j]? = w.heap[j]?) : RlogS w' S yb rs := by
  have hl := h.lt
  obtain ⟨h0, h1, ps, lv, a1, a2, a3, a4⟩ := h
  have hx := k yb h0 hl
  exact ⟨h0, (World.frozen?_of_block hx).trans h1, ps, lv, a1, (World.cell?_of_block hx).trans a2, a3.keep (fun j hj => k j (a4 j (.inl hj)).1 (a3.1.lt j hj).2) (fun p hp j hj => k j (a4 j (.inr ⟨p, hp, hj⟩)).1 ((a3.2 p hp).1.lt j hj).2), a4⟩
theorem RlogS.of {w w' : World} {S : Nat → Prop} {yb : Nat} {rs : List Rec} (h : RlogS w S yb rs) (k : Within w w') : RlogS w' S yb rs := h.keep fun j _ hj => k.block j hj
theorem RlogS.butS {w w' : World} {S T : Nat → Prop} {yb : Nat} {rs : List Rec} (h : RlogS w S yb rs) (k : ButS T w w') (hd : ∀ j, S j → j < w.heap.size → ¬ T j) : RlogS w' S yb rs := h.keep fun j hj hl => k.block j hl (hd j hj hl)
theorem RlogS.mono {w : World} {S T : Nat → Prop} {yb : Nat} {rs : List Rec} (h : RlogS w S yb rs) (k : ∀ j, S j → T j) : RlogS w T yb rs := by
  obtain ⟨h0, h1, ps, lv, a1, a2, a3, a4⟩ := h
  exact ⟨k _ h0, h1, ps, lv, a1, a2, a3, fun j hj => ⟨k _ (a4 j hj).1, (a4 j hj).2⟩⟩
theorem RlogS.list {w : World} {S : Nat → Prop} {yb : Nat} {rs : List Rec} (h : RlogS w S yb rs) : ∃ A c, w.cell? ⟨yb, 0, none⟩ = some (.slice A rs.length c) ∧ rs.length ≤ c ∧ RecB w A (rs.map Rec.i) ∧ RecAt w (fun _ => True) A (rs.map Rec.i) := by
  obtain ⟨h0, h1, ps, lv, a1, a2, a3, a4⟩ := h
  obtain ⟨A, c, rfl, hc, hB, _, h7⟩ := RecsO.at (rs := rs.map Rec.i) ⟨ps, a1, a3⟩
  rw [List.length_map] at hc a2
  exact ⟨A, c, a2, hc, hB, h7.weak fun _ _ => trivial⟩
theorem whyV_not1 (b : List Nat) (n last : Nat) : whyV pf b n last ≠ 1 := by
  unfold whyV
  repeat (first | decide | split)
theorem readV_not1 : ∀ (k : Nat) (b : List Nat) (n last : Nat), b.length ≤ k → (readV pf b n last).2.1 ≠ 1
  | 0, b, n, last, hk => by
    obtain rfl := List.eq_nil_of_length_eq_zero (Nat.le_zero.1 hk)
    rw [readV_nil]; show (0 : Nat) ≠ 1; decide
  | k + 1, b, n, last, hk => by
    by_cases h0 : b = []
    · subst h0; rw [readV_nil]; show (0 : Nat) ≠ 1; decide
    by_cases h : whyV pf b n last = 0
    · rw [readV_rec h]
      refine readV_not1 k _ _ _ ?_
      have hl : 0 < b.length := List.length_pos_iff.2 h0
      rw [List.length_drop]
      have : 13 ≤ endV b := by unfold endV; omega
      omega
    · rw [readV_why h0 h]
      exact whyV_not1 b n last
set_option maxRecDepth 100000 in
set_option maxHeartbeats 1000000 in
theorem Rbytes_log (S : Nat → Prop) (yb : Nat) (rs : List Rec) (hok : ∀ q ∈ rs, q.Ok pf) (hle : rs.length ≤ 1048576) (w : World) (hP : RlogS w S yb rs) : Calls Tryz.prog 42 #[.pointer (some ⟨yb, 0, none⟩)] w fun e w' => ∃ v, e = .returned v ∧ OwnB w' w.heap.size v (logV rs) ∧ Within w w' := by
  obtain ⟨A, c, h1, hc, hRB, _⟩ := hP.list
  have hyb := hP.lt
  have HRB := Lib.hid hRB; clear hRB hP
  obtain ⟨n, hn⟩ : ∃ n, rs.length = n := ⟨_, rfl⟩
  rw [hn] at h1 hc hle
  have HN := Lib.hid hn; clear hn
  have HOK := Lib.hid hok; clear hok
  go_enter Tryz.func42, Tryz.ntmps42
  go_wp2_with fail
  refine (Magic_any w).mono ?_; rintro e1 w1 ⟨v1, rfl, hO1, hw1⟩
  obtain ⟨A1, c1, rfl, _, _, _⟩ := hO1.form
  have HO1 := Lib.hid hO1; clear hO1
  go_wp2_with fail
  refine (start_any _).mono ?_; rintro e2 w2 ⟨rfl, hw2⟩
  have HW2 := Lib.hid (hw1.trans hw2)
  have HO2 := Lib.hid (HO1.out.of hw2)
  clear hw1 hw2 HO1
  go_wp2
  go_loopw [3, 4, 5] (fun bv kv iv wr => ∃ i : Nat, i ≤ n ∧ iv = .int .i64 (i : Int) ∧ kv = .int .u32 (lastV (rs.take i) 0 startV : Int) ∧ OwnB wr w.heap.size bv (logV (rs.take i)) ∧ Within w wr) (fun _ _ iv _ => n - (intOf iv).toNat)
  case atStart => exact ⟨0, by omega, rfl, rfl, HO2.out, HW2.out⟩
  case round =>
    obtain ⟨i, hi, rfl, rfl, hO, hin⟩ := hrel
    have h1' := (hin.cells _ _ hyb).trans h1
    have hyb' := Nat.lt_of_lt_of_le hyb hin.size
    by_cases hlt : i < n
    · have hlt' : i < rs.length := by rw [HN.out]; exact hlt
      obtain ⟨r, hr⟩ : ∃ r, rs[i]? = some r := ⟨_, List.getElem?_eq_getElem hlt'⟩
      obtain ⟨g, Dv, cv, rfl, l1, y0, y1, hcv', hs1', _⟩ := (HRB.out.of hin) i r.i (by rw [List.getElem?_map, hr]; rfl)
      have x0 : wr.cell? ⟨g, i * 2, none⟩ = some (.int .i64 (r.kind : Int)) := y0
      have x1 : wr.cell? ⟨g, i * 2 + 1, none⟩ = some (.slice Dv r.data.length cv) := y1
      have hs1 : SlAt wr Dv (u8v r.data) := hs1'; clear y0 y1 hs1'
      have hmr : r.Ok pf := HOK.out r (List.mem_of_getElem? hr)
      obtain ⟨hk1, hk2, hk3⟩ := hmr.parts
      have hll := lastV_lt (rs.take i) 0 startV (fun q hq => HOK.out q (List.mem_of_mem_take hq)) startV_lt
      have LY := Lib.hid (Rlay_any r i (lastV (rs.take i) 0 startV) Dv cv (by omega) (by omega) hll hk3 hmr.bytes wr hs1)
      have hsn := take_snoc hr
      have hlen2 := logV_le (l := rs.take (i + 1)) (fun q hq => (HOK.out q (List.mem_of_mem_take hq)).parts.2.2) (by rw [List.length_take]; omega)
      have hlog : logV (rs.take (i + 1)) = logV (rs.take i) ++ layV r i (lastV (rs.take i) 0 startV) := by rw [← hsn, logV_snoc, List.length_take, Nat.min_eq_left (by omega)]
      have hlast : lastV (rs.take (i + 1)) 0 startV = nextV r i (lastV (rs.take i) 0 startV) := by rw [← hsn, lastV_snoc, List.length_take, Nat.min_eq_left (by omega), Nat.zero_add]
      rw [hlog, List.length_append] at hlen2
      obtain ⟨k, hk⟩ : ∃ k, lastV (rs.take i) 0 startV = k := ⟨_, rfl⟩
      rw [hk] at LY hlen2 hlog hlast ⊢
      clear hll hk
      obtain ⟨LT, hLT⟩ : ∃ x, layV r i k = x := ⟨_, rfl⟩
      rw [hLT] at LY hlen2 hlog
      clear hLT
      obtain ⟨nx, hnx⟩ : ∃ x, nextV r i k = x := ⟨_, rfl⟩
      rw [hnx] at LY hlast
      clear hnx
      obtain ⟨nd, hnd⟩ : ∃ n, r.data.length = n := ⟨_, rfl⟩
      obtain ⟨kd, hkd⟩ : ∃ n, r.kind = n := ⟨_, rfl⟩
      rw [hnd, hkd] at LY
      rw [hnd] at x1
      rw [hkd] at x0
      obtain ⟨Ao, co, rfl, _, _, _⟩ := hO.form
      have b1 : (i : Int) < (n : Int) := by omega
      have HIN := Lib.hid hin; have HO := Lib.hid hO; have HLG := Lib.hid hlog; have HLS := Lib.hid hlast; have HL2 := Lib.hid hlen2; clear hin hO hlog hlast hs1 hr hmr hcv' hsn hnd hkd hk1 hk2 hk3 hlen2 hlt'
      obtain ⟨m, hm⟩ : ∃ m, (logV (rs.take i)).length = m := ⟨_, rfl⟩
      have HM := Lib.hid hm; rw [hm]; clear hm
      go_wp2_with fail
      refine LY.out.mono ?_; rintro e3 w3 ⟨v3, rfl, hO3, h3⟩
      obtain ⟨A3, c3, rfl, _, hs3, _⟩ := hO3.form
      obtain ⟨v4, w4, hrun, hO4, hB4⟩ := run_app_u8 w3 w.heap.size (.slice Ao (logV (rs.take i)).length co) (logV (rs.take i)) LT (HO.out.of h3) A3 c3 hs3 (by have := HL2.out; omega) (Nat.le_trans HIN.out.size h3.size)
      rw [HM.out] at hrun
      have hX4 : Within w w4 := Below.trans (HIN.out.trans h3) hB4
      rw [← HLG.out] at hO4
      have RUN := Lib.hid hrun; have HO4 := Lib.hid hO4; have HX4 := Lib.hid hX4; clear hrun hO4 hX4 hB4 hO3 hs3
      obtain ⟨A4, c4, rfl, _, _, _⟩ := HO4.out.form
      obtain ⟨lt, hlt4⟩ : ∃ m, LT.length = m := ⟨_, rfl⟩
      rw [hlt4] at RUN ⊢
      clear hlt4
      go_wp2_with (at_builtin; refine wpList_append_run rfl (.tmp 32) (.tmp 33) 28 rfl _ _ rfl rfl RUN.out ?_)
      go_roundw
      case rel => exact ⟨i + 1, hlt, by go_num, by rw [HLS.out], HO4.out, HX4.out⟩
      case measure => simp [intOf]; omega
    · obtain rfl : i = n := by omega
      rw [← HN.out, List.take_length] at hO
      obtain ⟨Ao, co, rfl, _, _, _⟩ := hO.form
      have HO := Lib.hid hO; have HIN := Lib.hid hin; clear hO hin
      go_wp2
      go_ret
      exact ⟨_, rfl, HO.out, HIN.out⟩
set_option maxRecDepth 100000 in
set_option maxHeartbeats 1000000 in
theorem Ropen_any (A : Option Addr) (c : Nat) (b : List Nat) (hb : Bytes b) (hlen : b.length ≤ 140737488355328) (hc : b.length ≤ c) (w : World) (hr : SlAt w A (u8v b)) : Calls Tryz.prog 20 #[.slice A b.length c] w fun e w' => (b.take 8 ≠ magicV ∧ e = .returned (.tuple #[.pointer none, .agg #[.int .i64 1, .int .i64 0]]) ∧ Within w w') ∨ (b.take 8 = magicV ∧ ∃ yb, e = .returned (.tuple #[.pointer (some ⟨yb, 0, none⟩), .agg #[.int .i64 ((logRead b).2.1 : Int), .int .i64 ((logRead b).2.2 : Int)]]) ∧ RlogS w' (fun j => w.heap.size ≤ j ∧ j < w'.heap.size) yb (logRead b).1 ∧ Within w w') := by
  have RDA := Lib.hid (Rread_any A c b hb hlen hc (w.alloc (.cells #[.int .i64 0, .int .i64 0] 42)) (hr.of ((Within.refl w).alloc _)))
  clear hb hr
  go_enter Tryz.func20, Tryz.ntmps20
  go_wp2_with fail
  refine RDA.out.mono ?_; rintro e1 w1 ⟨lv, rfl, hL, h1⟩
  clear RDA
  obtain ⟨⟨rs, y, a⟩, hlr⟩ : ∃ t, logRead b = t := ⟨_, rfl⟩
  rw [hlr] at hL ⊢
  have HLR := Lib.hid hlr
  have hL : RecsO w1 (w.alloc (.cells #[.int .i64 0, .int .i64 0] 42)).heap.size lv (rs.map Rec.i) := hL
  obtain ⟨Al, cl, rfl, _, _, _, _⟩ := hL.at
  rw [List.length_map] at hL ⊢
  have HL := Lib.hid hL; clear hL
  have hWT : Within w (w.alloc (.cells #[.int .i64 0, .int .i64 0] 42)) := (Within.refl w).alloc _
  have q0 : w1.cell? ⟨w.heap.size, 0, none⟩ = some (.int .i64 0) := (h1.cells _ _ (by simp)).trans (by simp)
  have q1 : w1.cell? ⟨w.heap.size, 1, none⟩ = some (.int .i64 0) := (h1.cells _ _ (by simp)).trans (by simp)
  have qf0 : w1.frozen? ⟨w.heap.size, 0, none⟩ = false := (h1.frozens _ _ (by simp)).trans (by simp)
  have qf1 : w1.frozen? ⟨w.heap.size, 1, none⟩ = false := (h1.frozens _ _ (by simp)).trans (by simp)
  have qs : w.heap.size < w1.heap.size := Nat.lt_of_lt_of_le (by simp) h1.size
  have H1 := Lib.hid h1; clear h1
  by_cases hm : b.take 8 = magicV
  · have hy : ¬ y = 1 := fun e => by rw [logRead_yes hm] at hlr; have := congrArg (fun t => t.2.1) hlr; rw [e] at this; exact readV_not1 _ _ _ _ (Nat.le_refl _) this
    have hy1 : ((y : Int) == 1) = false := by rw [beq_eq_false_iff_ne]; omega
    have HM := Lib.hid hm; clear hm hlr hy
    go_wp2
    obtain ⟨W1, hW1⟩ : ∃ W1, W1 = w1.alloc (.cells #[.int .i64 (y : Int), .int .i64 (a : Int)] 42) := ⟨_, rfl⟩
    have hA : Within w1 W1 := by rw [hW1]; exact (Within.refl w1).alloc _
    have p0 : W1.cell? ⟨w1.heap.size, 0, none⟩ = some (.int .i64 (y : Int)) := by rw [hW1]; simp
    have p1 : W1.cell? ⟨w1.heap.size, 1, none⟩ = some (.int .i64 (a : Int)) := by rw [hW1]; simp
    have ps : w1.heap.size < W1.heap.size := by rw [hW1]; simp
    have qne : ¬ w.heap.size = w1.heap.size := by omega
    have q0 := (hA.cells _ 0 qs).trans q0
    have q1 := (hA.cells _ 1 qs).trans q1
    have qf0 := (hA.frozens _ 0 qs).trans qf0
    have qf1 := (hA.frozens _ 1 qs).trans qf1
    have qs := Nat.lt_of_lt_of_le qs hA.size
    rw [← hW1]
    clear hW1
    refine wp_region_schG (fun W => W.cell? ⟨w.heap.size, 0, none⟩ = some (.int .i64 0) ∧ W.cell? ⟨w.heap.size, 1, none⟩ = some (.int .i64 0) ∧ W.cell? ⟨w1.heap.size, 0, none⟩ = some (.int .i64 (y : Int)) ∧ W.cell? ⟨w1.heap.size, 1, none⟩ = some (.int .i64 (a : Int)) ∧ w.heap.size < W.heap.size ∧ w1.heap.size < W.heap.size ∧ W.frozen? ⟨w.heap.size, 0, none⟩ = false ∧ W.frozen? ⟨w.heap.size, 1, none⟩ = false ∧ Within W1 W) 5 (.firm 0 (.firm 1 (.firm 3 (.one 2 (.firm 4 (.one 5 .nil)))))) (by kernel_rfl) (by kernel_rfl) ⟨q0, q1, p0, p1, qs, ps, qf0, qf1, Within.refl _⟩ ?_
    rintro w0 ⟨q0, q1, p0, p1, qs, ps, qf0, qf1, hw0⟩
    try simp only [Act.put, List.setIfInBounds_toArray, List.set_cons_zero, List.set_cons_succ]
    iterate 3
      apply sch_firm rfl rfl (by repeat (first | with_reducible exact Within.refl _ | with_reducible assumption | with_reducible refine Within.alloc ?_ _ | with_reducible refine Within.drew ?_ | with_reducible refine Within.drewN ?_ _ | with_reducible refine Within.setCell ?_ (by first | (simp; done) | (simp; omega)) _ | with_reducible refine Within.trans ?_ (by assumption)))
      · intro wq hq
        have hcq := hq.cells
        clear hq
        go_simp
        rfl
      try simp only [Act.put, List.setIfInBounds_toArray, List.set_cons_zero, List.set_cons_succ]
    refine sch_one rfl rfl (fun K hK => ?_)
    go_simp
    refine hK _ _ (fun _ => (by repeat (first | with_reducible exact Within.refl _ | with_reducible assumption | with_reducible refine Within.alloc ?_ _ | with_reducible refine Within.drew ?_ | with_reducible refine Within.drewN ?_ _ | with_reducible refine Within.setCell ?_ (by first | (simp; done) | (simp; omega)) _ | with_reducible refine Within.trans ?_ (by assumption)))) ?_
    clear hK K
    try simp only [Act.put, List.setIfInBounds_toArray, List.set_cons_zero, List.set_cons_succ]
    apply sch_firm rfl rfl (by repeat (first | with_reducible exact Within.refl _ | with_reducible assumption | with_reducible refine Within.alloc ?_ _ | with_reducible refine Within.drew ?_ | with_reducible refine Within.drewN ?_ _ | with_reducible refine Within.setCell ?_ (by first | (simp; done) | (simp; omega)) _ | with_reducible refine Within.trans ?_ (by assumption)))
    · intro wq hq
      have hcq := hq.cells
      clear hq
      go_simp
      rfl
    try simp only [Act.put, List.setIfInBounds_toArray, List.set_cons_zero, List.set_cons_succ]
    refine sch_one rfl rfl (fun K hK => ?_)
    go_simp
    refine hK _ _ (fun h => absurd h (by decide)) ?_
    clear hK K
    try simp only [Act.put, List.setIfInBounds_toArray, List.set_cons_zero, List.set_cons_succ]
    refine sch_nil ?_
    go_wp2
    have hX : Within w w0 := Within.trans ((Within.refl w).alloc _) (H1.out.trans (hA.trans hw0))
    obtain ⟨W8, hW8⟩ : ∃ W8, W8 = ((w0.setCell ⟨w.heap.size, 0, none⟩ (.int .i64 (y : Int))).setCell ⟨w.heap.size, 1, none⟩ (.int .i64 (a : Int))) := ⟨_, rfl⟩
    have hK8 : But w.heap.size w0 W8 := by rw [hW8]; exact ((But.refl w.heap.size w0).set (.inl rfl) _).set (.inl rfl) _
    have hI8 : Within w W8 := by rw [hW8]; exact (hX.setCell (Nat.le_refl _) _).setCell (Nat.le_refl _) _
    have hs8 : W8.heap.size = w0.heap.size := by rw [hW8]; simp [World.setCell]
    have hL8 := (HL.out.of (hA.trans hw0)).keep (w' := W8) (fun j hj hl => hK8.block j hl (fun e => by have := Option.some.inj e; simp at hj; omega))
    obtain ⟨W9, hW9⟩ : ∃ W9, W9 = (W8.alloc (.cells #[.slice Al rs.length cl] 77)).drew := ⟨_, rfl⟩
    have hI89 : Within W8 W9 := by rw [hW9]; exact ((Within.refl W8).alloc _).drew
    have hL9 := hL8.of hI89
    have hyb : W9.cell? ⟨w0.heap.size, 0, none⟩ = some (.slice Al rs.length cl) := by rw [hW9, ← hs8]; simp
    have hyf : W9.frozen? ⟨w0.heap.size, 0, none⟩ = false := by rw [hW9, ← hs8]; simp
    have hys : w0.heap.size < W9.heap.size := World.block_lt_of_cell? _ _ hyb
    rw [← hW8, ← hW9]
    obtain ⟨pl, hpl, hRP⟩ := hL9
    have hLOG : RlogS W9 (fun j => w.heap.size ≤ j ∧ j < W9.heap.size) w0.heap.size rs := by
      obtain ⟨ql, hql, hRP8⟩ := hL8
      have lt8 : ∀ j, ((Value.slice Al rs.length cl).ownBlock = some j ∨ ∃ p ∈ ql, p.2.ownBlock = some j) → w.heap.size ≤ j ∧ j < w0.heap.size := fun j hj => by
        rcases hj with hj | ⟨p, hp, hj⟩
        · have := hRP8.1.lt j hj; simp at this; omega
        · have := (hRP8.2 p hp).1.lt j hj; simp at this; omega
      refine ⟨⟨hX.size, hys⟩, hyf, ql, _, hql, hyb, ⟨owns_lessN (ownsRow_keep hRP8.1 (fun j hj => hI89.block j (hRP8.1.lt j hj).2)) (Nat.zero_le _), fun p hp => ⟨((hRP8.2 p hp).1.of hI89).less (Nat.zero_le _), (hRP8.2 p hp).2⟩⟩, fun j hj => ?_⟩
      have := lt8 j hj
      exact ⟨⟨this.1, by omega⟩, by omega⟩
    have hI9 : Within w W9 := hI8.trans hI89
    have c0 : W9.cell? ⟨w.heap.size, 0, none⟩ = some (.int .i64 (y : Int)) := (hI89.cells _ _ (by rw [hs8]; exact qs)).trans (by rw [hW8, World.cell?_setCell_other _ _ _ _ (by simp)]; exact World.cell?_setCell_same _ _ _ q0)
    have c1 : W9.cell? ⟨w.heap.size, 1, none⟩ = some (.int .i64 (a : Int)) := (hI89.cells _ _ (by rw [hs8]; exact qs)).trans (by rw [hW8]; exact World.cell?_setCell_same _ _ _ ((World.cell?_setCell_other _ _ _ _ (by simp)).trans q1))
    refine bodyPost_ret (v := .tuple #[.pointer (some ⟨w0.heap.size, 0, none⟩), .agg #[.int .i64 (y : Int), .int .i64 (a : Int)]]) (by simp [results, Tryz.results20, go_sem, c0, c1]) rfl (.inr ⟨HM.out, w0.heap.size, by rw [HLR.out], by rw [HLR.out]; exact hLOG, hI9⟩)
  · obtain ⟨rfl, rfl, rfl⟩ : rs = [] ∧ y = 1 ∧ a = 0 := by rw [logRead_no hm] at hlr; simp only [Prod.mk.injEq] at hlr; exact ⟨hlr.1.symm, hlr.2.1.symm, hlr.2.2.symm⟩
    have HM := Lib.hid hm; clear hm hlr
    go_wp2
    obtain ⟨W1, hW1⟩ : ∃ W1, W1 = w1.alloc (.cells #[.int .i64 1, .int .i64 0] 42) := ⟨_, rfl⟩
    have hA : Within w1 W1 := by rw [hW1]; exact (Within.refl w1).alloc _
    have p0 : W1.cell? ⟨w1.heap.size, 0, none⟩ = some (.int .i64 1) := by rw [hW1]; simp
    have p1 : W1.cell? ⟨w1.heap.size, 1, none⟩ = some (.int .i64 0) := by rw [hW1]; simp
    have ps : w1.heap.size < W1.heap.size := by rw [hW1]; simp
    have qne : ¬ w.heap.size = w1.heap.size := by omega
    have q0 := (hA.cells _ 0 qs).trans q0
    have q1 := (hA.cells _ 1 qs).trans q1
    have qf0 := (hA.frozens _ 0 qs).trans qf0
    have qf1 := (hA.frozens _ 1 qs).trans qf1
    have qs := Nat.lt_of_lt_of_le qs hA.size
    rw [← hW1]
    clear hW1
    refine wp_region_schG (fun W => W.cell? ⟨w.heap.size, 0, none⟩ = some (.int .i64 0) ∧ W.cell? ⟨w.heap.size, 1, none⟩ = some (.int .i64 0) ∧ W.cell? ⟨w1.heap.size, 0, none⟩ = some (.int .i64 1) ∧ W.cell? ⟨w1.heap.size, 1, none⟩ = some (.int .i64 0) ∧ w.heap.size < W.heap.size ∧ w1.heap.size < W.heap.size ∧ W.frozen? ⟨w.heap.size, 0, none⟩ = false ∧ W.frozen? ⟨w.heap.size, 1, none⟩ = false ∧ Within W1 W) 2 (.firm 0 (.firm 1 (.one 2 .nil))) (by kernel_rfl) (by kernel_rfl) ⟨q0, q1, p0, p1, qs, ps, qf0, qf1, Within.refl _⟩ ?_
    rintro w0 ⟨q0, q1, p0, p1, qs, ps, qf0, qf1, hw0⟩
    try simp only [Act.put, List.setIfInBounds_toArray, List.set_cons_zero, List.set_cons_succ]
    iterate 2
      apply sch_firm rfl rfl (by repeat (first | with_reducible exact Within.refl _ | with_reducible assumption | with_reducible refine Within.alloc ?_ _ | with_reducible refine Within.drew ?_ | with_reducible refine Within.drewN ?_ _ | with_reducible refine Within.setCell ?_ (by first | (simp; done) | (simp; omega)) _ | with_reducible refine Within.trans ?_ (by assumption)))
      · intro wq hq
        have hcq := hq.cells
        clear hq
        go_simp
        rfl
      try simp only [Act.put, List.setIfInBounds_toArray, List.set_cons_zero, List.set_cons_succ]
    refine sch_one rfl rfl (fun K hK => ?_)
    go_simp
    refine hK _ _ (fun h => absurd h (by decide)) ?_
    clear hK K
    try simp only [Act.put, List.setIfInBounds_toArray, List.set_cons_zero, List.set_cons_succ]
    refine sch_nil ?_
    go_wp2
    have hX : Within w w0 := Within.trans ((Within.refl w).alloc _) (H1.out.trans (hA.trans hw0))
    have hK9 : But w.heap.size w0 (((w0.setCell ⟨w.heap.size, 0, none⟩ (.int .i64 1)).setCell ⟨w.heap.size, 1, none⟩ (.int .i64 0)).drew) := (((But.refl w.heap.size w0).set (.inl rfl) _).set (.inl rfl) _).drew
    have hI9 : Within w (((w0.setCell ⟨w.heap.size, 0, none⟩ (.int .i64 1)).setCell ⟨w.heap.size, 1, none⟩ (.int .i64 0)).drew) := (((hX.setCell (Nat.le_refl _) _).setCell (Nat.le_refl _) _).drew)
    refine bodyPost_ret (v := .tuple #[.pointer none, .agg #[.int .i64 1, .int .i64 0]]) (by simp [results, Tryz.results20, go_sem, q0, q1, qf0, qf1, qs]) rfl (.inl ⟨HM.out, rfl, hI9⟩)
end Go.Proofs.YtpmjlaiafgbjgaaGreatDoor
end

section
namespace Go.Proofs.YtpmjlaiafgbjgaaGreatDoor
open Go.RowKit
def RecG (w : World) (A : Option Addr) (rs : List IRec) : Prop := ∀ (i : Nat) r, rs[i]? = some r → ∃ ad Dv cv, A = some ad ∧ ad.block < w.heap.size ∧ w.cell? (ad.add (i * 2)) = some (.int .i64 r.1) ∧ w.cell? ⟨(ad.add (i * 2)).block, (ad.add (i * 2)).off + 1, none⟩ = some (.slice Dv r.2.length cv) ∧ r.2.length ≤ cv ∧ SlAt w Dv (u8v r.2)
theorem RecG.of {w w' : World} {A : Option Addr} {rs : List IRec} (h : RecG w A rs) (k : Within w w') : RecG w' A rs := fun i r hi => by
  obtain ⟨ad, Dv, cv, h1, h2, h3, h4, h5, h6⟩ := h i r hi
  exact ⟨ad, Dv, cv, h1, Nat.lt_of_lt_of_le h2 k.size, (k.cell (p := ad.add (i * 2)) (by rw [add_block]; exact h2)).trans h3, (k.cell (p := ⟨(ad.add (i * 2)).block, (ad.add (i * 2)).off + 1, none⟩) (by rw [add_block]; exact h2)).trans h4, h5, h6.of k⟩
theorem RecAt.g {w : World} {D : Nat → Prop} {A : Option Addr} {ls : List IRec} (h : RecAt w D A ls) : RecG w A ls := fun i r hi => by
  obtain ⟨ad, Dv, cv, h1, h2, h3, h4, h5, h6, _⟩ := h.cells hi
  exact ⟨ad, Dv, cv, h1, h2, h3, h4, h5, h6⟩
theorem RecB.g {w : World} {A : Option Addr} {ls : List IRec} (h : RecB w A ls) : RecG w A ls := fun i r hi => by
  obtain ⟨g, Dv, cv, h1, h2, h3, h4, h5, h6, _⟩ := h i r hi
  refine ⟨⟨g, 0, none⟩, Dv, cv, h1, h2, ?_, ?_, h5, h6⟩
  · rw [add_at]; exact h3
  · rw [add_at]; exact h4
theorem RecG.drop {w : World} {ad : Addr} {rs : List IRec} (h : RecG w (some ad) rs) (k : Nat) : RecG w (some (ad.add (k * 2))) (rs.drop k) := fun i r hi => by
  rw [List.getElem?_drop] at hi
  obtain ⟨ad', Dv, cv, h1, h2, h3, h4, h5, h6⟩ := h _ _ hi
  obtain rfl := Option.some.inj h1
  have e : (ad.add (k * 2)).add (i * 2) = ad.add ((k + i) * 2) := by rw [add_add]; congr 1; omega
  exact ⟨_, Dv, cv, rfl, by rw [add_block]; exact h2, by rw [e]; exact h3, by rw [e]; exact h4, h5, h6⟩
theorem RecG.take {w : World} {A : Option Addr} {rs : List IRec} (h : RecG w A rs) (k : Nat) : RecG w A (rs.take k) := fun i r hi => by
  rw [List.getElem?_take] at hi
  split at hi
  · exact h _ _ hi
  · cases hi
theorem RecG.nil {w : World} {A : Option Addr} : RecG w A [] := fun i r h => by simp at h
theorem RecG.one (w : World) (r : IRec) (Dv : Option Addr) (cv : Nat) (E : TypeId) (hc : r.2.length ≤ cv) (hs : SlAt w Dv (u8v r.2)) : RecG (w.alloc (.cells #[.int .i64 r.1, .slice Dv r.2.length cv] E)) (some ⟨w.heap.size, 0, none⟩) [r] := fun i q hq => by
  match i, hq with
  | 0, hq =>
    obtain rfl : r = q := Option.some.inj hq
    refine ⟨⟨w.heap.size, 0, none⟩, Dv, cv, rfl, by simp, ?_, ?_, hc, hs.of ((Within.refl w).alloc _)⟩
    · rw [add_at]; simp
    · rw [add_at]; simp
  | i + 1, hq => simp at hq
set_option maxRecDepth 100000 in
set_option maxHeartbeats 1000000 in
theorem Rsame22_at (A B : Option Addr) (c d : Nat) (rs : List IRec) (hl : rs.length ≤ 1152921504606846976) (w : World) (h1 : RecG w A rs) (h2 : RecG w B rs) : Calls Tryz.prog 22 #[.slice A rs.length c, .slice B rs.length d] w fun e w' => e = .returned (.bool true) ∧ Within w w' := by
  have H1 := Lib.hid h1; have H2 := Lib.hid h2; clear h1 h2
  go_enter Tryz.func22, Tryz.ntmps22
  go_wp2
  go_loopw [5] (fun iv wr => ∃ i : Nat, i ≤ rs.length ∧ iv = .int .i64 (i : Int) ∧ Within w wr) (fun iv _ => rs.length - (intOf iv).toNat)
  case atStart => exact ⟨0, by omega, rfl, Within.refl w⟩
  case round =>
    obtain ⟨i, hi, rfl, hin⟩ := hrel
    by_cases hlt : i < rs.length
    · have hget : rs[i]? = some rs[i] := List.getElem?_eq_getElem hlt
      obtain ⟨r, hr⟩ : ∃ r, r = rs[i] := ⟨_, rfl⟩
      rw [← hr] at hget
      clear hr
      obtain ⟨ad1, Dv, cv, rfl, l1, x0, x1, _, hs1⟩ := (H1.out.of hin) i r hget
      obtain ⟨ad2, Ev, dv, rfl, l2, y0, y1, _, hs2⟩ := (H2.out.of hin) i r hget
      have HS1 := Lib.hid hs1; have HS2 := Lib.hid hs2; have HIN := Lib.hid hin; clear hs1 hs2 hin hget
      have b1 : (i : Int) < (rs.length : Int) := by omega
      have en : (r.1 != r.1) = false := by simp
      obtain ⟨s, hs⟩ : ∃ s, s = strB r.2 := ⟨_, rfl⟩
      have ST : Hid (∀ W A c, SlAt W A (u8v r.2) → (convert 28 9 (.slice A r.2.length c)).run Tryz.prog W = .ok (.string s) W) := Lib.hid (fun W A c h => by rw [hs]; exact run_str A c r.2 W h)
      have es : (s.toList != s.toList) = false := by simp
      clear hs
      go_wp2_with fail
      refine wp_region_schG (fun W => W.cell? (ad1.add (i * 2)) = some (.int .i64 r.1) ∧ W.cell? ⟨(ad1.add (i * 2)).block, (ad1.add (i * 2)).off + 1, none⟩ = some (.slice Dv r.2.length cv) ∧ W.cell? (ad2.add (i * 2)) = some (.int .i64 r.1) ∧ W.cell? ⟨(ad2.add (i * 2)).block, (ad2.add (i * 2)).off + 1, none⟩ = some (.slice Ev r.2.length dv) ∧ ad1.block < W.heap.size ∧ ad2.block < W.heap.size ∧ SlAt W Dv (u8v r.2) ∧ SlAt W Ev (u8v r.2) ∧ Within w W) 25 (.firm 0 (.firm 1 (.firm 2 (.firm 3 (.firm 4 (.firm 5 (.firm 6 (.firm 7 (.firm 8 (.firm 9 (.firm 10 (.firm 11 (.firm 12 (.firm 13 (.firm 14 (.firm 15 (.firm 16 (.firm 17 (.firm 18 (.firm 19 (.firm 20 (.firm 21 (.firm 22 (.firm 23 (.firm 24 (.one 25 .nil)))))))))))))))))))))))))) (by kernel_rfl) (by kernel_rfl) ⟨x0, x1, y0, y1, l1, l2, HS1.out, HS2.out, HIN.out⟩ ?_
      rintro w0 ⟨k0, k1, m0, m1, lg1, lg2, hsa0, hsb0, hw0⟩
      try simp only [Act.put, List.setIfInBounds_toArray, List.set_cons_zero, List.set_cons_succ]
      iterate 12
        apply sch_firm rfl rfl (by repeat (first | with_reducible exact Within.refl _ | with_reducible assumption | with_reducible refine Within.alloc ?_ _ | with_reducible refine Within.drew ?_ | with_reducible refine Within.drewN ?_ _ | with_reducible refine Within.setCell ?_ (by first | (simp; done) | (simp; omega)) _ | with_reducible refine Within.trans ?_ (by assumption)))
        · intro wq hq
          have hcq := hq.cells
          have st1 := ST.out wq Dv cv (hsa0.of hq)
          have st2 := ST.out wq Ev dv (hsb0.of hq)
          have gx0 := (hq.cell (p := ad1.add (i * 2)) (by rw [add_block]; exact lg1)).trans k0
          have gx1 := (hq.cell (p := ⟨(ad1.add (i * 2)).block, (ad1.add (i * 2)).off + 1, none⟩) (by rw [add_block]; exact lg1)).trans k1
          have gx2 := Nat.lt_of_lt_of_le lg1 hq.size
          have gy0 := (hq.cell (p := ad2.add (i * 2)) (by rw [add_block]; exact lg2)).trans m0
          have gy1 := (hq.cell (p := ⟨(ad2.add (i * 2)).block, (ad2.add (i * 2)).off + 1, none⟩) (by rw [add_block]; exact lg2)).trans m1
          have gy2 := Nat.lt_of_lt_of_le lg2 hq.size
          clear hq
          go_simp
          rfl
        try simp only [Act.put, List.setIfInBounds_toArray, List.set_cons_zero, List.set_cons_succ]
      iterate 13
        apply sch_want rfl (by first | rfl | decide | (simp [Region.wanted, yielded]; done)) (by repeat (first | with_reducible exact Within.refl _ | with_reducible assumption | with_reducible refine Within.alloc ?_ _ | with_reducible refine Within.drew ?_ | with_reducible refine Within.drewN ?_ _ | with_reducible refine Within.setCell ?_ (by first | (simp; done) | (simp; omega)) _ | with_reducible refine Within.trans ?_ (by assumption)))
        · intro wq hq
          have hcq := hq.cells
          have st1 := ST.out wq Dv cv (hsa0.of hq)
          have st2 := ST.out wq Ev dv (hsb0.of hq)
          have gx0 := (hq.cell (p := ad1.add (i * 2)) (by rw [add_block]; exact lg1)).trans k0
          have gx1 := (hq.cell (p := ⟨(ad1.add (i * 2)).block, (ad1.add (i * 2)).off + 1, none⟩) (by rw [add_block]; exact lg1)).trans k1
          have gx2 := Nat.lt_of_lt_of_le lg1 hq.size
          have gy0 := (hq.cell (p := ad2.add (i * 2)) (by rw [add_block]; exact lg2)).trans m0
          have gy1 := (hq.cell (p := ⟨(ad2.add (i * 2)).block, (ad2.add (i * 2)).off + 1, none⟩) (by rw [add_block]; exact lg2)).trans m1
          have gy2 := Nat.lt_of_lt_of_le lg2 hq.size
          clear hq
          go_simp
          rfl
        try simp only [Act.put, List.setIfInBounds_toArray, List.set_cons_zero, List.set_cons_succ]
      refine sch_one rfl rfl (fun K hK => ?_)
      go_simp
      refine hK _ _ (fun h => absurd h (by decide)) ?_
      clear hK K
      try simp only [Act.put, List.setIfInBounds_toArray, List.set_cons_zero, List.set_cons_succ]
      refine sch_nil ?_
      have hw4 : Within w w0.drew := hw0.drew
      clear hw0
      go_wp2
      go_roundw
      case rel => exact ⟨i + 1, hlt, by go_num, hw4⟩
      case measure => simp [intOf]; omega
    · obtain rfl : i = rs.length := by omega
      go_wp2
      go_ret
      exact ⟨rfl, hin⟩
end Go.Proofs.YtpmjlaiafgbjgaaGreatDoor
end

section
namespace Go.Proofs.YtpmjlaiafgbjgaaGreatDoor
open Go.RowKit
set_option maxRecDepth 100000 in
set_option maxHeartbeats 1000000 in
theorem copied_big (k : Int) (A : Option Addr) (c : Nat) (l : List Nat) (hl : l.length ≤ 140737488355328) (w : World) (hr : SlAt w A (u8v l)) : Calls Tryz.prog 8 #[.agg #[.int .i64 k, .slice A l.length c]] w fun e w' => ∃ v, e = .returned (.agg #[.int .i64 k, v]) ∧ OwnB w' w.heap.size v l ∧ Within w w' := by
  obtain ⟨W0, hW0⟩ : ∃ W0, W0 = (w.alloc (.cells #[.int .i64 k, .slice A l.length c] 30)).alloc (.cells #[.int .i64 0, .slice none 0 0] 30) := ⟨_, rfl⟩
  have k0 : W0.cell? ⟨w.heap.size, 0, none⟩ = some (.int .i64 k) := by rw [hW0]; simp
  have k1 : W0.cell? ⟨w.heap.size, 1, none⟩ = some (.slice A l.length c) := by rw [hW0]; simp
  have z0 : W0.cell? ⟨w.heap.size + 1, 0, none⟩ = some (.int .i64 0) := by rw [hW0]; simp
  have z1 : W0.cell? ⟨w.heap.size + 1, 1, none⟩ = some (.slice none 0 0) := by rw [hW0]; simp
  have zf : ∀ o, W0.frozen? ⟨w.heap.size + 1, o, none⟩ = false := fun o => by rw [hW0, show w.heap.size + 1 = (w.alloc (.cells #[.int .i64 k, .slice A l.length c] 30)).heap.size by simp]; exact World.frozen?_alloc_new _ _ _ _
  have kb : w.heap.size < W0.heap.size := by rw [hW0]; simp; omega
  have zb : w.heap.size + 1 < W0.heap.size := by rw [hW0]; simp
  have hww : Within w W0 := by rw [hW0]; exact ((Within.refl w).alloc _).alloc _
  have HWW := Lib.hid hww; have HS := Lib.hid (hr.of hww); clear hww hr
  go_enter Tryz.func8, Tryz.ntmps8
  go_wp2_with fail
  rw [← hW0]
  clear hW0
  refine wp_region_schG (fun W => W.cell? ⟨w.heap.size, 0, none⟩ = some (.int .i64 k) ∧ W.cell? ⟨w.heap.size, 1, none⟩ = some (.slice A l.length c) ∧ (∀ o, W.frozen? ⟨w.heap.size + 1, o, none⟩ = false) ∧ W.cell? ⟨w.heap.size + 1, 0, none⟩ = some (.int .i64 0) ∧ W.cell? ⟨w.heap.size + 1, 1, none⟩ = some (.slice none 0 0) ∧ w.heap.size < W.heap.size ∧ w.heap.size + 1 < W.heap.size ∧ W = W0) 7 (.firm 0 (.firm 1 (.firm 3 (.firm 4 (.one 2 (.one 5 (.firm 6 (.one 7 .nil)))))))) (by kernel_rfl) (by kernel_rfl) ⟨k0, k1, zf, z0, z1, kb, zb, rfl⟩ ?_
  rintro w0 ⟨k0, k1, zf, z0, z1, kb, zb, rfl⟩
  try simp only [Act.put, List.setIfInBounds_toArray, List.set_cons_zero, List.set_cons_succ]
  iterate 4
    apply sch_firm rfl rfl (by repeat (first | with_reducible exact Within.refl _ | with_reducible assumption | with_reducible refine Within.alloc ?_ _ | with_reducible refine Within.drew ?_ | with_reducible refine Within.drewN ?_ _ | with_reducible refine Within.setCell ?_ (by first | (simp; done) | (simp; omega)) _ | with_reducible refine Within.trans ?_ (by assumption)))
    · intro wq hq
      have hcq := hq.cells
      clear hq
      go_simp
      rfl
    try simp only [Act.put, List.setIfInBounds_toArray, List.set_cons_zero, List.set_cons_succ]
  refine sch_one rfl rfl (fun K hK => ?_)
  go_simp
  refine hK _ _ (fun _ => (by repeat (first | with_reducible exact Within.refl _ | with_reducible assumption | with_reducible refine Within.alloc ?_ _ | with_reducible refine Within.drew ?_ | with_reducible refine Within.drewN ?_ _ | with_reducible refine Within.setCell ?_ (by first | (simp; done) | (simp; omega)) _ | with_reducible refine Within.trans ?_ (by assumption)))) ?_
  clear hK K
  try simp only [Act.put, List.setIfInBounds_toArray, List.set_cons_zero, List.set_cons_succ]
  refine sch_one rfl rfl (fun K hK => ?_)
  have hin2 := ((Within.refl w0).drew).alloc (.cells #[] 5)
  obtain ⟨v5, w5, hrun, hO5, hB5⟩ := run_app_u8 _ w0.heap.size _ [] l (OwnB.lit w0.drew w0.heap.size (Nat.le_refl _) [] (by simp)) A c (HS.out.of hin2) (by rw [List.length_nil]; omega) hin2.size
  rw [List.nil_append] at hO5
  have hX5 : Within w0 w5 := Below.trans hin2 hB5
  have RUN := Lib.hid hrun; have HO5 := Lib.hid hO5; clear hrun hO5 hB5 hin2
  refine op_append_run (.tmp 5) (.tmp 7) 28 rfl _ _ rfl rfl RUN.out ?_
  obtain ⟨A5, c5, rfl, hx5, hy5, hz5⟩ := HO5.out.form
  clear hx5 hy5 hz5
  refine hK _ _ (fun _ => (by repeat (first | with_reducible exact Within.refl _ | with_reducible assumption | with_reducible refine Within.alloc ?_ _ | with_reducible refine Within.drew ?_ | with_reducible refine Within.drewN ?_ _ | with_reducible refine Within.setCell ?_ (by first | (simp; done) | (simp; omega)) _ | with_reducible refine Within.trans ?_ (by assumption)))) ?_
  clear hK K
  try simp only [Act.put, List.setIfInBounds_toArray, List.set_cons_zero, List.set_cons_succ]
  apply sch_firm rfl rfl (by repeat (first | with_reducible exact Within.refl _ | with_reducible assumption | with_reducible refine Within.alloc ?_ _ | with_reducible refine Within.drew ?_ | with_reducible refine Within.drewN ?_ _ | with_reducible refine Within.setCell ?_ (by first | (simp; done) | (simp; omega)) _ | with_reducible refine Within.trans ?_ (by assumption)))
  · intro wq hq
    have hcq := hq.cells
    clear hq
    go_simp
    rfl
  try simp only [Act.put, List.setIfInBounds_toArray, List.set_cons_zero, List.set_cons_succ]
  refine sch_one rfl rfl (fun K hK => ?_)
  have f5 : w5.frozen? ⟨w.heap.size + 1, 0, none⟩ = false := (hX5.frozens _ _ zb).trans (zf 0)
  have f6 : w5.frozen? ⟨w.heap.size + 1, 1, none⟩ = false := (hX5.frozens _ _ zb).trans (zf 1)
  have y0 := (hX5.cells _ 0 zb).trans z0
  have y1 := (hX5.cells _ 1 zb).trans z1
  have zb5 := Nat.lt_of_lt_of_le zb hX5.size
  go_simp
  refine hK _ _ (fun h => absurd h (by decide)) ?_
  clear hK K
  try simp only [Act.put, List.setIfInBounds_toArray, List.set_cons_zero, List.set_cons_succ]
  refine sch_nil ?_
  go_wp2
  obtain ⟨n5, hn5⟩ : ∃ n5, n5 = l.length := ⟨_, rfl⟩
  refine bodyPost_ret (v := .agg #[.int .i64 k, .slice A5 l.length c5]) (by simp [results, Tryz.results8, go_sem, y0, y1, f5, f6]) rfl ⟨_, rfl, ?_, ?_⟩
  · exact ownsRow_keep (ownsRow_keep (HO5.out.less HWW.out.size) (fun j hj => Below.heap_setCell _ _ _ _ (by have := (HO5.out.lt j hj).1; simp; omega))) (fun j hj => Below.heap_setCell _ _ _ _ (by have := (HO5.out.lt j hj).1; simp; omega))
  · exact (((HWW.out.trans hX5).setCell (by simp) _).setCell (by simp) _)
end Go.Proofs.YtpmjlaiafgbjgaaGreatDoor
end

section
namespace Go.Proofs.YtpmjlaiafgbjgaaGreatDoor
open Go.RowKit
def toRec (r : IRec) : Rec := ⟨r.1.toNat, r.2⟩
def appendV (rs : List Rec) (r : IRec) : List Rec × Int × Int :=
  if checkR pf r.1 r.2 ≠ 0 then (rs, 0, checkR pf r.1 r.2) else if 1048576 ≤ rs.length then (rs, 0, 2) else (rs ++ [toRec r], (rs.length : Int), 0)
theorem appendV_bad {rs : List Rec} {r : IRec} (h : checkR pf r.1 r.2 ≠ 0) : appendV rs r = (rs, 0, checkR pf r.1 r.2) := if_pos h
theorem appendV_full {rs : List Rec} {r : IRec} (h : checkR pf r.1 r.2 = 0) (h2 : 1048576 ≤ rs.length) : appendV rs r = (rs, 0, 2) := by unfold appendV; rw [if_neg (by rw [h]; decide), if_pos h2]
theorem appendV_good {rs : List Rec} {r : IRec} (h : checkR pf r.1 r.2 = 0) (h2 : rs.length < 1048576) : appendV rs r = (rs ++ [toRec r], (rs.length : Int), 0) := by unfold appendV; rw [if_neg (by rw [h]; decide), if_neg (by omega)]
theorem toRec_ok {r : IRec} (h : checkR pf r.1 r.2 = 0) (hb : Bytes r.2) : ((toRec r).kind : Int) = r.1 ∧ (toRec r).Ok pf := by
  have hk : 1 ≤ r.1 ∧ r.1 ≤ 3 := by
    by_cases h1 : r.1 < 1 ∨ 3 < r.1
    · rw [checkR_kind h1] at h; cases h
    · omega
  have e : ((toRec r).kind : Int) = r.1 := by show ((r.1.toNat : Nat) : Int) = r.1; omega
  exact ⟨e, ⟨by rw [e]; exact h, hb⟩⟩
theorem appendV_ok {rs : List Rec} {r : IRec} (h : ∀ q ∈ rs, q.Ok pf) (hn : rs.length ≤ 1048576) (hb : Bytes r.2) : (∀ q ∈ (appendV rs r).1, q.Ok pf) ∧ (appendV rs r).1.length ≤ 1048576 := by
  by_cases h1 : checkR pf r.1 r.2 = 0
  · by_cases h2 : 1048576 ≤ rs.length
    · rw [appendV_full h1 h2]; exact ⟨h, hn⟩
    · rw [appendV_good h1 (by omega)]
      refine ⟨fun q hq => ?_, by show (rs ++ [toRec r]).length ≤ _; rw [List.length_append]; simp; omega⟩
      rcases List.mem_append.1 hq with hq | hq
      · exact h q hq
      · rw [List.mem_singleton] at hq; rw [hq]; exact (toRec_ok h1 hb).2
  · rw [appendV_bad h1]; exact ⟨h, hn⟩
theorem Append_any (S : Nat → Prop) (xb : Nat) (rs : List Rec) (hok : ∀ q ∈ rs, q.Ok pf) (D : Option Addr) (cd : Nat) (k : Int) (d : List Nat) (hb : Bytes d) (hcd : d.length ≤ cd) (hdl : d.length ≤ 1152921504606846976) (w : World) (hT : FmS w) (hP : LogS w S xb rs) (hr : SlAt w D (u8v d)) : Calls Tryz.prog 9 #[.pointer (some ⟨xb, 0, none⟩), .agg #[.int .i64 k, .slice D d.length cd]] w fun e w' => e = .returned (.tuple #[.int .i64 (appendV rs (k, d)).2.1, .int .i64 (appendV rs (k, d)).2.2]) ∧ LogS w' (More S w w') xb (appendV rs (k, d)).1 ∧ ButS S w w' := by
  by_cases h1 : checkR pf k d = 0
  · by_cases h2 : 1048576 ≤ rs.length
    · rw [appendV_full (r := (k, d)) h1 h2]
      refine (Append_full S xb rs hok D cd d h2 k h1 hb hcd hdl w hT hP hr).mono ?_
      rintro e w' ⟨he, hi⟩
      exact ⟨he, (hP.of hi).mono fun j hj => .inl hj, ButS.in_ hi⟩
    · rw [appendV_good (r := (k, d)) h1 (by omega)]
      obtain ⟨e1, _⟩ := toRec_ok (r := (k, d)) h1 hb
      have e1 : ((k.toNat : Nat) : Int) = k := e1
      have h := Append_good S xb rs hok D cd d (by omega) k.toNat (by rw [e1]; exact h1) hb hcd hdl w hT hP hr
      rw [e1] at h
      exact h
  · rw [appendV_bad (r := (k, d)) h1]
    refine (Append_bad S xb rs hok D cd d k h1 hb hcd hdl w hT hP hr).mono ?_
    rintro e w' ⟨he, hi⟩
    exact ⟨he, (hP.of hi).mono fun j hj => .inl hj, ButS.in_ hi⟩
end Go.Proofs.YtpmjlaiafgbjgaaGreatDoor
end

section
namespace Go.Proofs.YtpmjlaiafgbjgaaGreatDoor
open Go.RowKit
theorem RlogS.fresh (w : World) (E : TypeId) : RlogS (w.alloc (.cells #[.slice none 0 0] E)) (fun j => j = w.heap.size) w.heap.size [] := by
  refine ⟨rfl, by simp, [], .slice none 0 0, rfl, by simp, ⟨World.ownsRow_nil _ _ _ _, fun p hp => by cases hp⟩, fun j hj => ?_⟩
  rcases hj with hj | ⟨p, hp, _⟩
  · cases hj
  · cases hp
set_option maxRecDepth 100000 in
set_option maxHeartbeats 1000000 in
theorem Rappend_bad (S : Nat → Prop) (yb : Nat) (rs : List Rec) (D : Option Addr) (cd : Nat) (d : List Nat) (k : Int) (hbad : checkR pf k d ≠ 0) (hb : Bytes d) (hcd : d.length ≤ cd) (hdl : d.length ≤ 140737488355328) (w : World) (hP : RlogS w S yb rs) (hr : SlAt w D (u8v d)) : Calls Tryz.prog 10 #[.pointer (some ⟨yb, 0, none⟩), .agg #[.int .i64 k, .slice D d.length cd]] w fun e w' => e = .returned (.tuple #[.int .i64 0, .int .i64 (checkR pf k d)]) ∧ Within w w' := by
  have hyb := hP.lt
  obtain ⟨Al, cl, h1, hcl, _⟩ := hP.list
  obtain ⟨W0, hW0⟩ : ∃ W0, W0 = w.alloc (.cells #[.int .i64 k, .slice D d.length cd] 30) := ⟨_, rfl⟩
  have hI0 : Within w W0 := by rw [hW0]; exact (Within.refl w).alloc _
  have z0 : W0.cell? ⟨w.heap.size, 0, none⟩ = some (.int .i64 k) := by rw [hW0]; simp
  have z1 : W0.cell? ⟨w.heap.size, 1, none⟩ = some (.slice D d.length cd) := by rw [hW0]; simp
  have zs : w.heap.size < W0.heap.size := by rw [hW0]; simp
  have q1 := (hI0.cells _ _ hyb).trans h1
  have hyb0 := Nat.lt_of_lt_of_le hyb hI0.size
  have JC := Lib.hid (Rjcheck_any k D cd d hb hcd (by omega) W0 (hr.of hI0))
  obtain ⟨ck, hck⟩ : ∃ ck, checkR pf k d = ck := ⟨_, rfl⟩
  rw [hck] at JC hbad ⊢
  have v1 : (ck != 0) = true := bne_iff_ne.2 hbad
  obtain ⟨n, hn⟩ : ∃ n, rs.length = n := ⟨_, rfl⟩
  rw [hn] at h1 q1 hcl
  obtain ⟨nd, hnd⟩ : ∃ n, d.length = n := ⟨_, rfl⟩
  rw [hnd] at JC hW0 z1 hcd ⊢
  have HI0 := Lib.hid hI0; clear hn hnd hck hP hr hb hdl
  go_enter Tryz.func10, Tryz.ntmps10
  go_wp2_with fail
  rw [← hW0]
  clear hW0
  refine JC.out.mono ?_; rintro e1 w1 ⟨rfl, h2⟩
  go_wp2
  go_ret2
  exact ⟨rfl, HI0.out.trans h2⟩
set_option maxRecDepth 100000 in
set_option maxHeartbeats 1000000 in
theorem Rappend_full (S : Nat → Prop) (yb : Nat) (rs : List Rec) (D : Option Addr) (cd : Nat) (d : List Nat) (hfull : 1048576 ≤ rs.length) (k : Int) (hgood : checkR pf k d = 0) (hb : Bytes d) (hcd : d.length ≤ cd) (hdl : d.length ≤ 140737488355328) (w : World) (hP : RlogS w S yb rs) (hr : SlAt w D (u8v d)) : Calls Tryz.prog 10 #[.pointer (some ⟨yb, 0, none⟩), .agg #[.int .i64 k, .slice D d.length cd]] w fun e w' => e = .returned (.tuple #[.int .i64 0, .int .i64 2]) ∧ Within w w' := by
  have hyb := hP.lt
  obtain ⟨Al, cl, h1, hcl, _⟩ := hP.list
  obtain ⟨W0, hW0⟩ : ∃ W0, W0 = w.alloc (.cells #[.int .i64 k, .slice D d.length cd] 30) := ⟨_, rfl⟩
  have hI0 : Within w W0 := by rw [hW0]; exact (Within.refl w).alloc _
  have z0 : W0.cell? ⟨w.heap.size, 0, none⟩ = some (.int .i64 k) := by rw [hW0]; simp
  have z1 : W0.cell? ⟨w.heap.size, 1, none⟩ = some (.slice D d.length cd) := by rw [hW0]; simp
  have zs : w.heap.size < W0.heap.size := by rw [hW0]; simp
  have q1 := (hI0.cells _ _ hyb).trans h1
  have hyb0 := Nat.lt_of_lt_of_le hyb hI0.size
  have JC := Lib.hid (Rjcheck_any k D cd d hb hcd (by omega) W0 (hr.of hI0))
  rw [hgood] at JC
  have v1 : decide ((1048576 : Int) ≤ (rs.length : Int)) = true := decide_eq_true (by omega)
  obtain ⟨n, hn⟩ : ∃ n, rs.length = n := ⟨_, rfl⟩
  rw [hn] at h1 q1 hcl v1
  obtain ⟨nd, hnd⟩ : ∃ n, d.length = n := ⟨_, rfl⟩
  rw [hnd] at JC hW0 z1 hcd ⊢
  have HI0 := Lib.hid hI0; clear hn hnd hP hr hb hdl hgood hfull
  go_enter Tryz.func10, Tryz.ntmps10
  go_wp2_with fail
  rw [← hW0]
  clear hW0
  refine JC.out.mono ?_; rintro e1 w1 ⟨rfl, h2⟩
  have q1' := (h2.cells _ _ hyb0).trans q1
  have hyb1 := Nat.lt_of_lt_of_le hyb0 h2.size
  go_wp2
  go_ret2
  exact ⟨rfl, HI0.out.trans h2⟩
set_option maxRecDepth 100000 in
set_option maxHeartbeats 1000000 in
theorem Rappend_good (S : Nat → Prop) (yb : Nat) (rs : List Rec) (D : Option Addr) (cd : Nat) (d : List Nat) (hfull : rs.length < 1048576) (k : Nat) (hgood : checkR pf (k : Int) d = 0) (hb : Bytes d) (hcd : d.length ≤ cd) (hdl : d.length ≤ 140737488355328) (w : World) (hP : RlogS w S yb rs) (hr : SlAt w D (u8v d)) : Calls Tryz.prog 10 #[.pointer (some ⟨yb, 0, none⟩), .agg #[.int .i64 (k : Int), .slice D d.length cd]] w fun e w' => e = .returned (.tuple #[.int .i64 (rs.length : Int), .int .i64 0]) ∧ RlogS w' (More S w w') yb (rs ++ [⟨k, d⟩]) ∧ ButS S w w' := by
  have hyb := hP.lt
  obtain ⟨hS, hfz, ps, lv, hps, p1, hRP, hown⟩ := hP
  obtain ⟨Al, cl, rfl, hcl, _, _, _⟩ := RecsO.at (rs := rs.map Rec.i) ⟨ps, hps, hRP⟩
  have hpl : ps.length = rs.length := by have := congrArg List.length hps; rwa [List.length_map, List.length_map] at this
  rw [List.length_map] at hcl p1 hRP hown
  obtain ⟨W0, hW0⟩ : ∃ W0, W0 = w.alloc (.cells #[.int .i64 (k : Int), .slice D d.length cd] 30) := ⟨_, rfl⟩
  have hI0 : Within w W0 := by rw [hW0]; exact (Within.refl w).alloc _
  have z0 : W0.cell? ⟨w.heap.size, 0, none⟩ = some (.int .i64 (k : Int)) := by rw [hW0]; simp
  have z1 : W0.cell? ⟨w.heap.size, 1, none⟩ = some (.slice D d.length cd) := by rw [hW0]; simp
  have zs : w.heap.size < W0.heap.size := by rw [hW0]; simp
  have q1 := (hI0.cells _ _ hyb).trans p1
  have hyb0 := Nat.lt_of_lt_of_le hyb hI0.size
  have JC := Lib.hid (Rjcheck_any (k : Int) D cd d hb hcd (by omega) W0 (hr.of hI0))
  rw [hgood] at JC
  have v1 : decide ((1048576 : Int) ≤ (rs.length : Int)) = false := decide_eq_false (by omega)
  have HDAT := Lib.hid (fun W (h : Within w W) => hr.of h)
  obtain ⟨n, hn⟩ : ∃ n, rs.length = n := ⟨_, rfl⟩
  rw [hn] at p1 q1 hcl v1 hfull hRP hown hpl ⊢
  have HN := Lib.hid hn
  obtain ⟨nd, hnd⟩ : ∃ n, d.length = n := ⟨_, rfl⟩
  rw [hnd] at JC hW0 z1 hcd hdl ⊢
  have HND := Lib.hid hnd
  have nT1 : ¬ ((Value.slice Al n cl).ownBlock = some yb) := fun h => (hown yb (.inl h)).2 rfl
  have nT2 : ¬ ((Value.slice Al n cl).ownBlock = some w.heap.size) := fun h => by have := (hRP.1.lt _ h).2; omega
  have HI0 := Lib.hid hI0; have HRP := Lib.hid hRP; have HOW := Lib.hid hown; have HPS := Lib.hid hps; have HBY := Lib.hid hb; have HS := Lib.hid hS; have HPL := Lib.hid hpl; have HT1 := Lib.hid nT1; have HT2 := Lib.hid nT2; have HFZ := Lib.hid hfz; have HYB := Lib.hid hyb; clear hn hnd hr hb hgood hI0 hRP hown hps hS hpl nT1 nT2 hfz hyb p1
  go_enter Tryz.func10, Tryz.ntmps10
  go_wp2_with fail
  rw [← hW0]
  clear hW0
  refine JC.out.mono ?_; rintro e1 w1 ⟨rfl, h2⟩
  have q1' := (h2.cells _ _ hyb0).trans q1
  have hyb1 := Nat.lt_of_lt_of_le hyb0 h2.size
  have z0' := (h2.cells _ 0 zs).trans z0
  have z1' := (h2.cells _ 1 zs).trans z1
  have zs' := Nat.lt_of_lt_of_le zs h2.size
  have HX1 := Lib.hid (HI0.out.trans h2); clear q1 z0 z1 h2 hyb0 zs JC
  go_wp2_with fail
  refine wp_region_schT (fun j => (Value.slice Al n cl).ownBlock = some j) (fun W => W.cell? ⟨yb, 0, none⟩ = some (.slice Al n cl) ∧ yb < W.heap.size ∧ W.cell? ⟨w.heap.size, 0, none⟩ = some (.int .i64 (k : Int)) ∧ W.cell? ⟨w.heap.size, 1, none⟩ = some (.slice D nd cd) ∧ w.heap.size < W.heap.size ∧ W = w1) 16 (.firm 0 (.firm 1 (.firm 2 (.firm 3 (.firm 4 (.firm 5 (.firm 6 (.firm 8 (.firm 9 (.one 7 (.one 10 (.firm 11 (.one 12 (.one 13 (.firm 14 (.firm 15 (.one 16 .nil))))))))))))))))) (by kernel_rfl) (by kernel_rfl) ⟨q1', hyb1, z0', z1', zs', rfl⟩ ?_
  rintro w0 ⟨p1, hyb, z0, z1, zs, rfl⟩
  try simp only [Act.put, List.setIfInBounds_toArray, List.set_cons_zero, List.set_cons_succ]
  iterate 9
    apply sch_firm rfl rfl (by repeat (first | with_reducible exact ButS.refl _ _ | with_reducible assumption | with_reducible refine ButS.drew ?_ | with_reducible refine ButS.alloc ?_ _ | with_reducible refine ButS.within ?_ (by assumption)))
    · intro wq hq
      have g0 := (hq.cells yb 0 hyb HT1.out).trans p1
      have g1 := (hq.cells _ 0 zs HT2.out).trans z0
      have g2 := (hq.cells _ 1 zs HT2.out).trans z1
      have g3 := Nat.lt_of_lt_of_le hyb hq.size
      have g4 := Nat.lt_of_lt_of_le zs hq.size
      clear hq
      go_simp
      rfl
    try simp only [Act.put, List.setIfInBounds_toArray, List.set_cons_zero, List.set_cons_succ]
  refine sch_one rfl rfl (fun K hK => ?_)
  go_simp
  refine hK _ _ (fun _ => (by repeat (first | with_reducible exact ButS.refl _ _ | with_reducible assumption | with_reducible refine ButS.drew ?_ | with_reducible refine ButS.alloc ?_ _ | with_reducible refine ButS.within ?_ (by assumption)))) ?_
  clear hK K
  try simp only [Act.put, List.setIfInBounds_toArray, List.set_cons_zero, List.set_cons_succ]
  refine sch_one rfl rfl (fun K hK => ?_)
  have hin2 := ((Within.refl w0).drew).alloc (.cells #[] 5)
  obtain ⟨v5, w5, hrun, hO5, hB5⟩ := run_app_u8 _ w0.heap.size _ [] d (OwnB.lit w0.drew w0.heap.size (Nat.le_refl _) [] (by simp)) D cd (HDAT.out _ (HX1.out.trans hin2)) (by rw [List.length_nil, HND.out]; omega) hin2.size
  rw [List.nil_append] at hO5
  rw [HND.out] at hrun
  have hX5 : Within w0 w5 := Below.trans hin2 hB5
  have RUN := Lib.hid hrun; have HO5 := Lib.hid hO5; clear hrun hO5 hB5 hin2
  refine op_append_run (.tmp 25) (.tmp 27) 28 rfl _ _ rfl rfl RUN.out ?_
  obtain ⟨A5, c5, rfl, hx5, hy5, hz5⟩ := HO5.out.form
  clear hx5 hy5 hz5
  rw [HND.out] at HO5 ⊢
  refine hK _ _ (fun _ => (by repeat (first | with_reducible exact ButS.refl _ _ | with_reducible assumption | with_reducible refine ButS.drew ?_ | with_reducible refine ButS.alloc ?_ _ | with_reducible refine ButS.within ?_ (by assumption)))) ?_
  clear hK K
  try simp only [Act.put, List.setIfInBounds_toArray, List.set_cons_zero, List.set_cons_succ]
  apply sch_firm rfl rfl (by repeat (first | with_reducible exact ButS.refl _ _ | with_reducible assumption | with_reducible refine ButS.drew ?_ | with_reducible refine ButS.alloc ?_ _ | with_reducible refine ButS.within ?_ (by assumption)))
  · intro wq hq
    have g0 := (hq.cells yb 0 hyb HT1.out).trans p1
    have g1 := (hq.cells _ 0 zs HT2.out).trans z0
    have g2 := (hq.cells _ 1 zs HT2.out).trans z1
    have g3 := Nat.lt_of_lt_of_le hyb hq.size
    have g4 := Nat.lt_of_lt_of_le zs hq.size
    clear hq
    go_simp
    rfl
  try simp only [Act.put, List.setIfInBounds_toArray, List.set_cons_zero, List.set_cons_succ]
  refine sch_one rfl rfl (fun K hK => ?_)
  go_simp
  refine hK _ _ (fun _ => (by repeat (first | with_reducible exact ButS.refl _ _ | with_reducible assumption | with_reducible refine ButS.drew ?_ | with_reducible refine ButS.alloc ?_ _ | with_reducible refine ButS.within ?_ (by assumption)))) ?_
  clear hK K
  try simp only [Act.put, List.setIfInBounds_toArray, List.set_cons_zero, List.set_cons_succ]
  refine sch_one rfl rfl (fun K hK => ?_)
  have hX5w : Within w w5 := HX1.out.trans hX5
  obtain ⟨v6, w6, hrun6, hR6, hg6, hb6⟩ := run_app_recP w5 0 (.slice Al n cl) ps ((k : Int), d) (.slice A5 nd c5) ⟨ownsRow_keep HRP.out.1 (fun j hj => hX5w.block j (HRP.out.1.lt j hj).2), fun p hp => ⟨(HRP.out.2 p hp).1.of hX5w, (HRP.out.2 p hp).2⟩⟩ (HO5.out.less (Nat.zero_le _)) HBY.out (by
    cases hx : (Value.slice A5 nd c5).ownBlock with
    | none => exact .inl rfl
    | some j => exact .inr (fun e => by have h1 := (HO5.out.lt j hx).1; have h2 := (HRP.out.1.lt j e.symm).2; have h3 := HX1.out.size; omega)) (by rw [HPL.out]; omega) (Nat.zero_le _)
  have hS6 : ButS (fun j => (Value.slice Al n cl).ownBlock = some j) w0 w6 := (ButS.in_ hX5).grown hg6 (fun j hj => .inl hj)
  obtain ⟨A6, c6, rfl, hx6, hy6, hz6, hu6⟩ := RecsO.at (rs := (ps ++ [(((k : Int), d), Value.slice A5 nd c5)]).map Prod.fst) ⟨_, rfl, hR6⟩
  clear hx6 hy6 hz6 hu6
  have hn6 : ((ps ++ [(((k : Int), d), Value.slice A5 nd c5)]).map Prod.fst).length = n + 1 := by rw [List.length_map, List.length_append, HPL.out]; rfl
  rw [hn6] at hrun6 hR6 hb6
  clear hn6
  have r0 : w6.cell? ⟨yb, 0, none⟩ = some (.slice Al n cl) := (hS6.cells _ _ hyb HT1.out).trans p1
  have rf_ : w6.frozen? ⟨yb, 0, none⟩ = false := (hS6.frozens _ _ hyb HT1.out).trans ((HX1.out.frozens _ _ HYB.out).trans HFZ.out)
  have rs_ := Nat.lt_of_lt_of_le hyb hS6.size
  have HR6 := Lib.hid hR6; have HG6 := Lib.hid hg6; have HB6 := Lib.hid hb6; have HX5 := Lib.hid hX5w; have RUN6 := Lib.hid hrun6; clear hR6 hg6 hb6 hrun6 hX5w
  refine op_append_run (.tmp 22) (.tmp 30) 52 rfl _ _ rfl rfl RUN6.out ?_
  refine hK _ _ (fun _ => (by repeat (first | with_reducible exact ButS.refl _ _ | with_reducible assumption | with_reducible refine ButS.drew ?_ | with_reducible refine ButS.alloc ?_ _ | with_reducible refine ButS.within ?_ (by assumption)))) ?_
  clear hK K
  try simp only [Act.put, List.setIfInBounds_toArray, List.set_cons_zero, List.set_cons_succ]
  iterate 2
    apply sch_firm rfl rfl (by repeat (first | with_reducible exact ButS.refl _ _ | with_reducible assumption | with_reducible refine ButS.drew ?_ | with_reducible refine ButS.alloc ?_ _ | with_reducible refine ButS.within ?_ (by assumption)))
    · intro wq hq
      have g0 := (hq.cells yb 0 hyb HT1.out).trans p1
      have g1 := (hq.cells _ 0 zs HT2.out).trans z0
      have g2 := (hq.cells _ 1 zs HT2.out).trans z1
      have g3 := Nat.lt_of_lt_of_le hyb hq.size
      have g4 := Nat.lt_of_lt_of_le zs hq.size
      clear hq
      go_simp
      rfl
    try simp only [Act.put, List.setIfInBounds_toArray, List.set_cons_zero, List.set_cons_succ]
  refine sch_one rfl rfl (fun K hK => ?_)
  go_simp
  refine hK _ _ (fun h => absurd h (by decide)) ?_
  clear hK K
  try simp only [Act.put, List.setIfInBounds_toArray, List.set_cons_zero, List.set_cons_succ]
  refine sch_nil ?_
  obtain ⟨X7, hX7⟩ : ∃ X, X = w6.setCell ⟨yb, 0, none⟩ (.slice A6 (n + 1) c6) := ⟨_, rfl⟩
  have x0 : X7.cell? ⟨yb, 0, none⟩ = some (.slice A6 (n + 1) c6) := by rw [hX7]; exact World.cell?_setCell_same _ _ _ r0
  have xs_ : yb < X7.heap.size := World.block_lt_of_cell? _ _ x0
  have hS7 : ButS S w X7 := by
    rw [hX7]
    refine ((ButS.in_ HX1.out).trans (S' := fun j => (Value.slice Al n cl).ownBlock = some j) hS6 (fun j _ hj => (HOW.out j (.inl hj)).1)).set (.inl HS.out) _
  have hL7 : RlogS X7 (More S w X7) yb (rs ++ [⟨k, d⟩]) := by
    have hsz : X7.heap.size = w6.heap.size := by rw [hX7]; simp [World.setCell]
    have hown7 : ∀ j, ((Value.slice A6 (n + 1) c6).ownBlock = some j ∨ ∃ p ∈ ps ++ [(((k : Int), d), Value.slice A5 nd c5)], p.2.ownBlock = some j) → More S w X7 j ∧ j ≠ yb := fun j hj => by
      have hyw := HYB.out
      have h51 := HX5.out.size
      have h61 := hS6.size
      have new : w.heap.size ≤ j → j < w6.heap.size → More S w X7 j ∧ j ≠ yb := fun h1 h2 => ⟨.inr ⟨h1, by rw [hsz]; exact h2⟩, by omega⟩
      rcases hj with hj | ⟨p, hp, hj⟩
      · rcases HB6.out with e | e
        · have := HOW.out j (.inl (e ▸ hj)); exact ⟨.inl this.1, this.2⟩
        · have hl := (HR6.out.1.lt j hj).2; rw [hj] at e; have e := Option.some.inj e; exact new (by omega) hl
      · have hl := ((HR6.out.2 p hp).1.lt j hj).2
        rcases List.mem_append.1 hp with hp | hp
        · have := HOW.out j (.inr ⟨p, hp, hj⟩); exact ⟨.inl this.1, this.2⟩
        · rw [List.mem_singleton] at hp; rw [hp] at hj; have h1 := (HO5.out.lt j hj).1; have h2 := HX1.out.size; exact new (by omega) hl
    refine ⟨.inl HS.out, by rw [hX7, World.frozen?_setCell]; exact rf_, ps ++ [(((k : Int), d), Value.slice A5 nd c5)], .slice A6 (n + 1) c6, by rw [List.map_append, HPS.out, List.map_append]; rfl, x0, ?_, hown7⟩
    rw [hX7]
    have keep : ∀ j, j ≠ yb → (w6.setCell ⟨yb, 0, none⟩ (.slice A6 (n + 1) c6)).heap[j]? = w6.heap[j]? := fun j hj => Below.heap_setCell w6 ⟨yb, 0, none⟩ _ j hj
    exact ⟨ownsRow_keep HR6.out.1 (fun j hj => keep j (hown7 j (.inl hj)).2), fun p hp => ⟨ownsRow_keep (HR6.out.2 p hp).1 (fun j hj => keep j (hown7 j (.inr ⟨p, hp, hj⟩)).2), (HR6.out.2 p hp).2⟩⟩
  rw [← hX7]
  have HL7 := Lib.hid hL7; have HS7 := Lib.hid hS7; clear hL7 hS7 hX7 hS6 r0 rf_
  have v2 : ((n + 1 : Nat) : Int) - 1 = (n : Int) := by omega
  go_wp2
  go_ret2
  exact ⟨by first | rfl | (simp; done), HL7.out, HS7.out⟩
theorem Rappend_any (S : Nat → Prop) (yb : Nat) (rs : List Rec) (D : Option Addr) (cd : Nat) (d : List Nat) (k : Int) (hb : Bytes d) (hcd : d.length ≤ cd) (hdl : d.length ≤ 140737488355328) (w : World) (hP : RlogS w S yb rs) (hr : SlAt w D (u8v d)) : Calls Tryz.prog 10 #[.pointer (some ⟨yb, 0, none⟩), .agg #[.int .i64 k, .slice D d.length cd]] w fun e w' => e = .returned (.tuple #[.int .i64 (appendV rs (k, d)).2.1, .int .i64 (appendV rs (k, d)).2.2]) ∧ RlogS w' (More S w w') yb (appendV rs (k, d)).1 ∧ ButS S w w' := by
  by_cases h : checkR pf k d = 0
  · by_cases h2 : rs.length < 1048576
    · obtain ⟨hk, _⟩ := toRec_ok (r := (k, d)) h hb
      rw [appendV_good (r := (k, d)) h h2]
      have hk' : ((toRec (k, d)).kind : Int) = k := hk
      have := Rappend_good S yb rs D cd d h2 (toRec (k, d)).kind (by rw [hk']; exact h) hb hcd hdl w hP hr
      rw [hk'] at this
      exact this
    · rw [appendV_full (r := (k, d)) h (by omega)]
      refine (Rappend_full S yb rs D cd d (by omega) k h hb hcd hdl w hP hr).mono ?_
      rintro e w' ⟨rfl, h3⟩
      exact ⟨rfl, (hP.of h3).mono (fun j hj => .inl hj), ButS.in_ h3⟩
  · rw [appendV_bad (r := (k, d)) h]
    refine (Rappend_bad S yb rs D cd d k h hb hcd hdl w hP hr).mono ?_
    rintro e w' ⟨rfl, h3⟩
    exact ⟨rfl, (hP.of h3).mono (fun j hj => .inl hj), ButS.in_ h3⟩
theorem RecP.lit (w : World) (base : Nat) (hb : base ≤ w.heap.size) : RecP (w.alloc (.cells #[] 30)) base (.slice (some ⟨w.heap.size, 0, none⟩) 0 0) [] := by
  have h := World.ownsRow_lit (base := base) (e := 30) (size := 2) w #[] 0 hb (by unfold maxLen; omega) rfl
  exact ⟨by simpa [cellsI] using h, fun p hp => by cases hp⟩
theorem RecP.take {w : World} {base : Nat} {v : Value} {ps : List (IRec × Value)} (h : RecP w base v ps) (k : Nat) : ∀ p ∈ ps.take k, OwnB w base p.2 p.1.2 ∧ Bytes p.1.2 ∧ (p.2.ownBlock = none ∨ p.2.ownBlock ≠ v.ownBlock) := fun p hp => h.2 p (List.mem_of_mem_take hp)
end Go.Proofs.YtpmjlaiafgbjgaaGreatDoor
end

section
namespace Go.Proofs.YtpmjlaiafgbjgaaGreatDoor
open Go.RowKit
section
variable {F : Fence} {n : Nat} {P : Program}
def loopRec (fn : FuncId) (a : Act) (ps : Array Tmp) (assign body : Code) (D : Nat) (st : LoopState) (pe : Option Code) : Loop := { state := st, pending := pe, fn, tmps := a.tmps, params := ps, assign, body, defers := D }
end
end Go.Proofs.YtpmjlaiafgbjgaaGreatDoor
end

section
namespace Go.Proofs.YtpmjlaiafgbjgaaGreatDoor
open Go.RowKit
theorem LogS.listB {w : World} {S : Nat → Prop} {xb : Nat} {rs : List Rec} (h : LogS w S xb rs) : ∃ Al cl, w.cell? ⟨xb, 1, none⟩ = some (.slice Al rs.length cl) ∧ rs.length ≤ cl ∧ RecB w Al (rs.map Rec.i) := by
  obtain ⟨hS, hmade, hfirm, ps, lv, kv, bv, hps, p1, p2, p3, hRW, hown⟩ := h
  obtain ⟨Al, cl, rfl, hcl, hB, _, _⟩ := RecsO.at (rs := rs.map Rec.i) ⟨ps, hps, hRW.recs⟩
  rw [List.length_map] at hcl p1
  exact ⟨Al, cl, p1, hcl, hB⟩
set_option maxRecDepth 100000 in
set_option maxHeartbeats 1000000 in
theorem Get_log (S : Nat → Prop) (xb : Nat) (rs : List Rec) (i : Nat) (r : Rec) (hr : rs[i]? = some r) (hrd : r.data.length ≤ 70368744177664) (w : World) (hP : LogS w S xb rs) : Calls Tryz.prog 41 #[.pointer (some ⟨xb, 0, none⟩), .int .i64 (i : Int)] w fun e w' => ∃ v, e = .returned (.tuple #[.agg #[.int .i64 (r.kind : Int), v], .int .i64 0]) ∧ OwnB w' w.heap.size v r.data ∧ Within w w' := by
  have h0 := hP.made
  have hxb := hP.lt
  obtain ⟨Al, cl, h1, hcl, hRB⟩ := hP.listB
  obtain ⟨hlt, _⟩ := List.getElem?_eq_some_iff.1 hr
  obtain ⟨g, Dv, cv, rfl, l1, y0, y1, hcv, hs1, _⟩ := hRB i r.i (by rw [List.getElem?_map, hr]; rfl)
  have x0 : w.cell? ⟨g, i * 2, none⟩ = some (.int .i64 (r.kind : Int)) := y0
  have x1 : w.cell? ⟨g, i * 2 + 1, none⟩ = some (.slice Dv r.data.length cv) := y1
  have hs1 : SlAt w Dv (u8v r.data) := hs1
  clear y0 y1
  obtain ⟨Z, hZ⟩ : ∃ Z, Z = w.alloc (.cells #[.int .i64 0, .slice none 0 0] 30) := ⟨_, rfl⟩
  have hZs : Z.heap.size = w.heap.size + 1 := by rw [hZ]; simp
  have iZ : Within w Z := by rw [hZ]; exact (Within.refl w).alloc _
  have zh0 : Z.cell? ⟨xb, 0, none⟩ = some (.int .i64 1) := (iZ.cells _ _ hxb).trans h0
  obtain ⟨W1, hW1⟩ : ∃ W, W = Z.alloc (.cells #[.int .i64 (r.kind : Int), .slice Dv r.data.length cv] 30) := ⟨_, rfl⟩
  have i1 : Within Z W1 := by rw [hW1]; exact (Within.refl Z).alloc _
  have hws : W1.heap.size = w.heap.size + 2 := by rw [hW1]; simp [hZs]
  have q0 : W1.cell? ⟨w.heap.size, 0, none⟩ = some (.int .i64 0) := (i1.cells _ _ (by omega)).trans (by rw [hZ]; simp)
  have q1 : W1.cell? ⟨w.heap.size, 1, none⟩ = some (.slice none 0 0) := (i1.cells _ _ (by omega)).trans (by rw [hZ]; simp)
  have qf0 : W1.frozen? ⟨w.heap.size, 0, none⟩ = false := (i1.frozens _ _ (by omega)).trans (by rw [hZ]; simp)
  have qf1 : W1.frozen? ⟨w.heap.size, 1, none⟩ = false := (i1.frozens _ _ (by omega)).trans (by rw [hZ]; simp)
  have qs : w.heap.size < W1.heap.size := by omega
  have z0 : W1.cell? ⟨Z.heap.size, 0, none⟩ = some (.int .i64 (r.kind : Int)) := by rw [hW1]; simp
  have z1 : W1.cell? ⟨Z.heap.size, 1, none⟩ = some (.slice Dv r.data.length cv) := by rw [hW1]; simp
  have zs : Z.heap.size < W1.heap.size := by omega
  have CL := Lib.hid (fun W (h : Within W1 W) => clone_any Dv cv r.data hrd W (hs1.of ((iZ.trans i1).trans h)))
  have IS : Hid (Calls Tryz.prog 31 #[.pointer (some ⟨xb, 0, none⟩)] Z fun e w' => e = .returned (.bool true) ∧ w' = Z) := Lib.hid (is_true xb Z zh0)
  have b0 : ((i : Int) < 0) = False := by simp
  have b1 : decide ((rs.length : Int) ≤ (i : Int)) = false := decide_eq_false (by omega)
  have b2 : (0 : Int) ≤ (i : Int) := by omega
  have b3 : (i : Int) < (rs.length : Int) := by omega
  obtain ⟨n, hn⟩ : ∃ n, rs.length = n := ⟨_, rfl⟩
  rw [hn] at h1 hcl b1 b3 hlt
  obtain ⟨nd, hnd⟩ : ∃ n, r.data.length = n := ⟨_, rfl⟩
  rw [hnd] at x1 CL hW1 z1
  obtain ⟨k, hk⟩ : ∃ k, r.kind = k := ⟨_, rfl⟩
  rw [hk] at x0 hW1 z0 ⊢
  have zh1 := (iZ.cells _ 1 hxb).trans h1
  have zx0 := (iZ.cells _ (i * 2) l1).trans x0
  have zx1 := (iZ.cells _ (i * 2 + 1) l1).trans x1
  have zg := Nat.lt_of_lt_of_le l1 iZ.size
  have zxb := Nat.lt_of_lt_of_le hxb iZ.size
  have HZ := Lib.hid hZ; have HW1 := Lib.hid hW1; clear hZ hW1
  have HI := Lib.hid (iZ.trans i1); have HWS := Lib.hid hws; have HZS := Lib.hid hZs; have HND := Lib.hid hnd
  clear hP hr hRB hs1 hcv hn hnd hk iZ i1 hrd h0 h1 x0 x1 hxb l1 hZs hws
  go_enter Tryz.func41, Tryz.ntmps41
  go_wp2_with fail
  rw [← HZ.out]
  refine IS.out.mono ?_; rintro e1 w1 ⟨rfl, rfl⟩
  have zne : ¬ w1.heap.size = w.heap.size := by rw [HZS.out]; omega
  go_wp2_with fail
  rw [← HW1.out]
  refine wp_region_schT (fun j => j = w.heap.size) (fun W => W.cell? ⟨w.heap.size, 0, none⟩ = some (.int .i64 0) ∧ W.cell? ⟨w.heap.size, 1, none⟩ = some (.slice none 0 0) ∧ W.frozen? ⟨w.heap.size, 0, none⟩ = false ∧ W.frozen? ⟨w.heap.size, 1, none⟩ = false ∧ w.heap.size < W.heap.size ∧ W.cell? ⟨w1.heap.size, 0, none⟩ = some (.int .i64 (k : Int)) ∧ W.cell? ⟨w1.heap.size, 1, none⟩ = some (.slice Dv nd cv) ∧ w1.heap.size < W.heap.size ∧ Within W1 W) 7 (.firm 0 (.firm 1 (.firm 2 (.firm 3 (.one 4 (.firm 5 (.one 6 (.one 7 .nil)))))))) (by kernel_rfl) (by kernel_rfl) ⟨q0, q1, qf0, qf1, qs, z0, z1, zs, Within.refl _⟩ ?_
  rintro w0 ⟨q0, q1, qf0, qf1, qs, z0, z1, zs, hw0⟩
  try simp only [Act.put, List.setIfInBounds_toArray, List.set_cons_zero, List.set_cons_succ]
  iterate 4
    apply sch_firm rfl rfl (by repeat (first | with_reducible exact ButS.refl _ _ | with_reducible assumption | with_reducible refine ButS.drew ?_ | with_reducible refine ButS.alloc ?_ _ | with_reducible refine ButS.within ?_ (by assumption)))
    · intro wq hq
      have g0 := (hq.cells _ 0 zs zne).trans z0
      have g1 := (hq.cells _ 1 zs zne).trans z1
      have g2 := Nat.lt_of_lt_of_le zs hq.size
      clear hq
      go_simp
      rfl
    try simp only [Act.put, List.setIfInBounds_toArray, List.set_cons_zero, List.set_cons_succ]
  refine sch_one rfl rfl (fun K hK => ?_)
  go_simp
  refine (CL.out _ (by exact hw0.drew)).mono ?_; rintro e2 w2 ⟨v2, rfl, hO2, h2⟩
  obtain ⟨A2, c2, rfl, _, _, _⟩ := hO2.form
  rw [HND.out] at hO2 ⊢
  have HO2 := Lib.hid hO2; have H2 := Lib.hid (hw0.drew.trans h2)
  have BK : Hid (ButS (fun j => j = w.heap.size) w0 w2) := Lib.hid (ButS.in_ ((Within.refl w0).drew.trans h2))
  have c0 := (h2.cells w.heap.size 0 qs).trans q0
  have c1 := (h2.cells w.heap.size 1 qs).trans q1
  have cf0 := (h2.frozens w.heap.size 0 qs).trans qf0
  have cf1 := (h2.frozens w.heap.size 1 qs).trans qf1
  have cs := Nat.lt_of_lt_of_le qs h2.size
  clear hO2
  refine hK _ _ (fun _ => (by first | exact (BK.out.set (p := ⟨w.heap.size, 0, none⟩) (.inl rfl) _).set (p := ⟨w.heap.size, 1, none⟩) (.inl rfl) _ | (repeat (first | with_reducible exact ButS.refl _ _ | with_reducible assumption | with_reducible refine ButS.drew ?_ | with_reducible refine ButS.within ?_ (by assumption))))) ?_
  clear hK K
  try simp only [Act.put, List.setIfInBounds_toArray, List.set_cons_zero, List.set_cons_succ]
  apply sch_firm rfl rfl (by repeat (first | with_reducible exact ButS.refl _ _ | with_reducible assumption | with_reducible refine ButS.drew ?_ | with_reducible refine ButS.alloc ?_ _ | with_reducible refine ButS.within ?_ (by assumption)))
  · intro wq hq
    have g0 := (hq.cells _ 0 zs zne).trans z0
    have g1 := (hq.cells _ 1 zs zne).trans z1
    have g2 := Nat.lt_of_lt_of_le zs hq.size
    clear hq
    go_simp
    rfl
  try simp only [Act.put, List.setIfInBounds_toArray, List.set_cons_zero, List.set_cons_succ]
  refine sch_one rfl rfl (fun K hK => ?_)
  go_simp
  refine hK _ _ (fun _ => (by first | exact (BK.out.set (p := ⟨w.heap.size, 0, none⟩) (.inl rfl) _).set (p := ⟨w.heap.size, 1, none⟩) (.inl rfl) _ | (repeat (first | with_reducible exact ButS.refl _ _ | with_reducible assumption | with_reducible refine ButS.drew ?_ | with_reducible refine ButS.within ?_ (by assumption))))) ?_
  clear hK K
  try simp only [Act.put, List.setIfInBounds_toArray, List.set_cons_zero, List.set_cons_succ]
  refine sch_one rfl rfl (fun K hK => ?_)
  go_simp
  refine hK _ _ (fun h => absurd h (by decide)) ?_
  clear hK K
  try simp only [Act.put, List.setIfInBounds_toArray, List.set_cons_zero, List.set_cons_succ]
  refine sch_nil ?_
  have hK : But w.heap.size w2 ((w2.setCell ⟨w.heap.size, 0, none⟩ (.int .i64 (k : Int))).setCell ⟨w.heap.size, 1, none⟩ (.slice A2 nd c2)) := ((But.refl _ w2).set (p := ⟨w.heap.size, 0, none⟩) (.inl rfl) _).set (p := ⟨w.heap.size, 1, none⟩) (.inl rfl) _
  have hI9 : Within w ((w2.setCell ⟨w.heap.size, 0, none⟩ (.int .i64 (k : Int))).setCell ⟨w.heap.size, 1, none⟩ (.slice A2 nd c2)) := ((HI.out.trans H2.out).setCell (Nat.le_refl _) _).setCell (Nat.le_refl _) _
  have hO9 := HO2.out.but hK (by exact qs)
  have HO9 := Lib.hid (hO9.less (Nat.le_of_lt (by exact qs)))
  have HI9 := Lib.hid hI9; clear hK hI9 hO9
  go_wp2
  refine bodyPost_ret (v := .tuple #[.agg #[.int .i64 (k : Int), .slice A2 nd c2], .int .i64 0]) (by simp [results, Tryz.results41, go_sem, c0, c1, cf0, cf1, cs]) rfl ⟨_, rfl, HO9.out, HI9.out⟩
end Go.Proofs.YtpmjlaiafgbjgaaGreatDoor
end

section
namespace Go.Proofs.YtpmjlaiafgbjgaaGreatDoor
open Go.RowKit
attribute [local go_sem] Oper.semAt_some
structure Yd where
  i : Nat
  k : Int
  v : Value
  d : List Nat
def Yd.enc (x : Yd) : Array Value := #[.int .i64 (x.i : Int), .agg #[.int .i64 x.k, x.v]]
def Yd.at_ (n₀ : Nat) (x : Yd) (W : World) : Prop := OwnB W n₀ x.v x.d ∧ Bytes x.d ∧ x.d.length ≤ 1048576
def YdAll (rs : List Rec) (m : Nat) (xs : List Yd) : Prop := xs.map (fun x => ((x.k, x.d) : IRec)) = (rs.map Rec.i).drop m ∧ ∀ j x, xs[j]? = some x → x.i = m + j
def YdPre (rs : List Rec) (m : Nat) (pre : List Yd) : Prop := pre.map (fun x => ((x.k, x.d) : IRec)) = ((rs.map Rec.i).drop m).take pre.length ∧ (∀ j x, pre[j]? = some x → x.i = m + j) ∧ m + pre.length ≤ rs.length
theorem YdPre.nil {rs : List Rec} {m : Nat} (h : m ≤ rs.length) : YdPre rs m [] := ⟨rfl, fun j x hx => by simp at hx, h⟩
theorem YdPre.more {rs : List Rec} {m : Nat} {pre : List Yd} {r : Rec} {v : Value} (h : YdPre rs m pre) (hr : rs[m + pre.length]? = some r) : YdPre rs m (pre ++ [⟨m + pre.length, (r.kind : Int), v, r.data⟩]) := by
  obtain ⟨h1, h2, h3⟩ := h
  obtain ⟨hlt, _⟩ := List.getElem?_eq_some_iff.1 hr
  refine ⟨?_, fun j x hx => ?_, by rw [List.length_append]; simp; omega⟩
  · rw [List.map_append, h1, List.length_append]
    show _ ++ [r.i] = List.take (pre.length + 1) _
    rw [List.take_add_one, List.getElem?_drop, List.getElem?_map, hr]; rfl
  · by_cases hj : j < pre.length
    · rw [List.getElem?_append_left hj] at hx; exact h2 j x hx
    · rw [List.getElem?_append_right (by omega)] at hx
      have hj0 : j - pre.length = 0 := by
        rcases Nat.eq_zero_or_pos (j - pre.length) with h | h
        · exact h
        · rw [List.getElem?_eq_none (by simp; omega)] at hx; cases hx
      rw [hj0] at hx
      have := Option.some.inj hx
      rw [← this]
      show m + pre.length = m + j
      omega
theorem YdPre.all {rs : List Rec} {m : Nat} {pre : List Yd} (h : YdPre rs m pre) (hn : m + pre.length = rs.length) : YdAll rs m pre := by
  obtain ⟨h1, h2, h3⟩ := h
  refine ⟨?_, h2⟩
  rw [h1]
  refine List.take_of_length_le ?_
  rw [List.length_drop, List.length_map]; omega
set_option maxRecDepth 100000 in
set_option maxHeartbeats 1000000 in
theorem Each_any (x : Option Addr) (m : Int) (w : World) : Calls Tryz.prog 37 #[.pointer x, .int .i64 m] w fun e w' => e = .returned (.func (.func 61) #[] #[.pointer (some ⟨w.heap.size, 0, none⟩), .pointer (some ⟨w.heap.size + 1, 0, none⟩)]) ∧ w' = (w.alloc (.cells #[.pointer x] 23)).alloc (.cells #[.int .i64 m] 3) := by
  go_enter Tryz.func37, Tryz.ntmps37
  go_wp2
  go_ret
  exact ⟨rfl, rfl⟩
end Go.Proofs.YtpmjlaiafgbjgaaGreatDoor
end

section
namespace Go.Proofs.YtpmjlaiafgbjgaaGreatDoor
open Go.RowKit
section
variable {F : Fence} {n : Nat} {P : Program}
def SeqG {α : Type} (F : Fence) (n : Nat) (P : Program) (g : Nat) (lb : Array Value) (encs : α → Array Value) (G : List α → World → Prop) (T : List α → α → World → World → Prop) (S Sp : List α → Prop) (N : Nat) : Prop :=
  ∀ (l : Nat) (J Jx : List α → World → Prop) (W : World), AbidesFrom W.heap.size J → AbidesFrom W.heap.size Jx → (∀ pre W, J pre W → G pre W) →
    (∀ pre x W0 W1, J pre W0 → Within W0 W1 → T pre x W0 W1 → pre.length < N → YieldAt F (n - 1) P l (encs x) W1 fun e W' => (e = .returned (.bool true) ∧ J (pre ++ [x]) W') ∨ (e = .returned (.bool false) ∧ Jx (pre ++ [x]) W')) →
    J [] W → CallsIn F n P g (#[.func (.yield l) #[] #[]] ++ lb) W fun e W' => (∃ v, e = .returned v) ∧ ((∃ xs, S xs ∧ J xs W') ∨ (∃ pre, Sp pre ∧ Jx pre W'))
def roundEnds {α : Type} (B : Nat) (I : List α → World → Prop) (Ix : Code → List α → World → Prop) (xs : List α) (W : World) : Exit → Act → World → Prop
  | .normal, _, W' => KeepsFrom B W W' ∧ I xs W'
  | .ret, _, W' => KeepsFrom B W W' ∧ Ix .ret xs W'
  | .exit id, _, W' => KeepsFrom B W W' ∧ Ix (.exit id) xs W'
  | .goto t, _, W' => KeepsFrom B W W' ∧ Ix (.goto t) xs W'
  | _, _, _ => False
theorem range_G {α : Type} {g : Operand} {ps : Array Tmp} {assign body : Code} {Q : Exit → Act → World → Prop} {a : Act} {w : World}
    (hro : F.round = none) (h1 : 1 ≤ n) {gf : Nat} {lb : Array Value} (hg : a.eval g = .func (.func gf) #[] lb) (hFg : F.fn gf) (eg : ∀ args w, (callFunc gf args).run P w = .ok (.enter gf args) w)
    {encs : α → Array Value} {G : List α → World → Prop} {T : List α → α → World → World → Prop} {S Sp : List α → Prop} {M : Nat} (hseq : SeqG F (n - 1) P gf lb encs G T S Sp M)
    (hps : ∀ x, (encs x).size = ps.size)
    (I : List α → World → Prop) (Ix : Code → List α → World → Prop) (hI : OwnFrom w.heap.size I) (hIx : ∀ c, OwnFrom w.heap.size (Ix c)) (hG : ∀ pre W, I pre W → G pre W) (h0 : I [] w)
    (Ax : List α → α → Act → World → Prop) (hAx : ∀ pre x a', OwnFrom w.heap.size (fun (_ : Unit) W => Ax pre x a' W))
    (hassign : ∀ (l : Nat) (pre : List α) (x : α) (W0 W : World) (K : Act → World → Prop), I pre W0 → Within W0 W → T pre x W0 W → pre.length < M → (∀ a' W', KeepsFrom w.heap.size W W' → I pre W' → Ax pre x a' W' → K a' W') →
      assign.wpIn (F.inRound l) (n - 1 - 1) P (Exit.then K (fun _ _ _ => False)) { tmps := (ps.zip (encs x)).foldl (fun t (p, v) => t.setIfInBounds p v) a.tmps, defers := [] } W)
    (hbody : ∀ (l : Nat) (pre : List α) (x : α) (a' : Act) (W : World), I pre W → Ax pre x a' W → pre.length < M → body.wpIn (F.inRound l) (n - 1 - 1) P (roundEnds w.heap.size I Ix (pre ++ [x]) W) a' W)
    (hdone : ∀ (D : Nat) (xs : List α) (W : World), w.heap.size ≤ D → S xs → I xs W → W.heap[D]? = some (.deferred (some [])) → Q .normal { a with defers := { target := .collected D, args := #[] } :: a.defers } W)
    (hstop : ∀ (D : Nat) (c : Code) (pre : List α) (W : World), w.heap.size ≤ D → Sp pre → Ix c pre W → W.heap[D]? = some (.deferred (some [])) → c.wpIn F n P Q { a with defers := { target := .collected D, args := #[] } :: a.defers } W) :
    (Code.rangeFunc g ps assign body).wpIn F n P Q a w := by
  refine wpIn_rangeFunc ?_
  intro fn hfn
  rw [hro]
  obtain ⟨rc, hrc⟩ : ∃ rc, rc = loopRec fn a ps assign body w.heap.size := ⟨_, rfl⟩
  obtain ⟨N, hN⟩ : ∃ N, N = w.heap.size := ⟨_, rfl⟩
  obtain ⟨W1, hW1⟩ : ∃ W1, (w.alloc (.deferred (some []))).alloc (.loop (rc .ready none)) = W1 := ⟨_, rfl⟩
  have hL1 : W1.heap[N + 1]? = some (.loop (rc .ready none)) := by
    rw [← hW1, hN]; have := World.alloc_heap_new (w.alloc (.deferred (some []))) (.loop (rc .ready none)); rwa [World.size_alloc] at this
  have hK1 : W1.heap[N]? = some (.deferred (some [])) := by
    rw [← hW1, hN]; exact (Below.heap_alloc _ _ _ (by simp)).trans (World.alloc_heap_new w _)
  have hI1 : I [] W1 := by rw [← hW1]; exact hI.alloc _ (hI.alloc _ h0)
  have hb1 : Below w.heap.size w W1 := by rw [← hW1]; exact ((Below.refl _ w).alloc (Nat.le_refl _) _).alloc (by simp) _
  refine ⟨N + 1, [{ target := .collected N, args := #[] }], W1, { target := .fn (.func gf) lb, args := #[.func (.yield (N + 1)) #[] #[]] }, W1, gf,
    #[.func (.yield (N + 1)) #[] #[]] ++ lb, W1, ?_, ?_, ?_, ?_, fun _ => h1, ?_⟩
  · rw [← hW1, hrc, hN]; exact run_enterLoop_outer _ _ _ _ _
  · simp only [resolve, hg]
    simp [go_sem]
  · intro f' hf'; simp [Target.leads] at hf'; subst hf'; exact hFg
  · simp [invoke, go_sem, eg]
  have turn : ∀ {A B : World} {row : Option Nat}, (∀ r, row = some r → W1.heap.size ≤ r ∧ ∃ o : Obj, A.heap[r]? = some o ∧ o.isWalk = true) → (∀ r, row = some r → w.heap.size ≤ r ∧ ∃ o : Obj, A.heap[r]? = some o ∧ o.isCells = false) :=
    fun hr r e => by obtain ⟨hB, o, ho, hw⟩ := hr r e; exact ⟨Nat.le_trans hb1.size hB, o, ho, Obj.not_cells_of_walk hw⟩
  refine (hseq (N + 1) (fun pre W => I pre W ∧ W.heap[N + 1]? = some (.loop (rc .ready none)) ∧ W.heap[N]? = some (.deferred (some [])))
    (fun pre W => ∃ c, Ix c pre W ∧ W.heap[N + 1]? = some (.loop (rc .done (some c))) ∧ W.heap[N]? = some (.deferred (some []))) W1
    (fun s A B row hs hg' hr => ⟨hI s A B row hs.1 hg' (turn (B := B) hr), (grownBy_keeps hg' (fun r e => (hr r e).2) hs.2.1 rfl).trans hs.2.1, (grownBy_keeps hg' (fun r e => (hr r e).2) hs.2.2 rfl).trans hs.2.2⟩)
    (fun s A B row hs hg' hr => by
      obtain ⟨c, hc, hl, hk⟩ := hs
      exact ⟨c, hIx c s A B row hc hg' (turn (B := B) hr), (grownBy_keeps hg' (fun r e => (hr r e).2) hl rfl).trans hl, (grownBy_keeps hg' (fun r e => (hr r e).2) hk rfl).trans hk⟩)
    (fun pre W h => hG pre W h.1) ?_ ⟨hI1, hL1, hK1⟩).mono ?_
  · rintro pre x Wj W ⟨hij, hlj, hkj⟩ hin ht hlen
    have hl := (hin.block _ (Array.getElem?_eq_some_iff.1 hlj).1).trans hlj
    have hk := (hin.block _ (Array.getElem?_eq_some_iff.1 hkj).1).trans hkj
    have hy := run_yield (P := P) (args := encs x) hl (by rw [hrc]; exact hps x)
    rw [hrc] at hy
    refine ⟨fn, _, assign, body, hy, roundIn_of_wpIn hfn (hassign _ pre x Wj W _ hij hin ht hlen ?_)⟩
    intro a' Wa kf hia hax
    have hla := kf.same _ _ (by omega) hl rfl
    have hka := kf.same _ _ (by omega) hk rfl
    have hlt : N + 1 < Wa.heap.size := (Array.getElem?_eq_some_iff.1 hla).1
    refine ⟨_, run_beginRound hla (by rw [hrc]; rfl), ?_⟩
    obtain ⟨bz, hbz⟩ : ∃ bz : Loop, bz = { rc .ready none with state := .busy } := ⟨_, rfl⟩
    rw [← hbz]
    have hl2 : (Wa.putObj (N + 1) (.loop bz)).heap[N + 1]? = some (.loop bz) := World.putObj_heap_same hlt
    have hk2 : (Wa.putObj (N + 1) (.loop bz)).heap[N]? = some (.deferred (some [])) := (World.putObj_heap_other (by omega)).trans hka
    refine wpIn_mono (hbody _ pre x a' _ (hI.putObj _ hia (by omega) hla rfl) ((hAx pre x a').putObj (s := ()) _ hax (by omega) hla rfl) hlen) ?_
    have fin : ∀ (jump : Option Code) (W3 : World), KeepsFrom w.heap.size (Wa.putObj (N + 1) (.loop bz)) W3 →
        (Instr.endRound (N + 1) jump).run P W3 = .ok (.bool jump.isNone) (W3.putObj (N + 1) (.loop (rc (if jump.isNone then .ready else .done) jump))) ∧
        W3.heap[N + 1]? = some (.loop bz) ∧
        (W3.putObj (N + 1) (.loop (rc (if jump.isNone then .ready else .done) jump))).heap[N + 1]? = some (.loop (rc (if jump.isNone then .ready else .done) jump)) ∧
        (W3.putObj (N + 1) (.loop (rc (if jump.isNone then .ready else .done) jump))).heap[N]? = some (.deferred (some [])) := fun jump W3 hk3 => by
      have hl3 := hk3.same _ _ (by omega) hl2 rfl
      have hk3' := hk3.same _ _ (by omega) hk2 rfl
      have hend := run_endRound (P := P) jump hl3
      rw [hbz, hrc] at hend
      refine ⟨by rw [hrc]; exact hend, hl3, World.putObj_heap_same (Array.getElem?_eq_some_iff.1 hl3).1, (World.putObj_heap_other (by omega)).trans hk3'⟩
    rintro e a3 W3 hp
    cases e with
    | normal =>
      obtain ⟨k3, hi3⟩ := hp
      obtain ⟨hr, hl3, hl4, hk4⟩ := fin none W3 k3
      exact ⟨_, _, hr, .inl ⟨rfl, hI.putObj _ hi3 (by omega) hl3 rfl, hl4, hk4⟩⟩
    | ret =>
      obtain ⟨k3, hi3⟩ := hp
      obtain ⟨hr, hl3, hl4, hk4⟩ := fin (some .ret) W3 k3
      exact ⟨_, _, hr, .inr ⟨rfl, .ret, (hIx _).putObj _ hi3 (by omega) hl3 rfl, hl4, hk4⟩⟩
    | exit id =>
      obtain ⟨k3, hi3⟩ := hp
      obtain ⟨hr, hl3, hl4, hk4⟩ := fin (some (.exit id)) W3 k3
      exact ⟨_, _, hr, .inr ⟨rfl, .exit id, (hIx _).putObj _ hi3 (by omega) hl3 rfl, hl4, hk4⟩⟩
    | goto t =>
      obtain ⟨k3, hi3⟩ := hp
      obtain ⟨hr, hl3, hl4, hk4⟩ := fin (some (.goto t)) W3 k3
      exact ⟨_, _, hr, .inr ⟨rfl, .goto t, (hIx _).putObj _ hi3 (by omega) hl3 rfl, hl4, hk4⟩⟩
    | panic ch => exact hp.elim
    | outgrown => exact hp.elim
  · rintro e W2 ⟨⟨v, rfl⟩, (⟨xs, hS, hi, hl, hk⟩ | ⟨pre, hSp, c, hi, hl, hk⟩)⟩
    · have hend := run_endLoop (P := P) hl (by rw [hrc]; simp [loopRec])
      rw [hrc] at hend
      exact ⟨none, _, hend, hdone N xs _ (by omega) hS (hI.putObj _ hi (by omega) hl rfl) ((World.putObj_heap_other (by omega)).trans hk)⟩
    · have hend := run_endLoop (P := P) hl (by rw [hrc]; simp [loopRec])
      rw [hrc] at hend
      exact ⟨some c, _, hend, hstop N c pre _ (by omega) hSp ((hIx c).putObj _ hi (by omega) hl rfl) ((World.putObj_heap_other (by omega)).trans hk)⟩
end
end Go.Proofs.YtpmjlaiafgbjgaaGreatDoor
end

section
namespace Go.Proofs.YtpmjlaiafgbjgaaGreatDoor
open Go.RowKit
attribute [local go_sem] Oper.semAt_some
theorem LogS.cells {w : World} {S : Nat → Prop} {xb : Nat} {rs : List Rec} (h : LogS w S xb rs) : ∃ A1 n1 c1 A2 n2 c2 A3 n3 c3, XC w xb (.int .i64 1) (.slice A1 n1 c1) (.slice A2 n2 c2) (.slice A3 n3 c3) ∧ S xb := by
  obtain ⟨hS, hmade, hfirm, ps, lv, kv, bv, hps, p1, p2, p3, hRW, hown⟩ := h
  obtain ⟨A1, c1, rfl, _⟩ := RecsO.at (rs := ps.map Prod.fst) ⟨ps, rfl, hRW.recs⟩
  obtain ⟨A2, c2, rfl, _⟩ := owns_form hRW.links
  obtain ⟨A3, c3, rfl, _⟩ := hRW.bytes.form
  exact ⟨_, _, _, _, _, _, _, _, _, XC.mk hmade p1 p2 p3 hfirm, hS⟩
theorem XC.same {w : World} {xb : Nat} {a b c d a' b' c' d' : Value} (h : XC w xb a b c d) (k : XC w xb a' b' c' d') : a = a' ∧ b = b' ∧ c = c' ∧ d = d' :=
  ⟨Option.some.inj (h.c0.symm.trans k.c0), Option.some.inj (h.c1.symm.trans k.c1), Option.some.inj (h.c2.symm.trans k.c2), Option.some.inj (h.c3.symm.trans k.c3)⟩
theorem XC.over {w : World} {xb : Nat} {a b c d : Value} (h : XC w xb a b c d) (a' b' c' d' : Value) : XC ((((w.setCell ⟨xb, 0, none⟩ a').setCell ⟨xb, 1, none⟩ b').setCell ⟨xb, 2, none⟩ c').setCell ⟨xb, 3, none⟩ d') xb a' b' c' d' := by
  obtain ⟨h0, h1, h2, h3, hf⟩ := h
  have hn : ∀ {i j : Nat}, i ≠ j → (⟨xb, i, none⟩ : Addr) ≠ ⟨xb, j, none⟩ := fun h e => h (by injection e)
  refine ⟨?_, ?_, ?_, ?_, fun o => by simp only [World.frozen?_setCell]; exact hf o⟩
  · rw [World.cell?_setCell_other _ _ _ _ (hn (by decide)), World.cell?_setCell_other _ _ _ _ (hn (by decide)), World.cell?_setCell_other _ _ _ _ (hn (by decide))]
    exact World.cell?_setCell_same _ _ _ h0
  · rw [World.cell?_setCell_other _ _ _ _ (hn (by decide)), World.cell?_setCell_other _ _ _ _ (hn (by decide))]
    exact World.cell?_setCell_same _ _ _ ((World.cell?_setCell_other _ _ _ _ (hn (by decide))).trans h1)
  · rw [World.cell?_setCell_other _ _ _ _ (hn (by decide))]
    exact World.cell?_setCell_same _ _ _ ((World.cell?_setCell_other _ _ _ _ (hn (by decide))).trans ((World.cell?_setCell_other _ _ _ _ (hn (by decide))).trans h2))
  · exact World.cell?_setCell_same _ _ _ ((World.cell?_setCell_other _ _ _ _ (hn (by decide))).trans ((World.cell?_setCell_other _ _ _ _ (hn (by decide))).trans ((World.cell?_setCell_other _ _ _ _ (hn (by decide))).trans h3)))
end Go.Proofs.YtpmjlaiafgbjgaaGreatDoor
end

section
namespace Go.Proofs.YtpmjlaiafgbjgaaGreatDoor
open Go.RowKit
def U8s (w : World) (g n : Nat) : Prop := (∀ i, i < n → ∃ x : Nat, x < 256 ∧ w.cell? ⟨g, i, none⟩ = some (.int .u8 (x : Int))) ∧ ∀ o, w.frozen? ⟨g, o, none⟩ = false
theorem RowB.u8s {w : World} {g : Nat} {l : List Nat} (h : RowB w g l) (hb : Bytes l) : U8s w g l.length := ⟨fun i hi => ⟨l.getD i 0, hb.at hi, h.1 i hi⟩, h.2⟩
theorem U8s.set {w : World} {g n : Nat} (h : U8s w g n) (i x : Nat) (hx : x < 256) : U8s (w.setCell ⟨g, i, none⟩ (.int .u8 (x : Int))) g n := by
  refine ⟨fun j hj => ?_, fun o => by rw [World.frozen?_setCell]; exact h.2 o⟩
  obtain ⟨y, hy, hc⟩ := h.1 j hj
  by_cases e : i = j
  · subst e
    exact ⟨x, hx, World.cell?_setCell_same _ _ _ hc⟩
  · exact ⟨y, hy, (World.cell?_setCell_other _ _ _ _ (fun h => e (by cases h; rfl))).trans hc⟩
theorem U8s.of {w w' : World} {g n : Nat} (h : U8s w g n) (k : Within w w') (hg : g < w.heap.size) : U8s w' g n := ⟨fun i hi => by
    obtain ⟨x, hx, hc⟩ := h.1 i hi
    exact ⟨x, hx, (k.cells _ _ hg).trans hc⟩, fun o => (k.frozens _ _ hg).trans (h.2 o)⟩
theorem OwnB.u8s {w : World} {base : Nat} {v : Value} {l : List Nat} (h : OwnB w base v l) (hb : Bytes l) (g0 : Nat) (hg0 : base ≤ g0) : ∃ A c g, v = .slice A l.length c ∧ l.length ≤ c ∧ base ≤ g ∧ SlAt w A (u8v l) ∧ (0 < l.length → A = some ⟨g, 0, none⟩ ∧ g < w.heap.size ∧ U8s w g l.length) ∧ (l.length = 0 → g = g0) := by
  rcases Nat.eq_zero_or_pos l.length with h0 | h0
  · obtain ⟨A, c, e, hc, hs, _⟩ := h.form
    exact ⟨A, c, g0, e, hc, hg0, hs, fun hp => by omega, fun _ => rfl⟩
  · obtain ⟨g, c, e, hc, hg, hl, hr⟩ := h.row h0
    exact ⟨_, c, g, e, hc, hg, hr.at hl, fun _ => ⟨rfl, hl, hr.u8s hb⟩, fun h => by omega⟩
theorem one_at {α : Type} {l : List α} {i : Nat} {x : α} (h : l[i]? = some x) : (l.drop i).take 1 = [x] := by
  obtain ⟨hi, rfl⟩ := List.getElem?_eq_some_iff.1 h
  rw [List.drop_eq_getElem_cons hi]; rfl
end Go.Proofs.YtpmjlaiafgbjgaaGreatDoor
end

section
namespace Go.Proofs.YtpmjlaiafgbjgaaGreatDoor
open Go.RowKit
attribute [local go_sem] Oper.semAt_some
theorem ownsRow_block {w : World} {base : Nat} {e : TypeId} {size : Nat} {v : Value} {n : Nat} {xs : List Value} (h : w.ownsRow base e size v n xs) {j : Nat} (hj : v.ownBlock = some j) : ∃ cur, w.heap[j]? = some (.cells cur e (0, 0)) := by
  rcases h.2 with ⟨rfl, _⟩ | ⟨g, cap, cur, rfl, _, hg, _⟩
  · cases hj
  · obtain rfl : g = j := Option.some.inj hj
    exact ⟨cur, hg⟩
theorem ownsRow_away {w w' : World} {row : Option Nat} {base : Nat} {e : TypeId} {size : Nat} {v : Value} {n : Nat} {xs : List Value} (h : w.ownsRow base e size v n xs) (hg : w.grownBy w' row) (hr : ∀ r, row = some r → ∃ o : Obj, w.heap[r]? = some o ∧ o.isCells = false) : w'.ownsRow base e size v n xs :=
  ownsRow_keep h fun j hj => hg.block j (h.lt j hj).2 (fun e' => by
    obtain ⟨o, ho, hc⟩ := hr j e'.symm
    obtain ⟨cur, hcur⟩ := ownsRow_block h hj
    rw [hcur] at ho
    injection ho with ho
    rw [← ho] at hc
    cases hc)
theorem RecP.away {w w' : World} {row : Option Nat} {base : Nat} {v : Value} {ps : List (IRec × Value)} (h : RecP w base v ps) (hg : w.grownBy w' row) (hr : ∀ r, row = some r → ∃ o : Obj, w.heap[r]? = some o ∧ o.isCells = false) : RecP w' base v ps :=
  ⟨ownsRow_away h.1 hg hr, fun p hp => ⟨ownsRow_away (h.2 p hp).1 hg hr, (h.2 p hp).2⟩⟩
def Yd.p (x : Yd) : IRec × Value := ((x.k, x.d), x.v)
def AllI (n₁ : Nat) (w : World) (pre : List Yd) (W : World) : Prop := (∃ v, Boxed W w.heap.size 52 v ∧ RecP W n₁ v (pre.map Yd.p)) ∧ Below w.heap.size w W ∧ n₁ ≤ W.heap.size
theorem AllI.own (n₁ : Nat) (w : World) {B : Nat} (hB : w.heap.size ≤ B) : OwnFrom B (AllI n₁ w) := by
  rintro s A C row ⟨⟨v, h1, h2⟩, h3, h4⟩ hg hr
  have hr' : ∀ r, row = some r → ∃ o : Obj, A.heap[r]? = some o ∧ o.isCells = false := fun r e => (hr r e).2
  refine ⟨⟨v, h1.kept hg (fun e => ?_), h2.away hg hr'⟩, h3.grown hg h3.size (fun k e => Nat.le_trans hB (hr k e).1), Nat.le_trans h4 hg.size⟩
  obtain ⟨o, ho, hc⟩ := hr' _ e.symm
  rw [show A.heap[w.heap.size]? = _ from h1] at ho
  injection ho with ho
  rw [← ho] at hc
  cases hc
def AllX (n₁ : Nat) (w : World) (a : Nat → Value → Value → Act) (x : Yd) (a' : Act) (W : World) : Prop := ∃ Bx, w.heap.size < Bx ∧ W.heap[Bx]? = some (.cells #[.int .i64 x.k, x.v] 30 (0, 0)) ∧ (OwnB W n₁ x.v x.d ∧ Bytes x.d) ∧ a' = a Bx (.int .i64 (x.i : Int)) (.agg #[.int .i64 x.k, x.v])
theorem AllX.own (n₁ : Nat) (w : World) (a : Nat → Value → Value → Act) (x : Yd) (a' : Act) (B : Nat) : OwnFrom B (fun (_ : Unit) W => AllX n₁ w a x a' W) := by
  rintro s A C row ⟨Bx, h1, h2, ⟨h3, h4⟩, h5⟩ hg hr
  have hr' : ∀ r, row = some r → ∃ o : Obj, A.heap[r]? = some o ∧ o.isCells = false := fun r e => (hr r e).2
  refine ⟨Bx, h1, (hg.block Bx (Array.getElem?_eq_some_iff.1 h2).1 (fun e => ?_)).trans h2, ⟨ownsRow_away h3 hg hr', h4⟩, h5⟩
  obtain ⟨o, ho, hc⟩ := hr' _ e.symm
  rw [h2] at ho
  injection ho with ho
  rw [← ho] at hc
  cases hc
end Go.Proofs.YtpmjlaiafgbjgaaGreatDoor
end

section
namespace Go.Proofs.YtpmjlaiafgbjgaaGreatDoor
open Go.RowKit
attribute [local go_sem] Oper.semAt_some
abbrev NotCells (w : World) (row : Option Nat) : Prop := ∀ r, row = some r → ∃ o : Obj, w.heap[r]? = some o ∧ o.isCells = false
theorem OwnM.cells {w : World} {base : Nat} {v : Value} {l : List Nat} (h : OwnM w base v l) {j : Nat} (hj : v.ownBlock = some j) : ∃ c e f, w.heap[j]? = some (.cells c e f) := by
  rcases h with h | ⟨g, rfl, _, hg, _⟩
  · obtain ⟨c, hc⟩ := ownsRow_block h hj
    exact ⟨_, _, _, hc⟩
  · obtain rfl : g = j := Option.some.inj hj
    exact ⟨_, _, _, hg⟩
theorem Rws.owned_cells {w : World} {base : Nat} {ps : List (IRec × Value)} {lv : Value} {ks : List Nat} {kv : Value} {bs : List Nat} {bv : Value} (h : Rws w base ps lv ks kv bs bv) {j : Nat} (hj : Owned ps lv kv bv j) : ∃ c e f, w.heap[j]? = some (.cells c e f) := by
  rcases hj with hj | hj | hj | ⟨p, hp, hj⟩
  · obtain ⟨c, hc⟩ := ownsRow_block h.recs.1 hj; exact ⟨_, _, _, hc⟩
  · obtain ⟨c, hc⟩ := ownsRow_block h.links hj; exact ⟨_, _, _, hc⟩
  · exact h.bytes.cells hj
  · obtain ⟨c, hc⟩ := ownsRow_block (h.recs.2 p hp).1 hj; exact ⟨_, _, _, hc⟩
theorem grown_cells {w w' : World} {row : Option Nat} (hg : w.grownBy w' row) (hr : NotCells w row) {j : Nat} {c : Array Value} {e : TypeId} {f : Nat × Nat} (hc : w.heap[j]? = some (.cells c e f)) : w'.heap[j]? = w.heap[j]? :=
  hg.block j (Array.getElem?_eq_some_iff.1 hc).1 (fun e' => by
    obtain ⟨o, ho, hcc⟩ := hr j e'.symm
    rw [hc] at ho
    injection ho with ho
    rw [← ho] at hcc
    cases hcc)
theorem LogS.away {w w' : World} {row : Option Nat} {S : Nat → Prop} {xb : Nat} {rs : List Rec} (h : LogS w S xb rs) (hg : w.grownBy w' row) (hr : NotCells w row) : LogS w' S xb rs := by
  obtain ⟨hS, hmade, hfirm, ps, lv, kv, bv, hps, p1, p2, p3, hRW, hown⟩ := h
  obtain ⟨o, ho, hc⟩ := cells_of_cell hmade
  have hx := grownBy_keeps_cells hg hr ho hc
  have hx : w'.heap[xb]? = w.heap[xb]? := hx
  refine ⟨hS, (World.cell?_of_block hx).trans hmade, fun i => (World.frozen?_of_block hx).trans (hfirm i), ps, lv, kv, bv, hps, (World.cell?_of_block hx).trans p1, (World.cell?_of_block hx).trans p2, (World.cell?_of_block hx).trans p3, hRW.keepO (fun j hj _ => ?_), hown⟩
  obtain ⟨c, e, f, hc⟩ := hRW.owned_cells hj
  exact grown_cells hg hr hc
def CellsOf (w : World) (S : Nat → Prop) (j : Nat) : Prop := S j ∧ ∃ c e f, w.heap[j]? = some (.cells c e f)
theorem LogS.shrink {w : World} {S : Nat → Prop} {xb : Nat} {rs : List Rec} (h : LogS w S xb rs) : LogS w (CellsOf w S) xb rs := by
  obtain ⟨hS, hmade, hfirm, ps, lv, kv, bv, hps, p1, p2, p3, hRW, hown⟩ := h
  have hx : ∃ c e f, w.heap[xb]? = some (.cells c e f) := by
    obtain ⟨o, ho, hc⟩ := cells_of_cell hmade
    cases o with
    | cells c e f => exact ⟨c, e, f, ho⟩
    | _ => cases hc
  exact ⟨⟨hS, hx⟩, hmade, hfirm, ps, lv, kv, bv, hps, p1, p2, p3, hRW, fun j hj => ⟨⟨(hown j hj).1, hRW.owned_cells hj⟩, (hown j hj).2⟩⟩
theorem ButS.keepsFrom {S : Nat → Prop} {w w' : World} (h : ButS S w w') (hc : ∀ j, S j → ∃ c e f, w.heap[j]? = some (.cells c e f)) (B : Nat) : KeepsFrom B w w' := ⟨h.size, fun k o _ hk ho => (h.block k (Array.getElem?_eq_some_iff.1 hk).1 (fun hs => by
    obtain ⟨c, e, f, hc⟩ := hc k hs
    rw [hc] at hk
    injection hk with hk
    rw [← hk] at ho
    cases ho)).trans hk⟩
def YdP (rs : List Rec) (m : Nat) (pre : List Yd) : Prop := pre.map (fun x => ((x.k, x.d) : IRec)) = ((rs.map Rec.i).drop m).take pre.length ∧ (∀ j x, pre[j]? = some x → x.i = m + j) ∧ pre.length ≤ rs.length - m
theorem YdP.nil (rs : List Rec) (m : Nat) : YdP rs m [] := ⟨rfl, fun j x hx => by simp at hx, Nat.zero_le _⟩
theorem YdP.more {rs : List Rec} {m : Nat} {pre : List Yd} {r : Rec} {v : Value} (h : YdP rs m pre) (hr : rs[m + pre.length]? = some r) : YdP rs m (pre ++ [⟨m + pre.length, (r.kind : Int), v, r.data⟩]) := by
  obtain ⟨h1, h2, h3⟩ := h
  obtain ⟨hlt, _⟩ := List.getElem?_eq_some_iff.1 hr
  refine ⟨?_, fun j x hx => ?_, by rw [List.length_append]; simp; omega⟩
  · rw [List.map_append, h1, List.length_append]
    show _ ++ [r.i] = List.take (pre.length + 1) _
    rw [List.take_add_one, List.getElem?_drop, List.getElem?_map, hr]; rfl
  · by_cases hj : j < pre.length
    · rw [List.getElem?_append_left hj] at hx; exact h2 j x hx
    · rw [List.getElem?_append_right (by omega)] at hx
      have hj0 : j - pre.length = 0 := by
        rcases Nat.eq_zero_or_pos (j - pre.length) with h | h
        · exact h
        · rw [List.getElem?_eq_none (by simp; omega)] at hx; cases hx
      rw [hj0] at hx
      have := Option.some.inj hx
      rw [← this]
      show m + pre.length = m + j
      omega
theorem YdP.last {rs : List Rec} {m : Nat} {pre : List Yd} {x : Yd} (h : YdP rs m (pre ++ [x])) : x.i = m + pre.length ∧ (rs.map Rec.i)[m + pre.length]? = some (x.k, x.d) := by
  obtain ⟨h1, h2, h3⟩ := h
  have hg : (pre ++ [x])[pre.length]? = some x := by rw [List.getElem?_append_right (Nat.le_refl _)]; simp
  refine ⟨h2 _ _ hg, ?_⟩
  have h4 : ((pre ++ [x]).map (fun x => ((x.k, x.d) : IRec)))[pre.length]? = some (x.k, x.d) := by rw [List.getElem?_map, hg]; rfl
  rw [h1, List.getElem?_take] at h4
  split at h4
  · rwa [List.getElem?_drop] at h4
  · cases h4
def EachG (xb bx bf : Nat) (cf : Int) (rs : List Rec) (pre : List Yd) (W : World) : Prop := (∃ S0 extra, LogS W S0 xb (rs ++ extra) ∧ (pre = [] → extra = [])) ∧ W.cell? ⟨bx, 0, none⟩ = some (.pointer (some ⟨xb, 0, none⟩)) ∧ W.cell? ⟨bf, 0, none⟩ = some (.int .i64 cf)
def EachT (rs : List Rec) (m : Nat) (pre : List Yd) (x : Yd) (W0 W1 : World) : Prop := YdP rs m (pre ++ [x]) ∧ OwnB W1 W0.heap.size x.v x.d ∧ Bytes x.d ∧ x.d.length ≤ 1048576
set_option maxRecDepth 100000 in
set_option maxHeartbeats 1000000 in
theorem Each1_G (xb bx bf m : Nat) (cf : Int) (hmx : max cf 0 = (m : Int)) (rs : List Rec) (hrd : ∀ r ∈ rs, r.data.length ≤ 1048576 ∧ Bytes r.data) (hrs : rs.length ≤ 1048576) : SeqG Fence.wide 2 Tryz.prog 61 #[.pointer (some ⟨bx, 0, none⟩), .pointer (some ⟨bf, 0, none⟩)] Yd.enc (EachG xb bx bf cf rs) (EachT rs m) (fun xs => YdP rs m xs ∧ xs.length = rs.length - m) (YdP rs m) rs.length := by
  intro l J Jx W hJ hJx hG hY h0
  obtain ⟨⟨S0, extra, hP, he⟩, hbx, hbf⟩ := hG _ _ h0
  obtain rfl := he rfl
  rw [List.append_nil] at hP
  clear he
  have hbxl := World.block_lt_of_cell? _ _ hbx
  have hbfl := World.block_lt_of_cell? _ _ hbf
  have hxbl := hP.lt
  have LN := Lib.hid (Len_log S0 xb rs W hP)
  clear hP
  have HJ := Lib.hid hJ; have HG := Lib.hid hG; have HY := Lib.hid hY; have H0 := Lib.hid h0; have HRD := Lib.hid hrd; clear hJ hJx hG hY h0 hrd
  refine callsIn_of_wp Tryz.func61 rfl trivial ?_ rfl
  simp only [Tryz.ntmps61, List.size_toArray, List.length_cons, List.length_nil, Nat.reduceAdd, Nat.reduceSub, Array.replicate_succ, Array.replicate_zero, List.push_toArray, List.append_toArray, List.nil_append, List.cons_append]
  gi_wp2_with (refine ⟨trivial, ?_⟩; gi_at_call 40; refine (callsIn_wide.2 LN.out).mono ?_; rintro e1 w1 ⟨rfl, hw1⟩; have hw2 := hw1.symm; subst hw2)
  gi_loopw [5] (fun iv wr => ∃ pre : List Yd, iv = .int .i64 ((m + pre.length : Nat) : Int) ∧ YdP rs m pre ∧ J pre wr) (fun iv _ => rs.length - (intOf iv).toNat)
  case atStart => exact ⟨[], by simp, YdP.nil rs m, H0.out⟩
  case round =>
    obtain ⟨pre, rfl, hpre, hJs⟩ := hrel
    obtain ⟨⟨S1, ex, hPr, _⟩, hbx', hbf'⟩ := HG.out _ _ hJs
    have hxl := World.block_lt_of_cell? _ _ hbx'
    have hfl := World.block_lt_of_cell? _ _ hbf'
    obtain ⟨k, hk⟩ : ∃ k, m + pre.length = k := ⟨_, rfl⟩
    by_cases hlt : k < rs.length
    · obtain ⟨r, hr⟩ : ∃ r, rs[k]? = some r := ⟨_, List.getElem?_eq_getElem hlt⟩
      have hr2 : (rs ++ ex)[k]? = some r := by rw [List.getElem?_append_left hlt]; exact hr
      have GL := Lib.hid (Get_log S1 xb (rs ++ ex) k r hr2 (by have := (HRD.out r (List.mem_of_getElem? hr)).1; omega) wr hPr)
      have hmore := fun v => hpre.more (r := r) (v := v) (by rw [hk]; exact hr)
      rw [hk] at hmore
      have HR := Lib.hid (And.intro (HRD.out r (List.mem_of_getElem? hr)).2 (HRD.out r (List.mem_of_getElem? hr)).1)
      have HYY : Hid (∀ w2 v2, OwnB w2 wr.heap.size v2 r.data → Within wr w2 → YieldAt Fence.wide (2 - 1) Tryz.prog l (Yd.enc ⟨k, (r.kind : Int), v2, r.data⟩) (w2.alloc (.cells #[.int .i64 (r.kind : Int), v2] 30)) fun e W' => (e = .returned (.bool true) ∧ J (pre ++ [⟨k, (r.kind : Int), v2, r.data⟩]) W') ∨ (e = .returned (.bool false) ∧ Jx (pre ++ [⟨k, (r.kind : Int), v2, r.data⟩]) W')) := Lib.hid (fun w2 v2 hO h => HY.out pre _ wr _ hJs (h.alloc _) ⟨hmore v2, hO.of ((Within.refl _).alloc _), HR.out⟩ (by omega))
      have b1 : (k : Int) < (rs.length : Int) := by omega
      obtain ⟨kd, hkd⟩ : ∃ k, (r.kind : Int) = k := ⟨_, rfl⟩
      rw [hkd] at GL HYY hmore
      obtain ⟨nd, hnd⟩ : ∃ n, r.data.length = n := ⟨_, rfl⟩
      have HND := Lib.hid hnd
      have HM := Lib.hid hmore; have HK := Lib.hid hk; clear hmore hPr hr hr2 hkd hnd hpre hJs
      rw [HK.out]
      gi_wp2_with (refine ⟨trivial, ?_⟩; gi_at_call 41; refine (callsIn_wide.2 GL.out).mono ?_; rintro e2 w2 ⟨v2, rfl, hO2, h2⟩; obtain ⟨A2, c2, rfl, _, _, _⟩ := hO2.form; obtain ⟨fn, tmps, assign, body, hy, hR⟩ := HYY.out w2 _ hO2 h2; dsimp only [Yd.enc] at hy; rw [HND.out] at hy hR ⊢)
      refine hR.mono ?_; rintro e3 W3 (⟨rfl, hJ3⟩ | ⟨rfl, hJ3⟩)
      · have HJ3 := Lib.hid hJ3; clear hJ3 h2 hO2
        gi_wp2
        go_roundw
        case rel => exact ⟨_, by rw [List.length_append]; show Value.int _ _ = Value.int _ _; congr 1; have := HK.out; simp; omega, HM.out _, HJ3.out⟩
        case measure => simp [intOf]; omega
      · have HJ3 := Lib.hid hJ3; clear hJ3 h2 hO2
        gi_wp2
        refine bodyPost_ret (results_none rfl _ _ _) rfl ⟨⟨_, rfl⟩, .inr ⟨_, HM.out _, HJ3.out⟩⟩
    · have hlen : pre.length = rs.length - m := by have := hpre.2.2; omega
      have b2 : ¬ (k : Int) < (rs.length : Int) := by omega
      have HA := Lib.hid hpre; have HL := Lib.hid hlen; have HJS := Lib.hid hJs; have b3 : decide ((k : Int) < (rs.length : Int)) = false := decide_eq_false b2; clear hpre hlen hJs hPr
      rw [hk]
      gi_wp2
      go_end0
      exact ⟨⟨_, rfl⟩, .inl ⟨pre, ⟨HA.out, HL.out⟩, HJS.out⟩⟩
end Go.Proofs.YtpmjlaiafgbjgaaGreatDoor
end

section
namespace Go.Proofs.YtpmjlaiafgbjgaaGreatDoor
open Go.RowKit
attribute [local go_sem] Oper.semAt_some
theorem SlAt.away {w w' : World} {row : Option Nat} {A : Option Addr} {xs : List Value} (h : SlAt w A xs) (hg : w.grownBy w' row) (hr : NotCells w row) : SlAt w' A xs := fun hn => by
  obtain ⟨ad, e, hl, hx⟩ := h hn
  exact ⟨ad, e, Nat.lt_of_lt_of_le hl hg.size, fun j u hj => cell_kept (hx j u hj) hg hr⟩
structure CloI (w : World) (S0 : Nat → Prop) (xb nb bY bx bf : Nat) (rs : List Rec) (pre : List Yd) (W : World) : Prop where
  y : Boxed W bY 23 (.pointer (some ⟨nb, 0, none⟩))
  new : ∃ S, LogS W S nb (rs.take pre.length) ∧ ∀ j, S j → (w.heap.size ≤ j ∧ j < W.heap.size) ∧ (j ≠ bY ∧ j ≠ bx ∧ j ≠ bf) ∧ ∃ c e f, W.heap[j]? = some (.cells c e f)
  old : LogS W S0 xb rs
  cx : W.cell? ⟨bx, 0, none⟩ = some (.pointer (some ⟨xb, 0, none⟩))
  cf : W.cell? ⟨bf, 0, none⟩ = some (.int .i64 0)
  bel : Below w.heap.size w W
theorem CloI.own (w : World) (S0 : Nat → Prop) (xb nb bY bx bf : Nat) (rs : List Rec) {B : Nat} (hB : w.heap.size ≤ B) : OwnFrom B (CloI w S0 xb nb bY bx bf rs) := by
  rintro s A C row ⟨h1, ⟨S, h2, h3⟩, h4, h5, h6, h7⟩ hg hr
  have hr' : NotCells A row := fun r e => (hr r e).2
  refine ⟨h1.kept hg (fun e => ?_), ⟨S, h2.away hg hr', fun j hj => ?_⟩, h4.away hg hr', cell_kept h5 hg hr', cell_kept h6 hg hr', h7.grown hg h7.size (fun k e => Nat.le_trans hB (hr k e).1)⟩
  · obtain ⟨o, ho, hc⟩ := hr' _ e.symm
    rw [show A.heap[bY]? = _ from h1] at ho
    injection ho with ho
    rw [← ho] at hc
    cases hc
  · obtain ⟨h8, h9, c, e, f, h10⟩ := h3 j hj
    exact ⟨⟨h8.1, Nat.lt_of_lt_of_le h8.2 hg.size⟩, h9, c, e, f, (grown_cells hg hr' h10).trans h10⟩
def CloX (B : Nat) (rs : List Rec) (a : Nat → Value → Value → Act) (pre : List Yd) (x : Yd) (a' : Act) (W : World) : Prop := ∃ Bx A c r, rs[pre.length]? = some r ∧ x.k = (r.kind : Int) ∧ x.d = r.data ∧ x.v = .slice A r.data.length c ∧ r.data.length ≤ c ∧ W.heap[Bx]? = some (.cells #[.int .i64 (r.kind : Int), .slice A r.data.length c] 30 (0, 0)) ∧ SlAt W A (u8v r.data) ∧ a' = a Bx (.int .i64 (x.i : Int)) (.agg #[.int .i64 (r.kind : Int), .slice A r.data.length c])
theorem CloX.own (rs : List Rec) (a : Nat → Value → Value → Act) (pre : List Yd) (x : Yd) (a' : Act) (B : Nat) : OwnFrom B (fun (_ : Unit) W => CloX B rs a pre x a' W) := by
  rintro s A C row ⟨Bx, A', c, r, h1, h2, h3, h4, h5, h6, h7, h8⟩ hg hr
  have hr' : NotCells A row := fun r e => (hr r e).2
  exact ⟨Bx, A', c, r, h1, h2, h3, h4, h5, (grown_cells hg hr' h6).trans h6, h7.away hg hr', h8⟩
end Go.Proofs.YtpmjlaiafgbjgaaGreatDoor
end

section
namespace Go.Proofs.YtpmjlaiafgbjgaaGreatDoor
open Go.RowKit
section
variable {P : Program} {ops : Array Oper} {l n : Nat}
theorem letsOut_onlyN (Q : Exit → Act → World → Prop) : ¬ LetsOut (OnlyN Q) := fun ⟨_, _, h⟩ => h
theorem rows_in {row : String} {args : Array Value} {w : World} {m : Nat} {R : Value → World → Prop} (h : Rows P row args w R) : RowsIn (Fence.wide.inRound l) m P row args w R := fun c cs _ => by
  obtain ⟨v, w', r, s⟩ := h c cs
  exact ⟨v, w', r, stepsIn_wide.2 s⟩
theorem oper_in {o : Oper} (hd : ∀ c, o.op ≠ .defer c) {a : Act} {w : World} {K : Act → World → Prop} {Q : Exit → Act → World → Prop} (h : o.wp P a w K Q) : o.wpIn (Fence.wide.inRound l) n P a w K Q := by
  unfold Oper.wpIn
  unfold Oper.wp at h
  refine ⟨fun _ _ => trivial, ?_⟩
  rw [Oper.semAt_eq _ _ _ hd]
  generalize (execOp a.eval o).run P w = r at *
  cases r with
  | ok x w' =>
    cases x <;> simp only [Oper.upon, Oper.uponIn] at h ⊢ <;> first | exact h | exact ⟨fun e => (by cases e), (callsIn_wide.2 h).inRound l⟩ | exact ⟨fun e => (by cases e), rows_in h⟩
  | halt x w' => cases x <;> simp only [Oper.upon, Oper.uponIn] at h ⊢ <;> exact h
def noDefer (ops : Array Oper) : Bool := ops.toList.all fun o => match o.op with | .defer _ => false | _ => true
theorem noDefer_spec (h : noDefer ops = true) {i : Nat} {o : Oper} (ho : ops[i]? = some o) : ∀ c, o.op ≠ .defer c := by
  intro c hc
  have hm := List.all_eq_true.1 h o (by rw [Array.getElem?_eq_some_iff] at ho; obtain ⟨hi, rfl⟩ := ho; exact Array.getElem_mem_toList hi)
  rw [hc] at hm
  cases hm
theorem wpOp_in (hd : noDefer ops = true) {Q : Exit → Act → World → Prop} {i : Nat} {K K' : Act → World → Prop} {a : Act} {w : World} (hK : ∀ a w, K a w → K' a w) (h : wpOp P ops (OnlyN Q) i K a w) : wpOpIn (Fence.wide.inRound l) n P ops (OnlyN Q) i K' a w := by
  unfold wpOp at h
  unfold wpOpIn
  cases ho : ops[i]? with
  | none => rw [ho] at h; exact hK _ _ h
  | some o =>
    rw [ho] at h
    simp only at h ⊢
    split
    · rename_i hw
      rw [if_pos hw] at h
      rcases h with h | ⟨_, h⟩
      · exact Oper.wpIn_mono hK (oper_in (noDefer_spec hd ho) h)
      · exact absurd h (letsOut_onlyN Q)
    · rename_i hw
      rw [if_neg hw] at h
      exact ⟨fun _ _ => trivial, hK _ _ h⟩
theorem wpAny_in (hd : noDefer ops = true) {Q : Exit → Act → World → Prop} {md : Region.Mode} : ∀ (fuel : Nat) (listed : Array Bool) (a : Act) (w : World), wpAny P md ops (OnlyN Q) fuel listed a w → wpAnyIn (Fence.wide.inRound l) n P md ops (OnlyN Q) fuel listed a w
  | 0, _, _, _, h => h
  | fuel + 1, listed, a, w, h => ⟨h.1, fun i hi => wpOp_in hd (fun a w => wpAny_in hd fuel _ a w) (h.2 i hi)⟩
theorem wpIn_region_sch {Q : Exit → Act → World → Prop} {id : Nat} {a : Act} {w : World} (S : World → Prop) (p : Nat) (t : Sch) (hd : noDefer ops = true) (hm : P.follows .mixedOrders = true) (hB : t.okAll ops p = true) (hS : S w.drew)
    (h : S w.drew → wpSch P ops (OnlyN Q) S p t a w.drew) : (Code.region id ops true).wpIn (Fence.wide.inRound l) n P Q a w := by
  simp only [Sch.okAll, Bool.and_eq_true, decide_eq_true_eq] at hB
  obtain ⟨⟨⟨⟨⟨hsel, hn⟩, hs⟩, hc⟩, hlen⟩, hsc⟩ := hB
  have inv0 : HeadInv .any ops p (Array.replicate ops.size false) :=
    ⟨by simp, fun j oj _ hl => (by rw [getD_replicate_false] at hl; cases hl), fun t _ ht => Go.getD_in (by simpa using ht) (getD_replicate_false _ _)⟩
  exact wpIn_mono (wpIn_region_any hm (wpAny_in hd _ _ _ _ (wpAny_of_G _ _ _ _ (wpAnyG_sch (md := .any) (S := S) hsel (Q := OnlyN Q) (fun c a d v w h => h) hs hc hn t _ _ a w.drew hlen (.inl inv0) hsc (h hS))))) OnlyN.imp
end
end Go.Proofs.YtpmjlaiafgbjgaaGreatDoor
end

section
namespace Go.Proofs.YtpmjlaiafgbjgaaGreatDoor
open Go.RowKit
section
variable {P : Program} {ops : Array Oper} {n : Nat}
theorem rows_inW {row : String} {args : Array Value} {w : World} {m : Nat} {R : Value → World → Prop} (h : Rows P row args w R) : RowsIn Fence.wide m P row args w R := fun c cs _ => by
  obtain ⟨v, w', r, s⟩ := h c cs
  exact ⟨v, w', r, stepsIn_wide.2 s⟩
theorem oper_inW {o : Oper} (hd : ∀ c, o.op ≠ .defer c) {a : Act} {w : World} {K : Act → World → Prop} {Q : Exit → Act → World → Prop} (h : o.wp P a w K Q) : o.wpIn Fence.wide n P a w K Q := by
  unfold Oper.wpIn
  unfold Oper.wp at h
  refine ⟨fun _ _ => trivial, ?_⟩
  rw [Oper.semAt_eq _ _ _ hd]
  generalize (execOp a.eval o).run P w = r at *
  cases r with
  | ok x w' =>
    cases x <;> simp only [Oper.upon, Oper.uponIn] at h ⊢ <;> first | exact h | exact ⟨fun e => (by cases e), callsIn_wide.2 h⟩ | exact ⟨fun e => (by cases e), rows_inW h⟩
  | halt x w' => cases x <;> simp only [Oper.upon, Oper.uponIn] at h ⊢ <;> exact h
theorem wpOp_inW (hd : noDefer ops = true) {Q : Exit → Act → World → Prop} {i : Nat} {K K' : Act → World → Prop} {a : Act} {w : World} (hK : ∀ a w, K a w → K' a w) (h : wpOp P ops (OnlyN Q) i K a w) : wpOpIn Fence.wide n P ops (OnlyN Q) i K' a w := by
  unfold wpOp at h
  unfold wpOpIn
  cases ho : ops[i]? with
  | none => rw [ho] at h; exact hK _ _ h
  | some o =>
    rw [ho] at h
    simp only at h ⊢
    split
    · rename_i hw
      rw [if_pos hw] at h
      rcases h with h | ⟨_, h⟩
      · exact Oper.wpIn_mono hK (oper_inW (noDefer_spec hd ho) h)
      · exact absurd h (letsOut_onlyN Q)
    · rename_i hw
      rw [if_neg hw] at h
      exact ⟨fun _ _ => trivial, hK _ _ h⟩
theorem wpAny_inW (hd : noDefer ops = true) {Q : Exit → Act → World → Prop} {md : Region.Mode} : ∀ (fuel : Nat) (listed : Array Bool) (a : Act) (w : World), wpAny P md ops (OnlyN Q) fuel listed a w → wpAnyIn Fence.wide n P md ops (OnlyN Q) fuel listed a w
  | 0, _, _, _, h => h
  | fuel + 1, listed, a, w, h => ⟨h.1, fun i hi => wpOp_inW hd (fun a w => wpAny_inW hd fuel _ a w) (h.2 i hi)⟩
theorem wpIn_region_schW {Q : Exit → Act → World → Prop} {id : Nat} {a : Act} {w : World} (S : World → Prop) (p : Nat) (t : Sch) (hd : noDefer ops = true) (hm : P.follows .mixedOrders = true) (hB : t.okAll ops p = true) (hS : S w.drew)
    (h : S w.drew → wpSch P ops (OnlyN Q) S p t a w.drew) : (Code.region id ops true).wpIn Fence.wide n P Q a w := by
  simp only [Sch.okAll, Bool.and_eq_true, decide_eq_true_eq] at hB
  obtain ⟨⟨⟨⟨⟨hsel, hn⟩, hs⟩, hc⟩, hlen⟩, hsc⟩ := hB
  have inv0 : HeadInv .any ops p (Array.replicate ops.size false) :=
    ⟨by simp, fun j oj _ hl => (by rw [getD_replicate_false] at hl; cases hl), fun t _ ht => Go.getD_in (by simpa using ht) (getD_replicate_false _ _)⟩
  exact wpIn_mono (wpIn_region_any hm (wpAny_inW hd _ _ _ _ (wpAny_of_G _ _ _ _ (wpAnyG_sch (md := .any) (S := S) hsel (Q := OnlyN Q) (fun c a d v w h => h) hs hc hn t _ _ a w.drew hlen (.inl inv0) hsc (h hS))))) OnlyN.imp
theorem wpIn_region_schGW {Q : Exit → Act → World → Prop} {id : Nat} {a : Act} {w : World} (F : World → Prop) (p : Nat) (t : Sch) (hm : P.follows .mixedOrders = true) (hB : (t.okAll ops p && noDefer ops) = true) (hF : F w)
    (h : ∀ w0, F w0 → wpSch P ops (OnlyN Q) (Within w0) p t a w0.drew) : (Code.region id ops true).wpIn Fence.wide n P Q a w := by
  rw [Bool.and_eq_true] at hB
  exact wpIn_region_schW (Within w) p t hB.2 hm hB.1 ((Within.refl w).drew) fun _ => h w hF
end
end Go.Proofs.YtpmjlaiafgbjgaaGreatDoor
end

section
namespace Go.Proofs.YtpmjlaiafgbjgaaGreatDoor
open Go.RowKit
attribute [local go_sem] Oper.semAt_some
structure GoF (w : World) (q xb : Nat) (fr bg : Int) (W : World) : Prop where
  v : Boxed W q 4 (.bool false)
  g : Boxed W (q + 1 + 1 + 1) 3 (.int .i64 bg)
  cx : W.cell? ⟨q + 1, 0, none⟩ = some (.pointer (some ⟨xb, 0, none⟩))
  cf : W.cell? ⟨q + 1 + 1, 0, none⟩ = some (.int .i64 fr)
  bel : Below w.heap.size w W
theorem boxed_away {w w' : World} {row : Option Nat} {b t : Nat} {v : Value} (h : Boxed w b t v) (hg : w.grownBy w' row) (hr : NotCells w row) : Boxed w' b t v := h.kept hg (fun e => by
  obtain ⟨o, ho, hc⟩ := hr _ e.symm
  rw [show w.heap[b]? = _ from h] at ho
  injection ho with ho
  rw [← ho] at hc
  cases hc)
theorem GoF.grown {w : World} {q xb : Nat} {fr bg : Int} {W W' : World} {row : Option Nat} (h : GoF w q xb fr bg W) (hg : W.grownBy W' row) (hr : ∀ r, row = some r → w.heap.size ≤ r ∧ ∃ o : Obj, W.heap[r]? = some o ∧ o.isCells = false) : GoF w q xb fr bg W' := by
  have hr' : NotCells W row := fun r e => (hr r e).2
  exact ⟨boxed_away h.v hg hr', boxed_away h.g hg hr', cell_kept h.cx hg hr', cell_kept h.cf hg hr', h.bel.grown hg h.bel.size (fun j e => (hr j e).1)⟩
theorem GoF.of {w : World} {q xb : Nat} {fr bg : Int} {W W' : World} (h : GoF w q xb fr bg W) (hi : Within W W') : GoF w q xb fr bg W' := h.grown (within_grown hi) (fun r e => by cases e)
structure GoI (w : World) (q xb : Nat) (fr bg : Int) (rs : List Rec) (m p n₁ D : Nat) (pre : List Yd) (W : World) : Prop where
  f : GoF w q xb fr bg W
  l : ∃ v, Boxed W p 52 v ∧ RecP W n₁ v (pre.map Yd.p)
  n : n₁ ≤ W.heap.size
  d : W.heap[D]? = some (.deferred (some []))
  y : YdP rs m pre
theorem GoI.own (w : World) (q xb : Nat) (fr bg : Int) (rs : List Rec) (m p n₁ D : Nat) {B : Nat} (hB : w.heap.size ≤ B) (hD : D < B) : OwnFrom B (GoI w q xb fr bg rs m p n₁ D) := by
  rintro s A C row ⟨h1, ⟨v, h2, h3⟩, h4, h5, h6⟩ hg hr
  have hr' : NotCells A row := fun r e => (hr r e).2
  exact ⟨h1.grown hg (fun r e => ⟨Nat.le_trans hB (hr r e).1, (hr r e).2⟩), ⟨v, boxed_away h2 hg hr', h3.away hg hr'⟩, Nat.le_trans h4 hg.size, (hg.block _ (Array.getElem?_eq_some_iff.1 h5).1 (fun e => by have := (hr _ e.symm).1; omega)).trans h5, h6⟩
def GoX (n₁ : Nat) (rs : List Rec) (m : Nat) (a : Nat → Value → Value → Act) (pre : List Yd) (x : Yd) (a' : Act) (W : World) : Prop := ∃ Bx, n₁ ≤ Bx ∧ W.heap[Bx]? = some (.cells #[.int .i64 x.k, x.v] 30 (0, 0)) ∧ OwnB W n₁ x.v x.d ∧ Bytes x.d ∧ YdP rs m (pre ++ [x]) ∧ a' = a Bx (.int .i64 (x.i : Int)) (.agg #[.int .i64 x.k, x.v])
theorem GoX.own (n₁ : Nat) (rs : List Rec) (m : Nat) (a : Nat → Value → Value → Act) (pre : List Yd) (x : Yd) (a' : Act) (B : Nat) : OwnFrom B (fun (_ : Unit) W => GoX n₁ rs m a pre x a' W) := by
  rintro s A C row ⟨Bx, h1, h2, h3, h4, h5, h6⟩ hg hr
  have hr' : NotCells A row := fun r e => (hr r e).2
  exact ⟨Bx, h1, (grown_cells hg hr' h2).trans h2, ownsRow_away h3 hg hr', h4, h5, h6⟩
end Go.Proofs.YtpmjlaiafgbjgaaGreatDoor
end

section
namespace Go.Proofs.YtpmjlaiafgbjgaaGreatDoor
open Go.RowKit
def strNums (s : ByteArray) : List Nat := s.data.toList.map (·.toNat)
theorem strNums_len (s : ByteArray) : (strNums s).length = s.size := by unfold strNums; rw [List.length_map, Array.length_toList]; rfl
theorem strNums_bytes (s : ByteArray) : Bytes (strNums s) := by
  intro x hx
  unfold strNums at hx
  obtain ⟨b, _, rfl⟩ := List.mem_map.1 hx
  exact b.toNat_lt
theorem bytes_at (w : World) (s : ByteArray) (cap : Nat) (E : TypeId) (fr : Nat × Nat) : SlAt (w.alloc (.cells (bytesRow s cap) E fr)) (some ⟨w.heap.size, 0, none⟩) (u8v (strNums s)) := by
  have h := (SlAt.made_mark w (bytesRow s cap).toList E fr).take s.size
  rw [Array.toArray_toList] at h
  have e : (bytesRow s cap).toList.take s.size = u8v (strNums s) := by
    unfold bytesRow u8v strNums
    rw [Array.toList_append, Array.toList_map, List.take_left' (by rw [List.length_map, Array.length_toList]; rfl), List.map_map]
    rfl
  rw [e] at h
  exact h
def NoteP (s : ByteArray) (w : World) (e : Ending) (w' : World) : Prop := (checkR pf 3 (strNums s) = 0 ∧ (∃ A c, e = .returned (.tuple #[.agg #[.int .i64 3, .slice A s.size c], .int .i64 0]) ∧ s.size ≤ c ∧ SlAt w' A (u8v (strNums s)) ∧ (∀ ad, A = some ad → w.heap.size ≤ ad.block)) ∨ checkR pf 3 (strNums s) ≠ 0 ∧ e = .returned (.tuple #[.agg #[.int .i64 0, .slice none 0 0], .int .i64 (checkR pf 3 (strNums s))])) ∧ Within w w'
set_option maxRecDepth 100000 in
set_option maxHeartbeats 1000000 in
theorem Note_any (s : ByteArray) (hl : s.size ≤ 1152921504606846976) (w : World) (hT : FmS w) : Calls Tryz.prog 30 #[.string s] w (NoteP s w) := by
  have RB := fun (w : World) => run_bytes_of_string (P := Tryz.prog) w 9 28 5 s (by kernel_rfl) (by kernel_rfl) (by kernel_rfl)
  obtain ⟨n, hn⟩ : ∃ n, s.size = n := ⟨_, rfl⟩
  rw [hn] at RB hl
  have hge := grownCap_ge (w.alloc (.cells #[.int .i64 0, .slice none 0 0] 30)) n 0 5
  obtain ⟨cp, hcp⟩ : ∃ c, grownCap (w.alloc (.cells #[.int .i64 0, .slice none 0 0] 30)) n 0 5 = c := ⟨_, rfl⟩
  obtain ⟨C, hC⟩ : ∃ C, bytesRow s cp = C := ⟨_, rfl⟩
  obtain ⟨Z, hZ⟩ : ∃ Z, Z = w.alloc (.cells #[.int .i64 0, .slice none 0 0] 30) := ⟨_, rfl⟩
  obtain ⟨Z2, hZ2⟩ : ∃ Z2, Z2 = Z.alloc (.cells C 5 (C.size, C.size + 1)) := ⟨_, rfl⟩
  obtain ⟨Z3, hZ3⟩ : ∃ Z3, Z3 = Z2.alloc (.cells #[.int .i64 3, .slice (some ⟨w.heap.size + 1, 0, none⟩) n cp] 30) := ⟨_, rfl⟩
  obtain ⟨W3, hW3⟩ : ∃ W, W = Z3.drew := ⟨_, rfl⟩
  have hZs : Z.heap.size = w.heap.size + 1 := by rw [hZ]; simp
  have hZ2s : Z2.heap.size = w.heap.size + 1 + 1 := by rw [hZ2]; simp [hZs]
  have hI3 : Within Z3 W3 := by rw [hW3]; exact (Within.refl _).drew
  have hI2 : Within Z2 W3 := Within.trans (by rw [hZ3]; exact (Within.refl _).alloc _) hI3
  have hI1 : Within Z W3 := Within.trans (by rw [hZ2]; exact (Within.refl _).alloc _) hI2
  have hI : Within w W3 := Within.trans (by rw [hZ]; exact (Within.refl w).alloc _) hI1
  have hs3 : SlAt W3 (some ⟨w.heap.size + 1, 0, none⟩) (u8v (strNums s)) := by
    have h := bytes_at Z s cp 5 (C.size, C.size + 1)
    rw [hC, hZs, ← hZ2] at h
    exact h.of hI2
  have k0 : W3.cell? ⟨w.heap.size, 0, none⟩ = some (.int .i64 0) := (hI1.cells _ _ (by omega)).trans (by rw [hZ]; simp)
  have k1 : W3.cell? ⟨w.heap.size, 1, none⟩ = some (.slice none 0 0) := (hI1.cells _ _ (by omega)).trans (by rw [hZ]; simp)
  have kf0 : W3.frozen? ⟨w.heap.size, 0, none⟩ = false := (hI1.frozens _ _ (by omega)).trans (by rw [hZ]; simp)
  have kf1 : W3.frozen? ⟨w.heap.size, 1, none⟩ = false := (hI1.frozens _ _ (by omega)).trans (by rw [hZ]; simp)
  have hZ3s : Z3.heap.size = w.heap.size + 1 + 1 + 1 := by rw [hZ3]; simp [hZ2s]
  have z0 : W3.cell? ⟨w.heap.size + 1 + 1, 0, none⟩ = some (.int .i64 3) := (hI3.cells _ _ (by omega)).trans (by rw [hZ3, ← hZ2s]; simp)
  have z1 : W3.cell? ⟨w.heap.size + 1 + 1, 1, none⟩ = some (.slice (some ⟨w.heap.size + 1, 0, none⟩) n cp) := (hI3.cells _ _ (by omega)).trans (by rw [hZ3, ← hZ2s]; simp)
  have ks : w.heap.size < W3.heap.size := by have := hI3.size; omega
  have zs : w.heap.size + 1 + 1 < W3.heap.size := by have := hI3.size; omega
  clear hI1 hI2 hI3 hZ3s hZ2s
  have hsl := strNums_len s
  rw [hn] at hsl
  have JC := jcheck_any 3 (some ⟨w.heap.size + 1, 0, none⟩) cp (strNums s) (strNums_bytes s) (by rw [hsl, ← hcp]; exact hge) (by rw [hsl]; exact hl) W3 (hT.of hI) hs3
  rw [hsl] at JC
  obtain ⟨ck, hck⟩ : ∃ c, checkR pf 3 (strNums s) = c := ⟨_, rfl⟩
  rw [hck] at JC
  have JCH := Lib.hid JC; have HI := Lib.hid hI; have HS := Lib.hid hs3; have HGE := Lib.hid hge; have HW3 := Lib.hid hW3; have HZ3 := Lib.hid hZ3; have HZ2 := Lib.hid hZ2; have HCP := Lib.hid hcp; have HZ := Lib.hid hZ; have HC := Lib.hid hC; have HCK := Lib.hid hck; have HN := Lib.hid hn; clear JC hI hs3 hge hsl hck hT hW3 hZ3 hZ2 hcp hZ hC hZs
  clear hn
  go_enter Tryz.func30, Tryz.ntmps30
  go_wp2_with fail
  rw [HCP.out, HC.out, ← HZ.out, ← HZ2.out, ← HZ3.out, ← HW3.out]
  refine JCH.out.mono ?_; rintro e1 w1 ⟨rfl, h1⟩
  have k0 := (h1.cells _ _ ks).trans k0
  have k1 := (h1.cells _ _ ks).trans k1
  have z0 := (h1.cells _ _ zs).trans z0
  have z1 := (h1.cells _ _ zs).trans z1
  have kf0 := (h1.frozens _ _ ks).trans kf0
  have kf1 := (h1.frozens _ _ ks).trans kf1
  have ks := Nat.lt_of_lt_of_le ks h1.size
  have zs := Nat.lt_of_lt_of_le zs h1.size
  have H1 := Lib.hid h1; clear h1
  have hin : Within w w1 := HI.out.trans H1.out
  by_cases hc : ck = 0
  · subst hc
    go_wp2
    refine bodyPost_ret (v := .tuple #[.agg #[.int .i64 3, .slice (some ⟨w.heap.size + 1, 0, none⟩) n cp], .int .i64 0]) (by simp [results, Tryz.results30, go_sem, k0, k1, kf0, kf1, ks]) rfl ⟨.inl ⟨HCK.out, some ⟨w.heap.size + 1, 0, none⟩, cp, by rw [HN.out], by rw [HN.out, ← HCP.out]; exact HGE.out, ?_, fun ad e => by injection e with e; subst e; simp⟩, ?_⟩
    · have hK : But w.heap.size w1 ((w1.setCell ⟨w.heap.size, 0, none⟩ (.int .i64 3)).setCell ⟨w.heap.size, 1, none⟩ (.slice (some ⟨w.heap.size + 1, 0, none⟩) n cp)) := ((But.refl w.heap.size w1).set (.inl rfl) _).set (.inl rfl) _
      exact (HS.out.of H1.out).but hK (fun ad e => by injection e with e; subst e; simp)
    · exact (hin.setCell (Nat.le_refl _) _).setCell (Nat.le_refl _) _
  · have v1 : (ck != 0) = true := bne_iff_ne.2 hc
    go_wp2
    refine bodyPost_ret (v := .tuple #[.agg #[.int .i64 0, .slice none 0 0], .int .i64 ck]) (by simp [results, Tryz.results30, go_sem, k0, k1, kf0, kf1, ks]) rfl ⟨.inr ⟨by rw [HCK.out]; exact hc, by rw [HCK.out]⟩, ?_⟩
    exact (hin.setCell (Nat.le_refl _) _).setCell (Nat.le_refl _) _
end Go.Proofs.YtpmjlaiafgbjgaaGreatDoor
end

section
namespace Go.Proofs.YtpmjlaiafgbjgaaGreatDoor
open Go.RowKit
def awRec : Rec := ⟨3, [97, 98]⟩
theorem awRec_ok : awRec.Ok pf := ⟨by rw [show (awRec.kind : Int) = 3 from rfl, checkR_note (by decide)]; rfl, by intro x hx; revert x; decide⟩
theorem aw_len : (logV [awRec]).length = 27 := by
  unfold logV
  rw [List.length_append, show laidV [awRec] 0 startV = layV awRec 0 startV ++ [] from rfl, List.append_nil, layV_len]; rfl
theorem log_take (l : List Rec) : (logV l).take 8 = magicV := take_app rfl
theorem log_drop (l : List Rec) : (logV l).drop 8 = laidV l 0 startV := drop_app rfl
theorem log_bytes {l : List Rec} (h : ∀ r ∈ l, r.Ok pf) : Bytes (logV l) := magic_bytes.append (laidV_bytes 0 startV h)
theorem logRead_log {l : List Rec} (h : ∀ r ∈ l, r.Ok pf) (hn : l.length ≤ 1048576) : logRead (logV l) = (l, 0, (logV l).length) := by
  rw [logRead_yes (log_take l), log_drop, readV_log h hn]
  show (l, 0, 8 + (laidV l 0 startV).length) = _
  unfold logV
  rw [List.length_append]; rfl
theorem strB_ab : strB [97, 98] = ⟨#[97, 98]⟩ := by kernel_rfl
theorem ab_nums : strNums ⟨#[97, 98]⟩ = [97, 98] := by rfl
set_option maxRecDepth 100000 in
set_option maxHeartbeats 1000000 in
theorem jawake_true (w : World) (hT : FmS w) : Calls Tryz.prog 7 #[] w fun e w' => e = .returned (.bool true) ∧ Within w w' := by
  have HT := Lib.hid hT; clear hT
  go_enter Tryz.func7, Tryz.ntmps7
  go_wp2_with fail
  refine (New_log w).mono ?_; rintro e1 w1 ⟨xb, rfl, hL1, h1⟩
  have NA := Lib.hid (Note_any ⟨#[97, 98]⟩ (by decide) w1 (HT.out.of h1))
  have HL1 := Lib.hid hL1; have H1 := Lib.hid h1; clear hL1 h1
  go_wp2_with fail
  refine NA.out.mono ?_; rintro e2 w2 hN; clear NA
  obtain ⟨hN, h2⟩ := hN
  have hck : checkR pf 3 (strNums ⟨#[97, 98]⟩) = 0 := awRec_ok.ok
  rcases hN with ⟨_, A2, c2, rfl, hc2, hs2, _⟩ | ⟨hne, _⟩
  rotate_left
  · exact absurd hck hne
  rw [show (⟨#[97, 98]⟩ : ByteArray).size = 2 from rfl] at hc2 ⊢
  rw [ab_nums] at hs2
  clear hck
  obtain ⟨W2, hW2⟩ : ∃ W2, W2 = w2.alloc (.cells #[.int .i64 3, .slice A2 2 c2] 30) := ⟨_, rfl⟩
  have h22 : Within w2 W2 := by rw [hW2]; exact (Within.refl w2).alloc _
  have z0 : W2.cell? ⟨w2.heap.size, 0, none⟩ = some (.int .i64 3) := by rw [hW2]; simp
  have z1 : W2.cell? ⟨w2.heap.size, 1, none⟩ = some (.slice A2 2 c2) := by rw [hW2]; simp
  have zs : w2.heap.size < W2.heap.size := by rw [hW2]; simp
  have hwW : Within w W2 := H1.out.trans (h2.trans h22)
  have AP := Lib.hid (Append_good _ xb [] (fun q hq => by cases hq) A2 c2 [97, 98] (by show (0 : Nat) < 1048576; decide) 3 awRec_ok.ok awRec_ok.bytes hc2 (by decide) W2 (HT.out.of hwW) (HL1.out.of (h2.trans h22)) (hs2.of h22))
  have HW2 := Lib.hid hW2; have HWW := Lib.hid hwW; clear hW2 hs2 hc2 h2 h22 hwW
  go_wp2_with fail
  rw [← HW2.out]
  have hl0 : ([] : List Rec).length = 0 := rfl
  have hl2 : ([97, 98] : List Nat).length = 2 := rfl
  rw [hl0, hl2] at AP
  clear hl0 hl2
  refine AP.out.mono ?_; rintro e3 w3 ⟨rfl, hL3, hB3⟩
  clear AP
  have hL3 : LogS w3 (More (fun j => w.heap.size ≤ j ∧ j < w1.heap.size) W2 w3) xb [awRec] := hL3
  have hww3 : Within w w3 := HWW.out.asides hB3 (fun j hj => hj.1)
  have BY := Lib.hid (Bytes_log _ xb [awRec] (by rw [aw_len]; decide) w3 hL3)
  have HW3 := Lib.hid hww3; clear hww3 hL3 hB3
  obtain ⟨bl, hbl⟩ : ∃ l, logV [awRec] = l := ⟨_, rfl⟩
  have hlen := aw_len
  have hrd := logRead_log (l := [awRec]) (fun q hq => by rw [List.mem_singleton] at hq; rw [hq]; exact awRec_ok) (by decide)
  have hby := log_bytes (l := [awRec]) (fun q hq => by rw [List.mem_singleton] at hq; rw [hq]; exact awRec_ok)
  have hb0 : (logV [awRec]).getD 0 0 = 66 := rfl
  rw [hbl] at BY hlen hrd hby hb0
  rw [hlen] at hrd
  clear hbl
  have HRD := Lib.hid hrd; have HBY := Lib.hid hby; have HLEN := Lib.hid hlen; have HB0 := Lib.hid hb0; clear hrd hby hlen hb0
  go_wp2_with fail
  refine BY.out.mono ?_; rintro e4 w4 ⟨v4, rfl, hO4, h4⟩
  obtain ⟨A4, c4, rfl, hc4, hs4, _⟩ := hO4.form
  have RD := Lib.hid (Read_any A4 c4 bl HBY.out (by rw [HLEN.out]; decide) hc4 w4 (HT.out.of (HW3.out.trans h4)) hs4)
  obtain ⟨ad4, rfl, hb4, hx4⟩ := hs4.at (k := 0) (by rw [HLEN.out]; decide)
  rw [HB0.out, add_nought] at hx4
  rw [HLEN.out] at RD hc4 ⊢
  rw [HRD.out] at RD
  have HW4 := Lib.hid (HW3.out.trans h4); clear h4 hO4 hs4
  go_wp2_with fail
  refine RD.out.mono ?_; rintro e5 w5 ⟨lv, rfl, hL5, h5⟩
  clear RD
  obtain ⟨A5, c5, rfl, hc5, hR5, _, _⟩ := hL5.at
  obtain ⟨g, Dv, cv, rfl, l1, y0, yy, hcv, hs5, _⟩ := hR5 0 awRec.i rfl
  have y1 : w5.cell? ⟨g, 1, none⟩ = some (.slice Dv 2 cv) := yy; clear yy
  have hx5 := (h5.cell hb4).trans hx4
  have hb5 := Nat.lt_of_lt_of_le hb4 h5.size
  have ST : Hid (∀ W, Within w5 W → (convert 28 9 (.slice Dv 2 cv)).run Tryz.prog W = .ok (.string ⟨#[97, 98]⟩) W) := Lib.hid (fun W h => by rw [← strB_ab]; exact run_str Dv cv [97, 98] W (SlAt.of hs5 h))
  have st := fun (x : Array Value) => ST.out (w5.alloc (.cells x 42)) ((Within.refl w5).alloc _)
  have HW5 := Lib.hid (HW4.out.trans h5)
  have hlm : ([awRec].map Rec.i).length = 1 := rfl
  rw [hlm] at hc5 ⊢
  clear h5 hL5 hR5 hs5 hcv hlm y0 hx4 hb4 ST
  go_wp2
  go_ret
  exact ⟨rfl, HW5.out.alloc _⟩
end Go.Proofs.YtpmjlaiafgbjgaaGreatDoor
end

section
namespace Go.Proofs.YtpmjlaiafgbjgaaGreatDoor
open Go.RowKit
structure Stp where
  k : Int
  rk : Int
  rd : List Nat
  n : Int
def StpAt (w : World) (A : Option Addr) (ss : List Stp) : Prop := ∀ (i : Nat) s, ss[i]? = some s → ∃ ad Dv cv, A = some ad ∧ ad.block < w.heap.size ∧ w.cell? (ad.add (i * 4)) = some (.int .i64 s.k) ∧ w.cell? ⟨(ad.add (i * 4)).block, (ad.add (i * 4)).off + 1, none⟩ = some (.int .i64 s.rk) ∧ w.cell? ⟨(ad.add (i * 4)).block, (ad.add (i * 4)).off + 2, none⟩ = some (.slice Dv s.rd.length cv) ∧ w.cell? ⟨(ad.add (i * 4)).block, (ad.add (i * 4)).off + 3, none⟩ = some (.int .i64 s.n) ∧ s.rd.length ≤ cv ∧ SlAt w Dv (u8v s.rd) ∧ Bytes s.rd ∧ s.rd.length ≤ 140737488355328
theorem StpAt.of {w w' : World} {A : Option Addr} {ss : List Stp} (h : StpAt w A ss) (k : Within w w') : StpAt w' A ss := fun i s hi => by
  obtain ⟨ad, Dv, cv, h1, h2, h3, h4, h5, h6, h7, h8, h9, h10⟩ := h i s hi
  have kc : ∀ n, w'.cell? ⟨(ad.add (i * 4)).block, n, none⟩ = w.cell? ⟨(ad.add (i * 4)).block, n, none⟩ := fun n => k.cells _ _ (by rw [add_block]; exact h2)
  exact ⟨ad, Dv, cv, h1, Nat.lt_of_lt_of_le h2 k.size, (k.cell (p := ad.add (i * 4)) (by rw [add_block]; exact h2)).trans h3, (kc _).trans h4, (kc _).trans h5, (kc _).trans h6, h7, h8.of k, h9, h10⟩
structure Pair (w0 w : World) (xb yb : Nat) (rs rt : List Rec) (X : Nat → Prop) : Prop where
  ex : ∃ S Sy, LogS w S xb rs ∧ RlogS w Sy yb rt ∧ (∀ j, S j → ¬ Sy j) ∧ (∀ j, S j ∨ Sy j → (w0.heap.size ≤ j ∧ j < w.heap.size) ∧ ¬ X j)
  ok : ∀ q ∈ rs, q.Ok pf
  le : rs.length ≤ 1048576
  lt : rt.length ≤ 1048576
  bel : Within w0 w
abbrev NoX : Nat → Prop := fun _ => False
theorem Pair.of {w0 w w' : World} {xb yb : Nat} {rs rt : List Rec} {X : Nat → Prop} (h : Pair w0 w xb yb rs rt X) (k : Within w w') : Pair w0 w' xb yb rs rt X := by
  obtain ⟨⟨S, Sy, h1, h2, h3, h4⟩, h5, h6, h7, h8⟩ := h
  exact ⟨⟨S, Sy, h1.of k, h2.of k, h3, fun j hj => ⟨⟨(h4 j hj).1.1, Nat.lt_of_lt_of_le (h4 j hj).1.2 k.size⟩, (h4 j hj).2⟩⟩, h5, h6, h7, h8.trans k⟩
theorem Pair.fresh {w0 w w' : World} {xb yb : Nat} {rs rt : List Rec} (h : Pair w0 w xb yb rs rt NoX) (k : Within w w') : Pair w0 w' xb yb rs rt (fun j => w.heap.size ≤ j ∧ j < w'.heap.size) := by
  obtain ⟨⟨S, Sy, h1, h2, h3, h4⟩, h5, h6, h7, h8⟩ := h
  exact ⟨⟨S, Sy, h1.of k, h2.of k, h3, fun j hj => ⟨⟨(h4 j hj).1.1, Nat.lt_of_lt_of_le (h4 j hj).1.2 k.size⟩, fun hx => by have := (h4 j hj).1.2; omega⟩⟩, h5, h6, h7, h8.trans k⟩
theorem Pair.drop {w0 w : World} {xb yb : Nat} {rs rt : List Rec} {X : Nat → Prop} (h : Pair w0 w xb yb rs rt X) : Pair w0 w xb yb rs rt NoX := by
  obtain ⟨⟨S, Sy, h1, h2, h3, h4⟩, h5, h6, h7, h8⟩ := h
  exact ⟨⟨S, Sy, h1, h2, h3, fun j hj => ⟨(h4 j hj).1, fun h => h⟩⟩, h5, h6, h7, h8⟩
theorem Pair.butS {w0 w w' : World} {xb yb : Nat} {rs rt : List Rec} {X T : Nat → Prop} (h : Pair w0 w xb yb rs rt X) (k : ButS T w w') (hT : ∀ j, T j → X j ∧ w0.heap.size ≤ j) : Pair w0 w' xb yb rs rt X := by
  obtain ⟨⟨S, Sy, h1, h2, h3, h4⟩, h5, h6, h7, h8⟩ := h
  exact ⟨⟨S, Sy, h1.butS k (fun j hj _ ht => (h4 j (.inl hj)).2 (hT j ht).1), h2.butS k (fun j hj _ ht => (h4 j (.inr hj)).2 (hT j ht).1), h3, fun j hj => ⟨⟨(h4 j hj).1.1, Nat.lt_of_lt_of_le (h4 j hj).1.2 k.size⟩, (h4 j hj).2⟩⟩, h5, h6, h7, h8.asides k fun j hj => (hT j hj).2⟩
def Away (w0 : World) (X : Nat → Prop) (j : Nat) : Prop := w0.heap.size ≤ j ∧ ¬ X j
theorem Pair.x {w0 w w' : World} {xb yb : Nat} {rs rt rs' : List Rec} {X S : Nat → Prop} (hX : ∀ j, X j → j < w.heap.size) (h : Pair w0 w xb yb rs rt X) {Sy : Nat → Prop} (h2 : RlogS w Sy yb rt) (h3 : ∀ j, S j → ¬ Sy j) (h4 : ∀ j, S j ∨ Sy j → (w0.heap.size ≤ j ∧ j < w.heap.size) ∧ ¬ X j) (hL : LogS w' (More S w w') xb rs') (hB : ButS S w w') (hok : ∀ q ∈ rs', q.Ok pf) (hle : rs'.length ≤ 1048576) : Pair w0 w' xb yb rs' rt X ∧ ButS (Away w0 X) w w' := by
  refine ⟨⟨⟨_, Sy, hL, h2.butS hB (fun j hj _ hs => h3 j hs hj), fun j hj hy => ?_, fun j hj => ?_⟩, hok, hle, h.lt, h.bel.asides hB fun j hj => (h4 j (.inl hj)).1.1⟩, hB.mono fun j _ hj => ⟨(h4 j (.inl hj)).1.1, (h4 j (.inl hj)).2⟩⟩
  · rcases hj with hj | hj
    · exact h3 j hj hy
    · have := (h4 j (.inr hy)).1.2; omega
  · have hs := hB.size
    rcases hj with (hj | hj) | hj
    · exact ⟨⟨(h4 j (.inl hj)).1.1, by have := (h4 j (.inl hj)).1.2; omega⟩, (h4 j (.inl hj)).2⟩
    · exact ⟨⟨by have := h.bel.size; omega, hj.2⟩, fun hx => by have := hX j hx; omega⟩
    · exact ⟨⟨(h4 j (.inr hj)).1.1, by have := (h4 j (.inr hj)).1.2; omega⟩, (h4 j (.inr hj)).2⟩
theorem Pair.y {w0 w w' : World} {xb yb : Nat} {rs rt rt' : List Rec} {X Sy : Nat → Prop} (hX : ∀ j, X j → j < w.heap.size) (h : Pair w0 w xb yb rs rt X) {S : Nat → Prop} (h1 : LogS w S xb rs) (h3 : ∀ j, S j → ¬ Sy j) (h4 : ∀ j, S j ∨ Sy j → (w0.heap.size ≤ j ∧ j < w.heap.size) ∧ ¬ X j) (hL : RlogS w' (More Sy w w') yb rt') (hB : ButS Sy w w') (hle : rt'.length ≤ 1048576) : Pair w0 w' xb yb rs rt' X ∧ ButS (Away w0 X) w w' := by
  refine ⟨⟨⟨S, _, h1.butS hB (fun j hj _ hs => h3 j hj hs), hL, fun j hj hy => ?_, fun j hj => ?_⟩, h.ok, h.le, hle, h.bel.asides hB fun j hj => (h4 j (.inr hj)).1.1⟩, hB.mono fun j _ hj => ⟨(h4 j (.inr hj)).1.1, (h4 j (.inr hj)).2⟩⟩
  · rcases hy with hy | hy
    · exact h3 j hj hy
    · have := (h4 j (.inl hj)).1.2; omega
  · have hs := hB.size
    rcases hj with hj | (hj | hj)
    · exact ⟨⟨(h4 j (.inl hj)).1.1, by have := (h4 j (.inl hj)).1.2; omega⟩, (h4 j (.inl hj)).2⟩
    · exact ⟨⟨(h4 j (.inr hj)).1.1, by have := (h4 j (.inr hj)).1.2; omega⟩, (h4 j (.inr hj)).2⟩
    · exact ⟨⟨by have := h.bel.size; omega, hj.2⟩, fun hx => by have := hX j hx; omega⟩
theorem Pair.take {w0 w : World} {xb nb yb : Nat} {rs rs' rt : List Rec} {X S4 : Nat → Prop} (h : Pair w0 w xb yb rs' rt X) (hL : LogS w S4 nb rs) (hS : ∀ j, S4 j → X j ∧ w0.heap.size ≤ j ∧ j < w.heap.size) (hok : ∀ q ∈ rs, q.Ok pf) (hle : rs.length ≤ 1048576) : Pair w0 w nb yb rs rt NoX := by
  obtain ⟨⟨S, Sy, h1, h2, h3, h4⟩, _, _, h7, h8⟩ := h
  exact ⟨⟨S4, Sy, hL, h2, fun j hj hy => (h4 j (.inr hy)).2 (hS j hj).1, fun j hj => ⟨by rcases hj with hj | hj; exact (hS j hj).2; exact (h4 j (.inr hj)).1, fun h => h⟩⟩, hok, hle, h7, h8⟩
theorem bytes_pair (w0 : World) (xb yb : Nat) (rs rt : List Rec) (X : Nat → Prop) (w : World) (h : Pair w0 w xb yb rs rt X) : Calls Tryz.prog 14 #[.pointer (some ⟨xb, 0, none⟩)] w fun e w' => ∃ v, e = .returned v ∧ OwnB w' w.heap.size v (logV rs) ∧ Within w w' := by
  obtain ⟨S, Sy, h1, h2, h3, h4⟩ := h.ex
  exact Bytes_log S xb rs (logV_le (fun r hr => (h.ok r hr).parts.2.2) h.le) w h1
end Go.Proofs.YtpmjlaiafgbjgaaGreatDoor
end

section
namespace Go.Proofs.YtpmjlaiafgbjgaaGreatDoor
section
variable {P : Program} {ops : Array Oper} {Q : Exit → Act → World → Prop} {md : Region.Mode} {S : World → Prop}
variable {p k : Nat} {a : Act} {w : World}
theorem wpAnyG_mono {S S2 : World → Prop} (h : ∀ w, S2 w → S w) {p : Nat} : ∀ (fuel : Nat) (listed : Array Bool) (a : Act) (w : World), wpAnyG P md ops Q S2 p fuel listed a w → wpAnyG P md ops Q S p fuel listed a w
  | 0, _, _, _, h' => h'
  | fuel + 1, _, _, _, h' => ⟨h'.1, fun i hi => wpOp_mono (fun _ _ h'' => ⟨fun hp => h _ (h''.1 hp), wpAnyG_mono h fuel _ _ _ h''.2⟩) (h'.2 i hi)⟩
inductive Shf where
  | sch (t : Sch) : Shf
  | firm (k : Nat) (r : Shf) : Shf
  | one (k : Nat) (r : Shf) : Shf
  | turn (r : Shf) : Shf
def Shf.long : Shf → Nat → Bool
  | .sch t, n => t.long n
  | .firm _ r, n => decide (0 < n) && r.long (n - 1)
  | .one _ r, n => decide (0 < n) && r.long (n - 1)
  | .turn r, n => r.long n
def Shf.ok (md : Region.Mode) (ops : Array Oper) (p : Nat) : Shf → Array Bool → Bool
  | .sch t, listed => t.ok md ops p listed
  | .firm k r, listed => (Region.ready md ops listed).contains k && Region.free md ops listed k && decide (k < p) && r.ok md ops p (listed.setIfInBounds k true)
  | .one k r, listed => decide (Region.ready md ops listed = [k]) && decide (k < p) && r.ok md ops p (listed.setIfInBounds k true)
  | .turn r, listed => r.ok md ops p listed
def wpShf (P : Program) (ops : Array Oper) (Q : Exit → Act → World → Prop) (p : Nat) : Shf → (World → Prop) → Act → World → Prop
  | .sch t, S, a, w => wpSch P ops Q S p t a w
  | .firm k r, S, a, w => S w ∧ ∃ o v, ops[k]? = some o ∧ YieldsIf P ops S o v a ∧ wpShf P ops Q p r S (a.put o.dst v) w
  | .one k r, S, a, w => wpOp P ops Q k (fun a' w' => S w' ∧ wpShf P ops Q p r S a' w') a w
  | .turn r, S, a, w => ∃ S2 : World → Prop, (∀ w, S2 w → S w) ∧ wpShf P ops Q p r S2 a w
theorem wpAnyG_shf {p : Nat} (hsel : Region.noSelect ops = true) (hQ : ∀ c a d v w, Q (.panic c) (a.put d v) w → Q (.panic c) a w) (hs : Region.sinkB md ops p = true) (hc : Region.chainB md ops p = true) (hn : p < ops.size) :
    ∀ (t : Shf) (S : World → Prop) (n : Nat) (listed : Array Bool) (a : Act) (w : World), t.long n = true → HeadInv md ops p listed → t.ok md ops p listed = true → wpShf P ops Q p t S a w → wpAnyG P md ops Q S p n listed a w := by
  intro t
  induction t with
  | sch t =>
    intro S n listed a w hl inv hB h
    exact wpAnyG_sch hsel hQ hs hc hn t n listed a w hl (.inl inv) hB h
  | firm k r ih =>
    intro S n listed a w hl inv hB h
    simp only [Shf.long, Bool.and_eq_true, decide_eq_true_eq] at hl
    obtain ⟨m, rfl⟩ : ∃ m, n = m + 1 := ⟨n - 1, by omega⟩
    simp only [Shf.ok, Bool.and_eq_true, decide_eq_true_eq] at hB
    obtain ⟨⟨⟨hr, hf⟩, hkp⟩, hB'⟩ := hB
    obtain ⟨hS, o, v, ho, hy, hK⟩ := h
    have hr' : k ∈ Region.ready md ops listed := by simpa using hr
    exact wpAnyG_first ho (Region.noSelect_spec hsel) (fun c a w => hQ c a _ _ w) hs hc hn hkp m listed a w inv (Region.free_spec ho hf) hr' hy hS
      (ih S m _ _ _ hl.2 (inv.set hr' hkp) hB' hK)
  | one k r ih =>
    intro S n listed a w hl inv hB h
    simp only [Shf.long, Bool.and_eq_true, decide_eq_true_eq] at hl
    obtain ⟨m, rfl⟩ : ∃ m, n = m + 1 := ⟨n - 1, by omega⟩
    simp only [Shf.ok, Bool.and_eq_true, decide_eq_true_eq] at hB
    obtain ⟨⟨hr, hd⟩, hB'⟩ := hB
    refine ⟨fun h0 => (by rw [hr] at h0; cases h0), fun i hi => ?_⟩
    have hi' : k ∈ Region.ready md ops listed := by rw [hr]; exact List.mem_singleton.2 rfl
    rw [hr] at hi
    have hik : i = k := by simpa using hi
    subst hik
    exact wpOp_mono (fun a' w' h' => ⟨fun _ => h'.1, ih S m _ _ _ hl.2 (inv.set hi' hd) hB' h'.2⟩) h
  | turn r ih =>
    intro S n listed a w hl inv hB h
    obtain ⟨S2, h2, h3⟩ := h
    exact wpAnyG_mono h2 n listed a w (ih S2 n listed a w hl inv hB h3)
def Shf.okAll (ops : Array Oper) (p : Nat) (t : Shf) : Bool :=
  Region.noSelect ops && decide (p < ops.size) && Region.sinkB .any ops p && Region.chainB .any ops p && t.long ops.size && t.ok .any ops p (Array.replicate ops.size false)
variable {t : Shf}
theorem shf_firm {o : Oper} {v : Value} (ho : ops.toList[k]? = some o) (hg : o.guard = none) (hS : S w) (h1 : ∀ w, S w → firmAt P o a w v) (h2 : wpShf P ops (OnlyN Q) p t S (a.put o.dst v) w) : wpShf P ops (OnlyN Q) p (.firm k t) S a w :=
  ⟨hS, o, v, (Array.getElem?_toList ▸ ho), .inl ⟨by simp [Region.wanted, hg], fun w hw => (h1 w hw).run⟩, h2⟩
theorem shf_one {o : Oper} (ho : ops.toList[k]? = some o) (hg : o.guard = none) (h : ∀ K : Act → World → Prop, (∀ a' w', S w' → wpShf P ops (OnlyN Q) p t S a' w' → K a' w') → o.wp P a w K (OnlyN Q)) : wpShf P ops (OnlyN Q) p (.one k t) S a w :=
  sch_op ho hg fun K hK => h K fun a' w' hS hr => hK a' w' ⟨hS, hr⟩
theorem shf_sch {u : Sch} (h : wpSch P ops (OnlyN Q) S p u a w) : wpShf P ops (OnlyN Q) p (.sch u) S a w := h
theorem shf_turn (S2 : World → Prop) (h : ∀ w, S2 w → S w) (h2 : wpShf P ops (OnlyN Q) p t S2 a w) : wpShf P ops (OnlyN Q) p (.turn t) S a w := ⟨S2, h, h2⟩
end
end Go.Proofs.YtpmjlaiafgbjgaaGreatDoor
end

section
namespace Go.Proofs.YtpmjlaiafgbjgaaGreatDoor
open Go.RowKit
theorem wpIn_region_rG {P : Program} {ops : Array Oper} {l n : Nat} {Q : Exit → Act → World → Prop} {id : Nat} {a : Act} {w : World} (F : World → Prop) (p : Nat) (t : Sch) (hm : P.follows .mixedOrders = true) (hB : (t.okAll ops p && noDefer ops) = true) (hF : F w)
    (h : ∀ w0, F w0 → wpSch P ops (OnlyN Q) (Within w0) p t a w0.drew) : (Code.region id ops true).wpIn (Fence.wide.inRound l) n P Q a w := by
  rw [Bool.and_eq_true] at hB
  exact wpIn_region_sch (Within w) p t hB.2 hm hB.1 ((Within.refl w).drew) fun _ => h w hF
theorem wpIn_region_rT {P : Program} {ops : Array Oper} {l n : Nat} {Q : Exit → Act → World → Prop} {id : Nat} {a : Act} {w : World} (T : Nat → Prop) (F : World → Prop) (p : Nat) (t : Sch) (hm : P.follows .mixedOrders = true) (hB : (t.okAll ops p && noDefer ops) = true) (hF : F w)
    (h : ∀ w0, F w0 → wpSch P ops (OnlyN Q) (ButS T w0) p t a w0.drew) : (Code.region id ops true).wpIn (Fence.wide.inRound l) n P Q a w := by
  rw [Bool.and_eq_true] at hB
  exact wpIn_region_sch (ButS T w) p t hB.2 hm hB.1 ((ButS.refl T w).drew) fun _ => h w hF
theorem wpIn_region_wT {P : Program} {ops : Array Oper} {n : Nat} {Q : Exit → Act → World → Prop} {id : Nat} {a : Act} {w : World} (T : Nat → Prop) (F : World → Prop) (p : Nat) (t : Sch) (hm : P.follows .mixedOrders = true) (hB : (t.okAll ops p && noDefer ops) = true) (hF : F w)
    (h : ∀ w0, F w0 → wpSch P ops (OnlyN Q) (ButS T w0) p t a w0.drew) : (Code.region id ops true).wpIn Fence.wide n P Q a w := by
  rw [Bool.and_eq_true] at hB
  exact wpIn_region_schW (ButS T w) p t hB.2 hm hB.1 ((ButS.refl T w).drew) fun _ => h w hF
theorem wpIn_region_shfW {P : Program} {ops : Array Oper} {n : Nat} {Q : Exit → Act → World → Prop} {id : Nat} {a : Act} {w : World} (S : World → Prop) (F : World → Prop) (p : Nat) (t : Shf) (hm : P.follows .mixedOrders = true) (hB : (t.okAll ops p && noDefer ops) = true) (hF : F w)
    (h : ∀ w0, F w0 → wpShf P ops (OnlyN Q) p t S a w0.drew) : (Code.region id ops true).wpIn Fence.wide n P Q a w := by
  rw [Bool.and_eq_true] at hB
  obtain ⟨hB, hd⟩ := hB
  simp only [Shf.okAll, Bool.and_eq_true, decide_eq_true_eq] at hB
  obtain ⟨⟨⟨⟨⟨hsel, hn⟩, hs⟩, hc⟩, hlen⟩, hsc⟩ := hB
  have inv0 : HeadInv .any ops p (Array.replicate ops.size false) :=
    ⟨by simp, fun j oj _ hl => (by rw [getD_replicate_false] at hl; cases hl), fun t _ ht => Go.getD_in (by simpa using ht) (getD_replicate_false _ _)⟩
  exact wpIn_mono (wpIn_region_any hm (wpAny_inW hd _ _ _ _ (wpAny_of_G _ _ _ _ (wpAnyG_shf (md := .any) hsel (Q := OnlyN Q) (fun c a d v w h => h) hs hc hn t S _ _ a w.drew hlen inv0 hsc (h w hF))))) OnlyN.imp
end Go.Proofs.YtpmjlaiafgbjgaaGreatDoor
end

section
namespace Go.Proofs.YtpmjlaiafgbjgaaGreatDoor
open Go.RowKit
theorem U8s.any {w : World} {g n : Nat} (h : U8s w g n) (b i x : Nat) (hx : x < 256) : U8s (w.setCell ⟨b, i, none⟩ (.int .u8 (x : Int))) g n := by
  by_cases e : b = g
  · subst e; exact h.set i x hx
  · refine ⟨fun j hj => ?_, fun o => by rw [World.frozen?_setCell]; exact h.2 o⟩
    obtain ⟨y, hy, hc⟩ := h.1 j hj
    exact ⟨y, hy, (World.cell?_setCell_other _ _ _ _ (fun h => e (by cases h; rfl))).trans hc⟩
theorem RlogS.away {w w' : World} {row : Option Nat} {S : Nat → Prop} {yb : Nat} {rs : List Rec} (h : RlogS w S yb rs) (hg : w.grownBy w' row) (hr : NotCells w row) : RlogS w' S yb rs := by
  obtain ⟨h0, h1, ps, lv, a1, a2, a3, a4⟩ := h
  exact ⟨h0, (frozen_kept a2 hg hr).trans h1, ps, lv, a1, cell_kept a2 hg hr, a3.away hg hr, a4⟩
theorem Pair.away {w0 w w' : World} {row : Option Nat} {xb yb : Nat} {rs rt : List Rec} {X : Nat → Prop} (h : Pair w0 w xb yb rs rt X) (hg : w.grownBy w' row) (hr : ∀ r, row = some r → w0.heap.size ≤ r ∧ ∃ o : Obj, w.heap[r]? = some o ∧ o.isCells = false) : Pair w0 w' xb yb rs rt X := by
  obtain ⟨⟨S, Sy, h1, h2, h3, h4⟩, h5, h6, h7, h8⟩ := h
  have hr' : NotCells w row := fun r e => (hr r e).2
  exact ⟨⟨S, Sy, h1.away hg hr', h2.away hg hr', h3, fun j hj => ⟨⟨(h4 j hj).1.1, Nat.lt_of_lt_of_le (h4 j hj).1.2 hg.size⟩, (h4 j hj).2⟩⟩, h5, h6, h7, Below.grown h8 hg (Below.size h8) (fun k e => (hr k e).1)⟩
theorem Pair.weak {w0 w : World} {xb yb : Nat} {rs rt : List Rec} {X X' : Nat → Prop} (h : Pair w0 w xb yb rs rt X) (hx : ∀ j, X' j → X j) : Pair w0 w xb yb rs rt X' := by
  obtain ⟨⟨S, Sy, h1, h2, h3, h4⟩, h5, h6, h7, h8⟩ := h
  exact ⟨⟨S, Sy, h1, h2, h3, fun j hj => ⟨(h4 j hj).1, fun h => (h4 j hj).2 (hx j h)⟩⟩, h5, h6, h7, h8⟩
theorem RlogS.shrink {w : World} {S : Nat → Prop} {yb : Nat} {rs : List Rec} (h : RlogS w S yb rs) : RlogS w (CellsOf w S) yb rs := by
  obtain ⟨h0, h1, ps, lv, a1, a2, a3, a4⟩ := h
  have hy : ∃ c e f, w.heap[yb]? = some (.cells c e f) := by
    obtain ⟨o, ho, hc⟩ := cells_of_cell a2
    cases o with
    | cells c e f => exact ⟨c, e, f, ho⟩
    | _ => cases hc
  refine ⟨⟨h0, hy⟩, h1, ps, lv, a1, a2, a3, fun j hj => ⟨⟨(a4 j hj).1, ?_⟩, (a4 j hj).2⟩⟩
  rcases hj with hj | ⟨p, hp, hj⟩
  · obtain ⟨c, hc⟩ := ownsRow_block a3.1 hj; exact ⟨_, _, _, hc⟩
  · obtain ⟨c, hc⟩ := ownsRow_block (a3.2 p hp).1 hj; exact ⟨_, _, _, hc⟩
theorem Pair.cells {w0 w : World} {xb yb : Nat} {rs rt : List Rec} {X : Nat → Prop} (h : Pair w0 w xb yb rs rt X) : ∃ S Sy, LogS w S xb rs ∧ RlogS w Sy yb rt ∧ (∀ j, S j → ¬ Sy j) ∧ (∀ j, S j ∨ Sy j → (w0.heap.size ≤ j ∧ j < w.heap.size) ∧ ¬ X j) ∧ (∀ j, S j ∨ Sy j → ∃ c e f, w.heap[j]? = some (.cells c e f)) := by
  obtain ⟨⟨S, Sy, h1, h2, h3, h4⟩, h5, h6, h7, h8⟩ := h
  exact ⟨_, _, h1.shrink, h2.shrink, fun j hj hy => h3 j hj.1 hy.1, fun j hj => h4 j (by rcases hj with hj | hj; exact .inl hj.1; exact .inr hj.1), fun j hj => by rcases hj with hj | hj; exact hj.2; exact hj.2⟩
theorem Pair.more {w0 w w' : World} {xb yb : Nat} {rs rt : List Rec} {X : Nat → Prop} (h : Pair w0 w xb yb rs rt X) (k : Within w w') : Pair w0 w' xb yb rs rt (fun j => X j ∨ (w.heap.size ≤ j ∧ j < w'.heap.size)) := by
  obtain ⟨⟨S, Sy, h1, h2, h3, h4⟩, h5, h6, h7, h8⟩ := h
  exact ⟨⟨S, Sy, h1.of k, h2.of k, h3, fun j hj => ⟨⟨(h4 j hj).1.1, Nat.lt_of_lt_of_le (h4 j hj).1.2 k.size⟩, fun hx => by have h9 := (h4 j hj).1.2; rcases hx with hx | hx; exact (h4 j hj).2 hx; omega⟩⟩, h5, h6, h7, h8.trans k⟩
theorem appx2 (w0 : World) (xb yb : Nat) (rs rt : List Rec) (X : Nat → Prop) (w : World) (hX : ∀ j, X j → j < w.heap.size) (h : Pair w0 w xb yb rs rt X) (D : Option Addr) (cd : Nat) (k : Int) (d : List Nat) (hb : Bytes d) (hcd : d.length ≤ cd) (hdl : d.length ≤ 140737488355328) (hT : FmS w) (hr : SlAt w D (u8v d)) : Calls Tryz.prog 9 #[.pointer (some ⟨xb, 0, none⟩), .agg #[.int .i64 k, .slice D d.length cd]] w fun e w' => e = .returned (.tuple #[.int .i64 (appendV rs (k, d)).2.1, .int .i64 (appendV rs (k, d)).2.2]) ∧ Pair w0 w' xb yb (appendV rs (k, d)).1 rt X ∧ ButS (Away w0 X) w w' ∧ KeepsFrom 0 w w' := by
  obtain ⟨S, Sy, h1, h2, h3, h4, h5⟩ := h.cells
  have hok := appendV_ok (r := (k, d)) h.ok h.le hb
  refine (Append_any S xb rs h.ok D cd k d hb hcd (by omega) w hT h1 hr).mono ?_
  rintro e w' ⟨rfl, hL, hB⟩
  have hp := h.x hX h2 h3 h4 hL hB hok.1 hok.2
  exact ⟨rfl, hp.1, hp.2, hB.keepsFrom (fun j hj => h5 j (.inl hj)) 0⟩
theorem appy2 (w0 : World) (xb yb : Nat) (rs rt : List Rec) (X : Nat → Prop) (w : World) (hX : ∀ j, X j → j < w.heap.size) (h : Pair w0 w xb yb rs rt X) (D : Option Addr) (cd : Nat) (k : Int) (d : List Nat) (hb : Bytes d) (hcd : d.length ≤ cd) (hdl : d.length ≤ 140737488355328) (hok : ∀ q ∈ rt, q.Ok pf) (hr : SlAt w D (u8v d)) : Calls Tryz.prog 10 #[.pointer (some ⟨yb, 0, none⟩), .agg #[.int .i64 k, .slice D d.length cd]] w fun e w' => e = .returned (.tuple #[.int .i64 (appendV rt (k, d)).2.1, .int .i64 (appendV rt (k, d)).2.2]) ∧ Pair w0 w' xb yb rs (appendV rt (k, d)).1 X ∧ ButS (Away w0 X) w w' ∧ KeepsFrom 0 w w' := by
  obtain ⟨S, Sy, h1, h2, h3, h4, h5⟩ := h.cells
  refine (Rappend_any Sy yb rt D cd d k hb hcd hdl w h2 hr).mono ?_
  rintro e w' ⟨rfl, hL, hB⟩
  have hp := h.y hX h1 h3 h4 hL hB (appendV_ok (r := (k, d)) hok h.lt hb).2
  exact ⟨rfl, hp.1, hp.2, hB.keepsFrom (fun j hj => h5 j (.inr hj)) 0⟩
theorem U8s.away {w w' : World} {row : Option Nat} {g n : Nat} (h : U8s w g n) (hn : 0 < n) (hg : w.grownBy w' row) (hr : NotCells w row) : U8s w' g n := by
  obtain ⟨x, _, hc⟩ := h.1 0 hn
  obtain ⟨o, ho, hcc⟩ := cells_of_cell hc
  have hk := grownBy_keeps_cells hg hr ho hcc
  have hk : w'.heap[g]? = w.heap[g]? := hk
  exact ⟨fun i hi => by obtain ⟨y, hy, hc⟩ := h.1 i hi; exact ⟨y, hy, (World.cell?_of_block hk).trans hc⟩, fun o => (World.frozen?_of_block hk).trans (h.2 o)⟩
theorem U8s.block {w : World} {g n : Nat} (h : U8s w g n) (hn : 0 < n) : ∃ c e f, w.heap[g]? = some (.cells c e f) := by
  obtain ⟨x, _, hc⟩ := h.1 0 hn
  obtain ⟨o, ho, hcc⟩ := cells_of_cell hc
  cases o with
  | cells c e f => exact ⟨c, e, f, ho⟩
  | _ => cases hcc
theorem appendV_ext (rs : List Rec) (r : IRec) : ∃ e, (appendV rs r).1 = rs ++ e := by
  unfold appendV
  split
  · exact ⟨[], by simp⟩
  · split
    · exact ⟨[], by simp⟩
    · exact ⟨[toRec r], rfl⟩
set_option maxRecDepth 100000 in
set_option maxHeartbeats 1000000 in
theorem wipe_any (A : Option Addr) (c nd g : Nat) (hnd : nd ≤ 140737488355328) (hc : nd ≤ c) (w : World) (hA : 0 < nd → A = some ⟨g, 0, none⟩ ∧ g < w.heap.size ∧ U8s w g nd) : Calls Tryz.prog 21 #[.slice A nd c] w fun e w' => (∃ v, e = .returned v) ∧ ButS (fun b => 0 < nd ∧ b = g) w w' ∧ ∀ b n, U8s w b n → U8s w' b n := by
  go_enter Tryz.func21, Tryz.ntmps21
  go_wp2
  go_loopw [2] (fun jv wz => ∃ j : Nat, j ≤ nd ∧ jv = .int .i64 (j : Int) ∧ ButS (fun b => 0 < nd ∧ b = g) w wz ∧ ∀ b n, U8s w b n → U8s wz b n) (fun jv _ => nd - (intOf jv).toNat)
  case atStart => exact ⟨0, Nat.zero_le _, rfl, ButS.refl _ _, fun b n h => h⟩
  case round =>
    obtain ⟨j, hj, rfl, hbut, hu⟩ := hrel
    by_cases hlt : j < nd
    · obtain ⟨hAA, hgl, hgu⟩ := hA (by omega)
      subst hAA
      obtain ⟨x, hxl, cx⟩ := (hu _ _ hgu).1 j hlt
      have fx := (hu _ _ hgu).2
      have gl : g < wr.heap.size := Nat.lt_of_lt_of_le hgl hbut.size
      have hxor := u8_xor_nat x 85 hxl (by decide)
      have hnl : x ^^^ 85 < 256 := Nat.xor_lt_two_pow (n := 8) hxl (by decide)
      have hxor' : bits .xor .u8 (x : Int) 85 = ((x ^^^ 85 : Nat) : Int) := hxor
      have HNL := Lib.hid hnl; clear hxor hnl
      obtain ⟨xx, hxx⟩ : ∃ xx, x ^^^ 85 = xx := ⟨_, rfl⟩
      rw [hxx] at HNL hxor'
      clear hxx
      have lt1 : (j : Int) < (nd : Int) := by omega
      have HBUT := Lib.hid hbut; have HUU := Lib.hid hu; clear hbut hu hgu hA
      go_wp2
      go_roundw
      case rel => exact ⟨j + 1, hlt, by go_num, HBUT.out.set (p := ⟨g, j, none⟩) (.inl ⟨by omega, rfl⟩) _, fun b n h => (HUU.out b n h).any g j xx HNL.out⟩
      case measure => simp [intOf]; omega
    · obtain rfl : j = nd := by omega
      have HBUT := Lib.hid hbut; have HUU := Lib.hid hu; clear hbut hu hA
      go_wp2
      go_end0
      exact ⟨⟨_, rfl⟩, HBUT.out, HUU.out⟩
end Go.Proofs.YtpmjlaiafgbjgaaGreatDoor
end
