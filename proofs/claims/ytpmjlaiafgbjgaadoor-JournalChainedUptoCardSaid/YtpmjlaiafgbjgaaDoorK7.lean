/- What the laws' walks rest on, part 7: contracts of functions and plain facts (Log2, Log3, Log4, Log5, Jo11, Jo12, Jo13, Jo14, Jo16, Jo15). -/
import Derived.Laws.IdiomStrings
import Derived.Test.YtpmjlaiafgbjgaaDoorK6
set_option linter.unusedVariables false
set_option linter.unusedSimpArgs false
section
namespace Go.Proofs.YtpmjlaiafgbjgaaDoor
open Go.RowKit

/-- two values that share no row of the call's own -/
def Apart (u v : Value) : Prop := u.ownBlock = none ∨ u.ownBlock ≠ v.ownBlock
theorem Apart.symm {u v : Value} (h : Apart u v) : Apart v u := by
  unfold Apart at *
  cases hv : v.ownBlock with
  | none => exact .inl rfl
  | some j => rcases h with h | h
              · exact .inr (by rw [h]; simp)
              · exact .inr (by rw [← hv]; exact Ne.symm h)
end Go.Proofs.YtpmjlaiafgbjgaaDoor
end

section
namespace Go.Proofs.YtpmjlaiafgbjgaaDoor
open Go.RowKit

theorem Tryd.infoU32 : (Tryd.prog.info? 56).map (fun i => (i.zero, i.size, i.bytes)) = some (some (.int .u32 0), 1, 4) := by kernel_rfl
theorem u32v_len (l : List Nat) : (u32v l).length = l.length := List.length_map _
theorem u32v_one (l : List Nat) : ∀ u ∈ u32v l, u.oneCell' = true := by
  intro u hu; unfold u32v at hu; obtain ⟨x, _, rfl⟩ := List.mem_map.1 hu; rfl
theorem run_app_u8g (w : World) (base : Nat) (v : Value) (l m : List Nat) (hown : OwnB w base v l) (A : Option Addr) (c : Nat) (hr : SlAt w A (u8v m)) (hl : l.length + m.length ≤ 140737488355328) (hbase : base ≤ w.heap.size) :
    ∃ v' w', (Builtin.append_ #[22, 22] 22 #[v, .slice A m.length c]).run Tryd.prog w = .ok v' w' ∧ OwnB w' base v' (l ++ m) ∧ w.grownBy w' v.ownBlock ∧ (v'.ownBlock = v.ownBlock ∨ v'.ownBlock = some w.heap.size) := by
  obtain ⟨i0, hi0, hz0, hz1, hz2⟩ := info_parts Tryd.infoU8
  obtain ⟨v', w', h1, h2, h3, h5⟩ := run_app (P := Tryd.prog) w base 22 22 5 i0 (.int .u8 0) 1 (by kernel_rfl) hi0 hz0 hz1 hz2 rfl v l.length (u8v l) hown A c (u8v m) hr (u8v_one m) (by rw [u8v_len]; unfold maxLen; omega) (by rw [u8v_len]; omega) hbase
  rw [u8v_len] at h1 h2
  refine ⟨v', w', h1, ?_, h3, h5⟩
  unfold OwnB u8v
  rw [List.length_append, List.map_append]; exact h2
theorem run_app_u32g (w : World) (base : Nat) (v : Value) (l : List Nat) (x : Nat) (hown : w.ownsRow base 56 1 v l.length (u32v l)) (A : Option Addr) (c : Nat) (hr : SlAt w A (u32v [x])) (hl : (l.length + 1) * 4 ≤ 140737488355328) (hbase : base ≤ w.heap.size) :
    ∃ v' w', (Builtin.append_ #[75, 75] 75 #[v, .slice A 1 c]).run Tryd.prog w = .ok v' w' ∧ w'.ownsRow base 56 1 v' (l.length + 1) (u32v (l ++ [x])) ∧ w.grownBy w' v.ownBlock ∧ (v'.ownBlock = v.ownBlock ∨ v'.ownBlock = some w.heap.size) := by
  obtain ⟨i0, hi0, hz0, hz1, hz2⟩ := info_parts Tryd.infoU32
  obtain ⟨v', w', h1, h2, h3, h5⟩ := run_app (P := Tryd.prog) w base 75 75 56 i0 (.int .u32 0) 4 (by kernel_rfl) hi0 hz0 hz1 hz2 rfl v l.length (u32v l) hown A c (u32v [x]) hr (u32v_one [x]) (by rw [u32v_len]; unfold maxLen; simp; omega) (by rw [u32v_len]; simp; omega) hbase
  refine ⟨v', w', h1, ?_, h3, h5⟩
  unfold u32v at h2 ⊢
  rw [List.map_append]; exact h2
/-- a row of bytes of the call's own; or one that was written as a text's bytes: it is full, and the place behind its last byte is frozen -/
def OwnM (w : World) (base : Nat) (v : Value) (l : List Nat) : Prop := OwnB w base v l ∨
  ∃ g, v = .slice (some ⟨g, 0, none⟩) l.length l.length ∧ base ≤ g ∧ w.heap[g]? = some (.cells (u8v l).toArray 5 (l.length, l.length + 1)) ∧ 0 < l.length
theorem OwnM.lt {w : World} {base : Nat} {v : Value} {l : List Nat} (h : OwnM w base v l) : ∀ j, v.ownBlock = some j → base ≤ j ∧ j < w.heap.size := by
  rcases h with h | ⟨g, rfl, hb, hg, _⟩
  · exact h.lt
  · intro j hj
    obtain rfl : g = j := Option.some.inj hj
    exact ⟨hb, (Array.getElem?_eq_some_iff.1 hg).1⟩
theorem OwnM.keep {w w' : World} {base : Nat} {v : Value} {l : List Nat} (h : OwnM w base v l) (k : ∀ j, v.ownBlock = some j → w'.heap[j]? = w.heap[j]?) : OwnM w' base v l := by
  rcases h with h | ⟨g, rfl, hb, hg, hl⟩
  · exact .inl (ownsRow_keep h k)
  · exact .inr ⟨g, rfl, hb, (k g rfl).trans hg, hl⟩
theorem OwnM.form {w : World} {base : Nat} {v : Value} {l : List Nat} (h : OwnM w base v l) : ∃ A c, v = .slice A l.length c ∧ l.length ≤ c ∧ SlAt w A (u8v l) ∧ (∀ ad, A = some ad → base ≤ ad.block) := by
  rcases h with h | ⟨g, rfl, hb, hg, hl⟩
  · exact h.form
  · refine ⟨_, _, rfl, Nat.le_refl _, fun _ => ⟨_, rfl, (Array.getElem?_eq_some_iff.1 hg).1, fun j u hu => ?_⟩, fun ad e => by injection e with e; subst e; exact hb⟩
    rw [add_at, cell_of_row w g j _ _ _ hg]
    simpa using hu
theorem run_app_m (w : World) (base : Nat) (v : Value) (l m : List Nat) (hown : OwnM w base v l) (A : Option Addr) (c : Nat) (hr : SlAt w A (u8v m)) (hm : 0 < m.length) (hl : l.length + m.length ≤ 140737488355328) (hbase : base ≤ w.heap.size) :
    ∃ v' w', (Builtin.append_ #[22, 22] 22 #[v, .slice A m.length c]).run Tryd.prog w = .ok v' w' ∧ OwnM w' base v' (l ++ m) ∧ w.grownBy w' v.ownBlock ∧ (v'.ownBlock = v.ownBlock ∨ v'.ownBlock = some w.heap.size) := by
  rcases hown with h | ⟨g, rfl, hb, hg, hl0⟩
  · obtain ⟨v', w', h1, h2, h3, h4⟩ := run_app_u8g w base v l m h A c hr hl hbase
    exact ⟨v', w', h1, .inl h2, h3, h4⟩
  · obtain ⟨i0, hi0, hz0, hz1, hz2⟩ := info_parts Tryd.infoU8
    obtain ⟨ad, rfl, _, hc⟩ := hr (by rw [u8v_len]; exact hm)
    have hcells : ∀ (j : Nat) u, (u8v l)[j]? = some u → w.cell? ((⟨g, 0, none⟩ : Addr).add j) = some u := fun j u hu => by
      rw [add_at, cell_of_row w g j _ _ _ hg]
      simpa using hu
    have hrun := run_append_grow (P := Tryd.prog) (w := w) 22 22 5 i0 (.int .u8 0) (by kernel_rfl) hi0 hz0 ⟨g, 0, none⟩ l.length l.length (u8v l) (by rw [u8v_len, hz1, Nat.mul_one]) hcells ad m.length c (u8v m) (by rw [u8v_len, hz1, Nat.mul_one]) hc (by omega) (by omega) (by
      rw [hz2]
      exact growslice_fits (by omega) (by omega))
    have hge := grownCap_ge w (l.length + m.length) l.length 5
    have hcm := grownCap_le_maxLen w (l.length + m.length) l.length 5 (by unfold maxLen; omega)
    obtain ⟨N, hN⟩ : ∃ N, grownCap w (l.length + m.length) l.length 5 = N := ⟨_, rfl⟩
    rw [hN] at hrun hge hcm
    have e1 : (u8v (l ++ m)).length = (l.length + m.length) * 1 := by rw [u8v_len, List.length_append, Nat.mul_one]
    have e2 : u8v (l ++ m) = u8v l ++ u8v m := List.map_append
    refine ⟨_, _, hrun, .inl ?_, ⟨rfl, rfl, rfl, by simp, fun k hk _ => heap_alloc_old w.drew _ hk⟩, .inr rfl⟩
    unfold OwnB
    rw [List.length_append]
    refine ⟨e1, .inr ⟨w.heap.size, _, _, rfl, hbase, heap_alloc_new w.drew _, hge, hcm, ?_, ?_⟩⟩
    · simp only [Array.size_append, List.size_toArray, size_zeroCells, u8v_len]
      rw [show (Value.int IntKind.u8 0).cells.size = 1 from rfl]
      omega
    · simp only [Array.toList_append]
      rw [← e1, e2, List.take_left' rfl]
end Go.Proofs.YtpmjlaiafgbjgaaDoor
end

section
namespace Go.Proofs.YtpmjlaiafgbjgaaDoor
open Go.RowKit

structure Rws (w : World) (base : Nat) (ps : List (IRec × Value)) (lv : Value) (ks : List Nat) (kv : Value) (bs : List Nat) (bv : Value) : Prop where
  recs : RecP w base lv ps
  links : w.ownsRow base 56 1 kv ks.length (u32v ks)
  bytes : OwnM w base bv bs
  lk : Apart lv kv
  lb : Apart lv bv
  kb : Apart kv bv
  pk : ∀ p ∈ ps, Apart p.2 kv ∧ Apart p.2 bv
theorem RecP.keep {w w' : World} {base : Nat} {v : Value} {ps : List (IRec × Value)} (h : RecP w base v ps) (k1 : ∀ j, v.ownBlock = some j → w'.heap[j]? = w.heap[j]?) (k2 : ∀ p ∈ ps, ∀ j, p.2.ownBlock = some j → w'.heap[j]? = w.heap[j]?) : RecP w' base v ps :=
  ⟨ownsRow_keep h.1 k1, fun p hp => ⟨ownsRow_keep (h.2 p hp).1 (k2 p hp), (h.2 p hp).2⟩⟩
theorem Rws.keep {w w' : World} {base : Nat} {ps : List (IRec × Value)} {lv : Value} {ks : List Nat} {kv : Value} {bs : List Nat} {bv : Value} (h : Rws w base ps lv ks kv bs bv) (k : ∀ j, base ≤ j → j < w.heap.size → w'.heap[j]? = w.heap[j]?) : Rws w' base ps lv ks kv bs bv :=
  ⟨h.recs.keep (fun j hj => k j (h.recs.1.lt j hj).1 (h.recs.1.lt j hj).2) (fun p hp j hj => k j ((h.recs.2 p hp).1.lt j hj).1 ((h.recs.2 p hp).1.lt j hj).2), ownsRow_keep h.links (fun j hj => k j (h.links.lt j hj).1 (h.links.lt j hj).2), h.bytes.keep (fun j hj => k j (h.bytes.lt j hj).1 (h.bytes.lt j hj).2), h.lk, h.lb, h.kb, h.pk⟩
theorem Rws.of {w w' : World} {base : Nat} {ps : List (IRec × Value)} {lv : Value} {ks : List Nat} {kv : Value} {bs : List Nat} {bv : Value} (h : Rws w base ps lv ks kv bs bv) (k : Within w w') : Rws w' base ps lv ks kv bs bv := h.keep fun j _ hj => k.block j hj
theorem Rws.but {w w' : World} {bk base : Nat} {ps : List (IRec × Value)} {lv : Value} {ks : List Nat} {kv : Value} {bs : List Nat} {bv : Value} (h : Rws w base ps lv ks kv bs bv) (k : But bk w w') (hb : bk < base) : Rws w' base ps lv ks kv bs bv := h.keep fun j hj hl => k.block j hl (fun e => by have := Option.some.inj e; omega)
/-- what is apart from a row is kept where only that row has grown -/
theorem apart_kept {w w' : World} {row u : Value} (k : w.grownBy w' row.ownBlock) (h : Apart u row) (j : Nat) (hj : u.ownBlock = some j) (hl : j < w.heap.size) : w'.heap[j]? = w.heap[j]? :=
  k.block j hl (fun e => by rcases h with h | h; rw [h] at hj; cases hj; exact h (hj.trans e))
/-- a row that has grown is still apart from what was there -/
theorem apart_grown {w : World} {v v' u : Value} {N : Nat} (h : Apart v u) (hv : v'.ownBlock = v.ownBlock ∨ v'.ownBlock = some N) (hu : ∀ j, u.ownBlock = some j → j < N) : Apart v' u := by
  unfold Apart at *
  rcases hv with hv | hv
  · rw [hv]; exact h
  · refine .inr (fun e => ?_)
    rw [hv] at e
    have := hu N e.symm
    omega
theorem Rws.link {w : World} {base : Nat} {ps : List (IRec × Value)} {lv : Value} {ks : List Nat} {kv : Value} {bs : List Nat} {bv : Value} (h : Rws w base ps lv ks kv bs bv) (x : Nat) (A : Option Addr) (c : Nat) (hr : SlAt w A (u32v [x])) (hl : (ks.length + 1) * 4 ≤ 140737488355328) (hbase : base ≤ w.heap.size) :
    ∃ kv' w', (Builtin.append_ #[75, 75] 75 #[kv, .slice A 1 c]).run Tryd.prog w = .ok kv' w' ∧ Rws w' base ps lv (ks ++ [x]) kv' bs bv ∧ w.grownBy w' kv.ownBlock ∧ (kv'.ownBlock = kv.ownBlock ∨ kv'.ownBlock = some w.heap.size) := by
  obtain ⟨kv', w', h1, h2, h3, h4⟩ := run_app_u32g w base kv ks x h.links A c hr hl hbase
  refine ⟨kv', w', h1, ⟨h.recs.keep (fun j hj => apart_kept h3 h.lk j hj (h.recs.1.lt j hj).2) (fun p hp j hj => apart_kept h3 (h.pk p hp).1 j hj ((h.recs.2 p hp).1.lt j hj).2), ?_, h.bytes.keep (fun j hj => apart_kept h3 h.kb.symm j hj (h.bytes.lt j hj).2), ?_, h.lb, ?_, fun p hp => ⟨?_, (h.pk p hp).2⟩⟩, h3, h4⟩
  · rw [List.length_append]; exact h2
  · exact (apart_grown (w := w) h.lk.symm h4 (fun j hj => (h.recs.1.lt j hj).2)).symm
  · exact apart_grown (w := w) h.kb h4 (fun j hj => (h.bytes.lt j hj).2)
  · exact (apart_grown (w := w) (h.pk p hp).1.symm h4 (fun j hj => ((h.recs.2 p hp).1.lt j hj).2)).symm
theorem Rws.more {w : World} {base : Nat} {ps : List (IRec × Value)} {lv : Value} {ks : List Nat} {kv : Value} {bs : List Nat} {bv : Value} (h : Rws w base ps lv ks kv bs bv) (m : List Nat) (A : Option Addr) (c : Nat) (hr : SlAt w A (u8v m)) (hm : 0 < m.length) (hl : bs.length + m.length ≤ 140737488355328) (hbase : base ≤ w.heap.size) :
    ∃ bv' w', (Builtin.append_ #[22, 22] 22 #[bv, .slice A m.length c]).run Tryd.prog w = .ok bv' w' ∧ Rws w' base ps lv ks kv (bs ++ m) bv' ∧ w.grownBy w' bv.ownBlock ∧ (bv'.ownBlock = bv.ownBlock ∨ bv'.ownBlock = some w.heap.size) := by
  obtain ⟨bv', w', h1, h2, h3, h4⟩ := run_app_m w base bv bs m h.bytes A c hr hm hl hbase
  refine ⟨bv', w', h1, ⟨h.recs.keep (fun j hj => apart_kept h3 h.lb j hj (h.recs.1.lt j hj).2) (fun p hp j hj => apart_kept h3 (h.pk p hp).2 j hj ((h.recs.2 p hp).1.lt j hj).2), ownsRow_keep h.links (fun j hj => apart_kept h3 h.kb j hj (h.links.lt j hj).2), h2, h.lk, ?_, ?_, fun p hp => ⟨(h.pk p hp).1, ?_⟩⟩, h3, h4⟩
  · exact (apart_grown (w := w) h.lb.symm h4 (fun j hj => (h.recs.1.lt j hj).2)).symm
  · exact (apart_grown (w := w) h.kb.symm h4 (fun j hj => (h.links.lt j hj).2)).symm
  · exact (apart_grown (w := w) (h.pk p hp).2.symm h4 (fun j hj => ((h.recs.2 p hp).1.lt j hj).2)).symm
end Go.Proofs.YtpmjlaiafgbjgaaDoor
end

section
namespace Go.Proofs.YtpmjlaiafgbjgaaDoor
open Go.RowKit

/-- the blocks of a log's rows -/
def Owned (ps : List (IRec × Value)) (lv kv bv : Value) (j : Nat) : Prop := lv.ownBlock = some j ∨ kv.ownBlock = some j ∨ bv.ownBlock = some j ∨ ∃ p ∈ ps, p.2.ownBlock = some j
theorem Rws.keepO {w w' : World} {base : Nat} {ps : List (IRec × Value)} {lv : Value} {ks : List Nat} {kv : Value} {bs : List Nat} {bv : Value} (h : Rws w base ps lv ks kv bs bv) (k : ∀ j, Owned ps lv kv bv j → j < w.heap.size → w'.heap[j]? = w.heap[j]?) : Rws w' base ps lv ks kv bs bv :=
  ⟨h.recs.keep (fun j hj => k j (.inl hj) (h.recs.1.lt j hj).2) (fun p hp j hj => k j (.inr (.inr (.inr ⟨p, hp, hj⟩))) ((h.recs.2 p hp).1.lt j hj).2), ownsRow_keep h.links (fun j hj => k j (.inr (.inl hj)) (h.links.lt j hj).2), h.bytes.keep (fun j hj => k j (.inr (.inr (.inl hj))) (h.bytes.lt j hj).2), h.lk, h.lb, h.kb, h.pk⟩
theorem Rws.owned_lt {w : World} {base : Nat} {ps : List (IRec × Value)} {lv : Value} {ks : List Nat} {kv : Value} {bs : List Nat} {bv : Value} (h : Rws w base ps lv ks kv bs bv) {j : Nat} (hj : Owned ps lv kv bv j) : j < w.heap.size := by
  rcases hj with hj | hj | hj | ⟨p, hp, hj⟩
  · exact (h.recs.1.lt j hj).2
  · exact (h.links.lt j hj).2
  · exact (h.bytes.lt j hj).2
  · exact ((h.recs.2 p hp).1.lt j hj).2
/-- a log in memory: its cells at block xb, its rows; all its blocks are in S -/
structure LogS (w : World) (S : Nat → Prop) (xb : Nat) (rs : List Rec) : Prop where
  at_ : S xb
  made : w.cell? ⟨xb, 0, none⟩ = some (.int .i64 1)
  firm : ∀ o, w.frozen? ⟨xb, o, none⟩ = false
  rows : ∃ (ps : List (IRec × Value)) (lv kv bv : Value), ps.map Prod.fst = rs.map Rec.i ∧ w.cell? ⟨xb, 1, none⟩ = some lv ∧ w.cell? ⟨xb, 2, none⟩ = some kv ∧ w.cell? ⟨xb, 3, none⟩ = some bv ∧
    Rws w 0 ps lv (linksV rs 0 startV) kv (logV rs) bv ∧ ∀ j, Owned ps lv kv bv j → S j ∧ j ≠ xb
theorem LogS.lt {w : World} {S : Nat → Prop} {xb : Nat} {rs : List Rec} (h : LogS w S xb rs) : xb < w.heap.size := World.block_lt_of_cell? _ _ h.made
theorem LogS.keep {w w' : World} {S : Nat → Prop} {xb : Nat} {rs : List Rec} (h : LogS w S xb rs) (k : ∀ j, S j → j < w.heap.size → w'.heap[j]? = w.heap[j]?) : LogS w' S xb rs := by
  have hl := h.lt
  obtain ⟨h0, h1, h2, ps, lv, kv, bv, a1, a2, a3, a4, a5, a6⟩ := h
  have hx := k xb h0 hl
  exact ⟨h0, (World.cell?_of_block hx).trans h1, fun o => (World.frozen?_of_block hx).trans (h2 o), ps, lv, kv, bv, a1, (World.cell?_of_block hx).trans a2, (World.cell?_of_block hx).trans a3, (World.cell?_of_block hx).trans a4, a5.keepO (fun j hj hl => k j (a6 j hj).1 hl), a6⟩
theorem LogS.of {w w' : World} {S : Nat → Prop} {xb : Nat} {rs : List Rec} (h : LogS w S xb rs) (k : Within w w') : LogS w' S xb rs := h.keep fun j _ hj => k.block j hj
theorem LogS.butS {w w' : World} {S T : Nat → Prop} {xb : Nat} {rs : List Rec} (h : LogS w S xb rs) (k : ButS T w w') (hd : ∀ j, S j → j < w.heap.size → ¬ T j) : LogS w' S xb rs := h.keep fun j hj hl => k.block j hl (hd j hj hl)
theorem LogS.mono {w : World} {S T : Nat → Prop} {xb : Nat} {rs : List Rec} (h : LogS w S xb rs) (k : ∀ j, S j → T j) : LogS w T xb rs := by
  obtain ⟨h0, h1, h2, ps, lv, kv, bv, a1, a2, a3, a4, a5, a6⟩ := h
  exact ⟨k _ h0, h1, h2, ps, lv, kv, bv, a1, a2, a3, a4, a5, fun j hj => ⟨k _ (a6 j hj).1, (a6 j hj).2⟩⟩
/-- one record more on the list -/
theorem Rws.rec_ {w : World} {base : Nat} {ps : List (IRec × Value)} {lv : Value} {ks : List Nat} {kv : Value} {bs : List Nat} {bv : Value} (h : Rws w base ps lv ks kv bs bv) (r : IRec) (u : Value) (hu : OwnB w base u r.2) (hub : Bytes r.2) (hne : Apart u lv) (huk : Apart u kv) (hub2 : Apart u bv) (hl : (ps.length + 1) * 32 ≤ 140737488355328) (hbase : base ≤ w.heap.size) :
    ∃ lv' w', (Builtin.append_ #[31, 31] 31 #[lv, .slice (some ⟨w.heap.size, 0, none⟩) 1 1]).run Tryd.prog (w.alloc (.cells #[.int .i64 r.1, u] 50)) = .ok lv' w' ∧ Rws w' base (ps ++ [(r, u)]) lv' ks kv bs bv ∧ w.grownBy w' lv.ownBlock ∧ (lv'.ownBlock = lv.ownBlock ∨ lv'.ownBlock = some (w.heap.size + 1)) := by
  obtain ⟨lv', w', h1, h2, h3, h4⟩ := run_app_recP w base lv ps r u h.recs hu hub hne hl hbase
  refine ⟨lv', w', h1, ⟨h2, ownsRow_keep h.links (fun j hj => apart_kept h3 h.lk.symm j hj (h.links.lt j hj).2), h.bytes.keep (fun j hj => apart_kept h3 h.lb.symm j hj (h.bytes.lt j hj).2), ?_, ?_, h.kb, fun p hp => ?_⟩, h3, h4⟩
  · exact apart_grown (w := w) h.lk h4 (fun j hj => by have := (h.links.lt j hj).2; omega)
  · exact apart_grown (w := w) h.lb h4 (fun j hj => by have := (h.bytes.lt j hj).2; omega)
  · rcases List.mem_append.1 hp with hp | hp
    · exact h.pk p hp
    · rw [List.mem_singleton] at hp; rw [hp]; exact ⟨huk, hub2⟩
/-- the four cells of a log -/
structure XC (w : World) (xb : Nat) (a b c d : Value) : Prop where
  c0 : w.cell? ⟨xb, 0, none⟩ = some a
  c1 : w.cell? ⟨xb, 1, none⟩ = some b
  c2 : w.cell? ⟨xb, 2, none⟩ = some c
  c3 : w.cell? ⟨xb, 3, none⟩ = some d
  firm : ∀ o, w.frozen? ⟨xb, o, none⟩ = false
theorem XC.lt {w : World} {xb : Nat} {a b c d : Value} (h : XC w xb a b c d) : xb < w.heap.size := World.block_lt_of_cell? _ _ h.c0
theorem XC.keep {w w' : World} {xb : Nat} {a b c d : Value} (h : XC w xb a b c d) (k : w'.heap[xb]? = w.heap[xb]?) : XC w' xb a b c d :=
  ⟨(World.cell?_of_block k).trans h.c0, (World.cell?_of_block k).trans h.c1, (World.cell?_of_block k).trans h.c2, (World.cell?_of_block k).trans h.c3, fun o => (World.frozen?_of_block k).trans (h.firm o)⟩
theorem XC.of {w w' : World} {xb : Nat} {a b c d : Value} (h : XC w xb a b c d) (i : Within w w') : XC w' xb a b c d := h.keep (i.block _ h.lt)
theorem XC.grown {w w' : World} {row : Option Nat} {xb : Nat} {a b c d : Value} (h : XC w xb a b c d) (i : w.grownBy w' row) (hne : row ≠ some xb) : XC w' xb a b c d := h.keep (i.block xb h.lt (Ne.symm hne))
theorem XC.set1 {w : World} {xb : Nat} {a b c d : Value} (h : XC w xb a b c d) (u : Value) : XC (w.setCell ⟨xb, 1, none⟩ u) xb a u c d := by
  refine ⟨?_, World.cell?_setCell_same _ _ _ h.c1, ?_, ?_, fun o => by rw [World.frozen?_setCell]; exact h.firm o⟩
  · rw [World.cell?_setCell_other _ _ _ _ (by simp)]; exact h.c0
  · rw [World.cell?_setCell_other _ _ _ _ (by simp)]; exact h.c2
  · rw [World.cell?_setCell_other _ _ _ _ (by simp)]; exact h.c3
theorem XC.set2 {w : World} {xb : Nat} {a b c d : Value} (h : XC w xb a b c d) (u : Value) : XC (w.setCell ⟨xb, 2, none⟩ u) xb a b u d := by
  refine ⟨?_, ?_, World.cell?_setCell_same _ _ _ h.c2, ?_, fun o => by rw [World.frozen?_setCell]; exact h.firm o⟩
  · rw [World.cell?_setCell_other _ _ _ _ (by simp)]; exact h.c0
  · rw [World.cell?_setCell_other _ _ _ _ (by simp)]; exact h.c1
  · rw [World.cell?_setCell_other _ _ _ _ (by simp)]; exact h.c3
theorem XC.set3 {w : World} {xb : Nat} {a b c d : Value} (h : XC w xb a b c d) (u : Value) : XC (w.setCell ⟨xb, 3, none⟩ u) xb a b c u := by
  refine ⟨?_, ?_, ?_, World.cell?_setCell_same _ _ _ h.c3, fun o => by rw [World.frozen?_setCell]; exact h.firm o⟩
  · rw [World.cell?_setCell_other _ _ _ _ (by simp)]; exact h.c0
  · rw [World.cell?_setCell_other _ _ _ _ (by simp)]; exact h.c1
  · rw [World.cell?_setCell_other _ _ _ _ (by simp)]; exact h.c2
theorem Rws.setX {w : World} {base : Nat} {ps : List (IRec × Value)} {lv : Value} {ks : List Nat} {kv : Value} {bs : List Nat} {bv : Value} (h : Rws w base ps lv ks kv bs bv) {p : Addr} (hp : ∀ j, Owned ps lv kv bv j → j ≠ p.block) (u : Value) : Rws (w.setCell p u) base ps lv ks kv bs bv :=
  h.keepO fun j hj _ => Below.heap_setCell _ _ _ _ (hp j hj)
/-- as many bytes at most -/
theorem laidV_le : ∀ (l : List Rec) (n last : Nat), (∀ r ∈ l, r.data.length ≤ 1048576) → (laidV l n last).length ≤ l.length * 1048593
  | [], _, _, _ => Nat.zero_le _
  | r :: l, n, last, h => by
    show (layV r n last ++ laidV l (n + 1) (nextV r n last)).length ≤ (l.length + 1) * 1048593
    rw [List.length_append, layV_len]
    have h1 := h r (by simp)
    have h2 := laidV_le l (n + 1) (nextV r n last) (fun q hq => h q (by simp [hq]))
    omega
theorem logV_le {l : List Rec} (h : ∀ r ∈ l, r.data.length ≤ 1048576) (hn : l.length ≤ 1048576) : (logV l).length ≤ 70368744177664 := by
  have h1 := laidV_le l 0 startV h
  unfold logV
  rw [List.length_append, show magicV.length = 8 from rfl]
  omega
theorem apart_new {u v : Value} (N : Nat) (hu : ∀ j, u.ownBlock = some j → N ≤ j) (hv : ∀ j, v.ownBlock = some j → j < N) : Apart u v := by
  cases h : u.ownBlock with
  | none => exact .inl h
  | some j =>
    refine .inr (fun e => ?_)
    rw [h] at e
    have h1 := hu j h
    have h2 := hv j e.symm
    omega
end Go.Proofs.YtpmjlaiafgbjgaaDoor
end

section
namespace Go.Proofs.YtpmjlaiafgbjgaaDoor
open Go.RowKit

theorem last_any (xb : Nat) (rs : List Rec) (hn : rs.length ≤ 1048576) (K : Option Addr) (ck : Nat) (w : World) (h2 : w.cell? ⟨xb, 2, none⟩ = some (.slice K rs.length ck)) (hK : SlAt w K (u32v (linksV rs 0 startV))) : Calls Tryd.prog 64 #[.pointer (some ⟨xb, 0, none⟩)] w fun e w' => e = .returned (.int .u32 (lastV rs 0 startV : Int)) ∧ Within w w' := by
  rcases Nat.eq_zero_or_pos rs.length with h0 | h0
  · have e : rs = [] := List.eq_nil_of_length_eq_zero h0
    subst e
    exact last_none xb K ck w h2
  · obtain ⟨n, hn1⟩ : ∃ n, rs.length = n + 1 := ⟨rs.length - 1, by omega⟩
    have hne : rs ≠ [] := fun e => by rw [e] at h0; cases h0
    have hl := linksV_last rs 0 startV hne
    obtain ⟨ad, rfl, _, hc⟩ := hK (by rw [u32v_len, linksV_len]; exact h0)
    have hx := hc n (.int .u32 (lastV rs 0 startV : Int)) (by
      unfold u32v
      have hlt : n < (linksV rs 0 startV).length := by rw [linksV_len]; omega
      rw [List.getElem?_map, List.getElem?_eq_getElem hlt, ← hl, hn1]
      rw [show n + 1 - 1 = n by omega, List.getD_eq_getElem?_getD, List.getElem?_eq_getElem hlt]; rfl)
    rw [hn1] at h2
    exact last_some xb ad ck n _ (by omega) w h2 hx

set_option maxRecDepth 100000 in
set_option maxHeartbeats 1000000 in
theorem jput_any (S : Nat → Prop) (xb : Nat) (rs : List Rec) (r : Rec) (hok : ∀ q ∈ rs ++ [r], q.Ok pf) (hn : rs.length < 1048576) (D : Option Addr) (cd : Nat) (hcd : r.data.length ≤ cd) (w : World) (hP : LogS w S xb rs) (hr : SlAt w D (u8v r.data)) : Calls Tryd.prog 42 #[.pointer (some ⟨xb, 0, none⟩), .agg #[.int .i64 (r.kind : Int), .slice D r.data.length cd]] w fun e w' => e = .returned (.tuple #[]) ∧ LogS w' (More S w w') xb (rs ++ [r]) ∧ ButS S w w' := by
  have hokr : r.Ok pf := hok r (by simp)
  have hok' : ∀ q ∈ rs, q.Ok pf := fun q hq => hok q (by simp [hq])
  obtain ⟨hr1, hr2, hr4⟩ := hokr.parts
  have hr3 := hokr.bytes
  have hlast := lastV_lt rs 0 startV hok' startV_lt
  have hlog := logV_le (l := rs ++ [r]) (fun q hq => (hok q hq).parts.2.2) (by rw [List.length_append]; simp; omega)
  rw [logV_snoc, List.length_append] at hlog
  have hxb := hP.lt
  obtain ⟨hS, hmade, hfirm, ps, lv, kv, bv, hps, p1, p2, p3, hRW, hown⟩ := hP
  have hRO : RecsO w 0 lv (rs.map Rec.i) := ⟨ps, hps, hRW.recs⟩
  obtain ⟨Al, cl, rfl, hcl, _, _, _⟩ := hRO.at
  obtain ⟨Ak, ck, rfl, hck, hks, _⟩ := owns_form hRW.links
  obtain ⟨Ab, cb, rfl, hcb, hbs, _⟩ := hRW.bytes.form
  rw [List.length_map] at hcl p1 hRW hown
  rw [linksV_len] at hck p2 hRW hown
  have HX := Lib.hid (XC.mk hmade p1 p2 p3 hfirm)
  have hpl : ps.length = rs.length := by have := congrArg List.length hps; rwa [List.length_map, List.length_map] at this
  obtain ⟨W0, hW0⟩ : ∃ W0, W0 = w.alloc (.cells #[.int .i64 (r.kind : Int), .slice D r.data.length cd] 50) := ⟨_, rfl⟩
  have hI0 : Within w W0 := by rw [hW0]; exact (Within.refl w).alloc _
  have z0 : W0.cell? ⟨w.heap.size, 0, none⟩ = some (.int .i64 (r.kind : Int)) := by rw [hW0]; simp
  have z1 : W0.cell? ⟨w.heap.size, 1, none⟩ = some (.slice D r.data.length cd) := by rw [hW0]; simp
  have zs : w.heap.size < W0.heap.size := by rw [hW0]; simp
  have q1 := (hI0.cells _ _ hxb).trans p1
  have q2 := (hI0.cells _ _ hxb).trans p2
  have hxb0 := Nat.lt_of_lt_of_le hxb hI0.size
  have LL : Hid (∀ W, Within W0 W → Calls Tryd.prog 64 #[.pointer (some ⟨xb, 0, none⟩)] W fun e w' => e = .returned (.int .u32 (lastV rs 0 startV : Int)) ∧ Within W w') := Lib.hid (fun W h => last_any xb rs (by omega) Ak ck W ((h.cells _ _ hxb0).trans q2) (hks.of (hI0.trans h)))
  have LY : Hid (∀ W, Within W0 W → Calls Tryd.prog 63 #[.agg #[.int .i64 (r.kind : Int), .slice D r.data.length cd], .int .i64 (rs.length : Int), .int .u32 (lastV rs 0 startV : Int)] W fun e w' => ∃ v, e = .returned (.tuple #[v, .int .u32 (nextV r rs.length (lastV rs 0 startV) : Int)]) ∧ OwnB w' W.heap.size v (layV r rs.length (lastV rs 0 startV)) ∧ Within W w') := Lib.hid (fun W h => lay_any r rs.length (lastV rs 0 startV) D cd (by omega) (by omega) hlast hr4 hr3 W (hr.of (hI0.trans h)))
  have CL : Hid (∀ W, Within W0 W → Calls Tryd.prog 44 #[.slice D r.data.length cd] W fun e w' => ∃ v, e = .returned v ∧ OwnB w' W.heap.size v r.data ∧ Within W w') := Lib.hid (fun W h => clone_any D cd r.data (by omega) W (hr.of (hI0.trans h)))
  obtain ⟨n, hnn⟩ : ∃ n, rs.length = n := ⟨_, rfl⟩
  obtain ⟨la, hla⟩ : ∃ x, lastV rs 0 startV = x := ⟨_, rfl⟩
  obtain ⟨nx, hnx⟩ : ∃ x, nextV r rs.length (lastV rs 0 startV) = x := ⟨_, rfl⟩
  obtain ⟨nb, hnb⟩ : ∃ x, (logV rs).length = x := ⟨_, rfl⟩
  obtain ⟨nd, hnd⟩ : ∃ x, r.data.length = x := ⟨_, rfl⟩
  obtain ⟨k, hkk⟩ : ∃ x, r.kind = x := ⟨_, rfl⟩
  obtain ⟨LA, hLA⟩ : ∃ x, layV r rs.length (lastV rs 0 startV) = x := ⟨_, rfl⟩
  obtain ⟨nl, hnl⟩ : ∃ x, LA.length = x := ⟨_, rfl⟩
  rw [hnx, hLA] at LY
  rw [hLA, hnb, hnl] at hlog
  rw [hnn, hla, hnd, hkk] at LY
  rw [hla] at LL
  rw [hnd] at CL
  rw [hkk] at z0
  rw [hnd, hkk] at hW0
  rw [hnd] at z1 hcd
  rw [hnn] at p1 q1 q2 hn hcl hck hRW hown HX hpl
  rw [hnb] at hRW hown HX hcb
  rw [hnd] at hr4
  rw [hnn] at hLA hnx
  rw [hla] at hLA hnx hlast
  rw [hnn] at p2
  rw [hnb] at p3
  have HZ0 := Lib.hid z0; have HZ1 := Lib.hid z1; have HZS := Lib.hid zs
  have HLP : Hid (0 < LA.length) := Lib.hid (by rw [← hLA, layV_len]; omega)
  have HPS := Lib.hid hps; have HRW := Lib.hid hRW; have HOW := Lib.hid hown; have HSX := Lib.hid hS; have HI0 := Lib.hid hI0; have HND := Lib.hid hnd; have HKK := Lib.hid hkk; have HLA := Lib.hid hLA; have HNX := Lib.hid hnx; have HNL := Lib.hid hnl; have HNN := Lib.hid hnn; have HLL := Lib.hid hla; have HR3 := Lib.hid hr3; have HNB := Lib.hid hnb
  clear hps hRW hown hS hI0 hnd hkk hLA hnx hnl hnn hla hr3 hnb hok hok' hokr hr hmade hfirm hRO hks hbs p2 p3 q2
  rw [HND.out, HKK.out]
  go_enter Tryd.func42, Tryd.ntmps42
  go_wp2_with fail
  rw [← hW0]
  clear hW0
  refine wp_region_schG (fun W => W.cell? ⟨xb, 1, none⟩ = some (.slice Al n cl) ∧ xb < W.heap.size ∧ W.cell? ⟨w.heap.size, 0, none⟩ = some (.int .i64 (k : Int)) ∧ W.cell? ⟨w.heap.size, 1, none⟩ = some (.slice D nd cd) ∧ w.heap.size < W.heap.size ∧ Within W0 W) 13 (.firm 0 (.firm 1 (.firm 2 (.firm 3 (.firm 4 (.firm 5 (.firm 6 (.one 7 (.one 8 (.firm 9 (.firm 10 (.firm 11 (.firm 12 (.one 13 .nil)))))))))))))) (by kernel_rfl) (by kernel_rfl) ⟨q1, hxb0, z0, z1, zs, Within.refl W0⟩ ?_
  rintro w0 ⟨p1, hxb, z0, z1, zs, hww⟩
  try simp only [Act.put, List.setIfInBounds_toArray, List.set_cons_zero, List.set_cons_succ]
  iterate 7
    apply sch_firm rfl rfl (by repeat (first | with_reducible exact Within.refl _ | with_reducible assumption | with_reducible refine Within.alloc ?_ _ | with_reducible refine Within.drew ?_ | with_reducible refine Within.drewN ?_ _ | with_reducible refine Within.setCell ?_ (by first | (simp; done) | (simp; omega)) _ | with_reducible refine Within.trans ?_ (by assumption)))
    · intro wq hq
      have hcq := hq.cells
      clear hq
      go_simp
      rfl
    try simp only [Act.put, List.setIfInBounds_toArray, List.set_cons_zero, List.set_cons_succ]
  refine sch_one rfl rfl (fun K hK => ?_)
  go_simp
  refine (LL.out _ (by exact hww.trans (by first | assumption | repeat (first | with_reducible exact Within.refl _ | with_reducible assumption | with_reducible refine Within.alloc ?_ _ | with_reducible refine Within.drew ?_ | with_reducible refine Within.drewN ?_ _ | with_reducible refine Within.setCell ?_ (by first | (simp; done) | (simp; omega)) _ | with_reducible refine Within.trans ?_ (by assumption))))).mono ?_; rintro e1 w1 ⟨rfl, h1⟩
  refine hK _ _ (fun _ => (by repeat (first | with_reducible exact Within.refl _ | with_reducible assumption | with_reducible refine Within.alloc ?_ _ | with_reducible refine Within.drew ?_ | with_reducible refine Within.drewN ?_ _ | with_reducible refine Within.setCell ?_ (by first | (simp; done) | (simp; omega)) _ | with_reducible refine Within.trans ?_ (by assumption)))) ?_
  clear hK K
  try simp only [Act.put, List.setIfInBounds_toArray, List.set_cons_zero, List.set_cons_succ]
  refine sch_one rfl rfl (fun K hK => ?_)
  go_simp
  refine (LY.out _ (by exact hww.trans (by repeat (first | with_reducible exact Within.refl _ | with_reducible assumption | with_reducible refine Within.alloc ?_ _ | with_reducible refine Within.drew ?_ | with_reducible refine Within.drewN ?_ _ | with_reducible refine Within.setCell ?_ (by first | (simp; done) | (simp; omega)) _ | with_reducible refine Within.trans ?_ (by assumption))))).mono ?_; rintro e2 w2 ⟨vl, rfl, hO2, h2⟩
  obtain ⟨Av, cv, rfl, hcv, hsv, _⟩ := hO2.form
  rw [HNL.out] at hcv
  have HO2 := Lib.hid hO2; have HSV := Lib.hid hsv; clear hO2 hsv
  rw [HNL.out] at HO2 ⊢
  refine hK _ _ (fun _ => (by repeat (first | with_reducible exact Within.refl _ | with_reducible assumption | with_reducible refine Within.alloc ?_ _ | with_reducible refine Within.drew ?_ | with_reducible refine Within.drewN ?_ _ | with_reducible refine Within.setCell ?_ (by first | (simp; done) | (simp; omega)) _ | with_reducible refine Within.trans ?_ (by assumption)))) ?_
  clear hK K
  try simp only [Act.put, List.setIfInBounds_toArray, List.set_cons_zero, List.set_cons_succ]
  iterate 4
    apply sch_firm rfl rfl (by repeat (first | with_reducible exact Within.refl _ | with_reducible assumption | with_reducible refine Within.alloc ?_ _ | with_reducible refine Within.drew ?_ | with_reducible refine Within.drewN ?_ _ | with_reducible refine Within.setCell ?_ (by first | (simp; done) | (simp; omega)) _ | with_reducible refine Within.trans ?_ (by assumption)))
    · intro wq hq
      have hcq := hq.cells
      clear hq
      go_simp
      rfl
    try simp only [Act.put, List.setIfInBounds_toArray, List.set_cons_zero, List.set_cons_succ]
  refine sch_one rfl rfl (fun K hK => ?_)
  go_simp
  refine hK _ _ (fun h => absurd h (by decide)) ?_
  clear hK K
  try simp only [Act.put, List.setIfInBounds_toArray, List.set_cons_zero, List.set_cons_succ]
  refine sch_nil ?_
  have hX2 : Within W0 w2 := Within.trans (Within.trans hww.drew h1) h2
  have hW1 : Within W0 w1 := Within.trans hww.drew h1
  have HW1 := Lib.hid hW1; clear hW1
  have p1' := (hX2.cells _ _ hxb0).trans q1
  have p1' := (hX2.cells _ _ hxb0).trans q1
  have hT : ∀ j, (Value.slice Al n cl).ownBlock = some j → j < w.heap.size ∧ j ≠ xb := fun j hj => ⟨HRW.out.owned_lt (.inl hj), (HOW.out j (.inl hj)).2⟩
  have nT1 : ¬ ((Value.slice Al n cl).ownBlock = some xb) := fun h => (hT _ h).2 rfl
  have nT2 : ¬ ((Value.slice Al n cl).ownBlock = some w.heap.size) := fun h => by have := (hT _ h).1; omega
  have z0' := (hX2.cells _ 0 HZS.out).trans HZ0.out
  have z1' := (hX2.cells _ 1 HZS.out).trans HZ1.out
  have hxb2 := Nat.lt_of_lt_of_le hxb0 hX2.size
  have zs2 := Nat.lt_of_lt_of_le HZS.out hX2.size
  have HX2 := Lib.hid hX2; have HT1 := Lib.hid nT1; have HT2 := Lib.hid nT2; have HTT := Lib.hid hT; clear hX2 nT1 nT2 hT h1 h2 hww p1 hxb z0 z1 zs q1 LY LL
  go_wp2_with fail
  refine wp_region_schT (fun j => (Value.slice Al n cl).ownBlock = some j) (fun W => W.cell? ⟨xb, 1, none⟩ = some (.slice Al n cl) ∧ xb < W.heap.size ∧ W.cell? ⟨w.heap.size, 0, none⟩ = some (.int .i64 (k : Int)) ∧ W.cell? ⟨w.heap.size, 1, none⟩ = some (.slice D nd cd) ∧ w.heap.size < W.heap.size ∧ W = w2) 15 (.firm 0 (.firm 1 (.firm 2 (.firm 3 (.firm 4 (.firm 5 (.firm 6 (.firm 7 (.firm 8 (.one 9 (.firm 10 (.one 11 (.one 12 (.firm 13 (.firm 14 (.one 15 .nil)))))))))))))))) (by kernel_rfl) (by kernel_rfl) ⟨p1', hxb2, z0', z1', zs2, rfl⟩ ?_
  rintro w0 ⟨p1, hxb, z0, z1, zs, rfl⟩
  try simp only [Act.put, List.setIfInBounds_toArray, List.set_cons_zero, List.set_cons_succ]
  iterate 9
    apply sch_firm rfl rfl (by repeat (first | with_reducible exact ButS.refl _ _ | with_reducible assumption | with_reducible refine ButS.drew ?_ | with_reducible refine ButS.alloc ?_ _ | with_reducible refine ButS.within ?_ (by assumption)))
    · intro wq hq
      have g0 := (hq.cells xb 1 hxb HT1.out).trans p1
      have g1 := (hq.cells _ 0 zs HT2.out).trans z0
      have g2 := (hq.cells _ 1 zs HT2.out).trans z1
      have g3 := Nat.lt_of_lt_of_le hxb hq.size
      have g4 := Nat.lt_of_lt_of_le zs hq.size
      clear hq
      go_simp
      rfl
    try simp only [Act.put, List.setIfInBounds_toArray, List.set_cons_zero, List.set_cons_succ]
  refine sch_one rfl rfl (fun K hK => ?_)
  go_simp
  refine (CL.out _ (by exact HX2.out.drew)).mono ?_; rintro e3 w3 ⟨v3, rfl, hO3, h3⟩
  obtain ⟨A3, c3, rfl, hc3, _, _⟩ := hO3.form
  rw [HND.out] at hO3 hc3 ⊢
  have HO3 := Lib.hid hO3; have H3 := Lib.hid h3; clear hO3
  refine hK _ _ (fun _ => (by repeat (first | with_reducible exact ButS.refl _ _ | with_reducible assumption | with_reducible refine ButS.drew ?_ | with_reducible refine ButS.alloc ?_ _ | with_reducible refine ButS.within ?_ (by assumption)))) ?_
  clear hK K
  try simp only [Act.put, List.setIfInBounds_toArray, List.set_cons_zero, List.set_cons_succ]
  apply sch_firm rfl rfl (by repeat (first | with_reducible exact ButS.refl _ _ | with_reducible assumption | with_reducible refine ButS.drew ?_ | with_reducible refine ButS.alloc ?_ _ | with_reducible refine ButS.within ?_ (by assumption)))
  · intro wq hq
    have g0 := (hq.cells xb 1 hxb HT1.out).trans p1
    have g1 := (hq.cells _ 0 zs HT2.out).trans z0
    have g2 := (hq.cells _ 1 zs HT2.out).trans z1
    have g3 := Nat.lt_of_lt_of_le hxb hq.size
    have g4 := Nat.lt_of_lt_of_le zs hq.size
    clear hq
    go_simp
    rfl
  try simp only [Act.put, List.setIfInBounds_toArray, List.set_cons_zero, List.set_cons_succ]
  refine sch_one rfl rfl (fun K hK => ?_)
  go_simp
  refine hK _ _ (fun _ => (by repeat (first | with_reducible exact ButS.refl _ _ | with_reducible assumption | with_reducible refine ButS.drew ?_ | with_reducible refine ButS.alloc ?_ _ | with_reducible refine ButS.within ?_ (by assumption)))) ?_
  clear hK K
  try simp only [Act.put, List.setIfInBounds_toArray, List.set_cons_zero, List.set_cons_succ]
  refine sch_one rfl rfl (fun K hK => ?_)
  have hw3 : Within w w3 := HI0.out.trans (HX2.out.drew.trans H3.out)
  have hnew : ∀ j, (Value.slice A3 nd c3).ownBlock = some j → w.heap.size ≤ j := fun j hj => by have h1 := (HO3.out.lt j hj).1; have h2 := HX2.out.size; have h3 := HI0.out.size; simp at h1; omega
  have hap : ∀ v, (∀ j, v.ownBlock = some j → j < w.heap.size) → Apart (.slice A3 nd c3) v := fun v hv => apart_new w.heap.size hnew hv
  obtain ⟨lv4, w4, hrun4, hR4, hg4, hb4⟩ := Rws.rec_ (w := w3) (HRW.out.of hw3) ((k : Int), r.data) (.slice A3 nd c3) (HO3.out.less (Nat.zero_le _)) HR3.out (hap _ fun j hj => HRW.out.owned_lt (.inl hj)) (hap _ fun j hj => HRW.out.owned_lt (.inr (.inl hj))) (hap _ fun j hj => HRW.out.owned_lt (.inr (.inr (.inl hj)))) (by rw [hpl]; omega) (Nat.zero_le _)
  have hS4 : ButS (fun j => j = xb ∨ Owned ps (.slice Al n cl) (.slice Ak n ck) (.slice Ab nb cb) j) w0 w4 := (ButS.in_ ((Within.refl w0).drew.trans H3.out)).grown hg4 (fun j hj => .inl (.inr (.inl hj)))
  have hS4' : ButS (fun j => (Value.slice Al n cl).ownBlock = some j) w0 w4 := (ButS.in_ ((Within.refl w0).drew.trans H3.out)).grown hg4 (fun j hj => .inl hj)
  have hX4 : XC w4 xb (.int .i64 1) (.slice Al n cl) (.slice Ak n ck) (.slice Ab nb cb) := (HX.out.of hw3).grown hg4 (fun e => HT1.out e)
  have hO4 : ∀ j, Owned (ps ++ [(((k : Int), r.data), Value.slice A3 nd c3)]) lv4 (.slice Ak n ck) (.slice Ab nb cb) j → (Owned ps (.slice Al n cl) (.slice Ak n ck) (.slice Ab nb cb) j ∨ w.heap.size ≤ j) ∧ j ≠ xb := fun j hj => by
    have hxw : xb < w.heap.size := HX.out.lt
    have old : Owned ps (.slice Al n cl) (.slice Ak n ck) (.slice Ab nb cb) j → (Owned ps (.slice Al n cl) (.slice Ak n ck) (.slice Ab nb cb) j ∨ w.heap.size ≤ j) ∧ j ≠ xb := fun h => ⟨.inl h, (HOW.out j h).2⟩
    rcases hj with hj | hj | hj | ⟨p, hp, hj⟩
    · rcases hb4 with e | e
      · exact old (.inl (e ▸ hj))
      · rw [hj] at e; have e := Option.some.inj e; have h1 := hw3.size; exact ⟨.inr (by omega), by omega⟩
    · exact old (.inr (.inl hj))
    · exact old (.inr (.inr (.inl hj)))
    · rcases List.mem_append.1 hp with hp | hp
      · exact old (.inr (.inr (.inr ⟨p, hp, hj⟩)))
      · rw [List.mem_singleton] at hp; rw [hp] at hj; have h1 := hnew j hj; exact ⟨.inr h1, by omega⟩
  obtain ⟨A4, c4, rfl, hx9, hy9, hz9, hu9⟩ := RecsO.at (rs := (ps ++ [(((k : Int), r.data), Value.slice A3 nd c3)]).map Prod.fst) ⟨_, rfl, hR4.recs⟩
  clear hx9 hy9 hz9 hu9
  obtain ⟨n4, hn4⟩ : ∃ m, ((ps ++ [(((k : Int), r.data), Value.slice A3 nd c3)]).map Prod.fst).length = m := ⟨_, rfl⟩
  rw [hn4] at hrun4 hR4 hO4
  clear hn4 hb4
  have HR4 := Lib.hid hR4; have HX4 := Lib.hid hX4; have HO4 := Lib.hid hO4; have HS4 := Lib.hid hS4; have RUN4 := Lib.hid hrun4; clear hR4 hX4 hO4 hS4 hrun4 hg4 hap hnew hw3
  refine op_append_run (.tmp 22) (.tmp 29) 31 rfl _ _ rfl rfl RUN4.out ?_
  refine hK _ _ (fun _ => (by repeat (first | with_reducible exact ButS.refl _ _ | with_reducible assumption | with_reducible refine ButS.drew ?_ | with_reducible refine ButS.alloc ?_ _ | with_reducible refine ButS.within ?_ (by assumption)))) ?_
  clear hK K
  try simp only [Act.put, List.setIfInBounds_toArray, List.set_cons_zero, List.set_cons_succ]
  iterate 2
    apply sch_firm rfl rfl (by repeat (first | with_reducible exact ButS.refl _ _ | with_reducible assumption | with_reducible refine ButS.drew ?_ | with_reducible refine ButS.alloc ?_ _ | with_reducible refine ButS.within ?_ (by assumption)))
    · intro wq hq
      have g0 := (hq.cells xb 1 hxb HT1.out).trans p1
      have g1 := (hq.cells _ 0 zs HT2.out).trans z0
      have g2 := (hq.cells _ 1 zs HT2.out).trans z1
      have g3 := Nat.lt_of_lt_of_le hxb hq.size
      have g4 := Nat.lt_of_lt_of_le zs hq.size
      clear hq
      go_simp
      rfl
    try simp only [Act.put, List.setIfInBounds_toArray, List.set_cons_zero, List.set_cons_succ]
  refine sch_one rfl rfl (fun K hK => ?_)
  obtain ⟨r0, r1, r2, r3, rff⟩ := HX4.out
  have hrb4 := HX4.out.lt
  go_simp
  refine hK _ _ (fun h => absurd h (by decide)) ?_
  clear hK K
  try simp only [Act.put, List.setIfInBounds_toArray, List.set_cons_zero, List.set_cons_succ]
  refine sch_nil ?_
  have hps' : (ps ++ [(((k : Int), r.data), Value.slice A3 nd c3)]).map Prod.fst = (rs ++ [r]).map Rec.i := by rw [List.map_append, HPS.out, List.map_append]; show _ ++ [((k : Int), r.data)] = _ ++ [((r.kind : Int), r.data)]; rw [HKK.out]
  have HPS2 := Lib.hid hps'; clear hps'
  obtain ⟨X1, hX1⟩ : ∃ X, X = w4.setCell ⟨xb, 1, none⟩ (.slice A4 n4 c4) := ⟨_, rfl⟩
  have hXa : XC X1 xb (.int .i64 1) (.slice A4 n4 c4) (.slice Ak n ck) (.slice Ab nb cb) := by rw [hX1]; exact HX4.out.set1 _
  have hRa : Rws X1 0 (ps ++ [(((k : Int), r.data), Value.slice A3 nd c3)]) (.slice A4 n4 c4) (linksV rs 0 startV) (.slice Ak n ck) (logV rs) (.slice Ab nb cb) := by rw [hX1]; exact HR4.out.setX (fun j hj => (HO4.out j hj).2) _
  have hS1 : ButS (fun j => j = xb ∨ Owned ps (.slice Al n cl) (.slice Ak n ck) (.slice Ab nb cb) j) w0 X1 := by rw [hX1]; exact HS4.out.set (.inl (.inl rfl)) _
  obtain ⟨kv5, w5, hrun5, hR5, hg5, hb5⟩ := Rws.link (w := X1.alloc (.cells #[.int .u32 (nx : Int)] 56)) (hRa.of ((Within.refl _).alloc _)) nx (some ⟨X1.heap.size, 0, none⟩) 1 (SlAt.one X1 _ _) (by rw [linksV_len, HNN.out]; omega) (Nat.zero_le _)
  have hS5 : ButS (fun j => j = xb ∨ Owned ps (.slice Al n cl) (.slice Ak n ck) (.slice Ab nb cb) j) w0 w5 := (hS1.alloc _).grown hg5 (fun j hj => .inl (.inr (.inr (.inl hj))))
  have hX5 : XC w5 xb (.int .i64 1) (.slice A4 n4 c4) (.slice Ak n ck) (.slice Ab nb cb) := (hXa.of ((Within.refl _).alloc _)).grown hg5 (fun e => (HO4.out xb (.inr (.inl e))).2 rfl)
  have hO5 : ∀ j, Owned (ps ++ [(((k : Int), r.data), Value.slice A3 nd c3)]) (.slice A4 n4 c4) kv5 (.slice Ab nb cb) j → (Owned ps (.slice Al n cl) (.slice Ak n ck) (.slice Ab nb cb) j ∨ w.heap.size ≤ j) ∧ j ≠ xb := fun j hj => by
    rcases hj with hj | hj | hj | hj
    · exact HO4.out j (.inl hj)
    · rcases hb5 with e | e
      · exact HO4.out j (.inr (.inl (e ▸ hj)))
      · rw [hj] at e; have e := Option.some.inj e; have h1 := hS1.size; have h2 := HX2.out.size; have h3 := HI0.out.size; exact ⟨.inr (by have e := e; first | omega | (simp at e; omega)), by have e := e; first | omega | (simp at e; omega)⟩
    · exact HO4.out j (.inr (.inr (.inl hj)))
    · exact HO4.out j (.inr (.inr (.inr hj)))
  obtain ⟨A5, c5, rfl, _, _, _⟩ := owns_form hR5.links
  obtain ⟨n5, hn5⟩ : ∃ m, (linksV rs 0 startV ++ [nx]).length = m := ⟨_, rfl⟩
  rw [hn5] at hrun5 hR5 hO5
  rw [hn5] at hb5
  clear hn5 hb5
  have hX6 := hX5.set2 (.slice A5 n5 c5)
  have hR6 := hR5.setX (p := ⟨xb, 2, none⟩) (fun j hj => (hO5 j hj).2) (.slice A5 n5 c5)
  have hS6 := hS5.set (p := ⟨xb, 2, none⟩) (.inl (.inl rfl)) (.slice A5 n5 c5)
  obtain ⟨X2, hX2⟩ : ∃ X, X = w5.setCell ⟨xb, 2, none⟩ (.slice A5 n5 c5) := ⟨_, rfl⟩
  rw [← hX2] at hX6 hR6 hS6
  have hsv6 : SlAt X2 Av (u8v LA) := HSV.out.butS hS6 (fun ad e => by
    have h1 := HO2.out.lt ad.block (by rw [e]; rfl)
    have h2 := HW1.out.size; have h3 := HI0.out.size
    rintro (h | h)
    · omega
    · have := HRW.out.owned_lt h; omega)
  obtain ⟨bv7, w7, hrun7, hR7, hg7, hb7⟩ := Rws.more (w := X2) hR6 LA Av cv hsv6 HLP.out (by rw [HNB.out, HNL.out]; omega) (Nat.zero_le _)
  rw [HNL.out] at hrun7
  have hS7 := hS6.grown hg7 (fun j hj => .inl (.inr (.inr (.inr (.inl hj)))))
  have hX7 : XC w7 xb (.int .i64 1) (.slice A4 n4 c4) (.slice A5 n5 c5) (.slice Ab nb cb) := hX6.grown hg7 (fun e => (HO4.out xb (.inr (.inr (.inl e)))).2 rfl)
  have hO7 : ∀ j, Owned (ps ++ [(((k : Int), r.data), Value.slice A3 nd c3)]) (.slice A4 n4 c4) (.slice A5 n5 c5) bv7 j → (Owned ps (.slice Al n cl) (.slice Ak n ck) (.slice Ab nb cb) j ∨ w.heap.size ≤ j) ∧ j ≠ xb := fun j hj => by
    rcases hj with hj | hj | hj | hj
    · exact hO5 j (.inl hj)
    · exact hO5 j (.inr (.inl hj))
    · rcases hb7 with e | e
      · exact hO5 j (.inr (.inr (.inl (e ▸ hj))))
      · rw [hj] at e; have e := Option.some.inj e; have h1 := hS6.size; have h2 := HX2.out.size; have h3 := HI0.out.size; exact ⟨.inr (by have e := e; first | omega | (simp at e; omega)), by have e := e; first | omega | (simp at e; omega)⟩
    · exact hO5 j (.inr (.inr (.inr hj)))
  obtain ⟨A7, c7, rfl, _, _, _⟩ := hR7.bytes.form
  obtain ⟨n7, hn7⟩ : ∃ m, (logV rs ++ LA).length = m := ⟨_, rfl⟩
  rw [hn7] at hrun7 hR7 hO7
  clear hn7 hb7
  have hX8 := hX7.set3 (.slice A7 n7 c7)
  have hR8 := hR7.setX (p := ⟨xb, 3, none⟩) (fun j hj => (hO7 j hj).2) (.slice A7 n7 c7)
  have hS8 := hS7.set (p := ⟨xb, 3, none⟩) (.inl (.inl rfl)) (.slice A7 n7 c7)
  obtain ⟨r0, r1, r2, r3, rff⟩ := hXa
  have rlt := World.block_lt_of_cell? _ _ r0
  obtain ⟨s0, s1, s2, s3, sff⟩ := hX5
  have slt := World.block_lt_of_cell? _ _ s0
  have hX6' := hX6
  obtain ⟨t0, t1, t2, t3, tff⟩ := hX6'
  have tlt := World.block_lt_of_cell? _ _ t0
  obtain ⟨u0, u1, u2, u3, uff⟩ := hX7
  have ult := World.block_lt_of_cell? _ _ u0
  rw [hX2] at hrun7
  have RUN5 := Lib.hid hrun5; have RUN7 := Lib.hid hrun7; have HX8 := Lib.hid hX8; have HR8 := Lib.hid hR8; have HS8 := Lib.hid hS8; have HO7 := Lib.hid hO7; have HX2E := Lib.hid hX2
  rw [← hX1]
  clear hrun5 hrun7 hX8 hR8 hS8 hO7 hX2 hX1 hR7 hR6 hR5 hRa hS1 hS5 hS6 hS7 hg5 hg7 hO5 hX6 hsv6
  go_wp2_with (first | (at_builtin; refine wpList_append_run rfl (.tmp 37) (.tmp 39) 75 rfl _ _ rfl rfl RUN5.out ?_) | (at_builtin; refine wpList_append_run rfl (.tmp 47) (.tmp 48) 22 rfl _ _ rfl rfl RUN7.out ?_))
  first | go_end0 | refine bodyPost_ret (results_none rfl _ _ _) rfl ?_
  have hSw : ButS (fun j => j = xb ∨ Owned ps (.slice Al n cl) (.slice Ak n ck) (.slice Ab nb cb) j) w (w7.setCell ⟨xb, 3, none⟩ (.slice A7 n7 c7)) := (ButS.in_ (HI0.out.trans HX2.out)).trans HS8.out (fun _ _ h => h)
  refine ⟨rfl, ⟨.inl HSX.out, HX8.out.c0, HX8.out.firm, (ps ++ [(((k : Int), r.data), Value.slice A3 nd c3)]), _, _, _, HPS2.out, HX8.out.c1, HX8.out.c2, HX8.out.c3, ?_, fun j hj => ⟨?_, (HO7.out j hj).2⟩⟩, hSw.mono fun j hj h => ?_⟩
  · rw [linksV_snoc, logV_snoc, Nat.zero_add, HNN.out, HLL.out, HLA.out, HNX.out]; exact HR8.out
  · rcases (HO7.out j hj).1 with h | h
    · exact .inl (HOW.out j h).1
    · exact .inr ⟨h, HR8.out.owned_lt hj⟩
  · rcases h with h | h
    · rw [h]; exact HSX.out
    · exact (HOW.out j h).1

end Go.Proofs.YtpmjlaiafgbjgaaDoor
end

section
namespace Go.Proofs.YtpmjlaiafgbjgaaDoor
open Go.RowKit

/-- a log without records, newly made -/
theorem LogS.new (w w' : World) (g xb : Nat) (hg : w'.heap[g]? = some (.cells (u8v magicV).toArray 5 (8, 9))) (hx : w'.heap[xb]? = some (.cells #[.int .i64 1, .slice none 0 0, .slice none 0 0, .slice (some ⟨g, 0, none⟩) 8 8] 77)) (S : Nat → Prop) (h1 : S g) (h2 : S xb) (hne : g ≠ xb) : LogS w' S xb [] := by
  refine ⟨h2, by simp [World.cell?, hx], fun o => by simp [World.frozen?, hx], [], .slice none 0 0, .slice none 0 0, .slice (some ⟨g, 0, none⟩) 8 8, rfl, by simp [World.cell?, hx], by simp [World.cell?, hx], by simp [World.cell?, hx], ⟨⟨World.ownsRow_nil _ _ _ _, fun p hp => by cases hp⟩, World.ownsRow_nil _ _ _ _, .inr ⟨g, rfl, Nat.zero_le _, hg, by decide⟩, .inl rfl, .inl rfl, .inl rfl, fun p hp => by cases hp⟩, fun j hj => ?_⟩
  rcases hj with hj | hj | hj | ⟨p, hp, _⟩
  · cases hj
  · cases hj
  · obtain rfl : g = j := Option.some.inj hj
    exact ⟨h1, hne⟩
  · cases hp

set_option maxRecDepth 100000 in
set_option maxHeartbeats 1000000 in
theorem New_log (w : World) : Calls Tryd.prog 40 #[] w fun e w' => ∃ xb, e = .returned (.pointer (some ⟨xb, 0, none⟩)) ∧ LogS w' (fun j => w.heap.size ≤ j ∧ j < w'.heap.size) xb [] ∧ Within w w' := by
  have kc := fun (w : World) (C : Array Value) (n c : Nat) => Lib.run_convert_bytes_const (P := Tryd.prog) w 22 5 C n c (by kernel_rfl) (by kernel_rfl)
  go_enter Tryd.func40, Tryd.ntmps40
  go_wp2
  go_ret
  refine ⟨_, rfl, LogS.new w _ w.heap.size _ ?_ ?_ _ ⟨Nat.le_refl _, ?_⟩ ⟨?_, ?_⟩ ?_, (by repeat (first | with_reducible exact Within.refl _ | with_reducible assumption | with_reducible refine Within.alloc ?_ _ | with_reducible refine Within.drew ?_ | with_reducible refine Within.drewN ?_ _ | with_reducible refine Within.setCell ?_ (by first | (simp; done) | (simp; omega)) _ | with_reducible refine Within.trans ?_ (by assumption)))⟩
  · exact (heap_alloc_old _ _ (by simp)).trans (heap_alloc_new w _)
  · rw [show w.heap.size + 1 = (w.alloc (.cells (u8v magicV).toArray 5 (8, 9))).heap.size by simp]; exact heap_alloc_new (w.alloc (.cells (u8v magicV).toArray 5 (8, 9))) _
  all_goals first | rfl | (simp; done) | (simp; omega) | (simp [World.alloc]; done) | (trace_state; fail)

set_option maxRecDepth 100000 in
set_option maxHeartbeats 1000000 in
theorem is_true (xb : Nat) (w : World) (h0 : w.cell? ⟨xb, 0, none⟩ = some (.int .i64 1)) : Calls Tryd.prog 43 #[.pointer (some ⟨xb, 0, none⟩)] w fun e w' => e = .returned (.bool true) ∧ w' = w := by
  go_enter Tryd.func43, Tryd.ntmps43
  go_wp2
  go_ret
  exact ⟨rfl, rfl⟩

set_option maxRecDepth 100000 in
set_option maxHeartbeats 1000000 in
theorem is_zero (xb : Nat) (w : World) (h0 : w.cell? ⟨xb, 0, none⟩ = some (.int .i64 0)) : Calls Tryd.prog 43 #[.pointer (some ⟨xb, 0, none⟩)] w fun e w' => e = .returned (.bool false) ∧ w' = w := by
  go_enter Tryd.func43, Tryd.ntmps43
  go_wp2
  go_ret
  exact ⟨rfl, rfl⟩

set_option maxRecDepth 100000 in
set_option maxHeartbeats 1000000 in
theorem is_nil (w : World) : Calls Tryd.prog 43 #[.pointer none] w fun e w' => e = .returned (.bool false) ∧ w' = w := by
  go_enter Tryd.func43, Tryd.ntmps43
  go_wp2
  go_ret
  exact ⟨rfl, rfl⟩

/-- what a log's cells hold -/
theorem LogS.list {w : World} {S : Nat → Prop} {xb : Nat} {rs : List Rec} (h : LogS w S xb rs) : ∃ Al cl, w.cell? ⟨xb, 1, none⟩ = some (.slice Al rs.length cl) ∧ rs.length ≤ cl ∧ RecAt w (fun _ => True) Al (rs.map Rec.i) := by
  obtain ⟨hS, hmade, hfirm, ps, lv, kv, bv, hps, p1, p2, p3, hRW, hown⟩ := h
  obtain ⟨Al, cl, rfl, hcl, _, _, h7⟩ := RecsO.at (rs := rs.map Rec.i) ⟨ps, hps, hRW.recs⟩
  rw [List.length_map] at hcl p1
  exact ⟨Al, cl, p1, hcl, h7.weak fun _ _ => trivial⟩
theorem LogS.bytes {w : World} {S : Nat → Prop} {xb : Nat} {rs : List Rec} (h : LogS w S xb rs) : ∃ Ab cb, w.cell? ⟨xb, 3, none⟩ = some (.slice Ab (logV rs).length cb) ∧ (logV rs).length ≤ cb ∧ SlAt w Ab (u8v (logV rs)) := by
  obtain ⟨hS, hmade, hfirm, ps, lv, kv, bv, hps, p1, p2, p3, hRW, hown⟩ := h
  obtain ⟨Ab, cb, rfl, hcb, hs, _⟩ := hRW.bytes.form
  exact ⟨Ab, cb, p3, hcb, hs⟩

set_option maxRecDepth 100000 in
set_option maxHeartbeats 1000000 in
theorem Len_log (S : Nat → Prop) (xb : Nat) (rs : List Rec) (w : World) (hP : LogS w S xb rs) : Calls Tryd.prog 20 #[.pointer (some ⟨xb, 0, none⟩)] w fun e w' => e = .returned (.int .i64 (rs.length : Int)) ∧ w' = w := by
  have h0 := hP.made
  obtain ⟨Al, cl, h1, hcl, _⟩ := hP.list
  obtain ⟨n, hn⟩ : ∃ n, rs.length = n := ⟨_, rfl⟩
  rw [hn] at h1 hcl ⊢
  clear hn hP
  go_enter Tryd.func20, Tryd.ntmps20
  go_wp2_with fail
  refine (is_true xb w h0).mono ?_; rintro e1 w1 ⟨rfl, rfl⟩
  go_wp2
  go_ret
  exact ⟨rfl, rfl⟩

set_option maxRecDepth 100000 in
set_option maxHeartbeats 1000000 in
theorem Bytes_log (S : Nat → Prop) (xb : Nat) (rs : List Rec) (hlen : (logV rs).length ≤ 70368744177664) (w : World) (hP : LogS w S xb rs) : Calls Tryd.prog 13 #[.pointer (some ⟨xb, 0, none⟩)] w fun e w' => ∃ v, e = .returned v ∧ OwnB w' w.heap.size v (logV rs) ∧ Within w w' := by
  have h0 := hP.made
  obtain ⟨Ab, cb, h3, hcb, hs⟩ := hP.bytes
  have CL := Lib.hid (clone_any Ab cb (logV rs) hlen w hs)
  obtain ⟨n, hn⟩ : ∃ n, (logV rs).length = n := ⟨_, rfl⟩
  rw [hn] at h3 hcb CL
  clear hn hP hs hlen
  go_enter Tryd.func13, Tryd.ntmps13
  go_wp2_with fail
  refine (is_true xb w h0).mono ?_; rintro e1 w1 ⟨rfl, rfl⟩
  go_wp2_with fail
  refine CL.out.mono ?_; rintro e1 w1 ⟨v, rfl, hO, h1⟩
  go_wp2
  go_ret
  exact ⟨_, rfl, hO, h1⟩

set_option maxRecDepth 100000 in
set_option maxHeartbeats 1000000 in
theorem Append_bad (S : Nat → Prop) (xb : Nat) (rs : List Rec) (hok : ∀ q ∈ rs, q.Ok pf) (D : Option Addr) (cd : Nat) (d : List Nat) (k : Int) (hbad : checkR pf k d ≠ 0) (hb : Bytes d) (hcd : d.length ≤ cd) (hdl : d.length ≤ 1152921504606846976) (w : World) (hT : FmS w) (hP : LogS w S xb rs) (hr : SlAt w D (u8v d)) : Calls Tryd.prog 24 #[.pointer (some ⟨xb, 0, none⟩), .agg #[.int .i64 k, .slice D d.length cd]] w fun e w' => e = .returned (.tuple #[.int .i64 0, .int .i64 (checkR pf k d)]) ∧ Within w w' := by
  have h0 := hP.made
  have hxb := hP.lt
  obtain ⟨Al, cl, h1, hcl, _⟩ := hP.list
  obtain ⟨W0, hW0⟩ : ∃ W0, W0 = w.alloc (.cells #[.int .i64 k, .slice D d.length cd] 50) := ⟨_, rfl⟩
  have hI0 : Within w W0 := by rw [hW0]; exact (Within.refl w).alloc _
  have z0 : W0.cell? ⟨w.heap.size, 0, none⟩ = some (.int .i64 k) := by rw [hW0]; simp
  have z1 : W0.cell? ⟨w.heap.size, 1, none⟩ = some (.slice D d.length cd) := by rw [hW0]; simp
  have zs : w.heap.size < W0.heap.size := by rw [hW0]; simp
  have q0 := (hI0.cells _ _ hxb).trans h0
  have q1 := (hI0.cells _ _ hxb).trans h1
  have hxb0 := Nat.lt_of_lt_of_le hxb hI0.size
  have JC := Lib.hid (jcheck_any k D cd d hb hcd hdl W0 (hT.of hI0) (hr.of hI0))
  obtain ⟨ck, hck⟩ : ∃ ck, checkR pf k d = ck := ⟨_, rfl⟩
  rw [hck] at JC hbad ⊢
  have v1 : (ck != 0) = true := bne_iff_ne.2 hbad
  obtain ⟨n, hn⟩ : ∃ n, rs.length = n := ⟨_, rfl⟩
  rw [hn] at h1 q1 hcl
  have HN := Lib.hid hn; obtain ⟨nd, hnd⟩ : ∃ n, d.length = n := ⟨_, rfl⟩
  rw [hnd] at JC hW0 z1 hcd ⊢
  have HI0 := Lib.hid hI0; clear hn hnd hck hP hT hr hb hdl hok
  have EI : Hid (Calls Tryd.prog 43 #[.pointer (some ⟨xb, 0, none⟩)] W0 fun e w' => e = .returned (.bool true) ∧ w' = W0) := Lib.hid (is_true xb W0 q0)
  go_enter Tryd.func24, Tryd.ntmps24
  go_wp2_with fail
  rw [← hW0]
  clear hW0
  refine EI.out.mono ?_; rintro e1 w1 ⟨rfl, rfl⟩
  go_wp2_with fail
  refine JC.out.mono ?_; rintro e1 w1 ⟨rfl, h2⟩
  go_wp2
  go_ret2
  exact ⟨rfl, HI0.out.trans h2⟩

set_option maxRecDepth 100000 in
set_option maxHeartbeats 1000000 in
theorem Append_full (S : Nat → Prop) (xb : Nat) (rs : List Rec) (hok : ∀ q ∈ rs, q.Ok pf) (D : Option Addr) (cd : Nat) (d : List Nat) (hfull : 1048576 ≤ rs.length) (k : Int) (hgood : checkR pf k d = 0) (hb : Bytes d) (hcd : d.length ≤ cd) (hdl : d.length ≤ 1152921504606846976) (w : World) (hT : FmS w) (hP : LogS w S xb rs) (hr : SlAt w D (u8v d)) : Calls Tryd.prog 24 #[.pointer (some ⟨xb, 0, none⟩), .agg #[.int .i64 k, .slice D d.length cd]] w fun e w' => e = .returned (.tuple #[.int .i64 0, .int .i64 2]) ∧ Within w w' := by
  have h0 := hP.made
  have hxb := hP.lt
  obtain ⟨Al, cl, h1, hcl, _⟩ := hP.list
  obtain ⟨W0, hW0⟩ : ∃ W0, W0 = w.alloc (.cells #[.int .i64 k, .slice D d.length cd] 50) := ⟨_, rfl⟩
  have hI0 : Within w W0 := by rw [hW0]; exact (Within.refl w).alloc _
  have z0 : W0.cell? ⟨w.heap.size, 0, none⟩ = some (.int .i64 k) := by rw [hW0]; simp
  have z1 : W0.cell? ⟨w.heap.size, 1, none⟩ = some (.slice D d.length cd) := by rw [hW0]; simp
  have zs : w.heap.size < W0.heap.size := by rw [hW0]; simp
  have q0 := (hI0.cells _ _ hxb).trans h0
  have q1 := (hI0.cells _ _ hxb).trans h1
  have hxb0 := Nat.lt_of_lt_of_le hxb hI0.size
  have JC := Lib.hid (jcheck_any k D cd d hb hcd hdl W0 (hT.of hI0) (hr.of hI0))
  rw [hgood] at JC
  have v1 : decide ((1048576 : Int) ≤ (rs.length : Int)) = true := decide_eq_true (by omega)
  obtain ⟨n, hn⟩ : ∃ n, rs.length = n := ⟨_, rfl⟩
  rw [hn] at h1 q1 hcl v1
  obtain ⟨nd, hnd⟩ : ∃ n, d.length = n := ⟨_, rfl⟩
  rw [hnd] at JC hW0 z1 hcd ⊢
  have HI0 := Lib.hid hI0; clear hn hnd hP hT hr hb hdl hok hgood hfull
  have EI : Hid (Calls Tryd.prog 43 #[.pointer (some ⟨xb, 0, none⟩)] W0 fun e w' => e = .returned (.bool true) ∧ w' = W0) := Lib.hid (is_true xb W0 q0)
  go_enter Tryd.func24, Tryd.ntmps24
  go_wp2_with fail
  rw [← hW0]
  clear hW0
  refine EI.out.mono ?_; rintro e1 w1 ⟨rfl, rfl⟩
  go_wp2_with fail
  refine JC.out.mono ?_; rintro e1 w1 ⟨rfl, h2⟩
  have q1' := (h2.cells _ _ hxb0).trans q1
  have hxb1 := Nat.lt_of_lt_of_le hxb0 h2.size
  go_wp2
  go_ret2
  exact ⟨rfl, HI0.out.trans h2⟩

set_option maxRecDepth 100000 in
set_option maxHeartbeats 1000000 in
theorem Append_good (S : Nat → Prop) (xb : Nat) (rs : List Rec) (hok : ∀ q ∈ rs, q.Ok pf) (D : Option Addr) (cd : Nat) (d : List Nat) (hfull : rs.length < 1048576) (k : Nat) (hgood : checkR pf (k : Int) d = 0) (hb : Bytes d) (hcd : d.length ≤ cd) (hdl : d.length ≤ 1152921504606846976) (w : World) (hT : FmS w) (hP : LogS w S xb rs) (hr : SlAt w D (u8v d)) : Calls Tryd.prog 24 #[.pointer (some ⟨xb, 0, none⟩), .agg #[.int .i64 (k : Int), .slice D d.length cd]] w fun e w' => e = .returned (.tuple #[.int .i64 (rs.length : Int), .int .i64 0]) ∧ LogS w' (More S w w') xb (rs ++ [⟨k, d⟩]) ∧ ButS S w w' := by
  have hokr : Rec.Ok pf ⟨k, d⟩ := ⟨hgood, hb⟩
  have hok2 : ∀ q ∈ rs ++ [⟨k, d⟩], q.Ok pf := fun q hq => by
    rcases List.mem_append.1 hq with hq | hq
    · exact hok q hq
    · rw [List.mem_singleton] at hq; rw [hq]; exact hokr
  have h0 := hP.made
  have hxb := hP.lt
  obtain ⟨Al, cl, h1, hcl, _⟩ := hP.list
  obtain ⟨W0, hW0⟩ : ∃ W0, W0 = w.alloc (.cells #[.int .i64 (k : Int), .slice D d.length cd] 50) := ⟨_, rfl⟩
  have hI0 : Within w W0 := by rw [hW0]; exact (Within.refl w).alloc _
  have z0 : W0.cell? ⟨w.heap.size, 0, none⟩ = some (.int .i64 (k : Int)) := by rw [hW0]; simp
  have z1 : W0.cell? ⟨w.heap.size, 1, none⟩ = some (.slice D d.length cd) := by rw [hW0]; simp
  have zs : w.heap.size < W0.heap.size := by rw [hW0]; simp
  have q0 := (hI0.cells _ _ hxb).trans h0
  have q1 := (hI0.cells _ _ hxb).trans h1
  have hxb0 := Nat.lt_of_lt_of_le hxb hI0.size
  have JC := Lib.hid (jcheck_any (k : Int) D cd d hb hcd hdl W0 (hT.of hI0) (hr.of hI0))
  rw [hgood] at JC
  have v1 : decide ((1048576 : Int) ≤ (rs.length : Int)) = false := decide_eq_false (by omega)
  have PU : Hid (∀ W, Within W0 W → Calls Tryd.prog 42 #[.pointer (some ⟨xb, 0, none⟩), .agg #[.int .i64 (k : Int), .slice D d.length cd]] W fun e w' => e = .returned (.tuple #[]) ∧ LogS w' (More S W w') xb (rs ++ [⟨k, d⟩]) ∧ ButS S W w') := Lib.hid (fun W h => jput_any S xb rs ⟨k, d⟩ hok2 hfull D cd hcd W (hP.of (hI0.trans h)) (hr.of (hI0.trans h)))
  obtain ⟨n, hn⟩ : ∃ n, rs.length = n := ⟨_, rfl⟩
  rw [hn] at h1 q1 hcl v1 hfull ⊢
  have HN := Lib.hid hn
  obtain ⟨nd, hnd⟩ : ∃ n, d.length = n := ⟨_, rfl⟩
  rw [hnd] at JC hW0 z1 hcd PU ⊢
  have HI0 := Lib.hid hI0; clear hn hnd hP hT hr hb hdl hok hok2 hokr hgood
  have EI : Hid (Calls Tryd.prog 43 #[.pointer (some ⟨xb, 0, none⟩)] W0 fun e w' => e = .returned (.bool true) ∧ w' = W0) := Lib.hid (is_true xb W0 q0)
  go_enter Tryd.func24, Tryd.ntmps24
  go_wp2_with fail
  rw [← hW0]
  clear hW0
  refine EI.out.mono ?_; rintro e1 w1 ⟨rfl, rfl⟩
  go_wp2_with fail
  refine JC.out.mono ?_; rintro e1 w1 ⟨rfl, h2⟩
  have q1' := (h2.cells _ _ hxb0).trans q1
  have hxb1 := Nat.lt_of_lt_of_le hxb0 h2.size
  have z0' := (h2.cells _ 0 zs).trans z0
  have z1' := (h2.cells _ 1 zs).trans z1
  have zs' := Nat.lt_of_lt_of_le zs h2.size
  go_wp2_with fail
  refine (PU.out _ h2).mono ?_; rintro e3 w3 ⟨rfl, hL3, hB3⟩
  have hxb3 := hL3.lt
  obtain ⟨Al3, cl3, q3, hcl3, _⟩ := hL3.list
  rw [List.length_append, HN.out] at q3 hcl3
  simp only [List.length_cons, List.length_nil, Nat.zero_add] at q3 hcl3
  have HL3 := Lib.hid hL3; have HB3 := Lib.hid hB3; clear hL3 hB3
  have v2 : ((n + 1 : Nat) : Int) - 1 = (n : Int) := by omega
  go_wp2
  go_ret2
  refine ⟨by first | rfl | (simp; done), ?_, ?_⟩
  · refine HL3.out.mono fun j hj => ?_
    rcases hj with hj | hj
    · exact .inl hj
    · exact .inr ⟨Nat.le_trans (HI0.out.trans h2).size hj.1, hj.2⟩
  · exact (ButS.in_ (HI0.out.trans h2)).trans HB3.out fun _ _ h => h

end Go.Proofs.YtpmjlaiafgbjgaaDoor
end

section
namespace Go.Proofs.YtpmjlaiafgbjgaaDoor
open Go.RowKit

/-- a text's bytes -/
def strNums (s : ByteArray) : List Nat := s.data.toList.map (·.toNat)
theorem strNums_len (s : ByteArray) : (strNums s).length = s.size := by unfold strNums; rw [List.length_map, Array.length_toList]; rfl
theorem strNums_bytes (s : ByteArray) : Bytes (strNums s) := by
  intro x hx
  unfold strNums at hx
  obtain ⟨b, _, rfl⟩ := List.mem_map.1 hx
  exact b.toNat_lt
theorem bytes_at (w : World) (s : ByteArray) (cap : Nat) (E : TypeId) (fr : Nat × Nat) : SlAt (w.alloc (.cells (bytesRow s cap) E fr)) (some ⟨w.heap.size, 0, none⟩) (u8v (strNums s)) := by
  have h := (SlAt.made_mark w (bytesRow s cap).toList E fr).take s.size
  rw [Array.toArray_toList] at h
  have e : (bytesRow s cap).toList.take s.size = u8v (strNums s) := by
    unfold bytesRow u8v strNums
    rw [Array.toList_append, Array.toList_map, List.take_left' (by rw [List.length_map, Array.length_toList]; rfl), List.map_map]
    rfl
  rw [e] at h
  exact h

def NoteP (s : ByteArray) (w : World) (e : Ending) (w' : World) : Prop := (checkR pf 3 (strNums s) = 0 ∧ (∃ A c, e = .returned (.tuple #[.agg #[.int .i64 3, .slice A s.size c], .int .i64 0]) ∧ s.size ≤ c ∧ SlAt w' A (u8v (strNums s)) ∧ (∀ ad, A = some ad → w.heap.size ≤ ad.block)) ∨ checkR pf 3 (strNums s) ≠ 0 ∧ e = .returned (.tuple #[.agg #[.int .i64 0, .slice none 0 0], .int .i64 (checkR pf 3 (strNums s))])) ∧ Within w w'
set_option maxRecDepth 100000 in
set_option maxHeartbeats 1000000 in
theorem Note_any (s : ByteArray) (hl : s.size ≤ 1152921504606846976) (w : World) (hT : FmS w) : Calls Tryd.prog 28 #[.string s] w (NoteP s w) := by
  have RB := fun (w : World) => run_bytes_of_string (P := Tryd.prog) w 9 22 5 s (by kernel_rfl) (by kernel_rfl) (by kernel_rfl)
  obtain ⟨n, hn⟩ : ∃ n, s.size = n := ⟨_, rfl⟩
  rw [hn] at RB hl
  have hge := grownCap_ge (w.alloc (.cells #[.int .i64 0, .slice none 0 0] 50)) n 0 5
  obtain ⟨cp, hcp⟩ : ∃ c, grownCap (w.alloc (.cells #[.int .i64 0, .slice none 0 0] 50)) n 0 5 = c := ⟨_, rfl⟩
  obtain ⟨C, hC⟩ : ∃ C, bytesRow s cp = C := ⟨_, rfl⟩
  obtain ⟨Z, hZ⟩ : ∃ Z, Z = w.alloc (.cells #[.int .i64 0, .slice none 0 0] 50) := ⟨_, rfl⟩
  obtain ⟨Z2, hZ2⟩ : ∃ Z2, Z2 = Z.alloc (.cells C 5 (C.size, C.size + 1)) := ⟨_, rfl⟩
  obtain ⟨Z3, hZ3⟩ : ∃ Z3, Z3 = Z2.alloc (.cells #[.int .i64 3, .slice (some ⟨w.heap.size + 1, 0, none⟩) n cp] 50) := ⟨_, rfl⟩
  obtain ⟨W3, hW3⟩ : ∃ W, W = Z3.drew := ⟨_, rfl⟩
  have hZs : Z.heap.size = w.heap.size + 1 := by rw [hZ]; simp
  have hZ2s : Z2.heap.size = w.heap.size + 1 + 1 := by rw [hZ2]; simp [hZs]
  have hI3 : Within Z3 W3 := by rw [hW3]; exact (Within.refl _).drew
  have hI2 : Within Z2 W3 := Within.trans (by rw [hZ3]; exact (Within.refl _).alloc _) hI3
  have hI1 : Within Z W3 := Within.trans (by rw [hZ2]; exact (Within.refl _).alloc _) hI2
  have hI : Within w W3 := Within.trans (by rw [hZ]; exact (Within.refl w).alloc _) hI1
  have hs3 : SlAt W3 (some ⟨w.heap.size + 1, 0, none⟩) (u8v (strNums s)) := by
    have h := bytes_at Z s cp 5 (C.size, C.size + 1)
    rw [hC, hZs, ← hZ2] at h
    exact h.of hI2
  have k0 : W3.cell? ⟨w.heap.size, 0, none⟩ = some (.int .i64 0) := (hI1.cells _ _ (by omega)).trans (by rw [hZ]; simp)
  have k1 : W3.cell? ⟨w.heap.size, 1, none⟩ = some (.slice none 0 0) := (hI1.cells _ _ (by omega)).trans (by rw [hZ]; simp)
  have kf0 : W3.frozen? ⟨w.heap.size, 0, none⟩ = false := (hI1.frozens _ _ (by omega)).trans (by rw [hZ]; simp)
  have kf1 : W3.frozen? ⟨w.heap.size, 1, none⟩ = false := (hI1.frozens _ _ (by omega)).trans (by rw [hZ]; simp)
  have hZ3s : Z3.heap.size = w.heap.size + 1 + 1 + 1 := by rw [hZ3]; simp [hZ2s]
  have z0 : W3.cell? ⟨w.heap.size + 1 + 1, 0, none⟩ = some (.int .i64 3) := (hI3.cells _ _ (by omega)).trans (by rw [hZ3, ← hZ2s]; simp)
  have z1 : W3.cell? ⟨w.heap.size + 1 + 1, 1, none⟩ = some (.slice (some ⟨w.heap.size + 1, 0, none⟩) n cp) := (hI3.cells _ _ (by omega)).trans (by rw [hZ3, ← hZ2s]; simp)
  have ks : w.heap.size < W3.heap.size := by have := hI3.size; omega
  have zs : w.heap.size + 1 + 1 < W3.heap.size := by have := hI3.size; omega
  clear hI1 hI2 hI3 hZ3s hZ2s
  have hsl := strNums_len s
  rw [hn] at hsl
  have JC := jcheck_any 3 (some ⟨w.heap.size + 1, 0, none⟩) cp (strNums s) (strNums_bytes s) (by rw [hsl, ← hcp]; exact hge) (by rw [hsl]; exact hl) W3 (hT.of hI) hs3
  rw [hsl] at JC
  obtain ⟨ck, hck⟩ : ∃ c, checkR pf 3 (strNums s) = c := ⟨_, rfl⟩
  rw [hck] at JC
  have JCH := Lib.hid JC; have HI := Lib.hid hI; have HS := Lib.hid hs3; have HGE := Lib.hid hge; have HW3 := Lib.hid hW3; have HZ3 := Lib.hid hZ3; have HZ2 := Lib.hid hZ2; have HCP := Lib.hid hcp; have HZ := Lib.hid hZ; have HC := Lib.hid hC; have HCK := Lib.hid hck; have HN := Lib.hid hn; clear JC hI hs3 hge hsl hck hT hW3 hZ3 hZ2 hcp hZ hC hZs
  clear hn
  go_enter Tryd.func28, Tryd.ntmps28
  go_wp2_with fail
  rw [HCP.out, HC.out, ← HZ.out, ← HZ2.out, ← HZ3.out, ← HW3.out]
  refine JCH.out.mono ?_; rintro e1 w1 ⟨rfl, h1⟩
  have k0 := (h1.cells _ _ ks).trans k0
  have k1 := (h1.cells _ _ ks).trans k1
  have z0 := (h1.cells _ _ zs).trans z0
  have z1 := (h1.cells _ _ zs).trans z1
  have kf0 := (h1.frozens _ _ ks).trans kf0
  have kf1 := (h1.frozens _ _ ks).trans kf1
  have ks := Nat.lt_of_lt_of_le ks h1.size
  have zs := Nat.lt_of_lt_of_le zs h1.size
  have H1 := Lib.hid h1; clear h1
  have hin : Within w w1 := HI.out.trans H1.out
  by_cases hc : ck = 0
  · subst hc
    go_wp2
    refine bodyPost_ret (v := .tuple #[.agg #[.int .i64 3, .slice (some ⟨w.heap.size + 1, 0, none⟩) n cp], .int .i64 0]) (by simp [results, Tryd.results28, go_sem, k0, k1, kf0, kf1, ks]) rfl ⟨.inl ⟨HCK.out, some ⟨w.heap.size + 1, 0, none⟩, cp, by rw [HN.out], by rw [HN.out, ← HCP.out]; exact HGE.out, ?_, fun ad e => by injection e with e; subst e; simp⟩, ?_⟩
    · have hK : But w.heap.size w1 ((w1.setCell ⟨w.heap.size, 0, none⟩ (.int .i64 3)).setCell ⟨w.heap.size, 1, none⟩ (.slice (some ⟨w.heap.size + 1, 0, none⟩) n cp)) := ((But.refl w.heap.size w1).set (.inl rfl) _).set (.inl rfl) _
      exact (HS.out.of H1.out).but hK (fun ad e => by injection e with e; subst e; simp)
    · exact (hin.setCell (Nat.le_refl _) _).setCell (Nat.le_refl _) _
  · have v1 : (ck != 0) = true := bne_iff_ne.2 hc
    go_wp2
    refine bodyPost_ret (v := .tuple #[.agg #[.int .i64 0, .slice none 0 0], .int .i64 ck]) (by simp [results, Tryd.results28, go_sem, k0, k1, kf0, kf1, ks]) rfl ⟨.inr ⟨by rw [HCK.out]; exact hc, by rw [HCK.out]⟩, ?_⟩
    exact (hin.setCell (Nat.le_refl _) _).setCell (Nat.le_refl _) _

end Go.Proofs.YtpmjlaiafgbjgaaDoor
end

section
namespace Go.Proofs.YtpmjlaiafgbjgaaDoor
open Go.RowKit

theorem read_ok {b : List Nat} (hb : Bytes b) : (∀ r ∈ (readV pf (b.drop 8) 0 startV).1, r.Ok pf) ∧ (readV pf (b.drop 8) 0 startV).1.length ≤ 1048576 := by
  obtain ⟨h1, _, _, _, h5, _⟩ := readV_back (F := pf) _ (b.drop 8) 0 startV (Nat.le_refl _) (fun x hx => hb x (List.mem_of_mem_drop hx)) startV_lt
  refine ⟨h1, ?_⟩
  by_cases h : (readV pf (b.drop 8) 0 startV).1 = []
  · rw [h]; exact Nat.zero_le _
  · have := h5 h; omega
theorem take_snoc {α : Type} {l : List α} {i : Nat} {x : α} (h : l[i]? = some x) : l.take i ++ [x] = l.take (i + 1) := by
  obtain ⟨hi, rfl⟩ := List.getElem?_eq_some_iff.1 h
  rw [List.take_add_one, List.getElem?_eq_getElem hi]; rfl

set_option maxRecDepth 100000 in
set_option maxHeartbeats 1000000 in
theorem Open_any (A : Option Addr) (c : Nat) (b : List Nat) (hb : Bytes b) (hlen : b.length ≤ 140737488355328) (hc : b.length ≤ c) (w : World) (hT : FmS w) (hr : SlAt w A (u8v b)) : Calls Tryd.prog 12 #[.slice A b.length c] w fun e w' => (b.take 8 ≠ magicV ∧ e = .returned (.tuple #[.pointer none, .agg #[.int .i64 1, .int .i64 0]]) ∧ Within w w') ∨ (b.take 8 = magicV ∧ ∃ xb, e = .returned (.tuple #[.pointer (some ⟨xb, 0, none⟩), .agg #[.int .i64 ((logRead b).2.1 : Int), .int .i64 ((logRead b).2.2 : Int)]]) ∧ LogS w' (fun j => w.heap.size ≤ j ∧ j < w'.heap.size) xb (logRead b).1 ∧ Within w w') := by
  have RDA := Lib.hid (read_any A c b hb hlen hc (w.alloc (.cells #[.int .i64 0, .int .i64 0] 26)) (hT.of ((Within.refl w).alloc _)) (hr.of ((Within.refl w).alloc _)))
  obtain ⟨hok, hle⟩ := read_ok hb
  have HOK := Lib.hid hok
  clear hb hT hr hok
  obtain ⟨⟨rs, y, a⟩, hlr⟩ : ∃ t, logRead b = t := ⟨_, rfl⟩
  rw [hlr]
  have HLR := Lib.hid hlr; clear hlr
  go_enter Tryd.func12, Tryd.ntmps12
  go_wp2_with fail
  refine RDA.out.mono ?_; rintro e1 w1 hP
  clear RDA
  rcases hP with ⟨hn, rfl, h1⟩ | ⟨hm, rb, rfl, hP⟩
  · have HNO := Lib.hid hn; clear hn HOK hle HLR
    have hWT : Within w (w.alloc (.cells #[.int .i64 0, .int .i64 0] 26)) := (Within.refl w).alloc _
    have q0 : w1.cell? ⟨w.heap.size, 0, none⟩ = some (.int .i64 0) := (h1.cells _ _ (by simp)).trans (by simp)
    have q1 : w1.cell? ⟨w.heap.size, 1, none⟩ = some (.int .i64 0) := (h1.cells _ _ (by simp)).trans (by simp)
    have qf0 : w1.frozen? ⟨w.heap.size, 0, none⟩ = false := (h1.frozens _ _ (by simp)).trans (by simp)
    have qf1 : w1.frozen? ⟨w.heap.size, 1, none⟩ = false := (h1.frozens _ _ (by simp)).trans (by simp)
    have qs : w.heap.size < w1.heap.size := Nat.lt_of_lt_of_le (by simp) h1.size
    have H1 := Lib.hid h1; clear h1
    go_wp2
    obtain ⟨W1, hW1⟩ : ∃ W1, W1 = w1.alloc (.cells #[.int .i64 1, .int .i64 0] 26) := ⟨_, rfl⟩
    have hA : Within w1 W1 := by rw [hW1]; exact (Within.refl w1).alloc _
    have p0 : W1.cell? ⟨w1.heap.size, 0, none⟩ = some (.int .i64 1) := by rw [hW1]; simp
    have p1 : W1.cell? ⟨w1.heap.size, 1, none⟩ = some (.int .i64 0) := by rw [hW1]; simp
    have ps : w1.heap.size < W1.heap.size := by rw [hW1]; simp
    have qne : ¬ w.heap.size = w1.heap.size := by omega
    have q0 := (hA.cells _ 0 qs).trans q0
    have q1 := (hA.cells _ 1 qs).trans q1
    have qf0 := (hA.frozens _ 0 qs).trans qf0
    have qf1 := (hA.frozens _ 1 qs).trans qf1
    have qs := Nat.lt_of_lt_of_le qs hA.size
    rw [← hW1]
    clear hW1
    refine wp_region_schG (fun W => W.cell? ⟨w.heap.size, 0, none⟩ = some (.int .i64 0) ∧ W.cell? ⟨w.heap.size, 1, none⟩ = some (.int .i64 0) ∧ W.cell? ⟨w1.heap.size, 0, none⟩ = some (.int .i64 1) ∧ W.cell? ⟨w1.heap.size, 1, none⟩ = some (.int .i64 0) ∧ w.heap.size < W.heap.size ∧ w1.heap.size < W.heap.size ∧ W.frozen? ⟨w.heap.size, 0, none⟩ = false ∧ W.frozen? ⟨w.heap.size, 1, none⟩ = false ∧ Within W1 W) 2 (.firm 0 (.firm 1 (.one 2 .nil))) (by kernel_rfl) (by kernel_rfl) ⟨q0, q1, p0, p1, qs, ps, qf0, qf1, Within.refl _⟩ ?_
    rintro w0 ⟨q0, q1, p0, p1, qs, ps, qf0, qf1, hw0⟩
    try simp only [Act.put, List.setIfInBounds_toArray, List.set_cons_zero, List.set_cons_succ]
    iterate 2
      apply sch_firm rfl rfl (by repeat (first | with_reducible exact Within.refl _ | with_reducible assumption | with_reducible refine Within.alloc ?_ _ | with_reducible refine Within.drew ?_ | with_reducible refine Within.drewN ?_ _ | with_reducible refine Within.setCell ?_ (by first | (simp; done) | (simp; omega)) _ | with_reducible refine Within.trans ?_ (by assumption)))
      · intro wq hq
        have hcq := hq.cells
        clear hq
        go_simp
        rfl
      try simp only [Act.put, List.setIfInBounds_toArray, List.set_cons_zero, List.set_cons_succ]
    refine sch_one rfl rfl (fun K hK => ?_)
    go_simp
    refine hK _ _ (fun h => absurd h (by decide)) ?_
    clear hK K
    try simp only [Act.put, List.setIfInBounds_toArray, List.set_cons_zero, List.set_cons_succ]
    refine sch_nil ?_
    go_wp2
    have hX : Within w w0 := Within.trans ((Within.refl w).alloc _) (H1.out.trans (hA.trans hw0))
    have hK9 : But w.heap.size w0 (((w0.setCell ⟨w.heap.size, 0, none⟩ (.int .i64 1)).setCell ⟨w.heap.size, 1, none⟩ (.int .i64 0)).drew) := (((But.refl w.heap.size w0).set (.inl rfl) _).set (.inl rfl) _).drew
    have hI9 : Within w (((w0.setCell ⟨w.heap.size, 0, none⟩ (.int .i64 1)).setCell ⟨w.heap.size, 1, none⟩ (.int .i64 0)).drew) := (((hX.setCell (Nat.le_refl _) _).setCell (Nat.le_refl _) _).drew)
    refine bodyPost_ret (v := .tuple #[.pointer none, .agg #[.int .i64 1, .int .i64 0]]) (by simp [results, Tryd.results12, go_sem, q0, q1, qf0, qf1, qs]) rfl (.inl ⟨HNO.out, rfl, hI9⟩)
  · obtain ⟨lv, hwrb, hC, hL, h1⟩ := hP
    obtain ⟨hrs, hy, ha⟩ : (readV pf (b.drop 8) 0 startV).1 = rs ∧ (readV pf (b.drop 8) 0 startV).2.1 = y ∧ 8 + (readV pf (b.drop 8) 0 startV).2.2.1 = a := by have := HLR.out; rw [logRead_yes hm] at this; simpa only [Prod.mk.injEq] using this
    obtain ⟨k, hk⟩ : ∃ k, (readV pf (b.drop 8) 0 startV).2.2.2 = k := ⟨_, rfl⟩
    rw [hy, ha]
    rw [ha, hk] at hC
    rw [hrs] at hL hle
    have HOK2 : Hid (∀ r ∈ rs, r.Ok pf) := Lib.hid (by rw [← hrs]; exact HOK.out)
    have HM := Lib.hid hm
    clear hy ha hrs hk hm HOK
    have hWT : Within w (w.alloc (.cells #[.int .i64 0, .int .i64 0] 26)) := (Within.refl w).alloc _
    have q0 : w1.cell? ⟨w.heap.size, 0, none⟩ = some (.int .i64 0) := (h1.cells _ _ (by simp)).trans (by simp)
    have q1 : w1.cell? ⟨w.heap.size, 1, none⟩ = some (.int .i64 0) := (h1.cells _ _ (by simp)).trans (by simp)
    have qf0 : w1.frozen? ⟨w.heap.size, 0, none⟩ = false := (h1.frozens _ _ (by simp)).trans (by simp)
    have qf1 : w1.frozen? ⟨w.heap.size, 1, none⟩ = false := (h1.frozens _ _ (by simp)).trans (by simp)
    have qs : w.heap.size < w1.heap.size := Nat.lt_of_lt_of_le (by simp) h1.size
    have p3 := hC.2.2.2.1
    have hrb1 := hC.lt
    obtain ⟨Al, cl, rfl, hcl, hRB, _, _⟩ := hL.at
    rw [List.length_map] at hcl p3
    have H1 := Lib.hid h1; have HL := Lib.hid hL; have HRB := Lib.hid hRB; clear h1 hC hL hRB
    go_wp2_with fail
    obtain ⟨W1, hW1⟩ : ∃ W1, W1 = w1.alloc (.cells #[.int .i64 (y : Int), .int .i64 (a : Int)] 26) := ⟨_, rfl⟩
    have hA : Within w1 W1 := by rw [hW1]; exact (Within.refl w1).alloc _
    have p0 : W1.cell? ⟨w1.heap.size, 0, none⟩ = some (.int .i64 (y : Int)) := by rw [hW1]; simp
    have p1 : W1.cell? ⟨w1.heap.size, 1, none⟩ = some (.int .i64 (a : Int)) := by rw [hW1]; simp
    have ps : w1.heap.size < W1.heap.size := by rw [hW1]; simp
    have qne : ¬ w.heap.size = w1.heap.size := by omega
    have q0 := (hA.cells _ 0 qs).trans q0
    have q1 := (hA.cells _ 1 qs).trans q1
    have qf0 := (hA.frozens _ 0 qs).trans qf0
    have qf1 := (hA.frozens _ 1 qs).trans qf1
    have qs := Nat.lt_of_lt_of_le qs hA.size
    rw [← hW1]
    have hC3 := (hA.cells _ 3 hrb1).trans p3
    have hrb := Nat.lt_of_lt_of_le hrb1 hA.size
    have hne1 : ¬ rb = w.heap.size := by have := HL.out; simp at hwrb; omega
    have HRB1 := Lib.hid (HRB.out.of hA)
    have HA1 := Lib.hid (Within.trans ((Within.refl w).alloc _) (H1.out.trans hA))
    clear hW1 hA hcl p3 hrb1 HRB H1 HL
    refine (New_log W1).mono ?_; rintro e2 w2 ⟨xb, rfl, hN, h2⟩
    have q0 := (h2.cells _ _ qs).trans q0
    have q1 := (h2.cells _ _ qs).trans q1
    have p0 := (h2.cells _ _ ps).trans p0
    have p1 := (h2.cells _ _ ps).trans p1
    have hC3 := (h2.cells _ _ hrb).trans hC3
    have hrb2 := Nat.lt_of_lt_of_le hrb h2.size
    have HN := Lib.hid hN; have H2 := Lib.hid h2; clear hN h2
    have Q0 : Hid (W1.cell? ⟨w.heap.size, 0, none⟩ = some (.int .i64 0) ∧ W1.cell? ⟨w.heap.size, 1, none⟩ = some (.int .i64 0) ∧ W1.cell? ⟨w1.heap.size, 0, none⟩ = some (.int .i64 (y : Int)) ∧ W1.cell? ⟨w1.heap.size, 1, none⟩ = some (.int .i64 (a : Int)) ∧ W1.frozen? ⟨w.heap.size, 0, none⟩ = false ∧ W1.frozen? ⟨w.heap.size, 1, none⟩ = false) := Lib.hid ⟨by rw [← H2.out.cells _ _ qs]; exact q0, by rw [← H2.out.cells _ _ qs]; exact q1, by rw [← H2.out.cells _ _ ps]; exact p0, by rw [← H2.out.cells _ _ ps]; exact p1, qf0, qf1⟩
    clear q0 q1 p0 p1 qf0 qf1
    go_wp2
    go_loopw [23] (fun iv wr => ∃ i : Nat, i ≤ rs.length ∧ iv = .int .i64 (i : Int) ∧ LogS wr (fun j => W1.heap.size ≤ j ∧ j < wr.heap.size) xb (rs.take i) ∧ Within W1 wr) (fun iv _ => rs.length - (intOf iv).toNat)
    case atStart => exact ⟨0, by omega, rfl, HN.out, H2.out⟩
    case round =>
      obtain ⟨i, hi, rfl, hPi, hin⟩ := hrel
      by_cases hlt : i < rs.length
      · obtain ⟨r, hr⟩ : ∃ r, rs[i]? = some r := ⟨_, List.getElem?_eq_getElem hlt⟩
        obtain ⟨g, Dv, cv, rfl, l1, y0, y1, hcv', hs1', _⟩ := (HRB1.out.of hin) i r.i (by rw [List.getElem?_map, hr]; rfl)
        have x0 : wr.cell? ⟨g, i * 2, none⟩ = some (.int .i64 (r.kind : Int)) := y0
        have x1 : wr.cell? ⟨g, i * 2 + 1, none⟩ = some (.slice Dv r.data.length cv) := y1
        have hcv : r.data.length ≤ cv := hcv'
        have hs1 : SlAt wr Dv (u8v r.data) := hs1'; clear y0 y1 hs1'
        have hmr : r ∈ rs := List.mem_of_getElem? hr
        have PU : Hid (∀ W, Within wr W → Calls Tryd.prog 42 #[.pointer (some ⟨xb, 0, none⟩), .agg #[.int .i64 (r.kind : Int), .slice Dv r.data.length cv]] W fun e w' => e = .returned (.tuple #[]) ∧ LogS w' (More (fun j => W1.heap.size ≤ j ∧ j < wr.heap.size) W w') xb (rs.take i ++ [r]) ∧ ButS (fun j => W1.heap.size ≤ j ∧ j < wr.heap.size) W w') := Lib.hid (fun W h => jput_any _ xb (rs.take i) r (fun q hq => HOK2.out q (by rcases List.mem_append.1 hq with hq | hq; exact List.mem_of_mem_take hq; rw [List.mem_singleton] at hq; rw [hq]; exact hmr)) (by rw [List.length_take]; omega) Dv cv hcv W (hPi.of h) (hs1.of h))
        have HTS := Lib.hid (take_snoc hr)
        have b1 : (i : Int) < (rs.length : Int) := by omega
        have HPI := Lib.hid hPi; have HIN := Lib.hid hin; clear hPi hin hs1 hr hmr hcv hcv'
        obtain ⟨nd, hnd⟩ : ∃ n, r.data.length = n := ⟨_, rfl⟩
        obtain ⟨kd, hkd⟩ : ∃ n, r.kind = n := ⟨_, rfl⟩
        rw [hnd, hkd] at PU
        rw [hnd] at x1
        rw [hkd] at x0
        clear hnd hkd
        go_wp2_with fail
        refine (PU.out _ (by repeat (first | with_reducible exact Within.refl _ | with_reducible assumption | with_reducible refine Within.alloc ?_ _ | with_reducible refine Within.drew ?_ | with_reducible refine Within.drewN ?_ _ | with_reducible refine Within.setCell ?_ (by first | (simp; done) | (simp; omega)) _ | with_reducible refine Within.trans ?_ (by assumption)))).mono ?_; rintro e3 w3 ⟨rfl, hL3, hB3⟩
        have hB3' : ButS (fun j => W1.heap.size ≤ j) wr w3 := (ButS.in_ (by repeat (first | with_reducible exact Within.refl _ | with_reducible assumption | with_reducible refine Within.alloc ?_ _ | with_reducible refine Within.drew ?_ | with_reducible refine Within.drewN ?_ _ | with_reducible refine Within.setCell ?_ (by first | (simp; done) | (simp; omega)) _ | with_reducible refine Within.trans ?_ (by assumption)))).trans hB3 (fun j _ h => h.1)
        have hw3 : Within W1 w3 := HIN.out.asides hB3' fun j h => h
        have hL3' := hL3.mono (T := fun j => W1.heap.size ≤ j ∧ j < w3.heap.size) (fun j hj => by
          rcases hj with hj | hj
          · exact ⟨hj.1, Nat.lt_of_lt_of_le hj.2 hB3'.size⟩
          · have h1 := HIN.out.size; have h2 := hj.1; simp at h2; exact ⟨by omega, hj.2⟩)
        rw [HTS.out] at hL3'
        have HW3 := Lib.hid hw3; have HL3 := Lib.hid hL3'; clear hL3 hB3 hB3' hw3 hL3'
        go_wp2
        go_roundw
        case rel => exact ⟨i + 1, hlt, by go_num, HL3.out, HW3.out⟩
        case measure => simp [intOf]; omega
      · obtain rfl : i = rs.length := by omega
        rw [List.take_length] at hPi
        obtain ⟨q0, q1, p0, p1, qf0, qf1⟩ := Q0.out
        have q0 := (hin.cells _ _ qs).trans q0
        have q1 := (hin.cells _ _ qs).trans q1
        have p0 := (hin.cells _ _ ps).trans p0
        have p1 := (hin.cells _ _ ps).trans p1
        have qf0 := (hin.frozens _ _ qs).trans qf0
        have qf1 := (hin.frozens _ _ qs).trans qf1
        have qs := Nat.lt_of_lt_of_le qs hin.size
        have ps := Nat.lt_of_lt_of_le ps hin.size
        have HPI := Lib.hid hPi; have HIN := Lib.hid hin; clear hPi hin
        go_wp2
        refine wp_region_schG (fun W => W.cell? ⟨w.heap.size, 0, none⟩ = some (.int .i64 0) ∧ W.cell? ⟨w.heap.size, 1, none⟩ = some (.int .i64 0) ∧ W.cell? ⟨w1.heap.size, 0, none⟩ = some (.int .i64 (y : Int)) ∧ W.cell? ⟨w1.heap.size, 1, none⟩ = some (.int .i64 (a : Int)) ∧ w.heap.size < W.heap.size ∧ w1.heap.size < W.heap.size ∧ W.frozen? ⟨w.heap.size, 0, none⟩ = false ∧ W.frozen? ⟨w.heap.size, 1, none⟩ = false ∧ Within wr W) 3 (.firm 0 (.firm 1 (.firm 2 (.one 3 .nil)))) (by kernel_rfl) (by kernel_rfl) ⟨q0, q1, p0, p1, qs, ps, qf0, qf1, Within.refl _⟩ ?_
        rintro w0 ⟨q0, q1, p0, p1, qs, ps, qf0, qf1, hw0⟩
        try simp only [Act.put, List.setIfInBounds_toArray, List.set_cons_zero, List.set_cons_succ]
        iterate 3
          apply sch_firm rfl rfl (by repeat (first | with_reducible exact Within.refl _ | with_reducible assumption | with_reducible refine Within.alloc ?_ _ | with_reducible refine Within.drew ?_ | with_reducible refine Within.drewN ?_ _ | with_reducible refine Within.setCell ?_ (by first | (simp; done) | (simp; omega)) _ | with_reducible refine Within.trans ?_ (by assumption)))
          · intro wq hq
            have hcq := hq.cells
            clear hq
            go_simp
            rfl
          try simp only [Act.put, List.setIfInBounds_toArray, List.set_cons_zero, List.set_cons_succ]
        refine sch_one rfl rfl (fun K hK => ?_)
        go_simp
        refine hK _ _ (fun h => absurd h (by decide)) ?_
        clear hK K
        try simp only [Act.put, List.setIfInBounds_toArray, List.set_cons_zero, List.set_cons_succ]
        refine sch_nil ?_
        go_wp2
        have hX : Within w w0 := HA1.out.trans (HIN.out.trans hw0)
        have hK9 : But w.heap.size w0 (((w0.setCell ⟨w.heap.size, 0, none⟩ (.int .i64 (y : Int))).setCell ⟨w.heap.size, 1, none⟩ (.int .i64 (a : Int))).drew) := (((But.refl w.heap.size w0).set (.inl rfl) _).set (.inl rfl) _).drew
        have hI9 : Within w (((w0.setCell ⟨w.heap.size, 0, none⟩ (.int .i64 (y : Int))).setCell ⟨w.heap.size, 1, none⟩ (.int .i64 (a : Int))).drew) := (((hX.setCell (Nat.le_refl _) _).setCell (Nat.le_refl _) _).drew)
        have hL9 := (HPI.out.of hw0).keep (w' := ((w0.setCell ⟨w.heap.size, 0, none⟩ (.int .i64 (y : Int))).setCell ⟨w.heap.size, 1, none⟩ (.int .i64 (a : Int))).drew) (fun j hj hl => hK9.block j hl (fun e => by have h1 := Option.some.inj e; have h2 := HA1.out.size; have h3 := hj.1; omega))
        have hL8 := hL9.mono (T := fun j => w.heap.size ≤ j ∧ j < (((w0.setCell ⟨w.heap.size, 0, none⟩ (.int .i64 (y : Int))).setCell ⟨w.heap.size, 1, none⟩ (.int .i64 (a : Int))).drew).heap.size) (fun j hj => ⟨Nat.le_trans HA1.out.size hj.1, Nat.lt_of_lt_of_le hj.2 (Nat.le_trans hw0.size hK9.size)⟩)
        refine bodyPost_ret (v := .tuple #[.pointer (some ⟨xb, 0, none⟩), .agg #[.int .i64 (y : Int), .int .i64 (a : Int)]]) (by simp [results, Tryd.results12, go_sem, q0, q1, qf0, qf1, qs]) rfl (.inr ⟨HM.out, xb, rfl, hL8, hI9⟩)

end Go.Proofs.YtpmjlaiafgbjgaaDoor
end

section
namespace Go.Proofs.YtpmjlaiafgbjgaaDoor
open Go.RowKit

def awRec : Rec := ⟨3, [97, 98]⟩
theorem awRec_ok : awRec.Ok pf := ⟨by rw [show (awRec.kind : Int) = 3 from rfl, checkR_note (by decide)]; rfl, by intro x hx; revert x; decide⟩
theorem aw_len : (logV [awRec]).length = 27 := by
  unfold logV
  rw [List.length_append, show laidV [awRec] 0 startV = layV awRec 0 startV ++ [] from rfl, List.append_nil, layV_len]; rfl
theorem log_take (l : List Rec) : (logV l).take 8 = magicV := take_app rfl
theorem log_drop (l : List Rec) : (logV l).drop 8 = laidV l 0 startV := drop_app rfl
theorem log_bytes {l : List Rec} (h : ∀ r ∈ l, r.Ok pf) : Bytes (logV l) := magic_bytes.append (laidV_bytes 0 startV h)
/-- a log read again -/
theorem logRead_log {l : List Rec} (h : ∀ r ∈ l, r.Ok pf) (hn : l.length ≤ 1048576) : logRead (logV l) = (l, 0, (logV l).length) := by
  rw [logRead_yes (log_take l), log_drop, readV_log h hn]
  show (l, 0, 8 + (laidV l 0 startV).length) = _
  unfold logV
  rw [List.length_append]; rfl
theorem strB_ab : strB [97, 98] = ⟨#[97, 98]⟩ := by kernel_rfl
theorem ab_nums : strNums ⟨#[97, 98]⟩ = [97, 98] := by rfl

set_option maxRecDepth 100000 in
set_option maxHeartbeats 1000000 in
theorem jawake_true (w : World) (hT : FmS w) : Calls Tryd.prog 11 #[] w fun e w' => e = .returned (.bool true) ∧ Within w w' := by
  have HT := Lib.hid hT; clear hT
  go_enter Tryd.func11, Tryd.ntmps11
  go_wp2_with fail
  refine (New_log w).mono ?_; rintro e1 w1 ⟨xb, rfl, hL1, h1⟩
  have NA := Lib.hid (Note_any ⟨#[97, 98]⟩ (by decide) w1 (HT.out.of h1))
  have HL1 := Lib.hid hL1; have H1 := Lib.hid h1; clear hL1 h1
  go_wp2_with fail
  refine NA.out.mono ?_; rintro e2 w2 hN; clear NA
  obtain ⟨hN, h2⟩ := hN
  have hck : checkR pf 3 (strNums ⟨#[97, 98]⟩) = 0 := awRec_ok.ok
  rcases hN with ⟨_, A2, c2, rfl, hc2, hs2, _⟩ | ⟨hne, _⟩
  rotate_left
  · exact absurd hck hne
  rw [show (⟨#[97, 98]⟩ : ByteArray).size = 2 from rfl] at hc2 ⊢
  rw [ab_nums] at hs2
  clear hck
  obtain ⟨W2, hW2⟩ : ∃ W2, W2 = w2.alloc (.cells #[.int .i64 3, .slice A2 2 c2] 50) := ⟨_, rfl⟩
  have h22 : Within w2 W2 := by rw [hW2]; exact (Within.refl w2).alloc _
  have z0 : W2.cell? ⟨w2.heap.size, 0, none⟩ = some (.int .i64 3) := by rw [hW2]; simp
  have z1 : W2.cell? ⟨w2.heap.size, 1, none⟩ = some (.slice A2 2 c2) := by rw [hW2]; simp
  have zs : w2.heap.size < W2.heap.size := by rw [hW2]; simp
  have hwW : Within w W2 := H1.out.trans (h2.trans h22)
  have AP := Lib.hid (Append_good _ xb [] (fun q hq => by cases hq) A2 c2 [97, 98] (by show (0 : Nat) < 1048576; decide) 3 awRec_ok.ok awRec_ok.bytes hc2 (by decide) W2 (HT.out.of hwW) (HL1.out.of (h2.trans h22)) (hs2.of h22))
  have HW2 := Lib.hid hW2; have HWW := Lib.hid hwW; clear hW2 hs2 hc2 h2 h22 hwW
  go_wp2_with fail
  rw [← HW2.out]
  have hl0 : ([] : List Rec).length = 0 := rfl
  have hl2 : ([97, 98] : List Nat).length = 2 := rfl
  rw [hl0, hl2] at AP
  clear hl0 hl2
  refine AP.out.mono ?_; rintro e3 w3 ⟨rfl, hL3, hB3⟩
  clear AP
  have hL3 : LogS w3 (More (fun j => w.heap.size ≤ j ∧ j < w1.heap.size) W2 w3) xb [awRec] := hL3
  have hww3 : Within w w3 := HWW.out.asides hB3 (fun j hj => hj.1)
  have BY := Lib.hid (Bytes_log _ xb [awRec] (by rw [aw_len]; decide) w3 hL3)
  have HW3 := Lib.hid hww3; clear hww3 hL3 hB3
  obtain ⟨bl, hbl⟩ : ∃ l, logV [awRec] = l := ⟨_, rfl⟩
  have hlen := aw_len
  have hrd := logRead_log (l := [awRec]) (fun q hq => by rw [List.mem_singleton] at hq; rw [hq]; exact awRec_ok) (by decide)
  have hby := log_bytes (l := [awRec]) (fun q hq => by rw [List.mem_singleton] at hq; rw [hq]; exact awRec_ok)
  have hb0 : (logV [awRec]).getD 0 0 = 66 := rfl
  rw [hbl] at BY hlen hrd hby hb0
  rw [hlen] at hrd
  clear hbl
  have HRD := Lib.hid hrd; have HBY := Lib.hid hby; have HLEN := Lib.hid hlen; have HB0 := Lib.hid hb0; clear hrd hby hlen hb0
  go_wp2_with fail
  refine BY.out.mono ?_; rintro e4 w4 ⟨v4, rfl, hO4, h4⟩
  obtain ⟨A4, c4, rfl, hc4, hs4, _⟩ := hO4.form
  have RD := Lib.hid (Read_any A4 c4 bl HBY.out (by rw [HLEN.out]; decide) hc4 w4 (HT.out.of (HW3.out.trans h4)) hs4)
  obtain ⟨ad4, rfl, hb4, hx4⟩ := hs4.at (k := 0) (by rw [HLEN.out]; decide)
  rw [HB0.out, add_nought] at hx4
  rw [HLEN.out] at RD hc4 ⊢
  rw [HRD.out] at RD
  have HW4 := Lib.hid (HW3.out.trans h4); clear h4 hO4 hs4
  go_wp2_with fail
  refine RD.out.mono ?_; rintro e5 w5 ⟨lv, rfl, hL5, h5⟩
  clear RD
  obtain ⟨A5, c5, rfl, hc5, hR5, _, _⟩ := hL5.at
  obtain ⟨g, Dv, cv, rfl, l1, y0, yy, hcv, hs5, _⟩ := hR5 0 awRec.i rfl
  have y1 : w5.cell? ⟨g, 1, none⟩ = some (.slice Dv 2 cv) := yy; clear yy
  have hx5 := (h5.cell hb4).trans hx4
  have hb5 := Nat.lt_of_lt_of_le hb4 h5.size
  have ST : Hid (∀ W, Within w5 W → (convert 22 9 (.slice Dv 2 cv)).run Tryd.prog W = .ok (.string ⟨#[97, 98]⟩) W) := Lib.hid (fun W h => by rw [← strB_ab]; exact run_str Dv cv [97, 98] W (SlAt.of hs5 h))
  have st := fun (x : Array Value) => ST.out (w5.alloc (.cells x 26)) ((Within.refl w5).alloc _)
  have HW5 := Lib.hid (HW4.out.trans h5)
  have hlm : ([awRec].map Rec.i).length = 1 := rfl
  rw [hlm] at hc5 ⊢
  clear h5 hL5 hR5 hs5 hcv hlm y0 hx4 hb4 ST
  go_wp2
  go_ret
  exact ⟨rfl, HW5.out.alloc _⟩

end Go.Proofs.YtpmjlaiafgbjgaaDoor
end

section
namespace Go.Proofs.YtpmjlaiafgbjgaaDoor
open Go.RowKit

/-- the reference's log in memory; all its blocks are in S -/
structure RlogS (w : World) (S : Nat → Prop) (yb : Nat) (rs : List Rec) : Prop where
  at_ : S yb
  firm : w.frozen? ⟨yb, 0, none⟩ = false
  rows : ∃ (ps : List (IRec × Value)) (lv : Value), ps.map Prod.fst = rs.map Rec.i ∧ w.cell? ⟨yb, 0, none⟩ = some lv ∧ RecP w 0 lv ps ∧ ∀ j, (lv.ownBlock = some j ∨ ∃ p ∈ ps, p.2.ownBlock = some j) → S j ∧ j ≠ yb
theorem RlogS.lt {w : World} {S : Nat → Prop} {yb : Nat} {rs : List Rec} (h : RlogS w S yb rs) : yb < w.heap.size := by
  obtain ⟨_, _, ps, lv, _, h1, _⟩ := h
  exact World.block_lt_of_cell? _ _ h1
theorem RlogS.keep {w w' : World} {S : Nat → Prop} {yb : Nat} {rs : List Rec} (h : RlogS w S yb rs) (k : ∀ j, S j → j < w.heap.size → w'.heap[j]? = w.heap[j]?) : RlogS w' S yb rs := by
  have hl := h.lt
  obtain ⟨h0, h1, ps, lv, a1, a2, a3, a4⟩ := h
  have hx := k yb h0 hl
  exact ⟨h0, (World.frozen?_of_block hx).trans h1, ps, lv, a1, (World.cell?_of_block hx).trans a2, a3.keep (fun j hj => k j (a4 j (.inl hj)).1 (a3.1.lt j hj).2) (fun p hp j hj => k j (a4 j (.inr ⟨p, hp, hj⟩)).1 ((a3.2 p hp).1.lt j hj).2), a4⟩
theorem RlogS.of {w w' : World} {S : Nat → Prop} {yb : Nat} {rs : List Rec} (h : RlogS w S yb rs) (k : Within w w') : RlogS w' S yb rs := h.keep fun j _ hj => k.block j hj
theorem RlogS.butS {w w' : World} {S T : Nat → Prop} {yb : Nat} {rs : List Rec} (h : RlogS w S yb rs) (k : ButS T w w') (hd : ∀ j, S j → j < w.heap.size → ¬ T j) : RlogS w' S yb rs := h.keep fun j hj hl => k.block j hl (hd j hj hl)
theorem RlogS.mono {w : World} {S T : Nat → Prop} {yb : Nat} {rs : List Rec} (h : RlogS w S yb rs) (k : ∀ j, S j → T j) : RlogS w T yb rs := by
  obtain ⟨h0, h1, ps, lv, a1, a2, a3, a4⟩ := h
  exact ⟨k _ h0, h1, ps, lv, a1, a2, a3, fun j hj => ⟨k _ (a4 j hj).1, (a4 j hj).2⟩⟩
theorem RlogS.list {w : World} {S : Nat → Prop} {yb : Nat} {rs : List Rec} (h : RlogS w S yb rs) : ∃ A c, w.cell? ⟨yb, 0, none⟩ = some (.slice A rs.length c) ∧ rs.length ≤ c ∧ RecB w A (rs.map Rec.i) ∧ RecAt w (fun _ => True) A (rs.map Rec.i) := by
  obtain ⟨h0, h1, ps, lv, a1, a2, a3, a4⟩ := h
  obtain ⟨A, c, rfl, hc, hB, _, h7⟩ := RecsO.at (rs := rs.map Rec.i) ⟨ps, a1, a3⟩
  rw [List.length_map] at hc a2
  exact ⟨A, c, a2, hc, hB, h7.weak fun _ _ => trivial⟩

/-- no record is told as a head that is lacking -/
theorem whyV_not1 (b : List Nat) (n last : Nat) : whyV pf b n last ≠ 1 := by
  unfold whyV
  repeat (first | decide | split)
theorem readV_not1 : ∀ (k : Nat) (b : List Nat) (n last : Nat), b.length ≤ k → (readV pf b n last).2.1 ≠ 1
  | 0, b, n, last, hk => by
    obtain rfl := List.eq_nil_of_length_eq_zero (Nat.le_zero.1 hk)
    rw [readV_nil]; show (0 : Nat) ≠ 1; decide
  | k + 1, b, n, last, hk => by
    by_cases h0 : b = []
    · subst h0; rw [readV_nil]; show (0 : Nat) ≠ 1; decide
    by_cases h : whyV pf b n last = 0
    · rw [readV_rec h]
      refine readV_not1 k _ _ _ ?_
      have hl : 0 < b.length := List.length_pos_iff.2 h0
      rw [List.length_drop]
      have : 13 ≤ endV b := by unfold endV; omega
      omega
    · rw [readV_why h0 h]
      exact whyV_not1 b n last

set_option maxRecDepth 100000 in
set_option maxHeartbeats 1000000 in
theorem Rbytes_log (S : Nat → Prop) (yb : Nat) (rs : List Rec) (hok : ∀ q ∈ rs, q.Ok pf) (hle : rs.length ≤ 1048576) (w : World) (hP : RlogS w S yb rs) : Calls Tryd.prog 19 #[.pointer (some ⟨yb, 0, none⟩)] w fun e w' => ∃ v, e = .returned v ∧ OwnB w' w.heap.size v (logV rs) ∧ Within w w' := by
  obtain ⟨A, c, h1, hc, hRB, _⟩ := hP.list
  have hyb := hP.lt
  have HRB := Lib.hid hRB; clear hRB hP
  obtain ⟨n, hn⟩ : ∃ n, rs.length = n := ⟨_, rfl⟩
  rw [hn] at h1 hc hle
  have HN := Lib.hid hn; clear hn
  have HOK := Lib.hid hok; clear hok
  go_enter Tryd.func19, Tryd.ntmps19
  go_wp2_with fail
  refine (Magic_any w).mono ?_; rintro e1 w1 ⟨v1, rfl, hO1, hw1⟩
  obtain ⟨A1, c1, rfl, _, _, _⟩ := hO1.form
  have HO1 := Lib.hid hO1; clear hO1
  go_wp2_with fail
  refine (start_any _).mono ?_; rintro e2 w2 ⟨rfl, hw2⟩
  have HW2 := Lib.hid (hw1.trans hw2)
  have HO2 := Lib.hid (HO1.out.of hw2)
  clear hw1 hw2 HO1
  go_wp2
  go_loopw [3, 4, 5] (fun bv kv iv wr => ∃ i : Nat, i ≤ n ∧ iv = .int .i64 (i : Int) ∧ kv = .int .u32 (lastV (rs.take i) 0 startV : Int) ∧ OwnB wr w.heap.size bv (logV (rs.take i)) ∧ Within w wr) (fun _ _ iv _ => n - (intOf iv).toNat)
  case atStart => exact ⟨0, by omega, rfl, rfl, HO2.out, HW2.out⟩
  case round =>
    obtain ⟨i, hi, rfl, rfl, hO, hin⟩ := hrel
    have h1' := (hin.cells _ _ hyb).trans h1
    have hyb' := Nat.lt_of_lt_of_le hyb hin.size
    by_cases hlt : i < n
    · have hlt' : i < rs.length := by rw [HN.out]; exact hlt
      obtain ⟨r, hr⟩ : ∃ r, rs[i]? = some r := ⟨_, List.getElem?_eq_getElem hlt'⟩
      obtain ⟨g, Dv, cv, rfl, l1, y0, y1, hcv', hs1', _⟩ := (HRB.out.of hin) i r.i (by rw [List.getElem?_map, hr]; rfl)
      have x0 : wr.cell? ⟨g, i * 2, none⟩ = some (.int .i64 (r.kind : Int)) := y0
      have x1 : wr.cell? ⟨g, i * 2 + 1, none⟩ = some (.slice Dv r.data.length cv) := y1
      have hs1 : SlAt wr Dv (u8v r.data) := hs1'; clear y0 y1 hs1'
      have hmr : r.Ok pf := HOK.out r (List.mem_of_getElem? hr)
      obtain ⟨hk1, hk2, hk3⟩ := hmr.parts
      have hll := lastV_lt (rs.take i) 0 startV (fun q hq => HOK.out q (List.mem_of_mem_take hq)) startV_lt
      have LY := Lib.hid (Rlay_any r i (lastV (rs.take i) 0 startV) Dv cv (by omega) (by omega) hll hk3 hmr.bytes wr hs1)
      have hsn := take_snoc hr
      have hlen2 := logV_le (l := rs.take (i + 1)) (fun q hq => (HOK.out q (List.mem_of_mem_take hq)).parts.2.2) (by rw [List.length_take]; omega)
      have hlog : logV (rs.take (i + 1)) = logV (rs.take i) ++ layV r i (lastV (rs.take i) 0 startV) := by rw [← hsn, logV_snoc, List.length_take, Nat.min_eq_left (by omega)]
      have hlast : lastV (rs.take (i + 1)) 0 startV = nextV r i (lastV (rs.take i) 0 startV) := by rw [← hsn, lastV_snoc, List.length_take, Nat.min_eq_left (by omega), Nat.zero_add]
      rw [hlog, List.length_append] at hlen2
      obtain ⟨k, hk⟩ : ∃ k, lastV (rs.take i) 0 startV = k := ⟨_, rfl⟩
      rw [hk] at LY hlen2 hlog hlast ⊢
      clear hll hk
      obtain ⟨LT, hLT⟩ : ∃ x, layV r i k = x := ⟨_, rfl⟩
      rw [hLT] at LY hlen2 hlog
      clear hLT
      obtain ⟨nx, hnx⟩ : ∃ x, nextV r i k = x := ⟨_, rfl⟩
      rw [hnx] at LY hlast
      clear hnx
      obtain ⟨nd, hnd⟩ : ∃ n, r.data.length = n := ⟨_, rfl⟩
      obtain ⟨kd, hkd⟩ : ∃ n, r.kind = n := ⟨_, rfl⟩
      rw [hnd, hkd] at LY
      rw [hnd] at x1
      rw [hkd] at x0
      obtain ⟨Ao, co, rfl, _, _, _⟩ := hO.form
      have b1 : (i : Int) < (n : Int) := by omega
      have HIN := Lib.hid hin; have HO := Lib.hid hO; have HLG := Lib.hid hlog; have HLS := Lib.hid hlast; have HL2 := Lib.hid hlen2; clear hin hO hlog hlast hs1 hr hmr hcv' hsn hnd hkd hk1 hk2 hk3 hlen2 hlt'
      obtain ⟨m, hm⟩ : ∃ m, (logV (rs.take i)).length = m := ⟨_, rfl⟩
      have HM := Lib.hid hm; rw [hm]; clear hm
      go_wp2_with fail
      refine LY.out.mono ?_; rintro e3 w3 ⟨v3, rfl, hO3, h3⟩
      obtain ⟨A3, c3, rfl, _, hs3, _⟩ := hO3.form
      obtain ⟨v4, w4, hrun, hO4, hB4⟩ := run_app_u8 w3 w.heap.size (.slice Ao (logV (rs.take i)).length co) (logV (rs.take i)) LT (HO.out.of h3) A3 c3 hs3 (by have := HL2.out; omega) (Nat.le_trans HIN.out.size h3.size)
      rw [HM.out] at hrun
      have hX4 : Within w w4 := Below.trans (HIN.out.trans h3) hB4
      rw [← HLG.out] at hO4
      have RUN := Lib.hid hrun; have HO4 := Lib.hid hO4; have HX4 := Lib.hid hX4; clear hrun hO4 hX4 hB4 hO3 hs3
      obtain ⟨A4, c4, rfl, _, _, _⟩ := HO4.out.form
      obtain ⟨lt, hlt4⟩ : ∃ m, LT.length = m := ⟨_, rfl⟩
      rw [hlt4] at RUN ⊢
      clear hlt4
      go_wp2_with (at_builtin; refine wpList_append_run rfl (.tmp 32) (.tmp 33) 22 rfl _ _ rfl rfl RUN.out ?_)
      go_roundw
      case rel => exact ⟨i + 1, hlt, by go_num, by rw [HLS.out], HO4.out, HX4.out⟩
      case measure => simp [intOf]; omega
    · obtain rfl : i = n := by omega
      rw [← HN.out, List.take_length] at hO
      obtain ⟨Ao, co, rfl, _, _, _⟩ := hO.form
      have HO := Lib.hid hO; have HIN := Lib.hid hin; clear hO hin
      go_wp2
      go_ret
      exact ⟨_, rfl, HO.out, HIN.out⟩

set_option maxRecDepth 100000 in
set_option maxHeartbeats 1000000 in
theorem tail_same (y a : Int) (w : World) : Calls Tryd.prog 17 #[.agg #[.int .i64 y, .int .i64 a], .agg #[.int .i64 y, .int .i64 a]] w fun e w' => e = .returned (.bool true) ∧ Within w w' := by
  go_enter Tryd.func17, Tryd.ntmps17
  go_wp2
  go_ret
  exact ⟨rfl, (by repeat (first | with_reducible exact Within.refl _ | with_reducible assumption | with_reducible refine Within.alloc ?_ _ | with_reducible refine Within.drew ?_ | with_reducible refine Within.drewN ?_ _ | with_reducible refine Within.setCell ?_ (by first | (simp; done) | (simp; omega)) _ | with_reducible refine Within.trans ?_ (by assumption)))⟩

set_option maxRecDepth 100000 in
set_option maxHeartbeats 1000000 in
theorem Ropen_any (A : Option Addr) (c : Nat) (b : List Nat) (hb : Bytes b) (hlen : b.length ≤ 140737488355328) (hc : b.length ≤ c) (w : World) (hr : SlAt w A (u8v b)) : Calls Tryd.prog 18 #[.slice A b.length c] w fun e w' => (b.take 8 ≠ magicV ∧ e = .returned (.tuple #[.pointer none, .agg #[.int .i64 1, .int .i64 0]]) ∧ Within w w') ∨ (b.take 8 = magicV ∧ ∃ yb, e = .returned (.tuple #[.pointer (some ⟨yb, 0, none⟩), .agg #[.int .i64 ((logRead b).2.1 : Int), .int .i64 ((logRead b).2.2 : Int)]]) ∧ RlogS w' (fun j => w.heap.size ≤ j ∧ j < w'.heap.size) yb (logRead b).1 ∧ Within w w') := by
  have RDA := Lib.hid (Rread_any A c b hb hlen hc (w.alloc (.cells #[.int .i64 0, .int .i64 0] 26)) (hr.of ((Within.refl w).alloc _)))
  clear hb hr
  go_enter Tryd.func18, Tryd.ntmps18
  go_wp2_with fail
  refine RDA.out.mono ?_; rintro e1 w1 ⟨lv, rfl, hL, h1⟩
  clear RDA
  obtain ⟨⟨rs, y, a⟩, hlr⟩ : ∃ t, logRead b = t := ⟨_, rfl⟩
  rw [hlr] at hL ⊢
  have HLR := Lib.hid hlr
  have hL : RecsO w1 (w.alloc (.cells #[.int .i64 0, .int .i64 0] 26)).heap.size lv (rs.map Rec.i) := hL
  obtain ⟨Al, cl, rfl, _, _, _, _⟩ := hL.at
  rw [List.length_map] at hL ⊢
  have HL := Lib.hid hL; clear hL
  have hWT : Within w (w.alloc (.cells #[.int .i64 0, .int .i64 0] 26)) := (Within.refl w).alloc _
  have q0 : w1.cell? ⟨w.heap.size, 0, none⟩ = some (.int .i64 0) := (h1.cells _ _ (by simp)).trans (by simp)
  have q1 : w1.cell? ⟨w.heap.size, 1, none⟩ = some (.int .i64 0) := (h1.cells _ _ (by simp)).trans (by simp)
  have qf0 : w1.frozen? ⟨w.heap.size, 0, none⟩ = false := (h1.frozens _ _ (by simp)).trans (by simp)
  have qf1 : w1.frozen? ⟨w.heap.size, 1, none⟩ = false := (h1.frozens _ _ (by simp)).trans (by simp)
  have qs : w.heap.size < w1.heap.size := Nat.lt_of_lt_of_le (by simp) h1.size
  have H1 := Lib.hid h1; clear h1
  by_cases hm : b.take 8 = magicV
  · have hy : ¬ y = 1 := fun e => by rw [logRead_yes hm] at hlr; have := congrArg (fun t => t.2.1) hlr; rw [e] at this; exact readV_not1 _ _ _ _ (Nat.le_refl _) this
    have hy1 : ((y : Int) == 1) = false := by rw [beq_eq_false_iff_ne]; omega
    have HM := Lib.hid hm; clear hm hlr hy
    go_wp2
    obtain ⟨W1, hW1⟩ : ∃ W1, W1 = w1.alloc (.cells #[.int .i64 (y : Int), .int .i64 (a : Int)] 26) := ⟨_, rfl⟩
    have hA : Within w1 W1 := by rw [hW1]; exact (Within.refl w1).alloc _
    have p0 : W1.cell? ⟨w1.heap.size, 0, none⟩ = some (.int .i64 (y : Int)) := by rw [hW1]; simp
    have p1 : W1.cell? ⟨w1.heap.size, 1, none⟩ = some (.int .i64 (a : Int)) := by rw [hW1]; simp
    have ps : w1.heap.size < W1.heap.size := by rw [hW1]; simp
    have qne : ¬ w.heap.size = w1.heap.size := by omega
    have q0 := (hA.cells _ 0 qs).trans q0
    have q1 := (hA.cells _ 1 qs).trans q1
    have qf0 := (hA.frozens _ 0 qs).trans qf0
    have qf1 := (hA.frozens _ 1 qs).trans qf1
    have qs := Nat.lt_of_lt_of_le qs hA.size
    rw [← hW1]
    clear hW1
    refine wp_region_schG (fun W => W.cell? ⟨w.heap.size, 0, none⟩ = some (.int .i64 0) ∧ W.cell? ⟨w.heap.size, 1, none⟩ = some (.int .i64 0) ∧ W.cell? ⟨w1.heap.size, 0, none⟩ = some (.int .i64 (y : Int)) ∧ W.cell? ⟨w1.heap.size, 1, none⟩ = some (.int .i64 (a : Int)) ∧ w.heap.size < W.heap.size ∧ w1.heap.size < W.heap.size ∧ W.frozen? ⟨w.heap.size, 0, none⟩ = false ∧ W.frozen? ⟨w.heap.size, 1, none⟩ = false ∧ Within W1 W) 5 (.firm 0 (.firm 1 (.firm 3 (.one 2 (.firm 4 (.one 5 .nil)))))) (by kernel_rfl) (by kernel_rfl) ⟨q0, q1, p0, p1, qs, ps, qf0, qf1, Within.refl _⟩ ?_
    rintro w0 ⟨q0, q1, p0, p1, qs, ps, qf0, qf1, hw0⟩
    try simp only [Act.put, List.setIfInBounds_toArray, List.set_cons_zero, List.set_cons_succ]
    iterate 3
      apply sch_firm rfl rfl (by repeat (first | with_reducible exact Within.refl _ | with_reducible assumption | with_reducible refine Within.alloc ?_ _ | with_reducible refine Within.drew ?_ | with_reducible refine Within.drewN ?_ _ | with_reducible refine Within.setCell ?_ (by first | (simp; done) | (simp; omega)) _ | with_reducible refine Within.trans ?_ (by assumption)))
      · intro wq hq
        have hcq := hq.cells
        clear hq
        go_simp
        rfl
      try simp only [Act.put, List.setIfInBounds_toArray, List.set_cons_zero, List.set_cons_succ]
    refine sch_one rfl rfl (fun K hK => ?_)
    go_simp
    refine hK _ _ (fun _ => (by repeat (first | with_reducible exact Within.refl _ | with_reducible assumption | with_reducible refine Within.alloc ?_ _ | with_reducible refine Within.drew ?_ | with_reducible refine Within.drewN ?_ _ | with_reducible refine Within.setCell ?_ (by first | (simp; done) | (simp; omega)) _ | with_reducible refine Within.trans ?_ (by assumption)))) ?_
    clear hK K
    try simp only [Act.put, List.setIfInBounds_toArray, List.set_cons_zero, List.set_cons_succ]
    apply sch_firm rfl rfl (by repeat (first | with_reducible exact Within.refl _ | with_reducible assumption | with_reducible refine Within.alloc ?_ _ | with_reducible refine Within.drew ?_ | with_reducible refine Within.drewN ?_ _ | with_reducible refine Within.setCell ?_ (by first | (simp; done) | (simp; omega)) _ | with_reducible refine Within.trans ?_ (by assumption)))
    · intro wq hq
      have hcq := hq.cells
      clear hq
      go_simp
      rfl
    try simp only [Act.put, List.setIfInBounds_toArray, List.set_cons_zero, List.set_cons_succ]
    refine sch_one rfl rfl (fun K hK => ?_)
    go_simp
    refine hK _ _ (fun h => absurd h (by decide)) ?_
    clear hK K
    try simp only [Act.put, List.setIfInBounds_toArray, List.set_cons_zero, List.set_cons_succ]
    refine sch_nil ?_
    go_wp2
    have hX : Within w w0 := Within.trans ((Within.refl w).alloc _) (H1.out.trans (hA.trans hw0))
    obtain ⟨W8, hW8⟩ : ∃ W8, W8 = ((w0.setCell ⟨w.heap.size, 0, none⟩ (.int .i64 (y : Int))).setCell ⟨w.heap.size, 1, none⟩ (.int .i64 (a : Int))) := ⟨_, rfl⟩
    have hK8 : But w.heap.size w0 W8 := by rw [hW8]; exact ((But.refl w.heap.size w0).set (.inl rfl) _).set (.inl rfl) _
    have hI8 : Within w W8 := by rw [hW8]; exact (hX.setCell (Nat.le_refl _) _).setCell (Nat.le_refl _) _
    have hs8 : W8.heap.size = w0.heap.size := by rw [hW8]; simp [World.setCell]
    have hL8 := (HL.out.of (hA.trans hw0)).keep (w' := W8) (fun j hj hl => hK8.block j hl (fun e => by have := Option.some.inj e; simp at hj; omega))
    obtain ⟨W9, hW9⟩ : ∃ W9, W9 = (W8.alloc (.cells #[.slice Al rs.length cl] 41)).drew := ⟨_, rfl⟩
    have hI89 : Within W8 W9 := by rw [hW9]; exact ((Within.refl W8).alloc _).drew
    have hL9 := hL8.of hI89
    have hyb : W9.cell? ⟨w0.heap.size, 0, none⟩ = some (.slice Al rs.length cl) := by rw [hW9, ← hs8]; simp
    have hyf : W9.frozen? ⟨w0.heap.size, 0, none⟩ = false := by rw [hW9, ← hs8]; simp
    have hys : w0.heap.size < W9.heap.size := World.block_lt_of_cell? _ _ hyb
    rw [← hW8, ← hW9]
    obtain ⟨pl, hpl, hRP⟩ := hL9
    have hLOG : RlogS W9 (fun j => w.heap.size ≤ j ∧ j < W9.heap.size) w0.heap.size rs := by
      obtain ⟨ql, hql, hRP8⟩ := hL8
      have lt8 : ∀ j, ((Value.slice Al rs.length cl).ownBlock = some j ∨ ∃ p ∈ ql, p.2.ownBlock = some j) → w.heap.size ≤ j ∧ j < w0.heap.size := fun j hj => by
        rcases hj with hj | ⟨p, hp, hj⟩
        · have := hRP8.1.lt j hj; simp at this; omega
        · have := (hRP8.2 p hp).1.lt j hj; simp at this; omega
      refine ⟨⟨hX.size, hys⟩, hyf, ql, _, hql, hyb, ⟨owns_lessN (ownsRow_keep hRP8.1 (fun j hj => hI89.block j (hRP8.1.lt j hj).2)) (Nat.zero_le _), fun p hp => ⟨((hRP8.2 p hp).1.of hI89).less (Nat.zero_le _), (hRP8.2 p hp).2⟩⟩, fun j hj => ?_⟩
      have := lt8 j hj
      exact ⟨⟨this.1, by omega⟩, by omega⟩
    have hI9 : Within w W9 := hI8.trans hI89
    have c0 : W9.cell? ⟨w.heap.size, 0, none⟩ = some (.int .i64 (y : Int)) := (hI89.cells _ _ (by rw [hs8]; exact qs)).trans (by rw [hW8, World.cell?_setCell_other _ _ _ _ (by simp)]; exact World.cell?_setCell_same _ _ _ q0)
    have c1 : W9.cell? ⟨w.heap.size, 1, none⟩ = some (.int .i64 (a : Int)) := (hI89.cells _ _ (by rw [hs8]; exact qs)).trans (by rw [hW8]; exact World.cell?_setCell_same _ _ _ ((World.cell?_setCell_other _ _ _ _ (by simp)).trans q1))
    refine bodyPost_ret (v := .tuple #[.pointer (some ⟨w0.heap.size, 0, none⟩), .agg #[.int .i64 (y : Int), .int .i64 (a : Int)]]) (by simp [results, Tryd.results18, go_sem, c0, c1]) rfl (.inr ⟨HM.out, w0.heap.size, by rw [HLR.out], by rw [HLR.out]; exact hLOG, hI9⟩)
  · obtain ⟨rfl, rfl, rfl⟩ : rs = [] ∧ y = 1 ∧ a = 0 := by rw [logRead_no hm] at hlr; simp only [Prod.mk.injEq] at hlr; exact ⟨hlr.1.symm, hlr.2.1.symm, hlr.2.2.symm⟩
    have HM := Lib.hid hm; clear hm hlr
    go_wp2
    obtain ⟨W1, hW1⟩ : ∃ W1, W1 = w1.alloc (.cells #[.int .i64 1, .int .i64 0] 26) := ⟨_, rfl⟩
    have hA : Within w1 W1 := by rw [hW1]; exact (Within.refl w1).alloc _
    have p0 : W1.cell? ⟨w1.heap.size, 0, none⟩ = some (.int .i64 1) := by rw [hW1]; simp
    have p1 : W1.cell? ⟨w1.heap.size, 1, none⟩ = some (.int .i64 0) := by rw [hW1]; simp
    have ps : w1.heap.size < W1.heap.size := by rw [hW1]; simp
    have qne : ¬ w.heap.size = w1.heap.size := by omega
    have q0 := (hA.cells _ 0 qs).trans q0
    have q1 := (hA.cells _ 1 qs).trans q1
    have qf0 := (hA.frozens _ 0 qs).trans qf0
    have qf1 := (hA.frozens _ 1 qs).trans qf1
    have qs := Nat.lt_of_lt_of_le qs hA.size
    rw [← hW1]
    clear hW1
    refine wp_region_schG (fun W => W.cell? ⟨w.heap.size, 0, none⟩ = some (.int .i64 0) ∧ W.cell? ⟨w.heap.size, 1, none⟩ = some (.int .i64 0) ∧ W.cell? ⟨w1.heap.size, 0, none⟩ = some (.int .i64 1) ∧ W.cell? ⟨w1.heap.size, 1, none⟩ = some (.int .i64 0) ∧ w.heap.size < W.heap.size ∧ w1.heap.size < W.heap.size ∧ W.frozen? ⟨w.heap.size, 0, none⟩ = false ∧ W.frozen? ⟨w.heap.size, 1, none⟩ = false ∧ Within W1 W) 2 (.firm 0 (.firm 1 (.one 2 .nil))) (by kernel_rfl) (by kernel_rfl) ⟨q0, q1, p0, p1, qs, ps, qf0, qf1, Within.refl _⟩ ?_
    rintro w0 ⟨q0, q1, p0, p1, qs, ps, qf0, qf1, hw0⟩
    try simp only [Act.put, List.setIfInBounds_toArray, List.set_cons_zero, List.set_cons_succ]
    iterate 2
      apply sch_firm rfl rfl (by repeat (first | with_reducible exact Within.refl _ | with_reducible assumption | with_reducible refine Within.alloc ?_ _ | with_reducible refine Within.drew ?_ | with_reducible refine Within.drewN ?_ _ | with_reducible refine Within.setCell ?_ (by first | (simp; done) | (simp; omega)) _ | with_reducible refine Within.trans ?_ (by assumption)))
      · intro wq hq
        have hcq := hq.cells
        clear hq
        go_simp
        rfl
      try simp only [Act.put, List.setIfInBounds_toArray, List.set_cons_zero, List.set_cons_succ]
    refine sch_one rfl rfl (fun K hK => ?_)
    go_simp
    refine hK _ _ (fun h => absurd h (by decide)) ?_
    clear hK K
    try simp only [Act.put, List.setIfInBounds_toArray, List.set_cons_zero, List.set_cons_succ]
    refine sch_nil ?_
    go_wp2
    have hX : Within w w0 := Within.trans ((Within.refl w).alloc _) (H1.out.trans (hA.trans hw0))
    have hK9 : But w.heap.size w0 (((w0.setCell ⟨w.heap.size, 0, none⟩ (.int .i64 1)).setCell ⟨w.heap.size, 1, none⟩ (.int .i64 0)).drew) := (((But.refl w.heap.size w0).set (.inl rfl) _).set (.inl rfl) _).drew
    have hI9 : Within w (((w0.setCell ⟨w.heap.size, 0, none⟩ (.int .i64 1)).setCell ⟨w.heap.size, 1, none⟩ (.int .i64 0)).drew) := (((hX.setCell (Nat.le_refl _) _).setCell (Nat.le_refl _) _).drew)
    refine bodyPost_ret (v := .tuple #[.pointer none, .agg #[.int .i64 1, .int .i64 0]]) (by simp [results, Tryd.results18, go_sem, q0, q1, qf0, qf1, qs]) rfl (.inl ⟨HM.out, rfl, hI9⟩)

end Go.Proofs.YtpmjlaiafgbjgaaDoor
end
