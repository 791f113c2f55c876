/- Package binnacleref00, whole numbers: copies; Set, Neg, Abs: walks. -/
import Derived.Test.YtifgngmebnjfkaaDoorBg1
import Derived.Test.YtifgngmebnjfkaaDoorSched
import Derived.Maps.AppendAt
namespace Go.Proofs.YtifgngmebnjfkaaDoor
open Go.RowKit
attribute [go_sem] firmAt firmUpon

theorem Tryd.infoW : (Tryd.prog.info? 22).map (fun i => (i.zero, i.size, i.bytes)) = some (some (.int .u32 0), 1, 4) := by kernel_rfl
def uv (l : List Nat) : List Value := l.map fun (x : Nat) => .int .u32 (x : Int)
theorem add_zero_off (g j : Nat) : (⟨g, 0, none⟩ : Addr).add j = ⟨g, j, none⟩ := by
  unfold Addr.add; split
  · rename_i h; subst h; rfl
  · simp
theorem uv_at (l : List Nat) {j : Nat} {u : Value} (h : (uv l)[j]? = some u) : j < l.length ∧ u = .int .u32 ((l.getD j 0 : Nat) : Int) := by
  unfold uv at h
  rw [List.getElem?_map] at h
  by_cases hj : j < l.length
  · rw [List.getElem?_eq_getElem hj] at h
    refine ⟨hj, ?_⟩
    simp at h
    rw [← h]; simp [List.getD_eq_getElem?_getD, hj]
  · rw [List.getElem?_eq_none (by omega)] at h; simp at h
theorem rowAt_of_owns {w : World} {base n : Nat} {v : Value} {l : List Nat} (h : w.ownsRow base 22 1 v n (uv l)) : ∃ A c, v = .slice A l.length c ∧ l.length ≤ c ∧ RowAt w A l := by
  have hlen : l.length = n := by have := h.1; simpa [uv] using this
  subst hlen
  rcases h.2 with ⟨rfl, h0⟩ | ⟨g, cap, cur, rfl, _, hb, hc, _, hsz, htk⟩
  · refine ⟨none, 0, by rw [h0], by omega, ?_⟩
    intro hp; omega
  · refine ⟨_, _, rfl, hc, fun _ => ⟨g, cur.size, fun i => (cur[i]?).getD undef, rfl, by omega, ⟨cur, hb, rfl, fun i hi => by simp [hi]⟩, fun i hi => ?_⟩⟩
    have : (cur.toList.take (l.length * 1))[i]? = (uv l)[i]? := by rw [htk]
    rw [List.getElem?_take, if_pos (by omega), Array.getElem?_toList] at this
    show (cur[i]?).getD undef = _
    rw [this]
    unfold uv
    simp [List.getD_eq_getElem?_getD, hi]
theorem run_append_nil_nil {P : Program} (w : World) (t ty e : TypeId) (i : TypeInfo) (ht : P.underlying t = some (.slice e)) (hi : P.info? e = some i) (c : Nat) : (Builtin.append_ #[t, t] ty #[.slice none 0 0, .slice none 0 c]).run P w = .ok (.slice none 0 0) w := by
  simp [Builtin.append_, run_underlying ht, sizeOf, typeInfo, hi, Builtin.lenOf, Builtin.firstCells]
theorem run_copy {w : World} (A : Option Addr) (l : List Nat) (c : Nat) (hr : RowAt w A l) (hl : l.length ≤ 3000000) :
    ∃ A' c' w', (Builtin.append_ #[89, 89] 89 #[.slice none 0 0, .slice A l.length c]).run Tryd.prog w = .ok (.slice A' l.length c') w' ∧ l.length ≤ c' ∧ RowAt w' A' l ∧ Within w w' := by
  obtain ⟨i0, hi0, hz0, hz1, hz2⟩ := info_parts Tryd.infoW
  have hU : Tryd.prog.underlying 89 = some (.slice 22) := by kernel_rfl
  rcases A with _ | ad
  · have h0 : l = [] := by
      rcases Nat.eq_zero_or_pos l.length with h | h
      · exact List.eq_nil_of_length_eq_zero h
      · obtain ⟨g, _, _, e, _⟩ := hr h; cases e
    subst h0
    exact ⟨none, 0, w, run_append_nil_nil w _ _ _ i0 hU hi0 c, by simp, RowAt.nil, Within.refl _⟩
  · have hcells : ∀ j u, (uv l)[j]? = some u → w.cell? (ad.add j) = some u := by
      intro j u hu
      obtain ⟨hj, rfl⟩ := uv_at l hu
      obtain ⟨g, e, _, hc⟩ := hr.cell hj
      have e' := Option.some.inj e
      rw [e', add_zero_off]; exact hc
    obtain ⟨v', w', hrun, h2, h3, _, _⟩ := run_append_own_at (P := Tryd.prog) w w.heap.size 89 89 22 i0 (.int .u32 0) 1 4 hU hi0 hz0 hz1 hz2 rfl (by decide) (.slice none 0 0) 0 [] (World.ownsRow_nil _ _ _ _) ad l.length c (uv l)
      (by simp [uv]) hcells (by intro u hu; obtain ⟨x, _, rfl⟩ := List.mem_map.1 hu; rfl) (by unfold maxLen; omega) (by omega) (Nat.le_refl _)
    rw [List.nil_append] at h2
    obtain ⟨A', c', rfl, hc, hr'⟩ := rowAt_of_owns h2
    refine ⟨A', c', w', hrun, hc, hr', ⟨h3.os, h3.tape, h3.output, h3.size, fun k hk => h3.block k hk (by intro e; cases e)⟩⟩
theorem RowAt.drew {w : World} {A : Option Addr} {l : List Nat} (h : RowAt w A l) : RowAt w.drew A l := h
theorem wp_copy {w : World} {o : Oper} {a : Act} {K : Act → World → Prop} {Q : Exit → Act → World → Prop} (s x : Operand) (A : Option Addr) (l : List Nat) (c : Nat)
    (ho : o.op = .call { callee := .builtin .append, args := #[s, x], argTypes := #[89, 89] }) (ht : o.type = 89) (hs : a.eval s = .slice none 0 0) (hx : a.eval x = .slice A l.length c) (hr : RowAt w A l) (hl : l.length ≤ 3000000)
    (h : ∀ A' c' w', l.length ≤ c' → RowAt w' A' l → Within w w' → K (a.put o.dst (.slice A' l.length c')) w') : o.wp Tryd.prog a w K Q := by
  obtain ⟨A', c', w', hrun, h1, h2, h3⟩ := run_copy A l c hr hl
  rw [← ht] at hrun
  unfold Oper.wp execOp
  simp only [ho, resolve, invoke, builtin, Sem.run_bind, Sem.run_pure, Result.andThen_ok, List.map_toArray, List.map_cons, List.map_nil, hs, hx, ht] at hrun ⊢
  rw [hrun]
  exact h A' c' w' h1 h2 h3

set_option maxRecDepth 100000 in
set_option maxHeartbeats 600000 in
theorem Bset0 (z x : Nat) (b : Bool) (A : Option Addr) (l : List Nat) (c : Nat) (hw : Words l) (hl : l.length ≤ 2000000) (w : World) (hz : IntTy w z) (c0 : w.cell? ⟨x, 0, none⟩ = some (.bool b)) (c1 : w.cell? ⟨x, 1, none⟩ = some (.slice A l.length c)) (hr : RowAt w A l) :
    Calls Tryd.prog 129 #[.pointer (some ⟨z, 0, none⟩), .pointer (some ⟨x, 0, none⟩)] w (PutI w z (sgv b (wval l))) := by
  have HZ := Lib.hid hz; have HW := Lib.hid hw; have HR := Lib.hid hr; clear hz hw hr
  have hlt := World.block_lt_of_cell? w _ c0
  go_enter Tryd.func129, Tryd.ntmps129
  go_wp2
  refine wp_region_sched (fun W => W.cell? ⟨x, 0, none⟩ = some (.bool b) ∧ W.cell? ⟨x, 1, none⟩ = some (.slice A l.length c)) 10 [(0, true), (1, true), (2, true), (3, true), (4, true), (5, true), (6, true), (7, true), (8, true), (9, false), (10, false), (11, false)] (by kernel_rfl) (by kernel_rfl) ⟨c0, c1⟩ ?_
  intro hS
  repeat
    apply sched_firm rfl rfl hS
    · intro wq hq
      have hq0 := hq.1; have hq1 := hq.2
      clear hq
      go_simp
      first | rfl | (trace_state; fail)
    simp only [Act.put, List.setIfInBounds_toArray, List.set_cons_zero, List.set_cons_succ]
  refine sched_one rfl rfl (fun K hK => ?_)
  refine wp_copy (.const (.slice none 0 0)) (.tmp 13) A l c rfl rfl rfl rfl (RowAt.drew HR.out) (Nat.le_trans hl (by decide)) ?_
  intro A' c' w2 hc' hr' hb'
  have hb2 : Within w w2 := (Within.refl w).drew.trans hb'
  refine hK _ _ (fun _ => ⟨(hb2.cells _ _ hlt).trans c0, (hb2.cells _ _ hlt).trans c1⟩) ?_
  clear hK K hS
  try simp only [Act.put, List.setIfInBounds_toArray, List.set_cons_zero, List.set_cons_succ]
  refine sched_one rfl rfl (fun K hK => ?_)
  go_simp
  refine (Bput z b l A' c' HW.out hc' hl w2 hr' (HZ.out.of hb2)).mono ?_
  rintro e3 w3 ⟨rfl, hI, hG⟩
  refine hK _ _ (fun h => absurd h (by decide)) ?_
  clear hK K
  try simp only [Act.put, List.setIfInBounds_toArray, List.set_cons_zero, List.set_cons_succ]
  refine sched_one rfl rfl (fun K hK => ?_)
  go_simp
  refine hK _ _ (fun h => absurd h (by decide)) ?_
  clear hK K
  try simp only [Act.put, List.setIfInBounds_toArray, List.set_cons_zero, List.set_cons_succ]
  refine sched_nil ?_
  go_wp2
  go_ret
  exact ⟨rfl, hI, grown_trans (grown_within z hb2) hG⟩
end Go.Proofs.YtifgngmebnjfkaaDoor
