/- Words for memory: a row of bytes that is written into; numbers taken round a length. -/
import Derived.Test.YtmpcnhiklpahnaaDoorMem2
namespace Go.Proofs.YtmpcnhiklpahnaaDoor
open Go.RowKit

/-- block g holds these bytes from its beginning, and may be written -/
def RowB (w : World) (g : Nat) (l : List Nat) : Prop := (∀ i, i < l.length → w.cell? ⟨g, i, none⟩ = some (.int .u8 ((l.getD i 0 : Nat) : Int))) ∧ ∀ o, w.frozen? ⟨g, o, none⟩ = false
theorem add_at (g k : Nat) : (⟨g, 0, none⟩ : Addr).add k = ⟨g, k, none⟩ := by
  unfold Addr.add; split
  · rename_i h; rw [h]
  · rw [Nat.zero_add]
theorem OwnB.row {w : World} {base : Nat} {v : Value} {l : List Nat} (h : OwnB w base v l) (hn : 0 < l.length) : ∃ g c, v = .slice (some ⟨g, 0, none⟩) l.length c ∧ l.length ≤ c ∧ base ≤ g ∧ g < w.heap.size ∧ RowB w g l := by
  rcases h.2 with ⟨_, h0⟩ | ⟨g, cap, cur, hv, hg, hb, hc, _, _, _⟩
  · omega
  · obtain ⟨hlt, _⟩ := Array.getElem?_eq_some_iff.1 hb
    refine ⟨g, cap, hv, hc, hg, hlt, fun i hi => ?_, fun o => by simp [World.frozen?, hb]⟩
    have := World.ownsRow.cells (g := g) h (by rw [hv]; rfl) i (.int .u8 ((l.getD i 0 : Nat) : Int)) (by
      unfold u8v; rw [List.getElem?_map, List.getElem?_eq_getElem hi, Option.map_some]; simp [List.getD, List.getElem?_eq_getElem hi])
    rwa [add_at] at this
theorem RowB.at {w : World} {g : Nat} {l : List Nat} (h : RowB w g l) (hg : g < w.heap.size) : SlAt w (some ⟨g, 0, none⟩) (u8v l) := fun _ => by
  refine ⟨_, rfl, hg, fun j u hu => ?_⟩
  unfold u8v at hu
  rw [List.getElem?_map, Option.map_eq_some_iff] at hu
  obtain ⟨x, hx, rfl⟩ := hu
  obtain ⟨hj, hx⟩ := List.getElem?_eq_some_iff.1 hx
  rw [add_at, h.1 j hj]
  simp [List.getD, List.getElem?_eq_getElem hj, hx]
theorem getD_set_same (l : List Nat) (i x : Nat) (h : i < l.length) : (l.set i x).getD i 0 = x := by simp [List.getD, h]
theorem getD_set_else (l : List Nat) (i j x : Nat) (h : i ≠ j) : (l.set i x).getD j 0 = l.getD j 0 := by simp [List.getD, List.getElem?_set_ne h]
theorem RowB.set {w : World} {g : Nat} {l : List Nat} (h : RowB w g l) (i x : Nat) (hi : i < l.length) : RowB (w.setCell ⟨g, i, none⟩ (.int .u8 (x : Int))) g (l.set i x) := by
  refine ⟨fun j hj => ?_, fun o => by simpa using h.2 o⟩
  rw [List.length_set] at hj
  by_cases e : i = j
  · subst e
    rw [getD_set_same _ _ _ hi, World.cell?_setCell_same _ _ _ (h.1 i hi)]
  · rw [getD_set_else _ _ _ _ e, World.cell?_setCell_other _ _ _ _ (by intro k; injection k with _ k _; exact e k)]
    exact h.1 j hj
theorem RowB.of {w w' : World} {g : Nat} {l : List Nat} (h : RowB w g l) (k : Within w w') (hg : g < w.heap.size) : RowB w' g l :=
  ⟨fun i hi => (k.cells g i hg).trans (h.1 i hi), fun o => (k.frozens g o hg).trans (h.2 o)⟩
/-- a number taken round a length: in Go's way, made not negative -/
theorem round_at (c : Int) (M : Nat) (h0 : 0 < M) (h1 : M ≤ 1048576) : ∃ k : Nat, k < M ∧ (c.tmod (M : Int) + (M : Int)).tmod (M : Int) = (k : Int) ∧ -(M : Int) < c.tmod (M : Int) ∧ c.tmod (M : Int) < (M : Int) := by
  have hl := Int.tmod_lt_of_pos c (b := (M : Int)) (by omega)
  have hg : -(M : Int) < c.tmod (M : Int) := by
    have := Int.lt_tmod_of_pos c (b := (M : Int)) (by omega)
    exact this
  obtain ⟨x, hx⟩ : ∃ x, x = c.tmod (M : Int) := ⟨_, rfl⟩
  rw [← hx] at hl hg ⊢
  have h2 := Int.tmod_eq_emod_of_nonneg (a := x + M) (b := (M : Int)) (by omega)
  have h3 := Int.emod_nonneg (x + M) (b := (M : Int)) (by omega)
  have h4 := Int.emod_lt_of_pos (x + M) (b := (M : Int)) (by omega)
  exact ⟨((x + M).tmod M).toNat, by omega, by omega, hg, hl⟩
end Go.Proofs.YtmpcnhiklpahnaaDoor
