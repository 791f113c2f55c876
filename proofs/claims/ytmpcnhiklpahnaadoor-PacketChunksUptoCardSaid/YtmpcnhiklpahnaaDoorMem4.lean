/- Words for memory: slices of readings, read. -/
import Derived.Test.YtmpcnhiklpahnaaDoorMem2
import Derived.Test.YtmpcnhiklpahnaaDoorPk11
namespace Go.Proofs.YtmpcnhiklpahnaaDoor
open Go.RowKit

/-- block g holds these bytes from its beginning, and may be written -/
def RowB (w : World) (g : Nat) (l : List Nat) : Prop := (∀ i, i < l.length → w.cell? ⟨g, i, none⟩ = some (.int .u8 ((l.getD i 0 : Nat) : Int))) ∧ ∀ o, w.frozen? ⟨g, o, none⟩ = false
theorem add_at (g k : Nat) : (⟨g, 0, none⟩ : Addr).add k = ⟨g, k, none⟩ := by
  unfold Addr.add; split
  · rename_i h; rw [h]
  · rw [Nat.zero_add]
theorem OwnB.row {w : World} {base : Nat} {v : Value} {l : List Nat} (h : OwnB w base v l) (hn : 0 < l.length) : ∃ g c, v = .slice (some ⟨g, 0, none⟩) l.length c ∧ l.length ≤ c ∧ base ≤ g ∧ g < w.heap.size ∧ RowB w g l := by
  rcases h.2 with ⟨_, h0⟩ | ⟨g, cap, cur, hv, hg, hb, hc, _, _, _⟩
  · omega
  · obtain ⟨hlt, _⟩ := Array.getElem?_eq_some_iff.1 hb
    refine ⟨g, cap, hv, hc, hg, hlt, fun i hi => ?_, fun o => by simp [World.frozen?, hb]⟩
    have := World.ownsRow.cells (g := g) h (by rw [hv]; rfl) i (.int .u8 ((l.getD i 0 : Nat) : Int)) (by
      unfold u8v; rw [List.getElem?_map, List.getElem?_eq_getElem hi, Option.map_some]; simp [List.getD, List.getElem?_eq_getElem hi])
    rwa [add_at] at this
theorem RowB.at {w : World} {g : Nat} {l : List Nat} (h : RowB w g l) (hg : g < w.heap.size) : SlAt w (some ⟨g, 0, none⟩) (u8v l) := fun _ => by
  refine ⟨_, rfl, hg, fun j u hu => ?_⟩
  unfold u8v at hu
  rw [List.getElem?_map, Option.map_eq_some_iff] at hu
  obtain ⟨x, hx, rfl⟩ := hu
  obtain ⟨hj, hx⟩ := List.getElem?_eq_some_iff.1 hx
  rw [add_at, h.1 j hj]
  simp [List.getD, List.getElem?_eq_getElem hj, hx]
theorem getD_set_same (l : List Nat) (i x : Nat) (h : i < l.length) : (l.set i x).getD i 0 = x := by simp [List.getD, h]
theorem getD_set_else (l : List Nat) (i j x : Nat) (h : i ≠ j) : (l.set i x).getD j 0 = l.getD j 0 := by simp [List.getD, List.getElem?_set_ne h]
theorem RowB.set {w : World} {g : Nat} {l : List Nat} (h : RowB w g l) (i x : Nat) (hi : i < l.length) : RowB (w.setCell ⟨g, i, none⟩ (.int .u8 (x : Int))) g (l.set i x) := by
  refine ⟨fun j hj => ?_, fun o => by simpa using h.2 o⟩
  rw [List.length_set] at hj
  by_cases e : i = j
  · subst e
    rw [getD_set_same _ _ _ hi, World.cell?_setCell_same _ _ _ (h.1 i hi)]
  · rw [getD_set_else _ _ _ _ e, World.cell?_setCell_other _ _ _ _ (by intro k; injection k with _ k _; exact e k)]
    exact h.1 j hj
theorem RowB.of {w w' : World} {g : Nat} {l : List Nat} (h : RowB w g l) (k : Within w w') (hg : g < w.heap.size) : RowB w' g l :=
  ⟨fun i hi => (k.cells g i hg).trans (h.1 i hi), fun o => (k.frozens g o hg).trans (h.2 o)⟩
/-- a number taken round a length: in Go's way, made not negative -/
theorem round_at (c : Int) (M : Nat) (h0 : 0 < M) (h1 : M ≤ 1048576) : ∃ k : Nat, k < M ∧ (c.tmod (M : Int) + (M : Int)).tmod (M : Int) = (k : Int) ∧ -(M : Int) < c.tmod (M : Int) ∧ c.tmod (M : Int) < (M : Int) := by
  have hl := Int.tmod_lt_of_pos c (b := (M : Int)) (by omega)
  have hg : -(M : Int) < c.tmod (M : Int) := by
    have := Int.lt_tmod_of_pos c (b := (M : Int)) (by omega)
    exact this
  obtain ⟨x, hx⟩ : ∃ x, x = c.tmod (M : Int) := ⟨_, rfl⟩
  rw [← hx] at hl hg ⊢
  have h2 := Int.tmod_eq_emod_of_nonneg (a := x + M) (b := (M : Int)) (by omega)
  have h3 := Int.emod_nonneg (x + M) (b := (M : Int)) (by omega)
  have h4 := Int.emod_lt_of_pos (x + M) (b := (M : Int)) (by omega)
  exact ⟨((x + M).tmod M).toNat, by omega, by omega, hg, hl⟩
end Go.Proofs.YtmpcnhiklpahnaaDoor
namespace Go.Proofs.YtmpcnhiklpahnaaDoor
open Go.RowKit

/-- at A lie these readings, to be read -/
def RdsAt (w : World) (A : Option Addr) (rs : List Rd) : Prop := ∀ (i : Nat) r, rs[i]? = some r → ∃ g Av cv, A = some ⟨g, 0, none⟩ ∧ g < w.heap.size ∧ w.cell? ⟨g, 4 * i, none⟩ = some (.int .i64 (r.sensor : Int)) ∧ w.cell? ⟨g, 4 * i + 1, none⟩ = some (.int .u32 (r.seq : Int)) ∧ w.cell? ⟨g, 4 * i + 2, none⟩ = some (.int .u32 (r.stamp : Int)) ∧ w.cell? ⟨g, 4 * i + 3, none⟩ = some (.slice Av r.vals.length cv) ∧ SlAt w Av (f64v r.vals)
theorem RdsAt.of {w w' : World} {A : Option Addr} {rs : List Rd} (h : RdsAt w A rs) (k : Within w w') : RdsAt w' A rs := fun i r hi => by
  obtain ⟨g, Av, cv, h1, h2, h3, h4, h5, h6, h7⟩ := h i r hi
  have key : ∀ j, w'.cell? ⟨g, j, none⟩ = w.cell? ⟨g, j, none⟩ := fun j => k.cells _ _ h2
  exact ⟨g, Av, cv, h1, Nat.lt_of_lt_of_le h2 k.size, (key _).trans h3, (key _).trans h4, (key _).trans h5, (key _).trans h6, h7.of k⟩
theorem cellsR_get : ∀ (ps : List (Rd × Value)) (i : Nat) (p : Rd × Value), ps[i]? = some p → ∀ j u, (rdC p.1 p.2)[j]? = some u → (cellsR ps)[4 * i + j]? = some u
  | [], i, p, h, _, _, _ => by simp at h
  | q :: ps, 0, p, h, j, u, hu => by
    simp at h; subst h
    have hj : j < 4 := by
      obtain ⟨hj, _⟩ := List.getElem?_eq_some_iff.1 hu
      exact hj
    rw [cellsR, List.flatMap_cons, List.getElem?_append_left (by show _ < 4; omega), Nat.mul_zero, Nat.zero_add]
    exact hu
  | q :: ps, i + 1, p, h, j, u, hu => by
    simp at h
    rw [cellsR, List.flatMap_cons, List.getElem?_append_right (by show 4 ≤ _; omega), show 4 * (i + 1) + j - (rdC q.1 q.2).length = 4 * i + j by show 4 * (i + 1) + j - 4 = _; omega]
    exact cellsR_get ps i p h j u hu
theorem RdsO.at {w : World} {base : Nat} {v : Value} {rs : List Rd} (h : RdsO w base v rs) : ∃ A c, v = .slice A rs.length c ∧ rs.length ≤ c ∧ RdsAt w A rs ∧ ∀ ad, A = some ad → base ≤ ad.block := by
  obtain ⟨ps, rfl, hrow, hps⟩ := h
  rcases hrow.2 with ⟨rfl, h0⟩ | ⟨g, cap, cur, rfl, hg, hb, hc, _, _, _⟩
  · have : ps = [] := List.eq_nil_of_length_eq_zero h0
    subst this
    exact ⟨none, 0, rfl, Nat.le_refl _, fun i r hi => by simp at hi, fun ad e => by cases e⟩
  · obtain ⟨hlt, _⟩ := Array.getElem?_eq_some_iff.1 hb
    refine ⟨some ⟨g, 0, none⟩, cap, by rw [List.length_map], by rw [List.length_map]; exact hc, fun i r hi => ?_, fun ad e => by injection e with e; subst e; exact hg⟩
    rw [List.getElem?_map, Option.map_eq_some_iff] at hi
    obtain ⟨p, hp, rfl⟩ := hi
    obtain ⟨Av, cv, hv, _, hs, _⟩ := (hps p (List.mem_of_getElem? hp)).1.form
    have key : ∀ j u, (rdC p.1 p.2)[j]? = some u → w.cell? ⟨g, 4 * i + j, none⟩ = some u := fun j u hu => by rw [← add_at]; exact World.ownsRow.cells (g := g) hrow rfl _ _ (cellsR_get ps i p hp j u hu)
    refine ⟨g, Av, cv, rfl, hlt, key 0 _ rfl, key 1 _ rfl, key 2 _ rfl, ?_, hs⟩
    rw [key 3 _ rfl, hv]
/-- what was there before a block was made is there still, though that block is written into -/
theorem Within.aside {a b c : World} {bk : Nat} (k : Within a b) (h : But bk b c) (hb : a.heap.size ≤ bk) : Within a c := ((But.in_ k).trans h).out hb
theorem CellsP.but {w w' : World} {bk g : Nat} {kv : Value} {F D : Nat} (h : CellsP w bk kv F D) (k : But g w w') (hne : bk ≠ g) : CellsP w' bk kv F D := CellsP.grown h k (fun e => hne (Option.some.inj e))
theorem RdrP.of {w w' : World} {bk base : Nat} {K : List Nat} {F D : Nat} (h : RdrP w bk base K F D) (k : Within w w') : RdrP w' bk base K F D := by
  obtain ⟨A, c, h1, h2, h3, h4⟩ := h
  exact ⟨A, c, h1.of k, h2, h3.of k, h4⟩
theorem RdrP.but {w w' : World} {bk base g : Nat} {K : List Nat} {F D : Nat} (h : RdrP w bk base K F D) (k : But g w w') (hne : bk ≠ g) (hg : g < base) : RdrP w' bk base K F D := by
  obtain ⟨A, c, h1, h2, h3, h4⟩ := h
  exact ⟨A, c, h1.but k hne, h2, h3.but k (fun ad e => by have := h4 ad e; omega), h4⟩
theorem RdrP.lt {w : World} {bk base : Nat} {K : List Nat} {F D : Nat} (h : RdrP w bk base K F D) : bk < w.heap.size := by
  obtain ⟨A, c, h1, _⟩ := h
  exact h1.lt
end Go.Proofs.YtmpcnhiklpahnaaDoor
