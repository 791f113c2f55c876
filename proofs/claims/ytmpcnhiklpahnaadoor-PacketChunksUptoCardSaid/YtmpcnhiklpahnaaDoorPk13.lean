/- Packets: the reference's readers: words. -/
import Derived.Test.YtmpcnhiklpahnaaDoorPk11
import Derived.Test.YtmpcnhiklpahnaaDoorPk10
import Derived.IntWalk
namespace Go.Proofs.YtmpcnhiklpahnaaDoor
open Go.RowKit


/-- a reader of the reference: what is kept, what was counted -/
def CellsR (w : World) (bk : Nat) (kv : Value) (F D : Nat) : Prop := w.cell? ⟨bk, 0, none⟩ = some kv ∧ w.cell? ⟨bk, 1, none⟩ = some (.int .i64 (F : Int)) ∧ w.cell? ⟨bk, 2, none⟩ = some (.int .i64 (D : Int)) ∧ ∀ o, w.frozen? ⟨bk, o, none⟩ = false
def RdrR (w : World) (bk base : Nat) (K : List Nat) (F D : Nat) : Prop := ∃ A c, CellsR w bk (.slice A K.length c) F D ∧ K.length ≤ c ∧ SlAt w A (u8v K) ∧ ∀ ad, A = some ad → base ≤ ad.block
theorem CellsR.of {w w' : World} {bk : Nat} {kv : Value} {F D : Nat} (h : CellsR w bk kv F D) (k : Within w w') : CellsR w' bk kv F D := by
  have hb := World.block_lt_of_cell? _ _ h.1
  obtain ⟨h0, h2, h3, h4⟩ := h
  exact ⟨(k.cells _ _ hb).trans h0, (k.cells _ _ hb).trans h2, (k.cells _ _ hb).trans h3, fun o => (k.frozens _ _ hb).trans (h4 o)⟩
theorem CellsR.grown {w w' : World} {bk : Nat} {kv : Value} {F D : Nat} {row : Option Nat} (h : CellsR w bk kv F D) (k : w.grownBy w' row) (hne : some bk ≠ row) : CellsR w' bk kv F D := by
  have hb := World.block_lt_of_cell? _ _ h.1
  obtain ⟨h0, h2, h3, h4⟩ := h
  exact ⟨k.cell h0 hne, k.cell h2 hne, k.cell h3 hne, fun o => (World.frozen?_of_block (k.block bk hb hne)).trans (h4 o)⟩
theorem CellsR.lt {w : World} {bk : Nat} {kv : Value} {F D : Nat} (h : CellsR w bk kv F D) : bk < w.heap.size := World.block_lt_of_cell? _ _ h.1
theorem CellsR.kv' {w : World} {bk : Nat} {kv : Value} {F D : Nat} (h : CellsR w bk kv F D) (u : Value) : CellsR (w.setCell ⟨bk, 0, none⟩ u) bk u F D := by
  obtain ⟨h0, h2, h3, h4⟩ := h
  refine ⟨World.cell?_setCell_same _ _ _ h0, ?_, ?_, fun o => ?_⟩
  · rw [World.cell?_setCell_other _ _ _ _ (by simp)]; exact h2
  · rw [World.cell?_setCell_other _ _ _ _ (by simp)]; exact h3
  · rw [World.frozen?_setCell]; exact h4 o
theorem CellsR.fr {w : World} {bk : Nat} {kv : Value} {F D : Nat} (h : CellsR w bk kv F D) (x : Nat) : CellsR (w.setCell ⟨bk, 1, none⟩ (.int .i64 (x : Int))) bk kv x D := by
  obtain ⟨h0, h2, h3, h4⟩ := h
  refine ⟨?_, World.cell?_setCell_same _ _ _ h2, ?_, fun o => ?_⟩
  · rw [World.cell?_setCell_other _ _ _ _ (by simp)]; exact h0
  · rw [World.cell?_setCell_other _ _ _ _ (by simp)]; exact h3
  · rw [World.frozen?_setCell]; exact h4 o
theorem CellsR.dr {w : World} {bk : Nat} {kv : Value} {F D : Nat} (h : CellsR w bk kv F D) (x : Nat) : CellsR (w.setCell ⟨bk, 2, none⟩ (.int .i64 (x : Int))) bk kv F x := by
  obtain ⟨h0, h2, h3, h4⟩ := h
  refine ⟨?_, ?_, World.cell?_setCell_same _ _ _ h3, fun o => ?_⟩
  · rw [World.cell?_setCell_other _ _ _ _ (by simp)]; exact h0
  · rw [World.cell?_setCell_other _ _ _ _ (by simp)]; exact h2
  · rw [World.frozen?_setCell]; exact h4 o
def RfeedPost (W : World) (bk F D : Nat) (tot : List Nat) (e : Ending) (w' : World) : Prop := ∃ v, e = .returned v ∧ RdsO w' W.heap.size v (feedV pf tot).1 ∧ RdrR w' bk W.heap.size (feedV pf tot).2.2 (F + (feedV pf tot).1.length) (D + (feedV pf tot).2.1) ∧ But bk W w'
theorem RfeedPost.end_ {W W1 wr w3 : World} {bk F D : Nat} {tot : List Nat} {A' : Option Addr} {n' c' n c : Nat} {A : Option Addr} {v kv : Value} {rs : List Rd} {d : Nat} {b : List Nat} (hW : Within W W1) (hb : bk < W.heap.size) (h : FeedRel W1 bk tot A' n' c' v wr rs d b) (hf : feedV pf b = ([], 0, b))
    (hC : CellsR wr bk kv (F + rs.length) (D + d)) (hO : OwnB w3 wr.heap.size (.slice A n c) b) (h3 : Within wr w3) : RfeedPost W bk F D tot (.returned v) (w3.setCell ⟨bk, 0, none⟩ (.slice A n c)) := by
  obtain ⟨rfl, h1, h2, h3', h4, h5, h6, h7, h8⟩ := h
  rw [hf] at h5
  obtain ⟨A2, c2, e, hc2, hs2, hA2⟩ := hO.form
  injection e with e1 e2 e3
  subst e1; subst e2; subst e3
  have hw : W.heap.size ≤ wr.heap.size := Nat.le_trans hW.size h8.size
  have hB : But bk W wr := (But.in_ hW).trans h8
  refine ⟨v, rfl, ?_, ⟨A, c, ?_, ?_, ?_, fun ad e => Nat.le_trans hw (hA2 ad e)⟩, (hB.within h3).set (.inl rfl) _⟩
  · rw [h5]; simp only [List.append_nil]
    exact (((h7.of h3).but ((But.refl bk w3).set (.inl rfl) _) (Nat.lt_of_lt_of_le hb hW.size)).less hW.size)
  · rw [h5]; simp only [List.append_nil, Nat.add_zero]
    exact (hC.of h3).kv' _
  · rw [h5]; exact hc2
  · rw [h5]
    exact hs2.but ((But.refl bk w3).set (.inl rfl) _) (fun ad e => by have := hA2 ad e; omega)
theorem headB_4 (b : List Nat) (k : Nat) (h : 4 ≤ k ∨ b.length ≤ k) : headB (b.take k) = headB b := by
  rcases Nat.lt_or_ge b.length k with h1 | h1
  · rw [List.take_of_length_le (Nat.le_of_lt h1)]
  · by_cases h2 : 4 ≤ k
    · have := headB_same (x := b.take k) (b.drop k) (by rw [List.length_take]; omega)
      rw [List.take_append_drop] at this; exact this.symm
    · rw [List.take_of_length_le (by omega)]

end Go.Proofs.YtmpcnhiklpahnaaDoor
