/- Packets: readers: words. -/
import Derived.Test.YtmpcnhiklpahnaaDoorMem2
import Derived.ScopeJumps
import Derived.WalkMore
namespace Go.Proofs.YtmpcnhiklpahnaaDoor
open Go.RowKit


/-- a goto's frame, walked once -/
theorem wp_scope_jumps' {P : Program} {a : Act} {w : World} {Q : Exit → Act → World → Prop} {c r : Code} (l : Nat) (J : Act → World → Prop) (μ : Act → World → Nat) (hf : findLabel c l = some (.seq .skip r))
    (first : (∀ a w, J a w → r.wp P (Exit.jump l J Q) a w) → c.wp P (Exit.jump l J Q) a w)
    (pass : ∀ a w, J a w → r.wp P (Exit.jump l (fun a' w' => J a' w' ∧ μ a' w' < μ a w) Q) a w) : (Code.scope c).wp P Q a w :=
  wp_scope_jumps l J μ hf (first fun a w h => Code.wp_mono (fun e a' w' h => by
    cases e with
    | goto l' => exact ⟨h.1, h.2.1⟩
    | _ => exact h) (pass a w h)) (fun a w h => wp_seq (wp_skip (pass a w h)))
theorem list_eta (d : Value) : ∀ (l : List Value), l = (List.range l.length).map (fun i => l.getD i d)
  | l => by
    apply List.ext_getElem
    · simp
    · intro i h1 h2
      simp [List.getD, List.getElem?_eq_getElem h1]
theorem frame97 (a' : Act) (hd : a'.defers = []) (hs : a'.tmps.size = 97) : ∃ u : Nat → Value, (∀ i, a'.tmps.getD i undef = u i) ∧ a' = { tmps := #[u 0, u 1, u 2, u 3, u 4, u 5, u 6, u 7, u 8, u 9, u 10, u 11, u 12, u 13, u 14, u 15, u 16, u 17, u 18, u 19, u 20, u 21, u 22, u 23, u 24, u 25, u 26, u 27, u 28, u 29, u 30, u 31, u 32, u 33, u 34, u 35, u 36, u 37, u 38, u 39, u 40, u 41, u 42, u 43, u 44, u 45, u 46, u 47, u 48, u 49, u 50, u 51, u 52, u 53, u 54, u 55, u 56, u 57, u 58, u 59, u 60, u 61, u 62, u 63, u 64, u 65, u 66, u 67, u 68, u 69, u 70, u 71, u 72, u 73, u 74, u 75, u 76, u 77, u 78, u 79, u 80, u 81, u 82, u 83, u 84, u 85, u 86, u 87, u 88, u 89, u 90, u 91, u 92, u 93, u 94, u 95, u 96], defers := [] } := by
  refine ⟨fun i => a'.tmps.getD i undef, fun _ => rfl, ?_⟩
  obtain ⟨⟨l⟩, df⟩ := a'
  simp only at hd
  subst hd
  have hl : l.length = 97 := hs
  have h := list_eta undef l
  rw [hl] at h
  have e : ∀ i, (Array.mk l).getD i undef = l.getD i undef := fun i => by
    rw [List.getD_eq_getElem?_getD]; simp
  simp only [e]
  exact congrArg (fun x => ({ tmps := ⟨x⟩, defers := [] } : Act)) h
theorem But.own {bk o : Nat} {a b : World} (h : But bk a b) (u : Value) : But bk a (b.setCell ⟨bk, o, none⟩ u) := h.set (.inl rfl) u
/-- a reader of the program: what is kept, what was counted -/
def CellsP (w : World) (bk : Nat) (kv : Value) (F D : Nat) : Prop := w.cell? ⟨bk, 0, none⟩ = some (.bool true) ∧ w.cell? ⟨bk, 1, none⟩ = some kv ∧ w.cell? ⟨bk, 2, none⟩ = some (.int .i64 (F : Int)) ∧ w.cell? ⟨bk, 3, none⟩ = some (.int .i64 (D : Int)) ∧ ∀ o, w.frozen? ⟨bk, o, none⟩ = false
def RdrP (w : World) (bk base : Nat) (K : List Nat) (F D : Nat) : Prop := ∃ A c, CellsP w bk (.slice A K.length c) F D ∧ K.length ≤ c ∧ SlAt w A (u8v K) ∧ ∀ ad, A = some ad → base ≤ ad.block
theorem CellsP.of {w w' : World} {bk : Nat} {kv : Value} {F D : Nat} (h : CellsP w bk kv F D) (k : Within w w') : CellsP w' bk kv F D := by
  have hb := World.block_lt_of_cell? _ _ h.1
  obtain ⟨h0, h1, h2, h3, h4⟩ := h
  exact ⟨(k.cells _ _ hb).trans h0, (k.cells _ _ hb).trans h1, (k.cells _ _ hb).trans h2, (k.cells _ _ hb).trans h3, fun o => (k.frozens _ _ hb).trans (h4 o)⟩
theorem CellsP.grown {w w' : World} {bk : Nat} {kv : Value} {F D : Nat} {row : Option Nat} (h : CellsP w bk kv F D) (k : w.grownBy w' row) (hne : some bk ≠ row) : CellsP w' bk kv F D := by
  have hb := World.block_lt_of_cell? _ _ h.1
  obtain ⟨h0, h1, h2, h3, h4⟩ := h
  exact ⟨k.cell h0 hne, k.cell h1 hne, k.cell h2 hne, k.cell h3 hne, fun o => (World.frozen?_of_block (k.block bk hb hne)).trans (h4 o)⟩
theorem RdsO.own_lt {w : World} {base : Nat} {v : Value} {rs : List Rd} (h : RdsO w base v rs) : ∀ j, v.ownBlock = some j → base ≤ j ∧ j < w.heap.size := by
  obtain ⟨ps, _, h2, _⟩ := h
  exact h2.lt
theorem CellsP.lt {w : World} {bk : Nat} {kv : Value} {F D : Nat} (h : CellsP w bk kv F D) : bk < w.heap.size := World.block_lt_of_cell? _ _ h.1
theorem CellsP.kv' {w : World} {bk : Nat} {kv : Value} {F D : Nat} (h : CellsP w bk kv F D) (u : Value) : CellsP (w.setCell ⟨bk, 1, none⟩ u) bk u F D := by
  obtain ⟨h0, h1, h2, h3, h4⟩ := h
  refine ⟨?_, World.cell?_setCell_same _ _ _ h1, ?_, ?_, fun o => ?_⟩
  · rw [World.cell?_setCell_other _ _ _ _ (by simp)]; exact h0
  · rw [World.cell?_setCell_other _ _ _ _ (by simp)]; exact h2
  · rw [World.cell?_setCell_other _ _ _ _ (by simp)]; exact h3
  · rw [World.frozen?_setCell]; exact h4 o
theorem CellsP.fr {w : World} {bk : Nat} {kv : Value} {F D : Nat} (h : CellsP w bk kv F D) (x : Nat) : CellsP (w.setCell ⟨bk, 2, none⟩ (.int .i64 (x : Int))) bk kv x D := by
  obtain ⟨h0, h1, h2, h3, h4⟩ := h
  refine ⟨?_, ?_, World.cell?_setCell_same _ _ _ h2, ?_, fun o => ?_⟩
  · rw [World.cell?_setCell_other _ _ _ _ (by simp)]; exact h0
  · rw [World.cell?_setCell_other _ _ _ _ (by simp)]; exact h1
  · rw [World.cell?_setCell_other _ _ _ _ (by simp)]; exact h3
  · rw [World.frozen?_setCell]; exact h4 o
theorem CellsP.dr {w : World} {bk : Nat} {kv : Value} {F D : Nat} (h : CellsP w bk kv F D) (x : Nat) : CellsP (w.setCell ⟨bk, 3, none⟩ (.int .i64 (x : Int))) bk kv F x := by
  obtain ⟨h0, h1, h2, h3, h4⟩ := h
  refine ⟨?_, ?_, ?_, World.cell?_setCell_same _ _ _ h3, fun o => ?_⟩
  · rw [World.cell?_setCell_other _ _ _ _ (by simp)]; exact h0
  · rw [World.cell?_setCell_other _ _ _ _ (by simp)]; exact h1
  · rw [World.cell?_setCell_other _ _ _ _ (by simp)]; exact h2
  · rw [World.frozen?_setCell]; exact h4 o
/-- what is still to be read, what was told, how much was dropped -/
def FeedRel (W1 : World) (bk : Nat) (tot : List Nat) (A' : Option Addr) (n' c' : Nat) (v : Value) (wr : World) (rs : List Rd) (d : Nat) (b : List Nat) : Prop :=
  n' = b.length ∧ Bytes b ∧ b.length ≤ c' ∧ SlAt W1 A' (u8v b) ∧ (∀ ad, A' = some ad → ad.block ≠ bk) ∧ feedV pf tot = (rs ++ (feedV pf b).1, d + (feedV pf b).2.1, (feedV pf b).2.2) ∧ rs.length + d + b.length ≤ tot.length ∧
    RdsO wr W1.heap.size v rs ∧ But bk W1 wr
theorem FeedRel.drop1 {W1 wr : World} {bk : Nat} {tot : List Nat} {A' A1 : Option Addr} {n n' c' c1 : Nat} {v : Value} {rs : List Rd} {d : Nat} {b : List Nat} (h : FeedRel W1 bk tot A' n' c' v wr rs d b) (hn : b.length = n + 1)
    (hf : feedV pf b = ((feedV pf (b.drop 1)).1, (feedV pf (b.drop 1)).2.1 + 1, (feedV pf (b.drop 1)).2.2)) (hA : n = 0 ∨ (∃ ad, A' = some ad ∧ A1 = some ⟨ad.block, ad.off + 1, none⟩)) (hA1 : ∀ ad, A1 = some ad → ad.block ≠ bk) (hc : n ≤ c1) {w' : World} (k : But bk wr w') (hb : bk < W1.heap.size) : FeedRel W1 bk tot A1 n c1 v w' rs (d + 1) (b.drop 1) := by
  obtain ⟨rfl, h1, h2, h3, h4, h5, h6, h7, h8⟩ := h
  have hl : (b.drop 1).length = n := by rw [List.length_drop]; omega
  refine ⟨hl.symm, h1.drop 1, by rw [hl]; exact hc, ?_, hA1, ?_, by rw [hl]; omega, h7.but k hb, h8.trans k⟩
  · rcases hA with rfl | ⟨ad, rfl, rfl⟩
    · rw [List.eq_nil_of_length_eq_zero hl]; exact SlAt.nil
    · have := h3.drop 1
      rw [add_plain' ad (by decide)] at this
      unfold u8v at this ⊢; rwa [← List.map_drop] at this
  · rw [h5, hf]; simp only [Prod.mk.injEq, true_and, and_true]; omega
theorem FeedRel.frame {W1 wr : World} {bk : Nat} {tot : List Nat} {A' A1 : Option Addr} {n n' c' c1 z : Nat} {v v' : Value} {rs : List Rd} {d : Nat} {b : List Nat} {r : Rd} (h : FeedRel W1 bk tot A' n' c' v wr rs d b) (hn : b.length = z + n) (hz : 0 < z)
    (hf : feedV pf b = (r :: (feedV pf (b.drop z)).1, (feedV pf (b.drop z)).2.1, (feedV pf (b.drop z)).2.2)) (hA : n = 0 ∨ (∃ ad, A' = some ad ∧ A1 = some (ad.add z))) (hA1 : ∀ ad, A1 = some ad → ad.block ≠ bk) (hc : n ≤ c1) {w' : World} (k : But bk W1 w') (hr : RdsO w' W1.heap.size v' (rs ++ [r])) : FeedRel W1 bk tot A1 n c1 v' w' (rs ++ [r]) d (b.drop z) := by
  obtain ⟨rfl, h1, h2, h3, h4, h5, h6, h7, h8⟩ := h
  have hl : (b.drop z).length = n := by rw [List.length_drop]; omega
  refine ⟨hl.symm, h1.drop z, by rw [hl]; exact hc, ?_, hA1, ?_, by rw [hl, List.length_append, List.length_singleton]; omega, hr, k⟩
  · rcases hA with rfl | ⟨ad, rfl, rfl⟩
    · rw [List.eq_nil_of_length_eq_zero hl]; exact SlAt.nil
    · have := h3.drop z
      unfold u8v at this ⊢; rwa [← List.map_drop] at this
  · rw [h5, hf]; simp only [List.append_assoc, List.singleton_append]
def lenS : Value → Nat
  | .slice _ n _ => n
  | _ => 0
/-- what Feed leaves -/
def FeedPost (W : World) (bk F D : Nat) (tot : List Nat) (e : Ending) (w' : World) : Prop := ∃ v, e = .returned v ∧ RdsO w' W.heap.size v (feedV pf tot).1 ∧ RdrP w' bk W.heap.size (feedV pf tot).2.2 (F + (feedV pf tot).1.length) (D + (feedV pf tot).2.1) ∧ But bk W w'
theorem FeedPost.end_ {W W1 wr w3 : World} {bk F D : Nat} {tot : List Nat} {A' : Option Addr} {n' c' n c : Nat} {A : Option Addr} {v kv : Value} {rs : List Rd} {d : Nat} {b : List Nat} (hW : Within W W1) (hb : bk < W.heap.size) (h : FeedRel W1 bk tot A' n' c' v wr rs d b) (hf : feedV pf b = ([], 0, b))
    (hC : CellsP wr bk kv (F + rs.length) (D + d)) (hO : OwnB w3 wr.heap.size (.slice A n c) b) (h3 : Within wr w3) : FeedPost W bk F D tot (.returned v) (w3.setCell ⟨bk, 1, none⟩ (.slice A n c)) := by
  obtain ⟨rfl, h1, h2, h3', h4, h5, h6, h7, h8⟩ := h
  rw [hf] at h5
  obtain ⟨A2, c2, e, hc2, hs2, hA2⟩ := hO.form
  injection e with e1 e2 e3
  subst e1; subst e2; subst e3
  have hw : W.heap.size ≤ wr.heap.size := Nat.le_trans hW.size h8.size
  have hB : But bk W wr := (But.in_ hW).trans h8
  refine ⟨v, rfl, ?_, ⟨A, c, ?_, ?_, ?_, fun ad e => Nat.le_trans hw (hA2 ad e)⟩, (hB.within h3).set (.inl rfl) _⟩
  · rw [h5]; simp only [List.append_nil]
    exact (((h7.of h3).but ((But.refl bk w3).set (.inl rfl) _) (Nat.lt_of_lt_of_le hb hW.size)).less hW.size)
  · rw [h5]; simp only [List.append_nil, Nat.add_zero]
    exact (hC.of h3).kv' _
  · rw [h5]; exact hc2
  · rw [h5]
    exact hs2.but ((But.refl bk w3).set (.inl rfl) _) (fun ad e => by have := hA2 ad e; omega)
theorem wpList_append_ex {P : Program} {w : World} {ops : Array Oper} {rest : List Oper} {o : Oper} {a : Act} {Q : Exit → Act → World → Prop} (hgd : o.guard = none) (s x : Operand) (t : TypeId)
    (ho : o.op = .call { callee := .builtin .append, args := #[s, x], argTypes := #[t, t] }) (vs vx : Value) (hs : a.eval s = vs) (hx : a.eval x = vx)
    (h : ∃ v' w', (Builtin.append_ #[t, t] o.type #[vs, vx]).run P w = .ok v' w' ∧ wpList P ops Q rest (a.put o.dst v') w') : wpList P ops Q (o :: rest) a w := by
  obtain ⟨v', w', hrun, h⟩ := h
  exact wpList_append_run hgd s x t ho vs vx hs hx hrun h

end Go.Proofs.YtmpcnhiklpahnaaDoor
