/- Words for memory: what one block alone may have turned; slices of readings. -/
import Derived.Test.YtmpcnhiklpahnaaDoorPk7
import Derived.Maps.Range
import Derived.Maps.RangeWalk
namespace Go.Proofs.YtmpcnhiklpahnaaDoor
open Go.RowKit

/-- but for block bk nothing old has turned -/
def But (bk : Nat) (a w : World) : Prop := a.grownBy w (some bk)
theorem But.refl (bk : Nat) (a : World) : But bk a a := World.grownBy.refl a _
theorem But.trans {bk : Nat} {a b c : World} (h : But bk a b) (k : But bk b c) : But bk a c := World.grownBy.trans h k
theorem But.in_ {bk : Nat} {a b : World} (h : Within a b) : But bk a b := World.grownBy.but (within_grown h) _
theorem But.within {bk : Nat} {a b c : World} (h : But bk a b) (k : Within b c) : But bk a c := h.trans (But.in_ k)
theorem But.set {bk : Nat} {a b : World} (h : But bk a b) {p : Addr} (hp : p.block = bk ∨ a.heap.size ≤ p.block) (u : Value) : But bk a (b.setCell p u) :=
  ⟨h.os, h.tape, h.output, Nat.le_trans h.size (by simp [World.setCell]), fun k hk hne => (Below.heap_setCell _ _ _ _ (by
    intro e; rcases hp with hp | hp
    · exact hne (by rw [e, hp])
    · omega)).trans (h.block k hk hne)⟩
theorem But.alloc {bk : Nat} {a b : World} (h : But bk a b) (o : Obj) : But bk a (b.alloc o) := h.within ((Within.refl b).alloc o)
theorem But.drew {bk : Nat} {a b : World} (h : But bk a b) : But bk a b.drew := h.within ((Within.refl b).drew)
theorem But.grown {bk : Nat} {a b c : World} {row : Option Nat} (h : But bk a b) (k : b.grownBy c row) (hr : ∀ j, row = some j → a.heap.size ≤ j) : But bk a c :=
  World.grownBy.andThen h k fun j hj => .inl (hr j hj)
theorem But.sizes {bk : Nat} {a b : World} (h : But bk a b) : a.heap.size ≤ b.heap.size := h.size
theorem But.cells {bk : Nat} {a b : World} (h : But bk a b) (k o : Nat) (hk : k < a.heap.size) (hne : k ≠ bk) : b.cell? ⟨k, o, none⟩ = a.cell? ⟨k, o, none⟩ :=
  World.cell?_of_block (h.block k hk (fun e => hne (Option.some.inj e)))
theorem But.frozens {bk : Nat} {a b : World} (h : But bk a b) (k o : Nat) (hk : k < a.heap.size) (hne : k ≠ bk) : b.frozen? ⟨k, o, none⟩ = a.frozen? ⟨k, o, none⟩ :=
  World.frozen?_of_block (h.block k hk (fun e => hne (Option.some.inj e)))
theorem But.out {bk : Nat} {a b : World} (h : But bk a b) (hb : a.heap.size ≤ bk) : Within a b := ⟨h.os, h.tape, h.output, h.size, fun k hk => h.block k hk (fun e => by have := Option.some.inj e; omega)⟩
theorem SlAt.but {w w' : World} {bk : Nat} {A : Option Addr} {xs : List Value} (h : SlAt w A xs) (k : But bk w w') (hA : ∀ ad, A = some ad → ad.block ≠ bk) : SlAt w' A xs := fun hn => by
  obtain ⟨ad, e, hb, hc⟩ := h hn
  have key : ∀ j, w'.cell? (ad.add j) = w.cell? (ad.add j) := fun j => World.cell?_of_block (k.block _ (by rw [add_block]; exact hb) (fun e' => hA ad e (by rw [add_block] at e'; exact Option.some.inj e')))
  exact ⟨ad, e, Nat.lt_of_lt_of_le hb k.size, fun j u hu => (key j).trans (hc j u hu)⟩
theorem FmS.but {w w' : World} {bk : Nat} (h : FmS w) (k : But bk w w') (hb : bk ≠ 1) : FmS w' := by
  have h0 := World.block_lt_of_cell? _ _ h.1
  unfold FmS at h ⊢
  simp only [k.cells _ _ h0 (Ne.symm hb)]
  exact h
theorem ownsRow_but {w w' : World} {bk base : Nat} {e : TypeId} {size : Nat} {v : Value} {n : Nat} {xs : List Value} (h : w.ownsRow base e size v n xs) (k : But bk w w') (hb : bk < base) : w'.ownsRow base e size v n xs := by
  refine h.kept k ?_
  cases hv : v.ownBlock with
  | none => exact .inl rfl
  | some j => exact .inr (fun e => by have := (h.lt j hv).1; have := Option.some.inj e; omega)
theorem OwnF.but {w w' : World} {bk base : Nat} {v : Value} {l : List Nat} (h : OwnF w base v l) (k : But bk w w') (hb : bk < base) : OwnF w' base v l := ownsRow_but h k hb
theorem OwnB.but {w w' : World} {bk base : Nat} {v : Value} {l : List Nat} (h : OwnB w base v l) (k : But bk w w') (hb : bk < base) : OwnB w' base v l := ownsRow_but h k hb

/-! slices of readings -/
def rdC (r : Rd) (v : Value) : List Value := [.int .i64 (r.sensor : Int), .int .u32 (r.seq : Int), .int .u32 (r.stamp : Int), v]
def cellsR (ps : List (Rd × Value)) : List Value := ps.flatMap fun p => rdC p.1 p.2
theorem cellsR_len (ps : List (Rd × Value)) : (cellsR ps).length = ps.length * 4 := by
  induction ps with
  | nil => rfl
  | cons p l ih => rw [cellsR, List.flatMap_cons, List.length_append, ← cellsR, ih, List.length_cons]; show 4 + _ = _; omega
def RdsP (w : World) (base : Nat) (v : Value) (ps : List (Rd × Value)) : Prop :=
  w.ownsRow base 29 4 v ps.length (cellsR ps) ∧ ∀ p ∈ ps, OwnF w base p.2 p.1.vals ∧ (p.2.ownBlock = none ∨ p.2.ownBlock ≠ v.ownBlock)
/-- a slice of readings of the call's own -/
def RdsO (w : World) (base : Nat) (v : Value) (rs : List Rd) : Prop := ∃ ps, ps.map Prod.fst = rs ∧ RdsP w base v ps
theorem RdsO.nil_ (w : World) (base : Nat) : RdsO w base (.slice none 0 0) [] := ⟨[], rfl, World.ownsRow_nil _ _ _ _, fun p hp => by cases hp⟩
theorem RdsP.but {w w' : World} {bk base : Nat} {v : Value} {ps : List (Rd × Value)} (h : RdsP w base v ps) (k : But bk w w') (hb : bk < base) : RdsP w' base v ps :=
  ⟨ownsRow_but h.1 k hb, fun p hp => ⟨(h.2 p hp).1.but k hb, (h.2 p hp).2⟩⟩
theorem RdsO.but {w w' : World} {bk base : Nat} {v : Value} {rs : List Rd} (h : RdsO w base v rs) (k : But bk w w') (hb : bk < base) : RdsO w' base v rs := by
  obtain ⟨ps, h1, h2⟩ := h; exact ⟨ps, h1, h2.but k hb⟩
theorem RdsO.of {w w' : World} {base : Nat} {v : Value} {rs : List Rd} (h : RdsO w base v rs) (k : Within w w') : RdsO w' base v rs := by
  obtain ⟨ps, h1, h2, h3⟩ := h
  exact ⟨ps, h1, h2.kept (within_grown k) (by cases hv : v.ownBlock <;> simp), fun p hp => ⟨(h3 p hp).1.of k, (h3 p hp).2⟩⟩
theorem RdsO.less {w : World} {base base' : Nat} {v : Value} {rs : List Rd} (h : RdsO w base v rs) (k : base' ≤ base) : RdsO w base' v rs := by
  obtain ⟨ps, h1, h2, h3⟩ := h
  refine ⟨ps, h1, ⟨h2.1, ?_⟩, fun p hp => ⟨(h3 p hp).1.less k, (h3 p hp).2⟩⟩
  rcases h2.2 with h | ⟨g, cap, cur, h1, hb, h3⟩
  · exact .inl h
  · exact .inr ⟨g, cap, cur, h1, Nat.le_trans k hb, h3⟩
theorem RdsO.form {w : World} {base : Nat} {v : Value} {rs : List Rd} (h : RdsO w base v rs) : ∃ A c, v = .slice A rs.length c ∧ rs.length ≤ c ∧ (∀ ad, A = some ad → base ≤ ad.block) := by
  obtain ⟨ps, rfl, h2, _⟩ := h
  rcases h2.2 with ⟨rfl, h0⟩ | ⟨g, cap, cur, rfl, hg, _, hc, _⟩
  · refine ⟨none, 0, ?_, ?_, fun ad e => by cases e⟩
    · rw [List.length_map, h0]
    · rw [List.length_map]; omega
  · refine ⟨_, _, by rw [List.length_map], by rw [List.length_map]; exact hc, fun ad e => by injection e with e; subst e; exact hg⟩

theorem Tryd.infoRd : (Tryd.prog.info? 29).map (fun i => (i.zero, i.size, i.bytes)) = some (some (.agg #[.int .i64 0, .int .u32 0, .int .u32 0, .slice none 0 0]), 4, 40) := by kernel_rfl
theorem rdC_one (r : Rd) {v : Value} (hv : v.oneCell' = true) : ∀ u ∈ rdC r v, u.oneCell' = true := by
  intro u hu
  unfold rdC at hu
  simp only [List.mem_cons, List.not_mem_nil, or_false] at hu
  rcases hu with rfl | rfl | rfl | rfl
  · rfl
  · rfl
  · rfl
  · exact hv
/-- one reading more on a row of the call's own -/
theorem run_app_rd (w : World) (base : Nat) (v : Value) (rs : List Rd) (r : Rd) (u : Value) (hown : RdsO w base v rs) (hu : OwnF w base u r.vals) (hne : u.ownBlock = none ∨ u.ownBlock ≠ v.ownBlock) (hl : (rs.length + 1) * 40 ≤ 140737488355328) (hbase : base ≤ w.heap.size) :
    ∃ v' w', (Builtin.append_ #[58, 58] 58 #[v, .slice (some ⟨w.heap.size, 0, none⟩) 1 1]).run Tryd.prog (w.alloc (.cells #[.int .i64 (r.sensor : Int), .int .u32 (r.seq : Int), .int .u32 (r.stamp : Int), u] 29)) = .ok v' w' ∧ RdsO w' base v' (rs ++ [r]) ∧ w.grownBy w' v.ownBlock ∧ (∀ j, v.ownBlock = some j → base ≤ j) := by
  obtain ⟨ps, rfl, hrow, hps⟩ := hown
  obtain ⟨i0, hi0, hz0, hz1, hz2⟩ := info_parts Tryd.infoRd
  have hin := (Within.refl w).alloc (.cells #[.int .i64 (r.sensor : Int), .int .u32 (r.seq : Int), .int .u32 (r.stamp : Int), u] 29)
  have hu1 : u.oneCell' = true := by obtain ⟨A, c, rfl, _⟩ := hu.form; rfl
  have hrow' := hrow.kept (within_grown hin) (by cases hv : v.ownBlock <;> simp)
  have hcell : ∀ (j : Nat) x, (rdC r u)[j]? = some x → (w.alloc (.cells #[.int .i64 (r.sensor : Int), .int .u32 (r.seq : Int), .int .u32 (r.stamp : Int), u] 29)).cell? ((⟨w.heap.size, 0, none⟩ : Addr).add j) = some x := fun j x hx => by
    have e : (⟨w.heap.size, 0, none⟩ : Addr).add j = ⟨w.heap.size, j, none⟩ := by
      unfold Addr.add; split
      · rename_i h; rw [h]
      · rw [Nat.zero_add]
    rw [e, World.cell?_alloc_at _ _ _ _ rfl]
    unfold rdC at hx
    match j, hx with
    | 0, hx => exact hx
    | 1, hx => exact hx
    | 2, hx => exact hx
    | 3, hx => exact hx
    | j + 4, hx => simp at hx
  obtain ⟨v', w', h1, h2, h3, _, h5⟩ := run_append_own_at (P := Tryd.prog) (w := w.alloc (.cells #[.int .i64 (r.sensor : Int), .int .u32 (r.seq : Int), .int .u32 (r.stamp : Int), u] 29)) base 58 58 29 i0 (.agg #[.int .i64 0, .int .u32 0, .int .u32 0, .slice none 0 0]) 4 40 (by kernel_rfl) hi0 hz0 hz1 hz2 rfl (by decide) v ps.length (cellsR ps) hrow' ⟨w.heap.size, 0, none⟩ 1 1 (rdC r u) rfl hcell (rdC_one r hu1)
    (by rw [List.length_map] at hl; unfold maxLen; omega) (by rw [List.length_map] at hl; omega) (by simp; omega)
  have hlt := fun j hj => (hrow.lt j hj)
  refine ⟨v', w', h1, ⟨ps ++ [(r, u)], by rw [List.map_append]; rfl, ?_, ?_⟩, ?_, fun j hj => (hlt j hj).1⟩
  · have e : cellsR (ps ++ [(r, u)]) = cellsR ps ++ rdC r u := by unfold cellsR; rw [List.flatMap_append]; simp
    rw [List.length_append, e]; exact h2
  · have key : ∀ x xs, OwnF w base x xs → (x.ownBlock = none ∨ x.ownBlock ≠ v.ownBlock) → OwnF w' base x xs ∧ (x.ownBlock = none ∨ x.ownBlock ≠ v'.ownBlock) := fun x xs h hn => by
      refine ⟨(h.of hin).kept h3 hn, ?_⟩
      rcases hn with hn | hn
      · exact .inl hn
      · rcases h5 with h5 | h5
        · exact .inr (by rw [h5]; exact hn)
        · cases hx : x.ownBlock with
          | none => exact .inl rfl
          | some j =>
            refine .inr (fun e => ?_)
            rw [h5] at e
            have := (h.lt j hx).2
            have := Option.some.inj e
            simp at this
            omega
    intro p hp
    rcases List.mem_append.1 hp with h | h
    · exact key _ _ (hps p h).1 (hps p h).2
    · rw [List.mem_singleton] at h; rw [h]; exact key _ _ hu hne
  · exact ⟨h3.os, h3.tape, h3.output, Nat.le_trans (by simp) h3.size, fun k hk hn => (h3.block k (by simp; omega) hn).trans (Below.heap_alloc _ _ _ hk)⟩
end Go.Proofs.YtmpcnhiklpahnaaDoor
