/- Whole numbers in memory: lists of words in rows, numbers behind pointers. -/
import Derived.Test.YtifgngmebnjfkaaDoorMag
import Derived.Deep.OwnRows
import Derived.OwnWalk
namespace Go.Proofs.YtifgngmebnjfkaaDoor
open Go.RowKit

/-- at A lie the words l (in a row of words, perhaps with more behind them) -/
def RowAt (w : World) (A : Option Addr) (l : List Nat) : Prop :=
  0 < l.length → ∃ g m f, A = some ⟨g, 0, none⟩ ∧ l.length ≤ m ∧ w.rowIs g 22 m f ∧ ∀ i, i < l.length → f i = .int .u32 ((l.getD i 0 : Nat) : Int)
/-- a row of the call's own: the words l, and no more -/
def OwnW (w : World) (g : Nat) (l : List Nat) : Prop := w.rowIs g 22 l.length (fun i => .int .u32 ((l.getD i 0 : Nat) : Int))
/-- what block g is: a number -/
def IntTy (w : World) (g : Nat) : Prop := ∃ b s, w.heap[g]? = some (.cells #[.bool b, s] 91 (0, 0))
/-- the number v behind a pointer -/
def IntB (w : World) (g : Nat) (v : Int) : Prop :=
  ∃ A c, w.heap[g]? = some (.cells #[.bool (decide (v < 0)), .slice A (dg v.natAbs).length c] 91 (0, 0)) ∧ (dg v.natAbs).length ≤ c ∧ RowAt w A (dg v.natAbs)

theorem rowIs_ne {w : World} {g h : Nat} {m : Nat} {f : Nat → Value} (k : w.rowIs g 22 m f) (hz : IntTy w h) : g ≠ h := by
  rintro rfl
  obtain ⟨c, hb, _⟩ := k
  obtain ⟨b, s, hz⟩ := hz
  rw [hb] at hz
  injection hz with hz
  injection hz with _ ht
  exact absurd ht (by decide)
theorem RowAt.of_block {w w' : World} {A : Option Addr} {l : List Nat} (h : RowAt w A l) (hk : ∀ g m f, w.rowIs g 22 m f → w'.heap[g]? = w.heap[g]?) : RowAt w' A l := by
  intro hl
  obtain ⟨g, m, f, e, hm, hr, hf⟩ := h hl
  exact ⟨g, m, f, e, hm, hr.of_block (hk _ _ _ hr), hf⟩
theorem RowAt.of {w w' : World} {A : Option Addr} {l : List Nat} (h : RowAt w A l) (k : Within w w') : RowAt w' A l := h.of_block fun _ _ _ hr => k.block _ hr.lt
theorem RowAt.grown {w w' : World} {A : Option Addr} {l : List Nat} {z : Nat} (h : RowAt w A l) (hz : IntTy w z) (k : w.grownBy w' (some z)) : RowAt w' A l :=
  h.of_block fun _ _ _ hr => k.block _ hr.lt (fun e => rowIs_ne hr hz (by injection e))
theorem RowAt.setInt {w : World} {A : Option Addr} {l : List Nat} {z o : Nat} (h : RowAt w A l) (hz : IntTy w z) (u : Value) : RowAt (w.setCell ⟨z, o, none⟩ u) A l :=
  h.of_block fun _ _ _ hr => Below.heap_setCell w _ u _ (rowIs_ne hr hz)
theorem RowAt.take {w : World} {A : Option Addr} {l : List Nat} (h : RowAt w A l) (k : Nat) : RowAt w A (l.take k) := by
  intro hl
  have hl' : 0 < l.length := Nat.lt_of_lt_of_le hl (List.length_take_le' _ _)
  obtain ⟨g, m, f, e, hm, hr, hf⟩ := h hl'
  refine ⟨g, m, f, e, Nat.le_trans (List.length_take_le' _ _) hm, hr, fun i hi => ?_⟩
  have hi' : i < l.length := Nat.lt_of_lt_of_le hi (List.length_take_le' _ _)
  rw [hf i hi']
  have : i < k := Nat.lt_of_lt_of_le hi (List.length_take_le _ _)
  simp [List.getD_eq_getElem?_getD, List.getElem?_take, this]
theorem RowAt.nil {w : World} {A : Option Addr} : RowAt w A [] := fun h => absurd h (by simp)
theorem OwnW.at {w : World} {g : Nat} {l : List Nat} (h : OwnW w g l) : RowAt w (some ⟨g, 0, none⟩) l := fun _ => ⟨g, _, _, rfl, Nat.le_refl _, h, fun _ _ => rfl⟩
theorem OwnW.made (w : World) (n : Nat) : OwnW (w.alloc (.cells (madeCells #[.int .u32 0] n) 22)) w.heap.size (List.replicate n 0) := by
  have h := World.rowIs_made w (.int .u32 0) n 22
  unfold OwnW
  rw [List.length_replicate]
  refine h.congr fun i hi => ?_
  simp [List.getD_eq_getElem?_getD, hi]
theorem OwnW.set {w : World} {g : Nat} {l : List Nat} (h : OwnW w g l) (i x : Nat) (hi : i < l.length) : OwnW (w.setCell ⟨g, i, none⟩ (.int .u32 (x : Int))) g (l.set i x) := by
  have k := World.rowIs.set h i (.int .u32 (x : Int))
  unfold OwnW
  rw [List.length_set]
  refine k.congr fun j hj => ?_
  show (if j = i then _ else _) = _
  by_cases e : j = i
  · subst e; rw [if_pos rfl, getD_set_eq _ _ _ hi]
  · rw [if_neg e, getD_set_ne _ _ _ _ (fun h => e h.symm)]
theorem OwnW.cell {w : World} {g : Nat} {l : List Nat} (h : OwnW w g l) {i : Nat} (hi : i < l.length) : w.cell? ⟨g, i, none⟩ = some (.int .u32 ((l.getD i 0 : Nat) : Int)) := World.rowIs.cell h hi
theorem OwnW.frozen {w : World} {g : Nat} {l : List Nat} (h : OwnW w g l) (i : Nat) : w.frozen? ⟨g, i, none⟩ = false := World.rowIs.frozen h i
theorem OwnW.of_block {w w' : World} {g : Nat} {l : List Nat} (h : OwnW w g l) (e : w'.heap[g]? = w.heap[g]?) : OwnW w' g l := World.rowIs.of_block h e
theorem OwnW.alloc {w : World} {g : Nat} {l : List Nat} (h : OwnW w g l) (o : Obj) : OwnW (w.alloc o) g l := World.rowIs.alloc h o
theorem OwnW.drew {w : World} {g : Nat} {l : List Nat} (h : OwnW w g l) : OwnW w.drew g l := h
theorem OwnW.lt {w : World} {g : Nat} {l : List Nat} (h : OwnW w g l) : g < w.heap.size := World.rowIs.lt h
theorem RowAt.cell {w : World} {A : Option Addr} {l : List Nat} (h : RowAt w A l) {i : Nat} (hi : i < l.length) : ∃ g, A = some ⟨g, 0, none⟩ ∧ g < w.heap.size ∧ w.cell? ⟨g, i, none⟩ = some (.int .u32 ((l.getD i 0 : Nat) : Int)) := by
  obtain ⟨g, m, f, e, hm, hr, hf⟩ := h (by omega)
  exact ⟨g, e, hr.lt, by rw [hr.cell (by omega), hf i hi]⟩

theorem IntB.ty {w : World} {g : Nat} {v : Int} (h : IntB w g v) : IntTy w g := by
  obtain ⟨A, c, hb, _⟩ := h
  exact ⟨_, _, hb⟩
theorem IntB.lt {w : World} {g : Nat} {v : Int} (h : IntB w g v) : g < w.heap.size := by
  obtain ⟨A, c, hb, _⟩ := h
  obtain ⟨hlt, _⟩ := Array.getElem?_eq_some_iff.1 hb
  exact hlt
theorem IntTy.lt {w : World} {g : Nat} (h : IntTy w g) : g < w.heap.size := by
  obtain ⟨A, c, hb⟩ := h
  obtain ⟨hlt, _⟩ := Array.getElem?_eq_some_iff.1 hb
  exact hlt
theorem IntTy.of {w w' : World} {g : Nat} (h : IntTy w g) (k : Within w w') : IntTy w' g := by
  have := h.lt
  obtain ⟨b, s, hb⟩ := h
  exact ⟨b, s, (k.block _ this).trans hb⟩
theorem IntB.of {w w' : World} {g : Nat} {v : Int} (h : IntB w g v) (k : Within w w') : IntB w' g v := by
  have hl := h.lt
  obtain ⟨A, c, hb, hc, hr⟩ := h
  exact ⟨A, c, (k.block _ hl).trans hb, hc, hr.of k⟩
theorem IntB.grown {w w' : World} {g z : Nat} {v : Int} (h : IntB w g v) (hz : IntTy w z) (hne : g ≠ z) (k : w.grownBy w' (some z)) : IntB w' g v := by
  have hl := h.lt
  obtain ⟨A, c, hb, hc, hr⟩ := h
  exact ⟨A, c, (k.block _ hl (fun e => hne (by injection e))).trans hb, hc, hr.grown hz k⟩
theorem IntB.cells {w : World} {g : Nat} {v : Int} (h : IntB w g v) : ∃ A c, w.cell? ⟨g, 0, none⟩ = some (.bool (decide (v < 0))) ∧ w.cell? ⟨g, 1, none⟩ = some (.slice A (dg v.natAbs).length c) ∧ (dg v.natAbs).length ≤ c ∧ RowAt w A (dg v.natAbs) := by
  obtain ⟨A, c, hb, hc, hr⟩ := h
  exact ⟨A, c, by simp [World.cell?, hb], by simp [World.cell?, hb], hc, hr⟩
theorem IntTy.frozen {w : World} {g : Nat} (h : IntTy w g) (i : Nat) : w.frozen? ⟨g, i, none⟩ = false := by
  obtain ⟨b, s, hb⟩ := h
  simp [World.frozen?, hb]
theorem IntTy.cells {w : World} {g : Nat} (h : IntTy w g) : ∃ b s, w.cell? ⟨g, 0, none⟩ = some (.bool b) ∧ w.cell? ⟨g, 1, none⟩ = some s := by
  obtain ⟨b, s, hb⟩ := h
  exact ⟨b, s, by simp [World.cell?, hb], by simp [World.cell?, hb]⟩
/-- a number that is made: 0 -/
theorem IntB.made (w : World) : IntB (w.alloc (.cells #[.bool false, .slice none 0 0] 91)) w.heap.size 0 :=
  ⟨none, 0, by rw [show (dg (0 : Int).natAbs) = [] from dg_zero]; exact heap_alloc_new w _, by rw [show (dg (0 : Int).natAbs) = [] from dg_zero]; exact Nat.le_refl _, by rw [show (dg (0 : Int).natAbs) = [] from dg_zero]; exact RowAt.nil⟩
theorem Within.grown {W w w' : World} {z : Nat} (h : Within W w) (k : w.grownBy w' (some z)) (hz : W.heap.size ≤ z) : Within W w' :=
  Below.grown h k h.size (fun _ e => by injection e with e; omega)
theorem grown_trans {a b c : World} {z : Nat} (h : a.grownBy b (some z)) (k : b.grownBy c (some z)) : a.grownBy c (some z) :=
  ⟨k.os.trans h.os, k.tape.trans h.tape, k.output.trans h.output, Nat.le_trans h.size k.size, fun i hi hne => (k.block i (Nat.lt_of_lt_of_le hi h.size) hne).trans (h.block i hi hne)⟩
theorem grown_within {a b : World} (z : Nat) (h : Within a b) : a.grownBy b (some z) := ⟨h.os, h.tape, h.output, h.size, fun i hi _ => h.block i hi⟩
theorem grown_set {a w : World} {z o : Nat} (h : a.grownBy w (some z)) (u : Value) : a.grownBy (w.setCell ⟨z, o, none⟩ u) (some z) :=
  ⟨h.os, h.tape, h.output, by simpa [World.setCell] using h.size, fun i hi hne => (Below.heap_setCell w _ u i (fun e => hne (by subst e; rfl))).trans (h.block i hi hne)⟩

/-- returned: the words of n, in memory that was new or had not turned -/
def RetW (W : World) (n : Nat) (e : Ending) (w' : World) : Prop := ∃ A c, e = .returned (.slice A (dg n).length c) ∧ (dg n).length ≤ c ∧ RowAt w' A (dg n) ∧ Within W w'
/-- returned: the pointer z, where v now lies; nothing else has turned -/
def PutI (W : World) (z : Nat) (v : Int) (e : Ending) (w' : World) : Prop := e = .returned (.pointer (some ⟨z, 0, none⟩)) ∧ IntB w' z v ∧ W.grownBy w' (some z)
/-- a size that is far from every bound -/
def Small (n : Nat) : Prop := (dg n).length ≤ 1000000
theorem Small.of_lt {n : Nat} (k : Nat) (h : n < 2 ^ (32 * k)) (hk : k ≤ 1000000) : Small n :=
  Nat.le_trans (dg_len_le (by rw [show (4294967296 : Nat) = 2 ^ 32 from rfl, ← Nat.pow_mul]; exact h)) hk
theorem Small.le {a b : Nat} (h : Small b) (k : a ≤ b) : Small a := Nat.le_trans (dg_len_mono k) h
end Go.Proofs.YtifgngmebnjfkaaDoor
