/- Packets: readers anew; what is counted, in facts; chunks in memory. -/
import Derived.Test.YtmpcnhiklpahnaaDoorPk20
namespace Go.Proofs.YtmpcnhiklpahnaaDoor
open Go.RowKit

/-- a reader just made keeps nothing: its bytes may lie wherever -/
theorem New_free (w : World) : Calls Tryd.prog 26 #[] w fun e w' => e = .returned (.pointer (some ⟨w.heap.size, 0, none⟩)) ∧ (∀ base, RdrP w' w.heap.size base [] 0 0) ∧ Within w w' ∧ w'.heap.size = w.heap.size + 1 := by
  go_enter Tryd.func26, Tryd.ntmps26
  go_wp2
  go_ret
  refine ⟨rfl, fun base => ⟨none, 0, ⟨?_, ?_, ?_, ?_, fun o => ?_⟩, Nat.le_refl _, SlAt.nil, fun ad e => by cases e⟩, (Within.refl w).alloc _, by simp⟩
  all_goals simp
theorem len_le_sum (l : List Rd) : l.length ≤ (l.map fun r => (packV pf r).length).sum := by
  induction l with
  | nil => simp
  | cons r l ih => simp only [List.length_cons, List.map_cons, List.sum_cons]; have : 16 ≤ (packV pf r).length := by rw [packV_len]; omega
                   omega
theorem feed_count {x : List Nat} (h : Bytes x) : (feedV pf x).1.length + (feedV pf x).2.1 + (feedV pf x).2.2.length ≤ x.length ∧ (feedV pf x).2.2.length < 64 ∧ Bytes (feedV pf x).2.2 ∧ ∀ r ∈ (feedV pf x).1, r.Ok pf := by
  obtain ⟨h1, h2⟩ := feed_all pf_ok x.length x (Nat.le_refl _) h
  obtain ⟨h3, h4⟩ := feedV_kept (F := pf) x.length x (Nat.le_refl _) h
  have := len_le_sum (feedV pf x).1
  exact ⟨by omega, h3, h4, h1⟩
theorem CellsR.but {w w' : World} {bk g : Nat} {kv : Value} {F D : Nat} (h : CellsR w bk kv F D) (k : But g w w') (hne : bk ≠ g) : CellsR w' bk kv F D := CellsR.grown h k (fun e => hne (Option.some.inj e))
theorem RdrR.of {w w' : World} {bk base : Nat} {K : List Nat} {F D : Nat} (h : RdrR w bk base K F D) (k : Within w w') : RdrR w' bk base K F D := by
  obtain ⟨A, c, h1, h2, h3, h4⟩ := h
  exact ⟨A, c, h1.of k, h2, h3.of k, h4⟩
theorem RdrR.but {w w' : World} {bk base g : Nat} {K : List Nat} {F D : Nat} (h : RdrR w bk base K F D) (k : But g w w') (hne : bk ≠ g) (hg : g < base) : RdrR w' bk base K F D := by
  obtain ⟨A, c, h1, h2, h3, h4⟩ := h
  exact ⟨A, c, h1.but k hne, h2, h3.but k (fun ad e => by have := h4 ad e; omega), h4⟩
theorem RdrR.lt {w : World} {bk base : Nat} {K : List Nat} {F D : Nat} (h : RdrR w bk base K F D) : bk < w.heap.size := by
  obtain ⟨A, c, h1, _⟩ := h
  exact h1.lt
/-- at A lie slices of these bytes -/
def ChAt (w : World) (A : Option Addr) (ls : List (List Nat)) : Prop := ∀ (i : Nat) l, ls[i]? = some l → ∃ ad Ai ci, A = some ad ∧ ad.block < w.heap.size ∧ w.cell? (ad.add i) = some (.slice Ai l.length ci) ∧ l.length ≤ ci ∧ SlAt w Ai (u8v l) ∧ Bytes l
theorem ChAt.of {w w' : World} {A : Option Addr} {ls : List (List Nat)} (h : ChAt w A ls) (k : Within w w') : ChAt w' A ls := fun i l hi => by
  obtain ⟨ad, Ai, ci, h1, h2, h3, h4, h5, h6⟩ := h i l hi
  exact ⟨ad, Ai, ci, h1, Nat.lt_of_lt_of_le h2 k.size, (k.cell (by rw [add_block]; exact h2)).trans h3, h4, h5.of k, h6⟩

end Go.Proofs.YtmpcnhiklpahnaaDoor
