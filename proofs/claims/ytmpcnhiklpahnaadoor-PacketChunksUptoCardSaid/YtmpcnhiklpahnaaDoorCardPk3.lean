/- What some cards of the packet seat ask besides: slices of slices of bytes opened, slices of whole numbers. -/
import Derived.Test.YtmpcnhiklpahnaaDoorCardPk
import Derived.Test.YtmpcnhiklpahnaaDoorPk23
import Derived.Deep.Slices
namespace Go.Proofs.YtmpcnhiklpahnaaDoor.Base
open Go.ChangeShapes Go.WideShapes Go.ChangeAt Go.RowKit

section
variable {H : Type} {enc : TypeId × Value → H} {W : World}
theorem weightsAll_mem {P : Program} {e : TypeId} {d : DataW H} : ∀ {l : List (DataW H)}, d ∈ l → ∀ n ∈ d.weights P e, n ∈ DataW.weightsAll P e l
  | [], h, _, _ => by cases h
  | x :: r, h, n, hn => by
    rw [DataW.weightsAll, List.mem_append]
    rcases List.mem_cons.1 h with rfl | h
    · exact .inl hn
    · exact .inr (weightsAll_mem h n hn)
theorem chosen {α : Type} [Inhabited α] {m : Nat} {p : Nat → α → Prop} (h : ∀ i, i < m → ∃ v, p i v) : ∃ V : Nat → α, ∀ i, i < m → p i (V i) := by
  classical
  refine ⟨fun i => if hi : i < m then (h i hi).choose else default, fun i hi => ?_⟩
  simp only [dif_pos hi]
  exact (h i hi).choose_spec
set_option maxRecDepth 100000 in
theorem slCells : Tryd.prog.cellsOf 26 = 1 := by kernel_rfl
set_option maxRecDepth 100000 in
theorem slBytes : Tryd.prog.bytesOf 26 = 24 := by kernel_rfl
set_option maxRecDepth 100000 in
/-- slices of bytes, side by side -/
theorem open_chunks {r : Reach} {b0 : Nat} {v : Value} {d : DataW H} {p : List MemPlace} (hv : Value.okWide Tryd.prog W r b0 46 v) (h : DataW.Trod enc Tryd.prog W 0 (fun _ => true) true 46 v d p) (hz : ∀ n ∈ d.weights Tryd.prog 46, n ≤ reachBytes) :
    ∃ (a0 : Option Addr) (cap : Nat) (ls : List (List Nat)), v = .slice a0 ls.length cap ∧ ls.length ≤ cap ∧ ls.length ≤ 140737488355328 ∧ ChAt W a0 ls := by
  obtain ⟨a, len, cap, rfl⟩ := okWide_slice Tryd.underlying46 hv
  obtain ⟨fuel, hf⟩ := h
  rcases Go.Deep.open_slice1 Tryd.underlying46 slCells (by simpa [Value.cells] using hf) with ⟨hcs, hx⟩ | ⟨ad, ln, cp, m, n, V, D, Pl, hcs, _, hl, _, hm, hx, hcell⟩
  · simp at hcs
    obtain ⟨rfl, rfl, rfl⟩ := hcs
    exact ⟨none, 0, [], rfl, Nat.le_refl _, Nat.zero_le _, fun i l hi => by simp at hi⟩
  · simp at hcs
    obtain ⟨rfl, rfl, rfl⟩ := hcs
    simp only [if_true] at hm
    have hm' := hm.symm
    subst hm'
    have hd := congrArg Prod.fst hx
    simp only at hd
    subst hd
    have hw : ∀ i, i < len → ∀ k ∈ (D i).weights Tryd.prog 26, k ≤ reachBytes := fun i hi k hk => by
      refine hz k ?_
      rw [DataW.weights, Tryd.underlying46]
      refine List.mem_cons.2 (.inr (List.mem_append.2 (.inl ?_)))
      exact weightsAll_mem (List.mem_map.2 ⟨i, List.mem_range.2 hi, rfl⟩) k hk
    have hlen : len ≤ 140737488355328 := by
      have := hz (len * 24 + (cap - len) * 24) (by
        rw [DataW.weights, Tryd.underlying46]
        refine List.mem_cons.2 (.inl ?_)
        rw [slBytes, List.length_map, List.length_map, List.length_range, List.length_range, Nat.add_mul])
      have e : reachBytes = 140737488351232 := rfl
      omega
    obtain ⟨Ls, hL⟩ := chosen (α := List Nat) (m := len) (p := fun i l => ∃ (a0 : Option Addr) (cap : Nat), V i = .slice a0 l.length cap ∧ l.length ≤ cap ∧ Bytes l ∧ SlAt W a0 (u8v l)) (fun i hi => by
      obtain ⟨_, ht⟩ := hcell i (by omega)
      obtain ⟨a0, c0, l, h1, h2, _, h3, h4⟩ := open_u8 (x := (D i, Pl i)) ht (hw i hi)
      exact ⟨l, a0, c0, h1, h2, h3, h4⟩)
    refine ⟨some ad, cap, (List.range len).map Ls, by rw [List.length_map, List.length_range], by rw [List.length_map, List.length_range]; exact hl, by rw [List.length_map, List.length_range]; exact hlen, fun i l hi => ?_⟩
    rw [List.getElem?_map, Option.map_eq_some_iff] at hi
    obtain ⟨j, hj, rfl⟩ := hi
    obtain ⟨hj1, hj2⟩ := List.getElem?_eq_some_iff.1 hj
    rw [List.length_range] at hj1
    rw [List.getElem_range] at hj2
    subst hj2
    obtain ⟨a0, c0, h1, h2, h3, h4⟩ := hL i hj1
    have hc := (hcell i (by omega)).1
    exact ⟨ad, a0, c0, rfl, by have := World.block_lt_of_cell? _ _ hc; rwa [add_block] at this, by rw [hc, h1], h2, h4, h3⟩
set_option maxRecDepth 100000 in
/-- whole numbers, side by side -/
theorem open_whole {r : Reach} {b0 : Nat} {v : Value} {d : DataW H} {p : List MemPlace} (hv : Value.okWide Tryd.prog W r b0 61 v) (h : DataW.Trod enc Tryd.prog W 0 (fun _ => true) true 61 v d p) (hz : ∀ n ∈ d.weights Tryd.prog 61, n ≤ reachBytes) :
    ∃ (a0 : Option Addr) (cap : Nat) (zs : List Int), v = .slice a0 zs.length cap ∧ zs.length ≤ cap ∧ zs.length * 8 ≤ 140737488355328 ∧ (∀ n ∈ zs, -9223372036854775808 ≤ n ∧ n < 9223372036854775808) ∧ SlAt W a0 (zs.map (Value.int .i64)) := by
  obtain ⟨a, len, cap, rfl⟩ := okWide_slice Tryd.underlying61 hv
  obtain ⟨fuel, hf⟩ := h
  obtain ⟨a0, cp, zs, h1, h2, h3, h4, h5⟩ := open_ns (x := (d, p)) (y := 8) Tryd.underlying61 Tryd.underlying3 (by kernel_rfl) (by kernel_rfl) (by simpa [Value.cells] using hf) hz
  refine ⟨a0, cp, zs, h1, h2, ?_, fun n hn => int_of_i64 (h4 n hn), h5⟩
  have e : reachBytes = 140737488351232 := rfl
  omega
end
end Go.Proofs.YtmpcnhiklpahnaaDoor.Base
