/- What the card of PacketFinds asks besides: slices of readings in bits opened. -/
import Derived.Test.YtmpcnhiklpahnaaDoorCardPk3
import Derived.Test.YtmpcnhiklpahnaaDoorPk24
namespace Go.Proofs.YtmpcnhiklpahnaaDoor.Base
open Go.ChangeShapes Go.WideShapes Go.ChangeAt Go.RowKit

section
variable {H : Type} {enc : TypeId × Value → H} {W : World}
set_option maxRecDepth 100000 in
theorem rdBytes : Tryd.prog.bytesOf 25 = 40 := by kernel_rfl
instance : Inhabited LRd := ⟨⟨0, 0, 0, []⟩⟩
theorem cells4 {w : World} {base : Nat} {a : Addr} {cs : List Value} (h : w.cells? base a 4 = some cs) : ∃ c0 c1 c2 c3, cs = [c0, c1, c2, c3] ∧ w.cell? (a.add 0) = some c0 ∧ w.cell? (a.add 1) = some c1 ∧ w.cell? (a.add 2) = some c2 ∧ w.cell? (a.add 3) = some c3 := by
  obtain ⟨_, hl, hc⟩ := World.cells?_some h
  match cs, hl with
  | [c0, c1, c2, c3], _ => exact ⟨c0, c1, c2, c3, rfl, by simpa using hc 0 (by omega), by simpa using hc 1 (by omega), by simpa using hc 2 (by omega), by simpa using hc 3 (by omega)⟩
theorem open_list4 {P : Program} {w : World} {base : Nat} {spare : Nat → Bool} {held : Bool} {t : TypeId} {f0 f1 f2 f3 : Field} {fuel : Nat} {c0 c1 c2 c3 : Value} {x : DataW H × List MemPlace} (hs : P.underlying t = some (.struct #[f0, f1, f2, f3])) (hone : Go.Deep.oneCellFields P #[f0, f1, f2, f3] = true)
    (h : DataW.trod enc P w base spare held fuel t [c0, c1, c2, c3] = some x) :
    ∃ (y0 y1 y2 y3 : DataW H × List MemPlace) (n : Nat), x = (.agg [y0.1, y1.1, y2.1, y3.1], y0.2 ++ (y1.2 ++ (y2.2 ++ y3.2))) ∧
      DataW.trod enc P w base spare held n f0.type [c0] = some y0 ∧ DataW.trod enc P w base spare held n f1.type [c1] = some y1 ∧ DataW.trod enc P w base spare held n f2.type [c2] = some y2 ∧ DataW.trod enc P w base spare held n f3.type [c3] = some y3 := by
  obtain ⟨y0, y1, y2, y3, n, hx, _, h0, h1, h2, h3⟩ := Go.Joins.trod_struct4 hs h
  obtain ⟨o0, k0⟩ := Go.Deep.hone_of hone 0 f0 rfl
  obtain ⟨o1, k1⟩ := Go.Deep.hone_of hone 1 f1 rfl
  obtain ⟨o2, k2⟩ := Go.Deep.hone_of hone 2 f2 rfl
  obtain ⟨o3, k3⟩ := Go.Deep.hone_of hone 3 f3 rfl
  exact ⟨y0, y1, y2, y3, n, hx, by simpa [o0, k0] using h0, by simpa [o1, k1] using h1, by simpa [o2, k2] using h2, by simpa [o3, k3] using h3⟩
set_option maxRecDepth 100000 in
/-- readings in bits, side by side -/
theorem open_lrds {r : Reach} {b0 : Nat} {v : Value} {d : DataW H} {p : List MemPlace} (hv : Value.okWide Tryd.prog W r b0 68 v) (h : DataW.Trod enc Tryd.prog W 0 (fun _ => true) true 68 v d p) (hz : ∀ n ∈ d.weights Tryd.prog 68, n ≤ reachBytes) :
    ∃ (a0 : Option Addr) (cap : Nat) (ls : List LRd), v = .slice a0 ls.length cap ∧ ls.length ≤ cap ∧ ls.length ≤ 140737488355328 ∧ LrdAt W a0 ls := by
  obtain ⟨a, len, cap, rfl⟩ := okWide_slice Tryd.underlying68 hv
  obtain ⟨fuel, hf⟩ := h
  rcases Go.Deep.open_slice Tryd.underlying68 (by simpa [Value.cells] using hf) with ⟨hcs, hx⟩ | ⟨ad, ln, cp, m, n, D, Pl, hcs, _, hl, _, hm, hx, hcell⟩
  · simp at hcs
    obtain ⟨rfl, rfl, rfl⟩ := hcs
    exact ⟨none, 0, [], rfl, Nat.le_refl _, Nat.zero_le _, fun i l hi => by simp at hi⟩
  · simp at hcs
    obtain ⟨rfl, rfl, rfl⟩ := hcs
    simp only [if_true] at hm
    have hm' := hm.symm
    subst hm'
    have hd := congrArg Prod.fst hx
    simp only at hd
    subst hd
    rw [rdCells] at hcell
    have hw : ∀ i, i < len → ∀ k ∈ (D i).weights Tryd.prog 25, k ≤ reachBytes := fun i hi k hk => by
      refine hz k ?_
      rw [DataW.weights, Tryd.underlying68]
      refine List.mem_cons.2 (.inr (List.mem_append.2 (.inl ?_)))
      exact weightsAll_mem (List.mem_map.2 ⟨i, List.mem_range.2 hi, rfl⟩) k hk
    have hlen : len ≤ 140737488355328 := by
      have := hz (len * 40 + (cap - len) * 40) (by
        rw [DataW.weights, Tryd.underlying68]
        refine List.mem_cons.2 (.inl ?_)
        rw [rdBytes, List.length_map, List.length_map, List.length_range, List.length_range, Nat.add_mul])
      have e : reachBytes = 140737488351232 := rfl
      omega
    obtain ⟨Ls, hL⟩ := chosen (α := LRd) (m := len) (p := fun i r => ∃ (Av : Option Addr) (cv : Nat), W.cell? ((ad.add (i * 4)).add 0) = some (.int .i64 r.s) ∧ W.cell? ((ad.add (i * 4)).add 1) = some (.int .u32 (r.q : Int)) ∧ W.cell? ((ad.add (i * 4)).add 2) = some (.int .u32 (r.t : Int)) ∧ W.cell? ((ad.add (i * 4)).add 3) = some (.slice Av r.l.length cv) ∧ SlAt W Av (u64v r.l) ∧ r.q < 4294967296 ∧ r.t < 4294967296 ∧ Words64 r.l ∧ r.l.length * 8 ≤ 140737488355328) (fun i hi => by
      obtain ⟨cs, hcs, ht⟩ := hcell i (by omega)
      obtain ⟨c0, c1, c2, c3, rfl, k0, k1, k2, k3⟩ := cells4 hcs
      obtain ⟨y0, y1, y2, y3, m, hy, h0, h1, h2, h3⟩ := open_list4 Tryd.underlying25 (by kernel_rfl) ht
      obtain ⟨s, e0, _, w0⟩ := DataW.trod_int Tryd.underlying3 h0
      obtain ⟨q, e1, _, w1⟩ := DataW.trod_int Tryd.underlying22 h1
      obtain ⟨t, e2, _, w2⟩ := DataW.trod_int Tryd.underlying22 h2
      have hD : D i = .agg [y0.1, y1.1, y2.1, y3.1] := congrArg Prod.fst hy
      obtain ⟨a0, c, l, rfl, h4, h5, h6, h7⟩ := open_u64 h3 (fun n hn => hw i hi n (by
        rw [hD, DataW.weights, Tryd.underlying25]
        exact DataW.weights_mem_each (j := 3) rfl rfl n hn))
      simp at e0 e1 e2
      subst e0 e1 e2
      obtain ⟨q, rfl, hq⟩ := nat_of_u32 w1
      obtain ⟨t, rfl, ht2⟩ := nat_of_u32 w2
      exact ⟨⟨s, q, t, l⟩, a0, c, k0, k1, k2, k3, h7, hq, ht2, h6, h5⟩)
    refine ⟨some ad, cap, (List.range len).map Ls, by rw [List.length_map, List.length_range], by rw [List.length_map, List.length_range]; exact hl, by rw [List.length_map, List.length_range]; exact hlen, fun i l hi => ?_⟩
    rw [List.getElem?_map, Option.map_eq_some_iff] at hi
    obtain ⟨j, hj, rfl⟩ := hi
    obtain ⟨hj1, hj2⟩ := List.getElem?_eq_some_iff.1 hj
    rw [List.length_range] at hj1
    rw [List.getElem_range] at hj2
    subst hj2
    obtain ⟨Av, cv, k0, k1, k2, k3, h4, h5, h6, h7, h8⟩ := hL i hj1
    rw [add_add, Nat.mul_comm i 4] at k0 k1 k2 k3
    exact ⟨ad, Av, cv, rfl, by have := World.block_lt_of_cell? _ _ k0; rwa [add_block] at this, k0, k1, k2, k3, h4, h5, h6, h7, h8⟩
end
end Go.Proofs.YtmpcnhiklpahnaaDoor.Base
