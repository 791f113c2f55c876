/- What some cards of the packet seat ask besides: four bytes opened. -/
import Derived.Test.YtmpcnhiklpahnaaDoorCardPk
import Derived.Laws.IdiomArrays
namespace Go.Proofs.YtmpcnhiklpahnaaDoor.Base
open Go.ChangeShapes Go.WideShapes Go.ChangeAt Go.RowKit

section
variable {H : Type} {enc : TypeId × Value → H} {W : World}
theorem nat_of_u8 {n : Int} (h : (Lit.int .u8 n).wf = true) : ∃ a : Nat, n = a ∧ a < 256 := by
  have := wf_u8 n h
  exact ⟨n.toNat, by omega, by omega⟩
theorem size4 {α : Type} {xs : Array α} (h : xs.size = 4) : ∃ a b c d, xs = #[a, b, c, d] := by
  obtain ⟨l⟩ := xs
  match l, h with
  | [a, b, c, d], _ => exact ⟨a, b, c, d, rfl⟩
set_option maxRecDepth 100000 in
theorem by4Cells : Tryd.prog.cellsOf 54 = 4 := by kernel_rfl
set_option maxRecDepth 100000 in
theorem by1Cells : Tryd.prog.cellsOf 5 = 1 := by kernel_rfl
set_option maxRecDepth 100000 in
/-- four bytes opened -/
theorem open_by4 {r : Reach} {b0 : Nat} {v : Value} {d : DataW H} {p : List MemPlace} (hv : Value.okWide Tryd.prog W r b0 54 v) (h : DataW.Trod enc Tryd.prog W 0 (fun _ => true) true 54 v d p) :
    ∃ e0 e1 e2 e3 : Nat, v = .agg #[.int .u8 (e0 : Int), .int .u8 (e1 : Int), .int .u8 (e2 : Int), .int .u8 (e3 : Int)] ∧ e0 < 256 ∧ e1 < 256 ∧ e2 < 256 ∧ e3 < 256 := by
  have hv' : ∃ cs : Array Value, v = .agg cs ∧ cs.size = 4 := by
    simp only [Value.okWide, Tryd.underlying54] at hv
    obtain ⟨cs, h1, h2, _⟩ := hv
    exact ⟨cs, h1, by rw [h2, by4Cells]⟩
  obtain ⟨cs, rfl, hs⟩ := hv'
  obtain ⟨a, b, c, e, rfl⟩ := size4 hs
  obtain ⟨fuel, hf⟩ := h
  obtain ⟨y0, y1, y2, y3, n, _, h0, h1, h2, h3⟩ := trod_array4 (c0 := a) (c1 := b) (c2 := c) (c3 := e) Tryd.underlying54 by1Cells (by simpa [Value.cells] using hf)
  obtain ⟨n0, q0, _, w0⟩ := DataW.trod_int Tryd.underlying5 h0
  obtain ⟨n1, q1, _, w1⟩ := DataW.trod_int Tryd.underlying5 h1
  obtain ⟨n2, q2, _, w2⟩ := DataW.trod_int Tryd.underlying5 h2
  obtain ⟨n3, q3, _, w3⟩ := DataW.trod_int Tryd.underlying5 h3
  simp at q0 q1 q2 q3
  subst q0 q1 q2 q3
  obtain ⟨e0, rfl, l0⟩ := nat_of_u8 w0
  obtain ⟨e1, rfl, l1⟩ := nat_of_u8 w1
  obtain ⟨e2, rfl, l2⟩ := nat_of_u8 w2
  obtain ⟨e3, rfl, l3⟩ := nat_of_u8 w3
  exact ⟨e0, e1, e2, e3, rfl, l0, l1, l2, l3⟩
end
end Go.Proofs.YtmpcnhiklpahnaaDoor.Base
