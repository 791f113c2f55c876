/- What a card asks of an argument of type api.Parts: how it is opened and shut. -/
import Derived.Test.YthjaponkbodooaaDoorCardBase
import Derived.Lib.SmallJoins
namespace Go.Proofs.YthjaponkbodooaaDoor.Base
open Go.ChangeShapes Go.WideShapes Go.ChangeAt Go.RowKit

theorem partsCells : Tryd.prog.cellsOf 25 = 3 := by kernel_rfl

section
variable {H : Type} {enc : TypeId × Value → H} {w : World} {base : Nat} {spare : Nat → Bool} {held : Bool}
set_option maxRecDepth 100000 in
theorem open_parts {r : Reach} {b0 : Nat} {v : Value} {d : DataW H} {p : List MemPlace} (hv : Value.okWide Tryd.prog w r b0 25 v) (h : DataW.Trod enc Tryd.prog w base spare held 25 v d p) :
    ∃ (neg : Bool) (m e : Int), v = .agg #[.bool neg, .int .u64 m, .int .i64 e] ∧ d = .agg [.lit (.bool neg), .lit (.int .u64 m), .lit (.int .i64 e)] ∧ p = [] ∧ (Lit.int .u64 m).wf = true ∧ (Lit.int .i64 e).wf = true := by
  obtain ⟨v0, v1, v2, y0, y1, y2, n, rfl, rfl, rfl, h0, h1, h2⟩ := Go.Joins.open_agg3 Tryd.underlying25 (by kernel_rfl) partsCells hv h
  obtain ⟨b, e0, x0⟩ := DataW.trod_bool Tryd.underlying4 h0
  obtain ⟨m, e1, x1, w1⟩ := DataW.trod_int Tryd.underlying22 h1
  obtain ⟨e, e2, x2, w2⟩ := DataW.trod_int Tryd.underlying3 h2
  subst x0 x1 x2
  simp at e0 e1 e2
  subst e0 e1 e2
  exact ⟨b, m, e, rfl, rfl, rfl, w1, w2⟩
set_option maxRecDepth 100000 in
theorem shut_parts (neg : Bool) {m e : Int} (w1 : (Lit.int .u64 m).wf = true) (w2 : (Lit.int .i64 e).wf = true) :
    DataW.Trod enc Tryd.prog w base spare held 25 (.agg #[.bool neg, .int .u64 m, .int .i64 e]) (.agg [.lit (.bool neg), .lit (.int .u64 m), .lit (.int .i64 e)]) [] := by
  have hb : DataW.trod enc Tryd.prog w base spare held 1 4 [.bool neg] = some (.lit (.bool neg), []) := by simp [DataW.trod, Tryd.underlying4]
  have h := Go.Joins.shut_agg3 (enc := enc) (w := w) (base := base) (spare := spare) (held := held) Tryd.underlying25 (by kernel_rfl) partsCells ⟨_, hb⟩ ⟨_, trod_int_mk 0 Tryd.underlying22 w1⟩ ⟨_, trod_int_mk 0 Tryd.underlying3 w2⟩
  exact h
end
end Go.Proofs.YthjaponkbodooaaDoor.Base
