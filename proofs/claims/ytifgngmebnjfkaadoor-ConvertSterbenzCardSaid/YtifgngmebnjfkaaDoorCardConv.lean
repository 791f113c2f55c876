/- What every card of the convert seats asks: the settled world with the formats laid, and the formats' cells from the row's list. -/
import Derived.Test.YtifgngmebnjfkaaDoorCards
import Derived.Test.YtifgngmebnjfkaaDoorTie
import Derived.Test.YtifgngmebnjfkaaDoorCv10
import Derived.WalkKit
import Derived.ProofKit
import Derived.OpenShut
import Derived.ShutString
import Derived.ChangeOld
import Derived.Below
import Derived.Deep.DeepHandedRow
import Derived.Deep.Strs
import Derived.Lib.LaidTab
namespace Go.Proofs.YtifgngmebnjfkaaDoor.Base
open Go.ChangeShapes Go.WideShapes Go.ChangeAt Go.RowKit

theorem own : ownKnob Tryd.prog.godebug = none := by kernel_rfl
theorem gS : Tryd.prog.globalNamed "binnacle/convert.single" = some 1 := by kernel_rfl
theorem gST : (Tryd.prog.globals[1]?).map (·.type) = some 103 := by kernel_rfl
theorem gD : Tryd.prog.globalNamed "binnacle/convert.double" = some 2 := by kernel_rfl
theorem gDT : (Tryd.prog.globals[2]?).map (·.type) = some 103 := by kernel_rfl
theorem cellsI : Tryd.prog.cellsOf 3 = 1 := by kernel_rfl

theorem fmt_cells {W : World} {name : String} {g : Nat} {a b c : Int} {rest : List (String × DataW Unit)} {ps : List MemPlace}
    (hg : Tryd.prog.globalNamed name = some g) (hty : (Tryd.prog.globals[g]?).map (·.type) = some 103)
    (h : DataW.LaidVars Tryd.prog W ((name, .agg [.lit (.int .i64 a), .lit (.int .i64 b), .lit (.int .i64 c)]) :: rest) ps) :
    (W.cell? ⟨g, 0, none⟩ = some (.int .i64 a) ∧ W.cell? ⟨g, 1, none⟩ = some (.int .i64 b) ∧ W.cell? ⟨g, 2, none⟩ = some (.int .i64 c)) ∧ ∃ q, DataW.LaidVars Tryd.prog W rest q := by
  obtain ⟨g', t', cs, fuel, p, q, hg', ht', hvar, hd, hr, _⟩ := h
  obtain rfl := Option.some.inj (hg.symm.trans hg')
  obtain rfl := Option.some.inj (hty.symm.trans ht')
  obtain ⟨y0, y1, y2, n, hx, hl, h0, h1, h2⟩ := Go.Deep.trod_struct3 Tryd.underlying103 hd
  obtain ⟨c0, e0, x0, _⟩ := DataW.trod_int Tryd.underlying3 h0
  obtain ⟨c1, e1, x1, _⟩ := DataW.trod_int Tryd.underlying3 h1
  obtain ⟨c2, e2, x2, _⟩ := DataW.trod_int Tryd.underlying3 h2
  subst x0 x1 x2
  have hx1 := congrArg Prod.fst hx
  simp at hx1
  obtain ⟨rfl, rfl, rfl⟩ := hx1
  have v := World.var?_cell hg hvar
  refine ⟨⟨?_, ?_, ?_⟩, q, hr⟩
  · rw [v 0]
    have := congrArg (·[0]?) e0
    simpa [cellsI, List.getElem?_take, List.getElem?_drop] using this
  · rw [v 1]
    have := congrArg (·[0]?) e1
    simpa [cellsI, List.getElem?_take, List.getElem?_drop] using this
  · rw [v 2]
    have := congrArg (·[0]?) e2
    simpa [cellsI, List.getElem?_take, List.getElem?_drop] using this

theorem fmS {W : World} {rest : List (String × DataW Unit)} (h : laidMet Tryd.prog (("binnacle/convert.single", Rows.laid_binnacle_convert_single) :: rest) W) : FmS W := by
  obtain ⟨ps, h1, _⟩ := h
  exact (fmt_cells gS gST h1).1
theorem fmD {W : World} {rest : List (String × DataW Unit)} (h : laidMet Tryd.prog (("binnacle/convert.single", Rows.laid_binnacle_convert_single) :: ("binnacle/convert.double", Rows.laid_binnacle_convert_double) :: rest) W) : FmD W := by
  obtain ⟨ps, h1, _⟩ := h
  obtain ⟨_, q, h2⟩ := fmt_cells gS gST h1
  exact (fmt_cells gD gDT h2).1

theorem nat_of_u64 {n : Int} (h : (Lit.int .u64 n).wf = true) : ∃ a : Nat, n = a ∧ a < 18446744073709551616 := by
  simp only [Lit.wf, Bool.and_eq_true, decide_eq_true_eq] at h
  have h1 : (0 : Int) ≤ n := h.1
  have h2 : n ≤ 18446744073709551615 := h.2
  exact ⟨n.toNat, by omega, by omega⟩
theorem nat_of_u32 {n : Int} (h : (Lit.int .u32 n).wf = true) : ∃ a : Nat, n = a ∧ a < 4294967296 := by
  simp only [Lit.wf, Bool.and_eq_true, decide_eq_true_eq] at h
  have h1 : (0 : Int) ≤ n := h.1
  have h2 : n ≤ 4294967295 := h.2
  exact ⟨n.toNat, by omega, by omega⟩
theorem int_of_i64 {n : Int} (h : (Lit.int .i64 n).wf = true) : -9223372036854775808 ≤ n ∧ n < 9223372036854775808 := by
  simp only [Lit.wf, Bool.and_eq_true, decide_eq_true_eq] at h
  have h1 : (-9223372036854775808 : Int) ≤ n := h.1
  have h2 : n ≤ 9223372036854775807 := h.2
  exact ⟨h1, by omega⟩

/-- a variable's cells, as its initialiser lays them -/
def layVar (g : Nat) (cs : Array Value) (h : Array Obj) : Array Obj := h.modify g fun
  | .cells _ t frozen => .cells cs t frozen
  | o => o
/-- a world for the witness: the settled one, the formats as their initialisers lay them -/
noncomputable def laidWorld (os : Os) : World :=
  { World.holding Tryd.prog os ⟨#[], #[], []⟩ with heap := layVar 2 #[.int .i64 53, .int .i64 (-1022), .int .i64 1023] (layVar 1 #[.int .i64 24, .int .i64 (-126), .int .i64 127] (World.holding Tryd.prog os ⟨#[], #[], []⟩).heap) }
end Go.Proofs.YtifgngmebnjfkaaDoor.Base
