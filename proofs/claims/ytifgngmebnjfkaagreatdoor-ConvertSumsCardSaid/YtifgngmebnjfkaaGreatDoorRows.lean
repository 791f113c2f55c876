/-
  NARROWER THAN 'FOR EVERY INPUT', by the rows' own cells (each row's printed sentence says how): ConvertFusions: laid · ConvertWholes: laid · ConvertSums: laid.
  DERIVED. THE GIVEN ROWS OF THIS SEAT. 3 by the template 'for every input the law returns true; each argument reads behind the call as it read before'; 0 by the template 'total and deterministic' (their statements: YtifgngmebnjfkaaGreatDoorTotals.lean).
  GIVEN WITH THE SEED: the statements are not yours to turn. If you find one false, say at which input.
  Laid BY PROGRAM, IN A SANDBOX (cutbox-rows.mjs): the forced cells as the released guide's own fill.sh prints them over the translation e58b6c11f796e750… (all of the seat's roots in one cut). By AI agents, Wed Nov 11 2026. No macro, syntax, notation, axiom, sorry.
-/
import Derived.Test.YtifgngmebnjfkaaGreatDoorChecked
import GoSem.Claim
import GoSem.ClaimJoined
import GoSem.ClaimMapViews
import Derived.JoinedTies
import Derived.KernelRfl
namespace Go.Proofs.YtifgngmebnjfkaaGreatDoor
/- THE CELL 'sum', in the pinned program and in every row, IS THE sha256 OF THE DUMP (.gsa) THAT YtifgngmebnjfkaaGreatDoorProg.lean LOADS. Nothing in Lean hashes anything: it is a label: what it is worth is what the hold of that sum in a sandbox is worth. -/
noncomputable def Tryz.pinned : Pinned := { name := "ytifgngmebnjfkaagreatdoor", sum := "e58b6c11f796e75067472142a16cb71836ecac57a14395d785466c595cf285a1", checked := Tryz.checked }
namespace Rows
def none {H : Type} : Left H := { results := [], args := [] }

/- WHAT THE LISTED PACKAGE-LEVEL VARIABLES READ AS WHEN THE CALL BEGINS. Each datum BY PROGRAM (the guide's laid-datum.mjs) off the statement by which the dump's own 'gosem.cut.vars' lays the variable. In a bare row this is a premise. The card (YtifgngmebnjfkaaGreatDoorCards.lean) ties it to the program's text. -/
def laid_binnacle_convert_single {H : Type} : DataW H := .agg [.lit (.int .i64 24), .lit (.int .i64 (-126)), .lit (.int .i64 127)]

/-- 'binnaclelaw02.ConvertFusions': WHATEVER THE INPUT: true; the input reads as it did. -/
def convertFusionsSpec : ChangeSpec := { name := "convertFusions", fn := fun _ => fun
  | [d1, d2, d3, d4] => { results := [.lit (.bool true)], args := [d1, d2, d3, d4] }
  | _ => none }
def convertFusionsRow : OpenClaim := { program := "ytifgngmebnjfkaagreatdoor", sum := "e58b6c11f796e75067472142a16cb71836ecac57a14395d785466c595cf285a1", func := "binnacle/binnaclelaw02.ConvertFusions", spec := "convertFusions", inPlace := ["math.Float32frombits", "math.Float64frombits", "math.Float32bits", "math.Float64bits"], named := ["binnacle/convert.single"], apart := false, laid := [("binnacle/convert.single", laid_binnacle_convert_single)] }
def ConvertFusionsSaid : Prop := convertFusionsRow.holds Tryz.pinned (OpenSpec.ofChange convertFusionsSpec)

/-- ITS FALSE NEIGHBOUR: 'it returns false'. Refute it at one input. -/
def convertFusionsWrong : ChangeSpec := { name := "convertFusions", fn := fun _ => fun
  | [d1, d2, d3, d4] => { results := [.lit (.bool false)], args := [d1, d2, d3, d4] }
  | _ => none }
def ConvertFusionsWrongFalsely : Prop := convertFusionsRow.holds Tryz.pinned (OpenSpec.ofChange convertFusionsWrong)

/-- 'binnaclelaw02.ConvertWholes': WHATEVER THE INPUT: true; the input reads as it did. -/
def convertWholesSpec : ChangeSpec := { name := "convertWholes", fn := fun _ => fun
  | [d1, d2, d3] => { results := [.lit (.bool true)], args := [d1, d2, d3] }
  | _ => none }
def convertWholesRow : OpenClaim := { program := "ytifgngmebnjfkaagreatdoor", sum := "e58b6c11f796e75067472142a16cb71836ecac57a14395d785466c595cf285a1", func := "binnacle/binnaclelaw02.ConvertWholes", spec := "convertWholes", inPlace := ["math.Float64frombits", "math.Float64bits", "math.Float32bits", "math.Float32frombits"], named := ["binnacle/convert.single"], apart := false, laid := [("binnacle/convert.single", laid_binnacle_convert_single)] }
def ConvertWholesSaid : Prop := convertWholesRow.holds Tryz.pinned (OpenSpec.ofChange convertWholesSpec)

/-- ITS FALSE NEIGHBOUR: 'it returns false'. Refute it at one input. -/
def convertWholesWrong : ChangeSpec := { name := "convertWholes", fn := fun _ => fun
  | [d1, d2, d3] => { results := [.lit (.bool false)], args := [d1, d2, d3] }
  | _ => none }
def ConvertWholesWrongFalsely : Prop := convertWholesRow.holds Tryz.pinned (OpenSpec.ofChange convertWholesWrong)

/-- 'binnaclelaw02.ConvertSums': WHATEVER THE INPUT: true; the input reads as it did. -/
def convertSumsSpec : ChangeSpec := { name := "convertSums", fn := fun _ => fun
  | [d1, d2, d3] => { results := [.lit (.bool true)], args := [d1, d2, d3] }
  | _ => none }
def convertSumsRow : OpenClaim := { program := "ytifgngmebnjfkaagreatdoor", sum := "e58b6c11f796e75067472142a16cb71836ecac57a14395d785466c595cf285a1", func := "binnacle/binnaclelaw02.ConvertSums", spec := "convertSums", inPlace := ["math.Float32frombits", "math.Float64frombits", "math.Float32bits", "math.Float64bits", "math.FMA", "math.sqrt"], named := ["binnacle/convert.single"], apart := false, laid := [("binnacle/convert.single", laid_binnacle_convert_single)] }
def ConvertSumsSaid : Prop := convertSumsRow.holds Tryz.pinned (OpenSpec.ofChange convertSumsSpec)

/-- ITS FALSE NEIGHBOUR: 'it returns false'. Refute it at one input. -/
def convertSumsWrong : ChangeSpec := { name := "convertSums", fn := fun _ => fun
  | [d1, d2, d3] => { results := [.lit (.bool false)], args := [d1, d2, d3] }
  | _ => none }
def ConvertSumsWrongFalsely : Prop := convertSumsRow.holds Tryz.pinned (OpenSpec.ofChange convertSumsWrong)

/- THE SECOND FORM. 'bulk': how many values and letters a reading holds, each counted each time it is reached (what is shared counts as often as it is met; a slice's spare places count too). A statement '..UptoSaid' is the law's where the arguments, and the package variables that the reading takes, are together of bulk at most 1048576: NARROWER than '..Said'. Prove '..Said' where nothing that the law and all that it calls make is longer than what came in: it says more and counts as full. Else prove '..UptoSaid'. A law counts once. -/
mutual
def uptoBulk {H : Type} : DataW H → Nat
  | .lit (.string bytes) => bytes.length + 1
  | .lit _ => 1
  | .nil => 1
  | .ptr d => uptoBulk d + 1
  | .slice elems spare => uptoBulkAll elems + uptoBulkAll spare + 1
  | .agg parts => uptoBulkAll parts + 1
  | .iface _ d => uptoBulk d + 1
  | .map entries => uptoBulkEntries entries + 1
  | .held _ => 1
def uptoBulkAll {H : Type} : List (DataW H) → Nat
  | [] => 0
  | d :: r => uptoBulk d + uptoBulkAll r
def uptoBulkEntries {H : Type} : List (Lit × DataW H) → Nat
  | [] => 0
  | x :: r => uptoBulkEntry x + uptoBulkEntries r
def uptoBulkEntry {H : Type} : Lit × DataW H → Nat
  | (.string bytes, d) => bytes.length + uptoBulk d + 1
  | (_, d) => uptoBulk d + 1
 end
def uptoSmall : (H : Type) → List (DataW H) → Bool := fun _ ds => decide (uptoBulkAll ds ≤ 1048576)
def OpenSpec.upto (s : _root_.Go.ChangeSpec) : _root_.Go.OpenSpec := { _root_.Go.OpenSpec.ofChange s with cond := some uptoSmall }

/-- 'binnaclelaw02.ConvertFusions', WHERE WHAT IT READS IS OF BULK AT MOST 1048576: true; the input reads as it did. -/
def convertFusionsUptoRow : OpenClaim := { program := "ytifgngmebnjfkaagreatdoor", sum := "e58b6c11f796e75067472142a16cb71836ecac57a14395d785466c595cf285a1", func := "binnacle/binnaclelaw02.ConvertFusions", spec := "convertFusions", inPlace := ["math.Float32frombits", "math.Float64frombits", "math.Float32bits", "math.Float64bits"], named := ["binnacle/convert.single"], apart := false, laid := [("binnacle/convert.single", laid_binnacle_convert_single)], narrowed := true }
def ConvertFusionsUptoSaid : Prop := convertFusionsUptoRow.holds Tryz.pinned (OpenSpec.upto convertFusionsSpec)

/-- 'binnaclelaw02.ConvertWholes', WHERE WHAT IT READS IS OF BULK AT MOST 1048576: true; the input reads as it did. -/
def convertWholesUptoRow : OpenClaim := { program := "ytifgngmebnjfkaagreatdoor", sum := "e58b6c11f796e75067472142a16cb71836ecac57a14395d785466c595cf285a1", func := "binnacle/binnaclelaw02.ConvertWholes", spec := "convertWholes", inPlace := ["math.Float64frombits", "math.Float64bits", "math.Float32bits", "math.Float32frombits"], named := ["binnacle/convert.single"], apart := false, laid := [("binnacle/convert.single", laid_binnacle_convert_single)], narrowed := true }
def ConvertWholesUptoSaid : Prop := convertWholesUptoRow.holds Tryz.pinned (OpenSpec.upto convertWholesSpec)

/-- 'binnaclelaw02.ConvertSums', WHERE WHAT IT READS IS OF BULK AT MOST 1048576: true; the input reads as it did. -/
def convertSumsUptoRow : OpenClaim := { program := "ytifgngmebnjfkaagreatdoor", sum := "e58b6c11f796e75067472142a16cb71836ecac57a14395d785466c595cf285a1", func := "binnacle/binnaclelaw02.ConvertSums", spec := "convertSums", inPlace := ["math.Float32frombits", "math.Float64frombits", "math.Float32bits", "math.Float64bits", "math.FMA", "math.sqrt"], named := ["binnacle/convert.single"], apart := false, laid := [("binnacle/convert.single", laid_binnacle_convert_single)], narrowed := true }
def ConvertSumsUptoSaid : Prop := convertSumsUptoRow.holds Tryz.pinned (OpenSpec.upto convertSumsSpec)

end Rows
end Go.Proofs.YtifgngmebnjfkaaGreatDoor
