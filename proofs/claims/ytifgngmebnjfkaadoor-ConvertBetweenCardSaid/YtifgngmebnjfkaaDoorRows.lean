/-
  NARROWER THAN 'FOR EVERY INPUT', by the rows' own cells (each row's printed sentence says how): ConvertSterbenz: laid · ConvertNarrows: laid · ConvertBack: laid · ConvertScales: laid · ConvertRises: laid · ConvertInts: laid · ConvertBetween: laid · ConvertTurned: laid · ConvertFigueroa: laid.
  DERIVED. THE GIVEN ROWS OF THIS SEAT. 9 by the template 'for every input the law returns true; each argument reads behind the call as it read before'; 0 by the template 'total and deterministic' (their statements: YtifgngmebnjfkaaDoorTotals.lean).
  GIVEN WITH THE SEED: the statements are not yours to turn. If you find one false, say at which input.
  Laid BY PROGRAM, IN A SANDBOX (cutbox-rows.mjs): the forced cells as the released guide's own fill.sh prints them over the translation c35230aa17a5907c… (all of the seat's roots in one cut). By AI agents, Wed Nov 11 2026. No macro, syntax, notation, axiom, sorry.
-/
import Derived.Test.YtifgngmebnjfkaaDoorChecked
import GoSem.Claim
import GoSem.ClaimJoined
import GoSem.ClaimMapViews
import Derived.JoinedTies
import Derived.KernelRfl
namespace Go.Proofs.YtifgngmebnjfkaaDoor
/- THE CELL 'sum', in the pinned program and in every row, IS THE sha256 OF THE DUMP (.gsa) THAT YtifgngmebnjfkaaDoorProg.lean LOADS. Nothing in Lean hashes anything: it is a label: what it is worth is what the hold of that sum in a sandbox is worth. -/
noncomputable def Tryd.pinned : Pinned := { name := "ytifgngmebnjfkaadoor", sum := "c35230aa17a5907ccfb503f5f3bbff52e2979e12f18b25553193003ef551481b", checked := Tryd.checked }
namespace Rows
def none {H : Type} : Left H := { results := [], args := [] }

/- WHAT THE LISTED PACKAGE-LEVEL VARIABLES READ AS WHEN THE CALL BEGINS. Each datum BY PROGRAM (the guide's laid-datum.mjs) off the statement by which the dump's own 'gosem.cut.vars' lays the variable. In a bare row this is a premise. The card (YtifgngmebnjfkaaDoorCards.lean) ties it to the program's text. -/
def laid_binnacle_convert_single {H : Type} : DataW H := .agg [.lit (.int .i64 24), .lit (.int .i64 (-126)), .lit (.int .i64 127)]
def laid_binnacle_convert_double {H : Type} : DataW H := .agg [.lit (.int .i64 53), .lit (.int .i64 (-1022)), .lit (.int .i64 1023)]

/-- 'binnaclelaw02.ConvertSterbenz': WHATEVER THE INPUT: true; the input reads as it did. -/
def convertSterbenzSpec : ChangeSpec := { name := "convertSterbenz", fn := fun _ => fun
  | [d1, d2, d3] => { results := [.lit (.bool true)], args := [d1, d2, d3] }
  | _ => none }
def convertSterbenzRow : OpenClaim := { program := "ytifgngmebnjfkaadoor", sum := "c35230aa17a5907ccfb503f5f3bbff52e2979e12f18b25553193003ef551481b", func := "binnacle/binnaclelaw02.ConvertSterbenz", spec := "convertSterbenz", inPlace := ["math.Float64frombits", "math.Float32bits", "math.Float32frombits", "math.Float64bits"], named := ["binnacle/convert.single"], apart := false, laid := [("binnacle/convert.single", laid_binnacle_convert_single)] }
def ConvertSterbenzSaid : Prop := convertSterbenzRow.holds Tryd.pinned (OpenSpec.ofChange convertSterbenzSpec)

/-- ITS FALSE NEIGHBOUR: 'it returns false'. Refute it at one input. -/
def convertSterbenzWrong : ChangeSpec := { name := "convertSterbenz", fn := fun _ => fun
  | [d1, d2, d3] => { results := [.lit (.bool false)], args := [d1, d2, d3] }
  | _ => none }
def ConvertSterbenzWrongFalsely : Prop := convertSterbenzRow.holds Tryd.pinned (OpenSpec.ofChange convertSterbenzWrong)

/-- 'binnaclelaw02.ConvertNarrows': WHATEVER THE INPUT: true; the input reads as it did. -/
def convertNarrowsSpec : ChangeSpec := { name := "convertNarrows", fn := fun _ => fun
  | [d1, d2, d3] => { results := [.lit (.bool true)], args := [d1, d2, d3] }
  | _ => none }
def convertNarrowsRow : OpenClaim := { program := "ytifgngmebnjfkaadoor", sum := "c35230aa17a5907ccfb503f5f3bbff52e2979e12f18b25553193003ef551481b", func := "binnacle/binnaclelaw02.ConvertNarrows", spec := "convertNarrows", inPlace := ["math.Float64frombits", "math.Float32bits", "math.Float32frombits", "math.Float64bits"], named := ["binnacle/convert.single"], apart := false, laid := [("binnacle/convert.single", laid_binnacle_convert_single)] }
def ConvertNarrowsSaid : Prop := convertNarrowsRow.holds Tryd.pinned (OpenSpec.ofChange convertNarrowsSpec)

/-- ITS FALSE NEIGHBOUR: 'it returns false'. Refute it at one input. -/
def convertNarrowsWrong : ChangeSpec := { name := "convertNarrows", fn := fun _ => fun
  | [d1, d2, d3] => { results := [.lit (.bool false)], args := [d1, d2, d3] }
  | _ => none }
def ConvertNarrowsWrongFalsely : Prop := convertNarrowsRow.holds Tryd.pinned (OpenSpec.ofChange convertNarrowsWrong)

/-- 'binnaclelaw02.ConvertBack': WHATEVER THE INPUT: true; the input reads as it did. -/
def convertBackSpec : ChangeSpec := { name := "convertBack", fn := fun _ => fun
  | [d1, d2, d3, d4] => { results := [.lit (.bool true)], args := [d1, d2, d3, d4] }
  | _ => none }
def convertBackRow : OpenClaim := { program := "ytifgngmebnjfkaadoor", sum := "c35230aa17a5907ccfb503f5f3bbff52e2979e12f18b25553193003ef551481b", func := "binnacle/binnaclelaw02.ConvertBack", spec := "convertBack", inPlace := ["math.Float64frombits", "math.Float32bits", "math.Float32frombits", "math.Float64bits"], named := ["binnacle/convert.single", "binnacle/convert.double"], apart := false, laid := [("binnacle/convert.single", laid_binnacle_convert_single), ("binnacle/convert.double", laid_binnacle_convert_double)] }
def ConvertBackSaid : Prop := convertBackRow.holds Tryd.pinned (OpenSpec.ofChange convertBackSpec)

/-- ITS FALSE NEIGHBOUR: 'it returns false'. Refute it at one input. -/
def convertBackWrong : ChangeSpec := { name := "convertBack", fn := fun _ => fun
  | [d1, d2, d3, d4] => { results := [.lit (.bool false)], args := [d1, d2, d3, d4] }
  | _ => none }
def ConvertBackWrongFalsely : Prop := convertBackRow.holds Tryd.pinned (OpenSpec.ofChange convertBackWrong)

/-- 'binnaclelaw02.ConvertScales': WHATEVER THE INPUT: true; the input reads as it did. -/
def convertScalesSpec : ChangeSpec := { name := "convertScales", fn := fun _ => fun
  | [d1, d2, d3] => { results := [.lit (.bool true)], args := [d1, d2, d3] }
  | _ => none }
def convertScalesRow : OpenClaim := { program := "ytifgngmebnjfkaadoor", sum := "c35230aa17a5907ccfb503f5f3bbff52e2979e12f18b25553193003ef551481b", func := "binnacle/binnaclelaw02.ConvertScales", spec := "convertScales", inPlace := ["math.Float64frombits", "math.Float64bits", "math.Float32bits", "math.Float32frombits"], named := ["binnacle/convert.double", "binnacle/convert.single"], apart := false, laid := [("binnacle/convert.single", laid_binnacle_convert_single), ("binnacle/convert.double", laid_binnacle_convert_double)] }
def ConvertScalesSaid : Prop := convertScalesRow.holds Tryd.pinned (OpenSpec.ofChange convertScalesSpec)

/-- ITS FALSE NEIGHBOUR: 'it returns false'. Refute it at one input. -/
def convertScalesWrong : ChangeSpec := { name := "convertScales", fn := fun _ => fun
  | [d1, d2, d3] => { results := [.lit (.bool false)], args := [d1, d2, d3] }
  | _ => none }
def ConvertScalesWrongFalsely : Prop := convertScalesRow.holds Tryd.pinned (OpenSpec.ofChange convertScalesWrong)

/-- 'binnaclelaw02.ConvertRises': WHATEVER THE INPUT: true; the input reads as it did. -/
def convertRisesSpec : ChangeSpec := { name := "convertRises", fn := fun _ => fun
  | [d1, d2, d3, d4, d5] => { results := [.lit (.bool true)], args := [d1, d2, d3, d4, d5] }
  | _ => none }
def convertRisesRow : OpenClaim := { program := "ytifgngmebnjfkaadoor", sum := "c35230aa17a5907ccfb503f5f3bbff52e2979e12f18b25553193003ef551481b", func := "binnacle/binnaclelaw02.ConvertRises", spec := "convertRises", inPlace := ["math.Float64frombits", "math.Float32bits", "math.Float32frombits", "math.Float64bits"], named := ["binnacle/convert.single", "binnacle/convert.double"], apart := false, laid := [("binnacle/convert.single", laid_binnacle_convert_single), ("binnacle/convert.double", laid_binnacle_convert_double)] }
def ConvertRisesSaid : Prop := convertRisesRow.holds Tryd.pinned (OpenSpec.ofChange convertRisesSpec)

/-- ITS FALSE NEIGHBOUR: 'it returns false'. Refute it at one input. -/
def convertRisesWrong : ChangeSpec := { name := "convertRises", fn := fun _ => fun
  | [d1, d2, d3, d4, d5] => { results := [.lit (.bool false)], args := [d1, d2, d3, d4, d5] }
  | _ => none }
def ConvertRisesWrongFalsely : Prop := convertRisesRow.holds Tryd.pinned (OpenSpec.ofChange convertRisesWrong)

/-- 'binnaclelaw02.ConvertInts': WHATEVER THE INPUT: true; the input reads as it did. -/
def convertIntsSpec : ChangeSpec := { name := "convertInts", fn := fun _ => fun
  | [d1, d2, d3] => { results := [.lit (.bool true)], args := [d1, d2, d3] }
  | _ => none }
def convertIntsRow : OpenClaim := { program := "ytifgngmebnjfkaadoor", sum := "c35230aa17a5907ccfb503f5f3bbff52e2979e12f18b25553193003ef551481b", func := "binnacle/binnaclelaw02.ConvertInts", spec := "convertInts", inPlace := ["math.Float64bits", "math.Float64frombits", "math.Float32bits", "math.Float32frombits"], named := ["binnacle/convert.double", "binnacle/convert.single"], apart := false, laid := [("binnacle/convert.single", laid_binnacle_convert_single), ("binnacle/convert.double", laid_binnacle_convert_double)] }
def ConvertIntsSaid : Prop := convertIntsRow.holds Tryd.pinned (OpenSpec.ofChange convertIntsSpec)

/-- ITS FALSE NEIGHBOUR: 'it returns false'. Refute it at one input. -/
def convertIntsWrong : ChangeSpec := { name := "convertInts", fn := fun _ => fun
  | [d1, d2, d3] => { results := [.lit (.bool false)], args := [d1, d2, d3] }
  | _ => none }
def ConvertIntsWrongFalsely : Prop := convertIntsRow.holds Tryd.pinned (OpenSpec.ofChange convertIntsWrong)

/-- 'binnaclelaw02.ConvertBetween': WHATEVER THE INPUT: true; the input reads as it did. -/
def convertBetweenSpec : ChangeSpec := { name := "convertBetween", fn := fun _ => fun
  | [d1, d2, d3, d4] => { results := [.lit (.bool true)], args := [d1, d2, d3, d4] }
  | _ => none }
def convertBetweenRow : OpenClaim := { program := "ytifgngmebnjfkaadoor", sum := "c35230aa17a5907ccfb503f5f3bbff52e2979e12f18b25553193003ef551481b", func := "binnacle/binnaclelaw02.ConvertBetween", spec := "convertBetween", inPlace := ["math.Float64frombits", "math.Float32bits", "math.Float32frombits", "math.Float64bits"], named := ["binnacle/convert.single"], apart := false, laid := [("binnacle/convert.single", laid_binnacle_convert_single)] }
def ConvertBetweenSaid : Prop := convertBetweenRow.holds Tryd.pinned (OpenSpec.ofChange convertBetweenSpec)

/-- ITS FALSE NEIGHBOUR: 'it returns false'. Refute it at one input. -/
def convertBetweenWrong : ChangeSpec := { name := "convertBetween", fn := fun _ => fun
  | [d1, d2, d3, d4] => { results := [.lit (.bool false)], args := [d1, d2, d3, d4] }
  | _ => none }
def ConvertBetweenWrongFalsely : Prop := convertBetweenRow.holds Tryd.pinned (OpenSpec.ofChange convertBetweenWrong)

/-- 'binnaclelaw02.ConvertTurned': WHATEVER THE INPUT: true; the input reads as it did. -/
def convertTurnedSpec : ChangeSpec := { name := "convertTurned", fn := fun _ => fun
  | [d1, d2, d3, d4] => { results := [.lit (.bool true)], args := [d1, d2, d3, d4] }
  | _ => none }
def convertTurnedRow : OpenClaim := { program := "ytifgngmebnjfkaadoor", sum := "c35230aa17a5907ccfb503f5f3bbff52e2979e12f18b25553193003ef551481b", func := "binnacle/binnaclelaw02.ConvertTurned", spec := "convertTurned", inPlace := ["math.Float64frombits", "math.Float32bits", "math.Float32frombits", "math.Float64bits", "math.FMA"], named := ["binnacle/convert.single"], apart := false, laid := [("binnacle/convert.single", laid_binnacle_convert_single)] }
def ConvertTurnedSaid : Prop := convertTurnedRow.holds Tryd.pinned (OpenSpec.ofChange convertTurnedSpec)

/-- ITS FALSE NEIGHBOUR: 'it returns false'. Refute it at one input. -/
def convertTurnedWrong : ChangeSpec := { name := "convertTurned", fn := fun _ => fun
  | [d1, d2, d3, d4] => { results := [.lit (.bool false)], args := [d1, d2, d3, d4] }
  | _ => none }
def ConvertTurnedWrongFalsely : Prop := convertTurnedRow.holds Tryd.pinned (OpenSpec.ofChange convertTurnedWrong)

/-- 'binnaclelaw02.ConvertFigueroa': WHATEVER THE INPUT: true; the input reads as it did. -/
def convertFigueroaSpec : ChangeSpec := { name := "convertFigueroa", fn := fun _ => fun
  | [d1, d2] => { results := [.lit (.bool true)], args := [d1, d2] }
  | _ => none }
def convertFigueroaRow : OpenClaim := { program := "ytifgngmebnjfkaadoor", sum := "c35230aa17a5907ccfb503f5f3bbff52e2979e12f18b25553193003ef551481b", func := "binnacle/binnaclelaw02.ConvertFigueroa", spec := "convertFigueroa", inPlace := ["math.Float32frombits", "math.Float64frombits", "math.Float32bits", "math.Float64bits", "math.FMA", "math.sqrt"], named := ["binnacle/convert.single"], apart := false, laid := [("binnacle/convert.single", laid_binnacle_convert_single)] }
def ConvertFigueroaSaid : Prop := convertFigueroaRow.holds Tryd.pinned (OpenSpec.ofChange convertFigueroaSpec)

/-- ITS FALSE NEIGHBOUR: 'it returns false'. Refute it at one input. -/
def convertFigueroaWrong : ChangeSpec := { name := "convertFigueroa", fn := fun _ => fun
  | [d1, d2] => { results := [.lit (.bool false)], args := [d1, d2] }
  | _ => none }
def ConvertFigueroaWrongFalsely : Prop := convertFigueroaRow.holds Tryd.pinned (OpenSpec.ofChange convertFigueroaWrong)

/- THE SECOND FORM. 'bulk': how many values and letters a reading holds, each counted each time it is reached (what is shared counts as often as it is met; a slice's spare places count too). A statement '..UptoSaid' is the law's where the arguments, and the package variables that the reading takes, are together of bulk at most 1048576: NARROWER than '..Said'. Prove '..Said' where nothing that the law and all that it calls make is longer than what came in: it says more and counts as full. Else prove '..UptoSaid'. A law counts once. -/
mutual
def uptoBulk {H : Type} : DataW H → Nat
  | .lit (.string bytes) => bytes.length + 1
  | .lit _ => 1
  | .nil => 1
  | .ptr d => uptoBulk d + 1
  | .slice elems spare => uptoBulkAll elems + uptoBulkAll spare + 1
  | .agg parts => uptoBulkAll parts + 1
  | .iface _ d => uptoBulk d + 1
  | .map entries => uptoBulkEntries entries + 1
  | .held _ => 1
def uptoBulkAll {H : Type} : List (DataW H) → Nat
  | [] => 0
  | d :: r => uptoBulk d + uptoBulkAll r
def uptoBulkEntries {H : Type} : List (Lit × DataW H) → Nat
  | [] => 0
  | x :: r => uptoBulkEntry x + uptoBulkEntries r
def uptoBulkEntry {H : Type} : Lit × DataW H → Nat
  | (.string bytes, d) => bytes.length + uptoBulk d + 1
  | (_, d) => uptoBulk d + 1
 end
def uptoSmall : (H : Type) → List (DataW H) → Bool := fun _ ds => decide (uptoBulkAll ds ≤ 1048576)
def OpenSpec.upto (s : _root_.Go.ChangeSpec) : _root_.Go.OpenSpec := { _root_.Go.OpenSpec.ofChange s with cond := some uptoSmall }

/-- 'binnaclelaw02.ConvertSterbenz', WHERE WHAT IT READS IS OF BULK AT MOST 1048576: true; the input reads as it did. -/
def convertSterbenzUptoRow : OpenClaim := { program := "ytifgngmebnjfkaadoor", sum := "c35230aa17a5907ccfb503f5f3bbff52e2979e12f18b25553193003ef551481b", func := "binnacle/binnaclelaw02.ConvertSterbenz", spec := "convertSterbenz", inPlace := ["math.Float64frombits", "math.Float32bits", "math.Float32frombits", "math.Float64bits"], named := ["binnacle/convert.single"], apart := false, laid := [("binnacle/convert.single", laid_binnacle_convert_single)], narrowed := true }
def ConvertSterbenzUptoSaid : Prop := convertSterbenzUptoRow.holds Tryd.pinned (OpenSpec.upto convertSterbenzSpec)

/-- 'binnaclelaw02.ConvertNarrows', WHERE WHAT IT READS IS OF BULK AT MOST 1048576: true; the input reads as it did. -/
def convertNarrowsUptoRow : OpenClaim := { program := "ytifgngmebnjfkaadoor", sum := "c35230aa17a5907ccfb503f5f3bbff52e2979e12f18b25553193003ef551481b", func := "binnacle/binnaclelaw02.ConvertNarrows", spec := "convertNarrows", inPlace := ["math.Float64frombits", "math.Float32bits", "math.Float32frombits", "math.Float64bits"], named := ["binnacle/convert.single"], apart := false, laid := [("binnacle/convert.single", laid_binnacle_convert_single)], narrowed := true }
def ConvertNarrowsUptoSaid : Prop := convertNarrowsUptoRow.holds Tryd.pinned (OpenSpec.upto convertNarrowsSpec)

/-- 'binnaclelaw02.ConvertBack', WHERE WHAT IT READS IS OF BULK AT MOST 1048576: true; the input reads as it did. -/
def convertBackUptoRow : OpenClaim := { program := "ytifgngmebnjfkaadoor", sum := "c35230aa17a5907ccfb503f5f3bbff52e2979e12f18b25553193003ef551481b", func := "binnacle/binnaclelaw02.ConvertBack", spec := "convertBack", inPlace := ["math.Float64frombits", "math.Float32bits", "math.Float32frombits", "math.Float64bits"], named := ["binnacle/convert.single", "binnacle/convert.double"], apart := false, laid := [("binnacle/convert.single", laid_binnacle_convert_single), ("binnacle/convert.double", laid_binnacle_convert_double)], narrowed := true }
def ConvertBackUptoSaid : Prop := convertBackUptoRow.holds Tryd.pinned (OpenSpec.upto convertBackSpec)

/-- 'binnaclelaw02.ConvertScales', WHERE WHAT IT READS IS OF BULK AT MOST 1048576: true; the input reads as it did. -/
def convertScalesUptoRow : OpenClaim := { program := "ytifgngmebnjfkaadoor", sum := "c35230aa17a5907ccfb503f5f3bbff52e2979e12f18b25553193003ef551481b", func := "binnacle/binnaclelaw02.ConvertScales", spec := "convertScales", inPlace := ["math.Float64frombits", "math.Float64bits", "math.Float32bits", "math.Float32frombits"], named := ["binnacle/convert.double", "binnacle/convert.single"], apart := false, laid := [("binnacle/convert.single", laid_binnacle_convert_single), ("binnacle/convert.double", laid_binnacle_convert_double)], narrowed := true }
def ConvertScalesUptoSaid : Prop := convertScalesUptoRow.holds Tryd.pinned (OpenSpec.upto convertScalesSpec)

/-- 'binnaclelaw02.ConvertRises', WHERE WHAT IT READS IS OF BULK AT MOST 1048576: true; the input reads as it did. -/
def convertRisesUptoRow : OpenClaim := { program := "ytifgngmebnjfkaadoor", sum := "c35230aa17a5907ccfb503f5f3bbff52e2979e12f18b25553193003ef551481b", func := "binnacle/binnaclelaw02.ConvertRises", spec := "convertRises", inPlace := ["math.Float64frombits", "math.Float32bits", "math.Float32frombits", "math.Float64bits"], named := ["binnacle/convert.single", "binnacle/convert.double"], apart := false, laid := [("binnacle/convert.single", laid_binnacle_convert_single), ("binnacle/convert.double", laid_binnacle_convert_double)], narrowed := true }
def ConvertRisesUptoSaid : Prop := convertRisesUptoRow.holds Tryd.pinned (OpenSpec.upto convertRisesSpec)

/-- 'binnaclelaw02.ConvertInts', WHERE WHAT IT READS IS OF BULK AT MOST 1048576: true; the input reads as it did. -/
def convertIntsUptoRow : OpenClaim := { program := "ytifgngmebnjfkaadoor", sum := "c35230aa17a5907ccfb503f5f3bbff52e2979e12f18b25553193003ef551481b", func := "binnacle/binnaclelaw02.ConvertInts", spec := "convertInts", inPlace := ["math.Float64bits", "math.Float64frombits", "math.Float32bits", "math.Float32frombits"], named := ["binnacle/convert.double", "binnacle/convert.single"], apart := false, laid := [("binnacle/convert.single", laid_binnacle_convert_single), ("binnacle/convert.double", laid_binnacle_convert_double)], narrowed := true }
def ConvertIntsUptoSaid : Prop := convertIntsUptoRow.holds Tryd.pinned (OpenSpec.upto convertIntsSpec)

/-- 'binnaclelaw02.ConvertBetween', WHERE WHAT IT READS IS OF BULK AT MOST 1048576: true; the input reads as it did. -/
def convertBetweenUptoRow : OpenClaim := { program := "ytifgngmebnjfkaadoor", sum := "c35230aa17a5907ccfb503f5f3bbff52e2979e12f18b25553193003ef551481b", func := "binnacle/binnaclelaw02.ConvertBetween", spec := "convertBetween", inPlace := ["math.Float64frombits", "math.Float32bits", "math.Float32frombits", "math.Float64bits"], named := ["binnacle/convert.single"], apart := false, laid := [("binnacle/convert.single", laid_binnacle_convert_single)], narrowed := true }
def ConvertBetweenUptoSaid : Prop := convertBetweenUptoRow.holds Tryd.pinned (OpenSpec.upto convertBetweenSpec)

/-- 'binnaclelaw02.ConvertTurned', WHERE WHAT IT READS IS OF BULK AT MOST 1048576: true; the input reads as it did. -/
def convertTurnedUptoRow : OpenClaim := { program := "ytifgngmebnjfkaadoor", sum := "c35230aa17a5907ccfb503f5f3bbff52e2979e12f18b25553193003ef551481b", func := "binnacle/binnaclelaw02.ConvertTurned", spec := "convertTurned", inPlace := ["math.Float64frombits", "math.Float32bits", "math.Float32frombits", "math.Float64bits", "math.FMA"], named := ["binnacle/convert.single"], apart := false, laid := [("binnacle/convert.single", laid_binnacle_convert_single)], narrowed := true }
def ConvertTurnedUptoSaid : Prop := convertTurnedUptoRow.holds Tryd.pinned (OpenSpec.upto convertTurnedSpec)

/-- 'binnaclelaw02.ConvertFigueroa', WHERE WHAT IT READS IS OF BULK AT MOST 1048576: true; the input reads as it did. -/
def convertFigueroaUptoRow : OpenClaim := { program := "ytifgngmebnjfkaadoor", sum := "c35230aa17a5907ccfb503f5f3bbff52e2979e12f18b25553193003ef551481b", func := "binnacle/binnaclelaw02.ConvertFigueroa", spec := "convertFigueroa", inPlace := ["math.Float32frombits", "math.Float64frombits", "math.Float32bits", "math.Float64bits", "math.FMA", "math.sqrt"], named := ["binnacle/convert.single"], apart := false, laid := [("binnacle/convert.single", laid_binnacle_convert_single)], narrowed := true }
def ConvertFigueroaUptoSaid : Prop := convertFigueroaUptoRow.holds Tryd.pinned (OpenSpec.upto convertFigueroaSpec)

end Rows
end Go.Proofs.YtifgngmebnjfkaaDoor
