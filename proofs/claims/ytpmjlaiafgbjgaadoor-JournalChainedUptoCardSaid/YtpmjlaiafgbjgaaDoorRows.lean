/-
  NARROWER THAN 'FOR EVERY INPUT', by the rows' own cells (each row's printed sentence says how): JournalOpens: laid · JournalReads: laid · JournalTorn: laid · JournalTurned: laid · JournalChained: laid · JournalBack: laid · JournalRecords: laid · JournalNil: laid.
  DERIVED. THE GIVEN ROWS OF THIS SEAT. 8 by the template 'for every input the law returns true; each argument reads behind the call as it read before'; 0 by the template 'total and deterministic' (their statements: YtpmjlaiafgbjgaaDoorTotals.lean).
  GIVEN WITH THE SEED: the statements are not yours to turn. If you find one false, say at which input.
  Laid BY PROGRAM, IN A SANDBOX (cutbox-rows.mjs): the forced cells as the released guide's own fill.sh prints them over the translation cb89faa6d30978fc… (all of the seat's roots in one cut). By AI agents, Wed Nov 11 2026. No macro, syntax, notation, axiom, sorry.
-/
import Derived.Test.YtpmjlaiafgbjgaaDoorChecked
import GoSem.Claim
import GoSem.ClaimJoined
import GoSem.ClaimMapViews
import Derived.JoinedTies
import Derived.KernelRfl
namespace Go.Proofs.YtpmjlaiafgbjgaaDoor
/- THE CELL 'sum', in the pinned program and in every row, IS THE sha256 OF THE DUMP (.gsa) THAT YtpmjlaiafgbjgaaDoorProg.lean LOADS. Nothing in Lean hashes anything: it is a label: what it is worth is what the hold of that sum in a sandbox is worth. -/
noncomputable def Tryd.pinned : Pinned := { name := "ytpmjlaiafgbjgaadoor", sum := "cb89faa6d30978fc186a5ab11a26974959f11f76296c58e517cd280f267c6645", checked := Tryd.checked }
namespace Rows
def none {H : Type} : Left H := { results := [], args := [] }

/- WHAT THE LISTED PACKAGE-LEVEL VARIABLES READ AS WHEN THE CALL BEGINS. Each datum BY PROGRAM (the guide's laid-datum.mjs) off the statement by which the dump's own 'gosem.cut.vars' lays the variable. In a bare row this is a premise. The card (YtpmjlaiafgbjgaaDoorCards.lean) ties it to the program's text. -/
def laid_binnacle_convert_single {H : Type} : DataW H := .agg [.lit (.int .i64 24), .lit (.int .i64 (-126)), .lit (.int .i64 127)]

/-- 'binnaclelaw22.JournalOpens': WHATEVER THE INPUT: true; the input reads as it did. -/
def journalOpensSpec : ChangeSpec := { name := "journalOpens", fn := fun _ => fun
  | [d] => { results := [.lit (.bool true)], args := [d] }
  | _ => none }
def journalOpensRow : OpenClaim := { program := "ytpmjlaiafgbjgaadoor", sum := "cb89faa6d30978fc186a5ab11a26974959f11f76296c58e517cd280f267c6645", func := "binnacle/binnaclelaw22.JournalOpens", spec := "journalOpens", inPlace := ["math.Float64frombits", "math.Float32frombits", "math.Float64bits", "math.Float32bits"], named := ["binnacle/convert.single"], apart := false, laid := [("binnacle/convert.single", laid_binnacle_convert_single)] }
def JournalOpensSaid : Prop := journalOpensRow.holds Tryd.pinned (OpenSpec.ofChange journalOpensSpec)

/-- ITS FALSE NEIGHBOUR: 'it returns false'. Refute it at one input. -/
def journalOpensWrong : ChangeSpec := { name := "journalOpens", fn := fun _ => fun
  | [d] => { results := [.lit (.bool false)], args := [d] }
  | _ => none }
def JournalOpensWrongFalsely : Prop := journalOpensRow.holds Tryd.pinned (OpenSpec.ofChange journalOpensWrong)

/-- 'binnaclelaw22.JournalReads': WHATEVER THE INPUT: true; the input reads as it did. -/
def journalReadsSpec : ChangeSpec := { name := "journalReads", fn := fun _ => fun
  | [d] => { results := [.lit (.bool true)], args := [d] }
  | _ => none }
def journalReadsRow : OpenClaim := { program := "ytpmjlaiafgbjgaadoor", sum := "cb89faa6d30978fc186a5ab11a26974959f11f76296c58e517cd280f267c6645", func := "binnacle/binnaclelaw22.JournalReads", spec := "journalReads", inPlace := ["math.Float64frombits", "math.Float32frombits", "math.Float64bits", "math.Float32bits"], named := ["binnacle/convert.single"], apart := false, laid := [("binnacle/convert.single", laid_binnacle_convert_single)] }
def JournalReadsSaid : Prop := journalReadsRow.holds Tryd.pinned (OpenSpec.ofChange journalReadsSpec)

/-- ITS FALSE NEIGHBOUR: 'it returns false'. Refute it at one input. -/
def journalReadsWrong : ChangeSpec := { name := "journalReads", fn := fun _ => fun
  | [d] => { results := [.lit (.bool false)], args := [d] }
  | _ => none }
def JournalReadsWrongFalsely : Prop := journalReadsRow.holds Tryd.pinned (OpenSpec.ofChange journalReadsWrong)

/-- 'binnaclelaw22.JournalTorn': WHATEVER THE INPUT: true; the input reads as it did. -/
def journalTornSpec : ChangeSpec := { name := "journalTorn", fn := fun _ => fun
  | [d1, d2] => { results := [.lit (.bool true)], args := [d1, d2] }
  | _ => none }
def journalTornRow : OpenClaim := { program := "ytpmjlaiafgbjgaadoor", sum := "cb89faa6d30978fc186a5ab11a26974959f11f76296c58e517cd280f267c6645", func := "binnacle/binnaclelaw22.JournalTorn", spec := "journalTorn", inPlace := ["math.Float64frombits", "math.Float32frombits", "math.Float64bits", "math.Float32bits"], unfollowed := true, recurses := true, named := ["binnacle/convert.single"], apart := false, laid := [("binnacle/convert.single", laid_binnacle_convert_single)] }
def JournalTornSaid : Prop := journalTornRow.holds Tryd.pinned (OpenSpec.ofChange journalTornSpec)

/-- ITS FALSE NEIGHBOUR: 'it returns false'. Refute it at one input. -/
def journalTornWrong : ChangeSpec := { name := "journalTorn", fn := fun _ => fun
  | [d1, d2] => { results := [.lit (.bool false)], args := [d1, d2] }
  | _ => none }
def JournalTornWrongFalsely : Prop := journalTornRow.holds Tryd.pinned (OpenSpec.ofChange journalTornWrong)

/-- 'binnaclelaw22.JournalTurned': WHATEVER THE INPUT: true; the input reads as it did. -/
def journalTurnedSpec : ChangeSpec := { name := "journalTurned", fn := fun _ => fun
  | [d1, d2, d3] => { results := [.lit (.bool true)], args := [d1, d2, d3] }
  | _ => none }
def journalTurnedRow : OpenClaim := { program := "ytpmjlaiafgbjgaadoor", sum := "cb89faa6d30978fc186a5ab11a26974959f11f76296c58e517cd280f267c6645", func := "binnacle/binnaclelaw22.JournalTurned", spec := "journalTurned", inPlace := ["math.Float64frombits", "math.Float32frombits", "math.Float64bits", "math.Float32bits"], unfollowed := true, recurses := true, named := ["binnacle/convert.single"], apart := false, laid := [("binnacle/convert.single", laid_binnacle_convert_single)] }
def JournalTurnedSaid : Prop := journalTurnedRow.holds Tryd.pinned (OpenSpec.ofChange journalTurnedSpec)

/-- ITS FALSE NEIGHBOUR: 'it returns false'. Refute it at one input. -/
def journalTurnedWrong : ChangeSpec := { name := "journalTurned", fn := fun _ => fun
  | [d1, d2, d3] => { results := [.lit (.bool false)], args := [d1, d2, d3] }
  | _ => none }
def JournalTurnedWrongFalsely : Prop := journalTurnedRow.holds Tryd.pinned (OpenSpec.ofChange journalTurnedWrong)

/-- 'binnaclelaw22.JournalChained': WHATEVER THE INPUT: true; the input reads as it did. -/
def journalChainedSpec : ChangeSpec := { name := "journalChained", fn := fun _ => fun
  | [d1, d2, d3, d4] => { results := [.lit (.bool true)], args := [d1, d2, d3, d4] }
  | _ => none }
def journalChainedRow : OpenClaim := { program := "ytpmjlaiafgbjgaadoor", sum := "cb89faa6d30978fc186a5ab11a26974959f11f76296c58e517cd280f267c6645", func := "binnacle/binnaclelaw22.JournalChained", spec := "journalChained", inPlace := ["math.Float64frombits", "math.Float32frombits", "math.Float64bits", "math.Float32bits"], unfollowed := true, recurses := true, named := ["binnacle/convert.single"], apart := false, laid := [("binnacle/convert.single", laid_binnacle_convert_single)] }
def JournalChainedSaid : Prop := journalChainedRow.holds Tryd.pinned (OpenSpec.ofChange journalChainedSpec)

/-- ITS FALSE NEIGHBOUR: 'it returns false'. Refute it at one input. -/
def journalChainedWrong : ChangeSpec := { name := "journalChained", fn := fun _ => fun
  | [d1, d2, d3, d4] => { results := [.lit (.bool false)], args := [d1, d2, d3, d4] }
  | _ => none }
def JournalChainedWrongFalsely : Prop := journalChainedRow.holds Tryd.pinned (OpenSpec.ofChange journalChainedWrong)

/-- 'binnaclelaw22.JournalBack': WHATEVER THE INPUT: true; the input reads as it did. -/
def journalBackSpec : ChangeSpec := { name := "journalBack", fn := fun _ => fun
  | [d1, d2] => { results := [.lit (.bool true)], args := [d1, d2] }
  | _ => none }
def journalBackRow : OpenClaim := { program := "ytpmjlaiafgbjgaadoor", sum := "cb89faa6d30978fc186a5ab11a26974959f11f76296c58e517cd280f267c6645", func := "binnacle/binnaclelaw22.JournalBack", spec := "journalBack", inPlace := ["math.Float64frombits", "math.Float32frombits", "math.Float64bits", "math.Float32bits"], unfollowed := true, recurses := true, named := ["binnacle/convert.single"], apart := false, laid := [("binnacle/convert.single", laid_binnacle_convert_single)] }
def JournalBackSaid : Prop := journalBackRow.holds Tryd.pinned (OpenSpec.ofChange journalBackSpec)

/-- ITS FALSE NEIGHBOUR: 'it returns false'. Refute it at one input. -/
def journalBackWrong : ChangeSpec := { name := "journalBack", fn := fun _ => fun
  | [d1, d2] => { results := [.lit (.bool false)], args := [d1, d2] }
  | _ => none }
def JournalBackWrongFalsely : Prop := journalBackRow.holds Tryd.pinned (OpenSpec.ofChange journalBackWrong)

/-- 'binnaclelaw22.JournalRecords': WHATEVER THE INPUT: true; the input reads as it did. -/
def journalRecordsSpec : ChangeSpec := { name := "journalRecords", fn := fun _ => fun
  | [d1, d2, d3, d4] => { results := [.lit (.bool true)], args := [d1, d2, d3, d4] }
  | _ => none }
def journalRecordsRow : OpenClaim := { program := "ytpmjlaiafgbjgaadoor", sum := "cb89faa6d30978fc186a5ab11a26974959f11f76296c58e517cd280f267c6645", func := "binnacle/binnaclelaw22.JournalRecords", spec := "journalRecords", inPlace := ["math.Float64frombits", "math.Float32frombits", "math.Float64bits", "math.Float32bits"], named := ["binnacle/convert.single"], apart := false, laid := [("binnacle/convert.single", laid_binnacle_convert_single)] }
def JournalRecordsSaid : Prop := journalRecordsRow.holds Tryd.pinned (OpenSpec.ofChange journalRecordsSpec)

/-- ITS FALSE NEIGHBOUR: 'it returns false'. Refute it at one input. -/
def journalRecordsWrong : ChangeSpec := { name := "journalRecords", fn := fun _ => fun
  | [d1, d2, d3, d4] => { results := [.lit (.bool false)], args := [d1, d2, d3, d4] }
  | _ => none }
def JournalRecordsWrongFalsely : Prop := journalRecordsRow.holds Tryd.pinned (OpenSpec.ofChange journalRecordsWrong)

/-- 'binnaclelaw22.JournalNil': WHATEVER THE INPUT: true; the input reads as it did. -/
def journalNilSpec : ChangeSpec := { name := "journalNil", fn := fun _ => fun
  | [d1, d2] => { results := [.lit (.bool true)], args := [d1, d2] }
  | _ => none }
def journalNilRow : OpenClaim := { program := "ytpmjlaiafgbjgaadoor", sum := "cb89faa6d30978fc186a5ab11a26974959f11f76296c58e517cd280f267c6645", func := "binnacle/binnaclelaw22.JournalNil", spec := "journalNil", inPlace := ["math.Float64frombits", "math.Float32frombits", "math.Float64bits", "math.Float32bits"], unfollowed := true, recurses := true, named := ["binnacle/convert.single"], apart := false, laid := [("binnacle/convert.single", laid_binnacle_convert_single)] }
def JournalNilSaid : Prop := journalNilRow.holds Tryd.pinned (OpenSpec.ofChange journalNilSpec)

/-- ITS FALSE NEIGHBOUR: 'it returns false'. Refute it at one input. -/
def journalNilWrong : ChangeSpec := { name := "journalNil", fn := fun _ => fun
  | [d1, d2] => { results := [.lit (.bool false)], args := [d1, d2] }
  | _ => none }
def JournalNilWrongFalsely : Prop := journalNilRow.holds Tryd.pinned (OpenSpec.ofChange journalNilWrong)

/- THE SECOND FORM. 'bulk': how many values and letters a reading holds, each counted each time it is reached (what is shared counts as often as it is met; a slice's spare places count too). A statement '..UptoSaid' is the law's where the arguments, and the package variables that the reading takes, are together of bulk at most 1048576: NARROWER than '..Said'. Prove '..Said' where nothing that the law and all that it calls make is longer than what came in: it says more and counts as full. Else prove '..UptoSaid'. A law counts once. -/
mutual
def uptoBulk {H : Type} : DataW H → Nat
  | .lit (.string bytes) => bytes.length + 1
  | .lit _ => 1
  | .nil => 1
  | .ptr d => uptoBulk d + 1
  | .slice elems spare => uptoBulkAll elems + uptoBulkAll spare + 1
  | .agg parts => uptoBulkAll parts + 1
  | .iface _ d => uptoBulk d + 1
  | .map entries => uptoBulkEntries entries + 1
  | .held _ => 1
def uptoBulkAll {H : Type} : List (DataW H) → Nat
  | [] => 0
  | d :: r => uptoBulk d + uptoBulkAll r
def uptoBulkEntries {H : Type} : List (Lit × DataW H) → Nat
  | [] => 0
  | x :: r => uptoBulkEntry x + uptoBulkEntries r
def uptoBulkEntry {H : Type} : Lit × DataW H → Nat
  | (.string bytes, d) => bytes.length + uptoBulk d + 1
  | (_, d) => uptoBulk d + 1
 end
def uptoSmall : (H : Type) → List (DataW H) → Bool := fun _ ds => decide (uptoBulkAll ds ≤ 1048576)
def OpenSpec.upto (s : _root_.Go.ChangeSpec) : _root_.Go.OpenSpec := { _root_.Go.OpenSpec.ofChange s with cond := some uptoSmall }

/-- 'binnaclelaw22.JournalOpens', WHERE WHAT IT READS IS OF BULK AT MOST 1048576: true; the input reads as it did. -/
def journalOpensUptoRow : OpenClaim := { program := "ytpmjlaiafgbjgaadoor", sum := "cb89faa6d30978fc186a5ab11a26974959f11f76296c58e517cd280f267c6645", func := "binnacle/binnaclelaw22.JournalOpens", spec := "journalOpens", inPlace := ["math.Float64frombits", "math.Float32frombits", "math.Float64bits", "math.Float32bits"], named := ["binnacle/convert.single"], apart := false, laid := [("binnacle/convert.single", laid_binnacle_convert_single)], narrowed := true }
def JournalOpensUptoSaid : Prop := journalOpensUptoRow.holds Tryd.pinned (OpenSpec.upto journalOpensSpec)

/-- 'binnaclelaw22.JournalReads', WHERE WHAT IT READS IS OF BULK AT MOST 1048576: true; the input reads as it did. -/
def journalReadsUptoRow : OpenClaim := { program := "ytpmjlaiafgbjgaadoor", sum := "cb89faa6d30978fc186a5ab11a26974959f11f76296c58e517cd280f267c6645", func := "binnacle/binnaclelaw22.JournalReads", spec := "journalReads", inPlace := ["math.Float64frombits", "math.Float32frombits", "math.Float64bits", "math.Float32bits"], named := ["binnacle/convert.single"], apart := false, laid := [("binnacle/convert.single", laid_binnacle_convert_single)], narrowed := true }
def JournalReadsUptoSaid : Prop := journalReadsUptoRow.holds Tryd.pinned (OpenSpec.upto journalReadsSpec)

/-- 'binnaclelaw22.JournalTorn', WHERE WHAT IT READS IS OF BULK AT MOST 1048576: true; the input reads as it did. -/
def journalTornUptoRow : OpenClaim := { program := "ytpmjlaiafgbjgaadoor", sum := "cb89faa6d30978fc186a5ab11a26974959f11f76296c58e517cd280f267c6645", func := "binnacle/binnaclelaw22.JournalTorn", spec := "journalTorn", inPlace := ["math.Float64frombits", "math.Float32frombits", "math.Float64bits", "math.Float32bits"], unfollowed := true, recurses := true, named := ["binnacle/convert.single"], apart := false, laid := [("binnacle/convert.single", laid_binnacle_convert_single)], narrowed := true }
def JournalTornUptoSaid : Prop := journalTornUptoRow.holds Tryd.pinned (OpenSpec.upto journalTornSpec)

/-- 'binnaclelaw22.JournalTurned', WHERE WHAT IT READS IS OF BULK AT MOST 1048576: true; the input reads as it did. -/
def journalTurnedUptoRow : OpenClaim := { program := "ytpmjlaiafgbjgaadoor", sum := "cb89faa6d30978fc186a5ab11a26974959f11f76296c58e517cd280f267c6645", func := "binnacle/binnaclelaw22.JournalTurned", spec := "journalTurned", inPlace := ["math.Float64frombits", "math.Float32frombits", "math.Float64bits", "math.Float32bits"], unfollowed := true, recurses := true, named := ["binnacle/convert.single"], apart := false, laid := [("binnacle/convert.single", laid_binnacle_convert_single)], narrowed := true }
def JournalTurnedUptoSaid : Prop := journalTurnedUptoRow.holds Tryd.pinned (OpenSpec.upto journalTurnedSpec)

/-- 'binnaclelaw22.JournalChained', WHERE WHAT IT READS IS OF BULK AT MOST 1048576: true; the input reads as it did. -/
def journalChainedUptoRow : OpenClaim := { program := "ytpmjlaiafgbjgaadoor", sum := "cb89faa6d30978fc186a5ab11a26974959f11f76296c58e517cd280f267c6645", func := "binnacle/binnaclelaw22.JournalChained", spec := "journalChained", inPlace := ["math.Float64frombits", "math.Float32frombits", "math.Float64bits", "math.Float32bits"], unfollowed := true, recurses := true, named := ["binnacle/convert.single"], apart := false, laid := [("binnacle/convert.single", laid_binnacle_convert_single)], narrowed := true }
def JournalChainedUptoSaid : Prop := journalChainedUptoRow.holds Tryd.pinned (OpenSpec.upto journalChainedSpec)

/-- 'binnaclelaw22.JournalBack', WHERE WHAT IT READS IS OF BULK AT MOST 1048576: true; the input reads as it did. -/
def journalBackUptoRow : OpenClaim := { program := "ytpmjlaiafgbjgaadoor", sum := "cb89faa6d30978fc186a5ab11a26974959f11f76296c58e517cd280f267c6645", func := "binnacle/binnaclelaw22.JournalBack", spec := "journalBack", inPlace := ["math.Float64frombits", "math.Float32frombits", "math.Float64bits", "math.Float32bits"], unfollowed := true, recurses := true, named := ["binnacle/convert.single"], apart := false, laid := [("binnacle/convert.single", laid_binnacle_convert_single)], narrowed := true }
def JournalBackUptoSaid : Prop := journalBackUptoRow.holds Tryd.pinned (OpenSpec.upto journalBackSpec)

/-- 'binnaclelaw22.JournalRecords', WHERE WHAT IT READS IS OF BULK AT MOST 1048576: true; the input reads as it did. -/
def journalRecordsUptoRow : OpenClaim := { program := "ytpmjlaiafgbjgaadoor", sum := "cb89faa6d30978fc186a5ab11a26974959f11f76296c58e517cd280f267c6645", func := "binnacle/binnaclelaw22.JournalRecords", spec := "journalRecords", inPlace := ["math.Float64frombits", "math.Float32frombits", "math.Float64bits", "math.Float32bits"], named := ["binnacle/convert.single"], apart := false, laid := [("binnacle/convert.single", laid_binnacle_convert_single)], narrowed := true }
def JournalRecordsUptoSaid : Prop := journalRecordsUptoRow.holds Tryd.pinned (OpenSpec.upto journalRecordsSpec)

/-- 'binnaclelaw22.JournalNil', WHERE WHAT IT READS IS OF BULK AT MOST 1048576: true; the input reads as it did. -/
def journalNilUptoRow : OpenClaim := { program := "ytpmjlaiafgbjgaadoor", sum := "cb89faa6d30978fc186a5ab11a26974959f11f76296c58e517cd280f267c6645", func := "binnacle/binnaclelaw22.JournalNil", spec := "journalNil", inPlace := ["math.Float64frombits", "math.Float32frombits", "math.Float64bits", "math.Float32bits"], unfollowed := true, recurses := true, named := ["binnacle/convert.single"], apart := false, laid := [("binnacle/convert.single", laid_binnacle_convert_single)], narrowed := true }
def JournalNilUptoSaid : Prop := journalNilUptoRow.holds Tryd.pinned (OpenSpec.upto journalNilSpec)

end Rows
end Go.Proofs.YtpmjlaiafgbjgaaDoor
