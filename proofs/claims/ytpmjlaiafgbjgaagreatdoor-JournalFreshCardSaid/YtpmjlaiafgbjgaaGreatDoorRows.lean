/-
  NARROWER THAN 'FOR EVERY INPUT', by the rows' own cells (each row's printed sentence says how): JournalDoes: laid · JournalFresh: laid.
  DERIVED. THE GIVEN ROWS OF THIS SEAT. 2 by the template 'for every input the law returns true; each argument reads behind the call as it read before'; 0 by the template 'total and deterministic' (their statements: YtpmjlaiafgbjgaaGreatDoorTotals.lean).
  GIVEN WITH THE SEED: the statements are not yours to turn. If you find one false, say at which input.
  Laid BY PROGRAM, IN A SANDBOX (cutbox-rows.mjs): the forced cells as the released guide's own fill.sh prints them over the translation 1eeef1bdfd724d86… (all of the seat's roots in one cut). By AI agents, Wed Nov 11 2026. No macro, syntax, notation, axiom, sorry.
-/
import Derived.Test.YtpmjlaiafgbjgaaGreatDoorChecked
import GoSem.Claim
import GoSem.ClaimJoined
import GoSem.ClaimMapViews
import Derived.JoinedTies
import Derived.KernelRfl
namespace Go.Proofs.YtpmjlaiafgbjgaaGreatDoor
/- THE CELL 'sum', in the pinned program and in every row, IS THE sha256 OF THE DUMP (.gsa) THAT YtpmjlaiafgbjgaaGreatDoorProg.lean LOADS. Nothing in Lean hashes anything: it is a label: what it is worth is what the hold of that sum in a sandbox is worth. -/
noncomputable def Tryz.pinned : Pinned := { name := "ytpmjlaiafgbjgaagreatdoor", sum := "1eeef1bdfd724d86d2889e399cc27daecc7d655404b27f8fd77af553acb7ec69", checked := Tryz.checked }
namespace Rows
def none {H : Type} : Left H := { results := [], args := [] }

/- WHAT THE LISTED PACKAGE-LEVEL VARIABLES READ AS WHEN THE CALL BEGINS. Each datum BY PROGRAM (the guide's laid-datum.mjs) off the statement by which the dump's own 'gosem.cut.vars' lays the variable. In a bare row this is a premise. The card (YtpmjlaiafgbjgaaGreatDoorCards.lean) ties it to the program's text. -/
def laid_binnacle_convert_single {H : Type} : DataW H := .agg [.lit (.int .i64 24), .lit (.int .i64 (-126)), .lit (.int .i64 127)]

/-- 'binnaclelaw22.JournalDoes': WHATEVER THE INPUT: true; the input reads as it did. -/
def journalDoesSpec : ChangeSpec := { name := "journalDoes", fn := fun _ => fun
  | [d1, d2] => { results := [.lit (.bool true)], args := [d1, d2] }
  | _ => none }
def journalDoesRow : OpenClaim := { program := "ytpmjlaiafgbjgaagreatdoor", sum := "1eeef1bdfd724d86d2889e399cc27daecc7d655404b27f8fd77af553acb7ec69", func := "binnacle/binnaclelaw22.JournalDoes", spec := "journalDoes", inPlace := ["math.Float64frombits", "math.Float32frombits", "math.Float64bits", "math.Float32bits"], unfollowed := true, recurses := true, named := ["binnacle/convert.single"], apart := false, laid := [("binnacle/convert.single", laid_binnacle_convert_single)] }
def JournalDoesSaid : Prop := journalDoesRow.holds Tryz.pinned (OpenSpec.ofChange journalDoesSpec)

/-- ITS FALSE NEIGHBOUR: 'it returns false'. Refute it at one input. -/
def journalDoesWrong : ChangeSpec := { name := "journalDoes", fn := fun _ => fun
  | [d1, d2] => { results := [.lit (.bool false)], args := [d1, d2] }
  | _ => none }
def JournalDoesWrongFalsely : Prop := journalDoesRow.holds Tryz.pinned (OpenSpec.ofChange journalDoesWrong)

/-- 'binnaclelaw22.JournalFresh': WHATEVER THE INPUT: true; the input reads as it did. -/
def journalFreshSpec : ChangeSpec := { name := "journalFresh", fn := fun _ => fun
  | [d1, d2, d3] => { results := [.lit (.bool true)], args := [d1, d2, d3] }
  | _ => none }
def journalFreshRow : OpenClaim := { program := "ytpmjlaiafgbjgaagreatdoor", sum := "1eeef1bdfd724d86d2889e399cc27daecc7d655404b27f8fd77af553acb7ec69", func := "binnacle/binnaclelaw22.JournalFresh", spec := "journalFresh", inPlace := ["math.Float64frombits", "math.Float32frombits", "math.Float64bits", "math.Float32bits"], unfollowed := true, recurses := true, named := ["binnacle/convert.single"], apart := false, laid := [("binnacle/convert.single", laid_binnacle_convert_single)] }
def JournalFreshSaid : Prop := journalFreshRow.holds Tryz.pinned (OpenSpec.ofChange journalFreshSpec)

/-- ITS FALSE NEIGHBOUR: 'it returns false'. Refute it at one input. -/
def journalFreshWrong : ChangeSpec := { name := "journalFresh", fn := fun _ => fun
  | [d1, d2, d3] => { results := [.lit (.bool false)], args := [d1, d2, d3] }
  | _ => none }
def JournalFreshWrongFalsely : Prop := journalFreshRow.holds Tryz.pinned (OpenSpec.ofChange journalFreshWrong)

/- THE SECOND FORM. 'bulk': how many values and letters a reading holds, each counted each time it is reached (what is shared counts as often as it is met; a slice's spare places count too). A statement '..UptoSaid' is the law's where the arguments, and the package variables that the reading takes, are together of bulk at most 1048576: NARROWER than '..Said'. Prove '..Said' where nothing that the law and all that it calls make is longer than what came in: it says more and counts as full. Else prove '..UptoSaid'. A law counts once. -/
mutual
def uptoBulk {H : Type} : DataW H → Nat
  | .lit (.string bytes) => bytes.length + 1
  | .lit _ => 1
  | .nil => 1
  | .ptr d => uptoBulk d + 1
  | .slice elems spare => uptoBulkAll elems + uptoBulkAll spare + 1
  | .agg parts => uptoBulkAll parts + 1
  | .iface _ d => uptoBulk d + 1
  | .map entries => uptoBulkEntries entries + 1
  | .held _ => 1
def uptoBulkAll {H : Type} : List (DataW H) → Nat
  | [] => 0
  | d :: r => uptoBulk d + uptoBulkAll r
def uptoBulkEntries {H : Type} : List (Lit × DataW H) → Nat
  | [] => 0
  | x :: r => uptoBulkEntry x + uptoBulkEntries r
def uptoBulkEntry {H : Type} : Lit × DataW H → Nat
  | (.string bytes, d) => bytes.length + uptoBulk d + 1
  | (_, d) => uptoBulk d + 1
 end
def uptoSmall : (H : Type) → List (DataW H) → Bool := fun _ ds => decide (uptoBulkAll ds ≤ 1048576)
def OpenSpec.upto (s : _root_.Go.ChangeSpec) : _root_.Go.OpenSpec := { _root_.Go.OpenSpec.ofChange s with cond := some uptoSmall }

/-- 'binnaclelaw22.JournalDoes', WHERE WHAT IT READS IS OF BULK AT MOST 1048576: true; the input reads as it did. -/
def journalDoesUptoRow : OpenClaim := { program := "ytpmjlaiafgbjgaagreatdoor", sum := "1eeef1bdfd724d86d2889e399cc27daecc7d655404b27f8fd77af553acb7ec69", func := "binnacle/binnaclelaw22.JournalDoes", spec := "journalDoes", inPlace := ["math.Float64frombits", "math.Float32frombits", "math.Float64bits", "math.Float32bits"], unfollowed := true, recurses := true, named := ["binnacle/convert.single"], apart := false, laid := [("binnacle/convert.single", laid_binnacle_convert_single)], narrowed := true }
def JournalDoesUptoSaid : Prop := journalDoesUptoRow.holds Tryz.pinned (OpenSpec.upto journalDoesSpec)

/-- 'binnaclelaw22.JournalFresh', WHERE WHAT IT READS IS OF BULK AT MOST 1048576: true; the input reads as it did. -/
def journalFreshUptoRow : OpenClaim := { program := "ytpmjlaiafgbjgaagreatdoor", sum := "1eeef1bdfd724d86d2889e399cc27daecc7d655404b27f8fd77af553acb7ec69", func := "binnacle/binnaclelaw22.JournalFresh", spec := "journalFresh", inPlace := ["math.Float64frombits", "math.Float32frombits", "math.Float64bits", "math.Float32bits"], unfollowed := true, recurses := true, named := ["binnacle/convert.single"], apart := false, laid := [("binnacle/convert.single", laid_binnacle_convert_single)], narrowed := true }
def JournalFreshUptoSaid : Prop := journalFreshUptoRow.holds Tryz.pinned (OpenSpec.upto journalFreshSpec)

end Rows
end Go.Proofs.YtpmjlaiafgbjgaaGreatDoor
