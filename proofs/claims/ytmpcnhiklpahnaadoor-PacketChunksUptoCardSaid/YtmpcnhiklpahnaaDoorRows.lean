/-
  NARROWER THAN 'FOR EVERY INPUT', by the rows' own cells (each row's printed sentence says how): PacketPacks: laid · PacketUnpacks: laid · PacketBack: laid · PacketSpoilt: laid · PacketKeeps: laid · PacketChunks: laid · PacketFinds: laid · PacketReads: laid.
  DERIVED. THE GIVEN ROWS OF THIS SEAT. 8 by the template 'for every input the law returns true; each argument reads behind the call as it read before'; 0 by the template 'total and deterministic' (their statements: YtmpcnhiklpahnaaDoorTotals.lean).
  GIVEN WITH THE SEED: the statements are not yours to turn. If you find one false, say at which input.
  Laid BY PROGRAM, IN A SANDBOX (cutbox-rows.mjs): the forced cells as the released guide's own fill.sh prints them over the translation dc774431acc59d94… (all of the seat's roots in one cut). By AI agents, Wed Nov 11 2026. No macro, syntax, notation, axiom, sorry.
-/
import Derived.Test.YtmpcnhiklpahnaaDoorChecked
import GoSem.Claim
import GoSem.ClaimJoined
import GoSem.ClaimMapViews
import Derived.JoinedTies
import Derived.KernelRfl
namespace Go.Proofs.YtmpcnhiklpahnaaDoor
/- THE CELL 'sum', in the pinned program and in every row, IS THE sha256 OF THE DUMP (.gsa) THAT YtmpcnhiklpahnaaDoorProg.lean LOADS. Nothing in Lean hashes anything: it is a label: what it is worth is what the hold of that sum in a sandbox is worth. -/
noncomputable def Tryd.pinned : Pinned := { name := "ytmpcnhiklpahnaadoor", sum := "dc774431acc59d94504cb0026d15c8d35c6ef1a68e2b16d782fb34a8bdd0bedb", checked := Tryd.checked }
namespace Rows
def none {H : Type} : Left H := { results := [], args := [] }

/- WHAT THE LISTED PACKAGE-LEVEL VARIABLES READ AS WHEN THE CALL BEGINS. Each datum BY PROGRAM (the guide's laid-datum.mjs) off the statement by which the dump's own 'gosem.cut.vars' lays the variable. In a bare row this is a premise. The card (YtmpcnhiklpahnaaDoorCards.lean) ties it to the program's text. -/
def laid_binnacle_convert_single {H : Type} : DataW H := .agg [.lit (.int .i64 24), .lit (.int .i64 (-126)), .lit (.int .i64 127)]

/-- 'binnaclelaw21.PacketPacks': WHATEVER THE INPUT: true; the input reads as it did. -/
def packetPacksSpec : ChangeSpec := { name := "packetPacks", fn := fun _ => fun
  | [d1, d2] => { results := [.lit (.bool true)], args := [d1, d2] }
  | _ => none }
def packetPacksRow : OpenClaim := { program := "ytmpcnhiklpahnaadoor", sum := "dc774431acc59d94504cb0026d15c8d35c6ef1a68e2b16d782fb34a8bdd0bedb", func := "binnacle/binnaclelaw21.PacketPacks", spec := "packetPacks", inPlace := ["math.Float64frombits", "math.Float64bits", "math.Float32bits", "math.Float32frombits"], named := ["binnacle/convert.single"], apart := false, laid := [("binnacle/convert.single", laid_binnacle_convert_single)] }
def PacketPacksSaid : Prop := packetPacksRow.holds Tryd.pinned (OpenSpec.ofChange packetPacksSpec)

/-- ITS FALSE NEIGHBOUR: 'it returns false'. Refute it at one input. -/
def packetPacksWrong : ChangeSpec := { name := "packetPacks", fn := fun _ => fun
  | [d1, d2] => { results := [.lit (.bool false)], args := [d1, d2] }
  | _ => none }
def PacketPacksWrongFalsely : Prop := packetPacksRow.holds Tryd.pinned (OpenSpec.ofChange packetPacksWrong)

/-- 'binnaclelaw21.PacketUnpacks': WHATEVER THE INPUT: true; the input reads as it did. -/
def packetUnpacksSpec : ChangeSpec := { name := "packetUnpacks", fn := fun _ => fun
  | [d] => { results := [.lit (.bool true)], args := [d] }
  | _ => none }
def packetUnpacksRow : OpenClaim := { program := "ytmpcnhiklpahnaadoor", sum := "dc774431acc59d94504cb0026d15c8d35c6ef1a68e2b16d782fb34a8bdd0bedb", func := "binnacle/binnaclelaw21.PacketUnpacks", spec := "packetUnpacks", inPlace := ["math.Float64bits", "math.Float64frombits", "math.Float32bits", "math.Float32frombits"], named := ["binnacle/convert.single"], apart := false, laid := [("binnacle/convert.single", laid_binnacle_convert_single)] }
def PacketUnpacksSaid : Prop := packetUnpacksRow.holds Tryd.pinned (OpenSpec.ofChange packetUnpacksSpec)

/-- ITS FALSE NEIGHBOUR: 'it returns false'. Refute it at one input. -/
def packetUnpacksWrong : ChangeSpec := { name := "packetUnpacks", fn := fun _ => fun
  | [d] => { results := [.lit (.bool false)], args := [d] }
  | _ => none }
def PacketUnpacksWrongFalsely : Prop := packetUnpacksRow.holds Tryd.pinned (OpenSpec.ofChange packetUnpacksWrong)

/-- 'binnaclelaw21.PacketBack': WHATEVER THE INPUT: true; the input reads as it did. -/
def packetBackSpec : ChangeSpec := { name := "packetBack", fn := fun _ => fun
  | [d] => { results := [.lit (.bool true)], args := [d] }
  | _ => none }
def packetBackRow : OpenClaim := { program := "ytmpcnhiklpahnaadoor", sum := "dc774431acc59d94504cb0026d15c8d35c6ef1a68e2b16d782fb34a8bdd0bedb", func := "binnacle/binnaclelaw21.PacketBack", spec := "packetBack", inPlace := ["math.Float64frombits", "math.Float64bits", "math.Float32bits", "math.Float32frombits"], named := ["binnacle/convert.single"], apart := false, laid := [("binnacle/convert.single", laid_binnacle_convert_single)] }
def PacketBackSaid : Prop := packetBackRow.holds Tryd.pinned (OpenSpec.ofChange packetBackSpec)

/-- ITS FALSE NEIGHBOUR: 'it returns false'. Refute it at one input. -/
def packetBackWrong : ChangeSpec := { name := "packetBack", fn := fun _ => fun
  | [d] => { results := [.lit (.bool false)], args := [d] }
  | _ => none }
def PacketBackWrongFalsely : Prop := packetBackRow.holds Tryd.pinned (OpenSpec.ofChange packetBackWrong)

/-- 'binnaclelaw21.PacketSpoilt': WHATEVER THE INPUT: true; the input reads as it did. -/
def packetSpoiltSpec : ChangeSpec := { name := "packetSpoilt", fn := fun _ => fun
  | [d1, d2, d3] => { results := [.lit (.bool true)], args := [d1, d2, d3] }
  | _ => none }
def packetSpoiltRow : OpenClaim := { program := "ytmpcnhiklpahnaadoor", sum := "dc774431acc59d94504cb0026d15c8d35c6ef1a68e2b16d782fb34a8bdd0bedb", func := "binnacle/binnaclelaw21.PacketSpoilt", spec := "packetSpoilt", inPlace := ["math.Float64frombits", "math.Float64bits", "math.Float32bits", "math.Float32frombits"], named := ["binnacle/convert.single"], apart := false, laid := [("binnacle/convert.single", laid_binnacle_convert_single)] }
def PacketSpoiltSaid : Prop := packetSpoiltRow.holds Tryd.pinned (OpenSpec.ofChange packetSpoiltSpec)

/-- ITS FALSE NEIGHBOUR: 'it returns false'. Refute it at one input. -/
def packetSpoiltWrong : ChangeSpec := { name := "packetSpoilt", fn := fun _ => fun
  | [d1, d2, d3] => { results := [.lit (.bool false)], args := [d1, d2, d3] }
  | _ => none }
def PacketSpoiltWrongFalsely : Prop := packetSpoiltRow.holds Tryd.pinned (OpenSpec.ofChange packetSpoiltWrong)

/-- 'binnaclelaw21.PacketKeeps': WHATEVER THE INPUT: true; the input reads as it did. -/
def packetKeepsSpec : ChangeSpec := { name := "packetKeeps", fn := fun _ => fun
  | [d1, d2] => { results := [.lit (.bool true)], args := [d1, d2] }
  | _ => none }
def packetKeepsRow : OpenClaim := { program := "ytmpcnhiklpahnaadoor", sum := "dc774431acc59d94504cb0026d15c8d35c6ef1a68e2b16d782fb34a8bdd0bedb", func := "binnacle/binnaclelaw21.PacketKeeps", spec := "packetKeeps", inPlace := ["math.Float64frombits", "math.Float64bits", "math.Float32bits", "math.Float32frombits"], named := ["binnacle/convert.single"], apart := false, laid := [("binnacle/convert.single", laid_binnacle_convert_single)] }
def PacketKeepsSaid : Prop := packetKeepsRow.holds Tryd.pinned (OpenSpec.ofChange packetKeepsSpec)

/-- ITS FALSE NEIGHBOUR: 'it returns false'. Refute it at one input. -/
def packetKeepsWrong : ChangeSpec := { name := "packetKeeps", fn := fun _ => fun
  | [d1, d2] => { results := [.lit (.bool false)], args := [d1, d2] }
  | _ => none }
def PacketKeepsWrongFalsely : Prop := packetKeepsRow.holds Tryd.pinned (OpenSpec.ofChange packetKeepsWrong)

/-- 'binnaclelaw21.PacketChunks': WHATEVER THE INPUT: true; the input reads as it did. -/
def packetChunksSpec : ChangeSpec := { name := "packetChunks", fn := fun _ => fun
  | [d1, d2] => { results := [.lit (.bool true)], args := [d1, d2] }
  | _ => none }
def packetChunksRow : OpenClaim := { program := "ytmpcnhiklpahnaadoor", sum := "dc774431acc59d94504cb0026d15c8d35c6ef1a68e2b16d782fb34a8bdd0bedb", func := "binnacle/binnaclelaw21.PacketChunks", spec := "packetChunks", inPlace := ["math.Float64bits", "math.Float64frombits", "math.Float32bits", "math.Float32frombits"], named := ["binnacle/convert.single"], apart := false, laid := [("binnacle/convert.single", laid_binnacle_convert_single)] }
def PacketChunksSaid : Prop := packetChunksRow.holds Tryd.pinned (OpenSpec.ofChange packetChunksSpec)

/-- ITS FALSE NEIGHBOUR: 'it returns false'. Refute it at one input. -/
def packetChunksWrong : ChangeSpec := { name := "packetChunks", fn := fun _ => fun
  | [d1, d2] => { results := [.lit (.bool false)], args := [d1, d2] }
  | _ => none }
def PacketChunksWrongFalsely : Prop := packetChunksRow.holds Tryd.pinned (OpenSpec.ofChange packetChunksWrong)

/-- 'binnaclelaw21.PacketFinds': WHATEVER THE INPUT: true; the input reads as it did. -/
def packetFindsSpec : ChangeSpec := { name := "packetFinds", fn := fun _ => fun
  | [d1, d2] => { results := [.lit (.bool true)], args := [d1, d2] }
  | _ => none }
def packetFindsRow : OpenClaim := { program := "ytmpcnhiklpahnaadoor", sum := "dc774431acc59d94504cb0026d15c8d35c6ef1a68e2b16d782fb34a8bdd0bedb", func := "binnacle/binnaclelaw21.PacketFinds", spec := "packetFinds", inPlace := ["math.Float64bits", "math.Float64frombits", "math.Float32bits", "math.Float32frombits"], named := ["binnacle/convert.single"], apart := false, laid := [("binnacle/convert.single", laid_binnacle_convert_single)] }
def PacketFindsSaid : Prop := packetFindsRow.holds Tryd.pinned (OpenSpec.ofChange packetFindsSpec)

/-- ITS FALSE NEIGHBOUR: 'it returns false'. Refute it at one input. -/
def packetFindsWrong : ChangeSpec := { name := "packetFinds", fn := fun _ => fun
  | [d1, d2] => { results := [.lit (.bool false)], args := [d1, d2] }
  | _ => none }
def PacketFindsWrongFalsely : Prop := packetFindsRow.holds Tryd.pinned (OpenSpec.ofChange packetFindsWrong)

/-- 'binnaclelaw21.PacketReads': WHATEVER THE INPUT: true; the input reads as it did. -/
def packetReadsSpec : ChangeSpec := { name := "packetReads", fn := fun _ => fun
  | [d1, d2] => { results := [.lit (.bool true)], args := [d1, d2] }
  | _ => none }
def packetReadsRow : OpenClaim := { program := "ytmpcnhiklpahnaadoor", sum := "dc774431acc59d94504cb0026d15c8d35c6ef1a68e2b16d782fb34a8bdd0bedb", func := "binnacle/binnaclelaw21.PacketReads", spec := "packetReads", inPlace := ["math.Float64bits", "math.Float64frombits", "math.Float32bits", "math.Float32frombits"], named := ["binnacle/convert.single"], apart := false, laid := [("binnacle/convert.single", laid_binnacle_convert_single)] }
def PacketReadsSaid : Prop := packetReadsRow.holds Tryd.pinned (OpenSpec.ofChange packetReadsSpec)

/-- ITS FALSE NEIGHBOUR: 'it returns false'. Refute it at one input. -/
def packetReadsWrong : ChangeSpec := { name := "packetReads", fn := fun _ => fun
  | [d1, d2] => { results := [.lit (.bool false)], args := [d1, d2] }
  | _ => none }
def PacketReadsWrongFalsely : Prop := packetReadsRow.holds Tryd.pinned (OpenSpec.ofChange packetReadsWrong)

/- THE SECOND FORM. 'bulk': how many values and letters a reading holds, each counted each time it is reached (what is shared counts as often as it is met; a slice's spare places count too). A statement '..UptoSaid' is the law's where the arguments, and the package variables that the reading takes, are together of bulk at most 1048576: NARROWER than '..Said'. Prove '..Said' where nothing that the law and all that it calls make is longer than what came in: it says more and counts as full. Else prove '..UptoSaid'. A law counts once. -/
mutual
def uptoBulk {H : Type} : DataW H → Nat
  | .lit (.string bytes) => bytes.length + 1
  | .lit _ => 1
  | .nil => 1
  | .ptr d => uptoBulk d + 1
  | .slice elems spare => uptoBulkAll elems + uptoBulkAll spare + 1
  | .agg parts => uptoBulkAll parts + 1
  | .iface _ d => uptoBulk d + 1
  | .map entries => uptoBulkEntries entries + 1
  | .held _ => 1
def uptoBulkAll {H : Type} : List (DataW H) → Nat
  | [] => 0
  | d :: r => uptoBulk d + uptoBulkAll r
def uptoBulkEntries {H : Type} : List (Lit × DataW H) → Nat
  | [] => 0
  | x :: r => uptoBulkEntry x + uptoBulkEntries r
def uptoBulkEntry {H : Type} : Lit × DataW H → Nat
  | (.string bytes, d) => bytes.length + uptoBulk d + 1
  | (_, d) => uptoBulk d + 1
 end
def uptoSmall : (H : Type) → List (DataW H) → Bool := fun _ ds => decide (uptoBulkAll ds ≤ 1048576)
def OpenSpec.upto (s : _root_.Go.ChangeSpec) : _root_.Go.OpenSpec := { _root_.Go.OpenSpec.ofChange s with cond := some uptoSmall }

/-- 'binnaclelaw21.PacketPacks', WHERE WHAT IT READS IS OF BULK AT MOST 1048576: true; the input reads as it did. -/
def packetPacksUptoRow : OpenClaim := { program := "ytmpcnhiklpahnaadoor", sum := "dc774431acc59d94504cb0026d15c8d35c6ef1a68e2b16d782fb34a8bdd0bedb", func := "binnacle/binnaclelaw21.PacketPacks", spec := "packetPacks", inPlace := ["math.Float64frombits", "math.Float64bits", "math.Float32bits", "math.Float32frombits"], named := ["binnacle/convert.single"], apart := false, laid := [("binnacle/convert.single", laid_binnacle_convert_single)], narrowed := true }
def PacketPacksUptoSaid : Prop := packetPacksUptoRow.holds Tryd.pinned (OpenSpec.upto packetPacksSpec)

/-- 'binnaclelaw21.PacketUnpacks', WHERE WHAT IT READS IS OF BULK AT MOST 1048576: true; the input reads as it did. -/
def packetUnpacksUptoRow : OpenClaim := { program := "ytmpcnhiklpahnaadoor", sum := "dc774431acc59d94504cb0026d15c8d35c6ef1a68e2b16d782fb34a8bdd0bedb", func := "binnacle/binnaclelaw21.PacketUnpacks", spec := "packetUnpacks", inPlace := ["math.Float64bits", "math.Float64frombits", "math.Float32bits", "math.Float32frombits"], named := ["binnacle/convert.single"], apart := false, laid := [("binnacle/convert.single", laid_binnacle_convert_single)], narrowed := true }
def PacketUnpacksUptoSaid : Prop := packetUnpacksUptoRow.holds Tryd.pinned (OpenSpec.upto packetUnpacksSpec)

/-- 'binnaclelaw21.PacketBack', WHERE WHAT IT READS IS OF BULK AT MOST 1048576: true; the input reads as it did. -/
def packetBackUptoRow : OpenClaim := { program := "ytmpcnhiklpahnaadoor", sum := "dc774431acc59d94504cb0026d15c8d35c6ef1a68e2b16d782fb34a8bdd0bedb", func := "binnacle/binnaclelaw21.PacketBack", spec := "packetBack", inPlace := ["math.Float64frombits", "math.Float64bits", "math.Float32bits", "math.Float32frombits"], named := ["binnacle/convert.single"], apart := false, laid := [("binnacle/convert.single", laid_binnacle_convert_single)], narrowed := true }
def PacketBackUptoSaid : Prop := packetBackUptoRow.holds Tryd.pinned (OpenSpec.upto packetBackSpec)

/-- 'binnaclelaw21.PacketSpoilt', WHERE WHAT IT READS IS OF BULK AT MOST 1048576: true; the input reads as it did. -/
def packetSpoiltUptoRow : OpenClaim := { program := "ytmpcnhiklpahnaadoor", sum := "dc774431acc59d94504cb0026d15c8d35c6ef1a68e2b16d782fb34a8bdd0bedb", func := "binnacle/binnaclelaw21.PacketSpoilt", spec := "packetSpoilt", inPlace := ["math.Float64frombits", "math.Float64bits", "math.Float32bits", "math.Float32frombits"], named := ["binnacle/convert.single"], apart := false, laid := [("binnacle/convert.single", laid_binnacle_convert_single)], narrowed := true }
def PacketSpoiltUptoSaid : Prop := packetSpoiltUptoRow.holds Tryd.pinned (OpenSpec.upto packetSpoiltSpec)

/-- 'binnaclelaw21.PacketKeeps', WHERE WHAT IT READS IS OF BULK AT MOST 1048576: true; the input reads as it did. -/
def packetKeepsUptoRow : OpenClaim := { program := "ytmpcnhiklpahnaadoor", sum := "dc774431acc59d94504cb0026d15c8d35c6ef1a68e2b16d782fb34a8bdd0bedb", func := "binnacle/binnaclelaw21.PacketKeeps", spec := "packetKeeps", inPlace := ["math.Float64frombits", "math.Float64bits", "math.Float32bits", "math.Float32frombits"], named := ["binnacle/convert.single"], apart := false, laid := [("binnacle/convert.single", laid_binnacle_convert_single)], narrowed := true }
def PacketKeepsUptoSaid : Prop := packetKeepsUptoRow.holds Tryd.pinned (OpenSpec.upto packetKeepsSpec)

/-- 'binnaclelaw21.PacketChunks', WHERE WHAT IT READS IS OF BULK AT MOST 1048576: true; the input reads as it did. -/
def packetChunksUptoRow : OpenClaim := { program := "ytmpcnhiklpahnaadoor", sum := "dc774431acc59d94504cb0026d15c8d35c6ef1a68e2b16d782fb34a8bdd0bedb", func := "binnacle/binnaclelaw21.PacketChunks", spec := "packetChunks", inPlace := ["math.Float64bits", "math.Float64frombits", "math.Float32bits", "math.Float32frombits"], named := ["binnacle/convert.single"], apart := false, laid := [("binnacle/convert.single", laid_binnacle_convert_single)], narrowed := true }
def PacketChunksUptoSaid : Prop := packetChunksUptoRow.holds Tryd.pinned (OpenSpec.upto packetChunksSpec)

/-- 'binnaclelaw21.PacketFinds', WHERE WHAT IT READS IS OF BULK AT MOST 1048576: true; the input reads as it did. -/
def packetFindsUptoRow : OpenClaim := { program := "ytmpcnhiklpahnaadoor", sum := "dc774431acc59d94504cb0026d15c8d35c6ef1a68e2b16d782fb34a8bdd0bedb", func := "binnacle/binnaclelaw21.PacketFinds", spec := "packetFinds", inPlace := ["math.Float64bits", "math.Float64frombits", "math.Float32bits", "math.Float32frombits"], named := ["binnacle/convert.single"], apart := false, laid := [("binnacle/convert.single", laid_binnacle_convert_single)], narrowed := true }
def PacketFindsUptoSaid : Prop := packetFindsUptoRow.holds Tryd.pinned (OpenSpec.upto packetFindsSpec)

/-- 'binnaclelaw21.PacketReads', WHERE WHAT IT READS IS OF BULK AT MOST 1048576: true; the input reads as it did. -/
def packetReadsUptoRow : OpenClaim := { program := "ytmpcnhiklpahnaadoor", sum := "dc774431acc59d94504cb0026d15c8d35c6ef1a68e2b16d782fb34a8bdd0bedb", func := "binnacle/binnaclelaw21.PacketReads", spec := "packetReads", inPlace := ["math.Float64bits", "math.Float64frombits", "math.Float32bits", "math.Float32frombits"], named := ["binnacle/convert.single"], apart := false, laid := [("binnacle/convert.single", laid_binnacle_convert_single)], narrowed := true }
def PacketReadsUptoSaid : Prop := packetReadsUptoRow.holds Tryd.pinned (OpenSpec.upto packetReadsSpec)

end Rows
end Go.Proofs.YtmpcnhiklpahnaaDoor
