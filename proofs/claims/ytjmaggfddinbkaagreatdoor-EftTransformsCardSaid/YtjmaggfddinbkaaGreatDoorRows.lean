/-
  NARROWER THAN 'FOR EVERY INPUT', by the rows' own cells (each row's printed sentence says how): EftExpansions: laid · EftSigns: laid · EftExact: laid · EftScales: laid · EftSplits: laid · EftKeeps: laid · EftGreatest: laid · EftTransforms: laid · EftProducts: laid.
  DERIVED. THE GIVEN ROWS OF THIS SEAT. 9 by the template 'for every input the law returns true; each argument reads behind the call as it read before'; 0 by the template 'total and deterministic' (their statements: YtjmaggfddinbkaaGreatDoorTotals.lean).
  GIVEN WITH THE SEED: the statements are not yours to turn. If you find one false, say at which input.
  Laid BY PROGRAM, IN A SANDBOX (cutbox-rows.mjs): the forced cells as the released guide's own fill.sh prints them over the translation e738a66682b53977… (all of the seat's roots in one cut). By AI agents, Wed Nov 11 2026. No macro, syntax, notation, axiom, sorry.
-/
import Derived.Test.YtjmaggfddinbkaaGreatDoorChecked
import GoSem.Claim
import GoSem.ClaimJoined
import GoSem.ClaimMapViews
import Derived.JoinedTies
import Derived.KernelRfl
namespace Go.Proofs.YtjmaggfddinbkaaGreatDoor
/- THE CELL 'sum', in the pinned program and in every row, IS THE sha256 OF THE DUMP (.gsa) THAT YtjmaggfddinbkaaGreatDoorProg.lean LOADS. Nothing in Lean hashes anything: it is a label: what it is worth is what the hold of that sum in a sandbox is worth. -/
noncomputable def Tryz.pinned : Pinned := { name := "ytjmaggfddinbkaagreatdoor", sum := "e738a66682b5397754c5243739acd9a59d9b6304dd18b21add20cb787808c99b", checked := Tryz.checked }
namespace Rows
def none {H : Type} : Left H := { results := [], args := [] }

/- WHAT THE LISTED PACKAGE-LEVEL VARIABLES READ AS WHEN THE CALL BEGINS. Each datum BY PROGRAM (the guide's laid-datum.mjs) off the statement by which the dump's own 'gosem.cut.vars' lays the variable. In a bare row this is a premise. The card (YtjmaggfddinbkaaGreatDoorCards.lean) ties it to the program's text. -/
def laid_math_bits_deBruijn64tab {H : Type} : DataW H := .agg [.lit (.int .u8 0), .lit (.int .u8 1), .lit (.int .u8 56), .lit (.int .u8 2), .lit (.int .u8 57), .lit (.int .u8 49), .lit (.int .u8 28), .lit (.int .u8 3), .lit (.int .u8 61), .lit (.int .u8 58), .lit (.int .u8 42), .lit (.int .u8 50), .lit (.int .u8 38), .lit (.int .u8 29), .lit (.int .u8 17), .lit (.int .u8 4), .lit (.int .u8 62), .lit (.int .u8 47), .lit (.int .u8 59), .lit (.int .u8 36), .lit (.int .u8 45), .lit (.int .u8 43), .lit (.int .u8 51), .lit (.int .u8 22), .lit (.int .u8 53), .lit (.int .u8 39), .lit (.int .u8 33), .lit (.int .u8 30), .lit (.int .u8 24), .lit (.int .u8 18), .lit (.int .u8 12), .lit (.int .u8 5), .lit (.int .u8 63), .lit (.int .u8 55), .lit (.int .u8 48), .lit (.int .u8 27), .lit (.int .u8 60), .lit (.int .u8 41), .lit (.int .u8 37), .lit (.int .u8 16), .lit (.int .u8 46), .lit (.int .u8 35), .lit (.int .u8 44), .lit (.int .u8 21), .lit (.int .u8 52), .lit (.int .u8 32), .lit (.int .u8 23), .lit (.int .u8 11), .lit (.int .u8 54), .lit (.int .u8 26), .lit (.int .u8 40), .lit (.int .u8 15), .lit (.int .u8 34), .lit (.int .u8 20), .lit (.int .u8 31), .lit (.int .u8 10), .lit (.int .u8 25), .lit (.int .u8 14), .lit (.int .u8 19), .lit (.int .u8 9), .lit (.int .u8 13), .lit (.int .u8 8), .lit (.int .u8 7), .lit (.int .u8 6)]
def laid_math_bits_deBruijn32tab {H : Type} : DataW H := .agg [.lit (.int .u8 0), .lit (.int .u8 1), .lit (.int .u8 28), .lit (.int .u8 2), .lit (.int .u8 29), .lit (.int .u8 14), .lit (.int .u8 24), .lit (.int .u8 3), .lit (.int .u8 30), .lit (.int .u8 22), .lit (.int .u8 20), .lit (.int .u8 15), .lit (.int .u8 25), .lit (.int .u8 17), .lit (.int .u8 4), .lit (.int .u8 8), .lit (.int .u8 31), .lit (.int .u8 27), .lit (.int .u8 13), .lit (.int .u8 23), .lit (.int .u8 21), .lit (.int .u8 19), .lit (.int .u8 16), .lit (.int .u8 7), .lit (.int .u8 26), .lit (.int .u8 12), .lit (.int .u8 18), .lit (.int .u8 6), .lit (.int .u8 11), .lit (.int .u8 5), .lit (.int .u8 10), .lit (.int .u8 9)]

/-- 'binnaclelaw04.EftExpansions': WHATEVER THE INPUT: true; the input reads as it did. -/
def eftExpansionsSpec : ChangeSpec := { name := "eftExpansions", fn := fun _ => fun
  | [d1, d2, d3] => { results := [.lit (.bool true)], args := [d1, d2, d3] }
  | _ => none }
def eftExpansionsRow : OpenClaim := { program := "ytjmaggfddinbkaagreatdoor", sum := "e738a66682b5397754c5243739acd9a59d9b6304dd18b21add20cb787808c99b", func := "binnacle/binnaclelaw04.EftExpansions", spec := "eftExpansions", inPlace := ["math.Float64frombits", "math.Float64bits", "math/bits.Add64"], named := ["math/bits.deBruijn64tab"], apart := false, laid := [("math/bits.deBruijn64tab", laid_math_bits_deBruijn64tab)] }
def EftExpansionsSaid : Prop := eftExpansionsRow.holds Tryz.pinned (OpenSpec.ofChange eftExpansionsSpec)

/-- ITS FALSE NEIGHBOUR: 'it returns false'. Refute it at one input. -/
def eftExpansionsWrong : ChangeSpec := { name := "eftExpansions", fn := fun _ => fun
  | [d1, d2, d3] => { results := [.lit (.bool false)], args := [d1, d2, d3] }
  | _ => none }
def EftExpansionsWrongFalsely : Prop := eftExpansionsRow.holds Tryz.pinned (OpenSpec.ofChange eftExpansionsWrong)

/-- 'binnaclelaw04.EftSigns': WHATEVER THE INPUT: true; the input reads as it did. -/
def eftSignsSpec : ChangeSpec := { name := "eftSigns", fn := fun _ => fun
  | [d1, d2, d3, d4, d5, d6] => { results := [.lit (.bool true)], args := [d1, d2, d3, d4, d5, d6] }
  | _ => none }
def eftSignsRow : OpenClaim := { program := "ytjmaggfddinbkaagreatdoor", sum := "e738a66682b5397754c5243739acd9a59d9b6304dd18b21add20cb787808c99b", func := "binnacle/binnaclelaw04.EftSigns", spec := "eftSigns", inPlace := ["math.Float64frombits", "math.Float64bits", "math/bits.Add64", "math/bits.Sub64"], named := ["math/bits.deBruijn64tab"], apart := false, laid := [("math/bits.deBruijn64tab", laid_math_bits_deBruijn64tab)] }
def EftSignsSaid : Prop := eftSignsRow.holds Tryz.pinned (OpenSpec.ofChange eftSignsSpec)

/-- ITS FALSE NEIGHBOUR: 'it returns false'. Refute it at one input. -/
def eftSignsWrong : ChangeSpec := { name := "eftSigns", fn := fun _ => fun
  | [d1, d2, d3, d4, d5, d6] => { results := [.lit (.bool false)], args := [d1, d2, d3, d4, d5, d6] }
  | _ => none }
def EftSignsWrongFalsely : Prop := eftSignsRow.holds Tryz.pinned (OpenSpec.ofChange eftSignsWrong)

/-- 'binnaclelaw04.EftExact': WHATEVER THE INPUT: true; the input reads as it did. -/
def eftExactSpec : ChangeSpec := { name := "eftExact", fn := fun _ => fun
  | [d1, d2] => { results := [.lit (.bool true)], args := [d1, d2] }
  | _ => none }
def eftExactRow : OpenClaim := { program := "ytjmaggfddinbkaagreatdoor", sum := "e738a66682b5397754c5243739acd9a59d9b6304dd18b21add20cb787808c99b", func := "binnacle/binnaclelaw04.EftExact", spec := "eftExact", inPlace := ["math.Float64bits", "math.Float64frombits", "math/bits.Add64"], named := ["math/bits.deBruijn64tab"], apart := false, laid := [("math/bits.deBruijn64tab", laid_math_bits_deBruijn64tab)] }
def EftExactSaid : Prop := eftExactRow.holds Tryz.pinned (OpenSpec.ofChange eftExactSpec)

/-- ITS FALSE NEIGHBOUR: 'it returns false'. Refute it at one input. -/
def eftExactWrong : ChangeSpec := { name := "eftExact", fn := fun _ => fun
  | [d1, d2] => { results := [.lit (.bool false)], args := [d1, d2] }
  | _ => none }
def EftExactWrongFalsely : Prop := eftExactRow.holds Tryz.pinned (OpenSpec.ofChange eftExactWrong)

/-- 'binnaclelaw04.EftScales': WHATEVER THE INPUT: true; the input reads as it did. -/
def eftScalesSpec : ChangeSpec := { name := "eftScales", fn := fun _ => fun
  | [d1, d2] => { results := [.lit (.bool true)], args := [d1, d2] }
  | _ => none }
def eftScalesRow : OpenClaim := { program := "ytjmaggfddinbkaagreatdoor", sum := "e738a66682b5397754c5243739acd9a59d9b6304dd18b21add20cb787808c99b", func := "binnacle/binnaclelaw04.EftScales", spec := "eftScales", inPlace := ["math.Float64frombits", "math.Float64bits", "math/bits.Add64"], named := ["math/bits.deBruijn64tab"], apart := false, laid := [("math/bits.deBruijn64tab", laid_math_bits_deBruijn64tab)] }
def EftScalesSaid : Prop := eftScalesRow.holds Tryz.pinned (OpenSpec.ofChange eftScalesSpec)

/-- ITS FALSE NEIGHBOUR: 'it returns false'. Refute it at one input. -/
def eftScalesWrong : ChangeSpec := { name := "eftScales", fn := fun _ => fun
  | [d1, d2] => { results := [.lit (.bool false)], args := [d1, d2] }
  | _ => none }
def EftScalesWrongFalsely : Prop := eftScalesRow.holds Tryz.pinned (OpenSpec.ofChange eftScalesWrong)

/-- 'binnaclelaw04.EftSplits': WHATEVER THE INPUT: true; the input reads as it did. -/
def eftSplitsSpec : ChangeSpec := { name := "eftSplits", fn := fun _ => fun
  | [d] => { results := [.lit (.bool true)], args := [d] }
  | _ => none }
def eftSplitsRow : OpenClaim := { program := "ytjmaggfddinbkaagreatdoor", sum := "e738a66682b5397754c5243739acd9a59d9b6304dd18b21add20cb787808c99b", func := "binnacle/binnaclelaw04.EftSplits", spec := "eftSplits", inPlace := ["math.Float64bits", "math.Float64frombits", "math/bits.Add64"], named := ["math/bits.deBruijn64tab", "math/bits.deBruijn32tab"], apart := false, laid := [("math/bits.deBruijn32tab", laid_math_bits_deBruijn32tab), ("math/bits.deBruijn64tab", laid_math_bits_deBruijn64tab)] }
def EftSplitsSaid : Prop := eftSplitsRow.holds Tryz.pinned (OpenSpec.ofChange eftSplitsSpec)

/-- ITS FALSE NEIGHBOUR: 'it returns false'. Refute it at one input. -/
def eftSplitsWrong : ChangeSpec := { name := "eftSplits", fn := fun _ => fun
  | [d] => { results := [.lit (.bool false)], args := [d] }
  | _ => none }
def EftSplitsWrongFalsely : Prop := eftSplitsRow.holds Tryz.pinned (OpenSpec.ofChange eftSplitsWrong)

/-- 'binnaclelaw04.EftKeeps': WHATEVER THE INPUT: true; the input reads as it did. -/
def eftKeepsSpec : ChangeSpec := { name := "eftKeeps", fn := fun _ => fun
  | [d1, d2, d3] => { results := [.lit (.bool true)], args := [d1, d2, d3] }
  | _ => none }
def eftKeepsRow : OpenClaim := { program := "ytjmaggfddinbkaagreatdoor", sum := "e738a66682b5397754c5243739acd9a59d9b6304dd18b21add20cb787808c99b", func := "binnacle/binnaclelaw04.EftKeeps", spec := "eftKeeps", inPlace := ["math.Float64bits", "math.Float64frombits", "math/bits.Add64"], named := ["math/bits.deBruijn64tab"], apart := false, laid := [("math/bits.deBruijn64tab", laid_math_bits_deBruijn64tab)] }
def EftKeepsSaid : Prop := eftKeepsRow.holds Tryz.pinned (OpenSpec.ofChange eftKeepsSpec)

/-- ITS FALSE NEIGHBOUR: 'it returns false'. Refute it at one input. -/
def eftKeepsWrong : ChangeSpec := { name := "eftKeeps", fn := fun _ => fun
  | [d1, d2, d3] => { results := [.lit (.bool false)], args := [d1, d2, d3] }
  | _ => none }
def EftKeepsWrongFalsely : Prop := eftKeepsRow.holds Tryz.pinned (OpenSpec.ofChange eftKeepsWrong)

/-- 'binnaclelaw04.EftGreatest': WHATEVER THE INPUT: true; the input reads as it did. -/
def eftGreatestSpec : ChangeSpec := { name := "eftGreatest", fn := fun _ => fun
  | [d] => { results := [.lit (.bool true)], args := [d] }
  | _ => none }
def eftGreatestRow : OpenClaim := { program := "ytjmaggfddinbkaagreatdoor", sum := "e738a66682b5397754c5243739acd9a59d9b6304dd18b21add20cb787808c99b", func := "binnacle/binnaclelaw04.EftGreatest", spec := "eftGreatest", inPlace := ["math.Float64bits", "math.Float64frombits", "math/bits.Add64"], named := ["math/bits.deBruijn64tab"], apart := false, laid := [("math/bits.deBruijn64tab", laid_math_bits_deBruijn64tab)] }
def EftGreatestSaid : Prop := eftGreatestRow.holds Tryz.pinned (OpenSpec.ofChange eftGreatestSpec)

/-- ITS FALSE NEIGHBOUR: 'it returns false'. Refute it at one input. -/
def eftGreatestWrong : ChangeSpec := { name := "eftGreatest", fn := fun _ => fun
  | [d] => { results := [.lit (.bool false)], args := [d] }
  | _ => none }
def EftGreatestWrongFalsely : Prop := eftGreatestRow.holds Tryz.pinned (OpenSpec.ofChange eftGreatestWrong)

/-- 'binnaclelaw04.EftTransforms': WHATEVER THE INPUT: true; the input reads as it did. -/
def eftTransformsSpec : ChangeSpec := { name := "eftTransforms", fn := fun _ => fun
  | [d1, d2] => { results := [.lit (.bool true)], args := [d1, d2] }
  | _ => none }
def eftTransformsRow : OpenClaim := { program := "ytjmaggfddinbkaagreatdoor", sum := "e738a66682b5397754c5243739acd9a59d9b6304dd18b21add20cb787808c99b", func := "binnacle/binnaclelaw04.EftTransforms", spec := "eftTransforms", inPlace := ["math.Float64frombits", "math.Float64bits", "math.FMA", "math/bits.Add64"], named := ["math/bits.deBruijn32tab", "math/bits.deBruijn64tab"], apart := false, laid := [("math/bits.deBruijn32tab", laid_math_bits_deBruijn32tab), ("math/bits.deBruijn64tab", laid_math_bits_deBruijn64tab)] }
def EftTransformsSaid : Prop := eftTransformsRow.holds Tryz.pinned (OpenSpec.ofChange eftTransformsSpec)

/-- ITS FALSE NEIGHBOUR: 'it returns false'. Refute it at one input. -/
def eftTransformsWrong : ChangeSpec := { name := "eftTransforms", fn := fun _ => fun
  | [d1, d2] => { results := [.lit (.bool false)], args := [d1, d2] }
  | _ => none }
def EftTransformsWrongFalsely : Prop := eftTransformsRow.holds Tryz.pinned (OpenSpec.ofChange eftTransformsWrong)

/-- 'binnaclelaw04.EftProducts': WHATEVER THE INPUT: true; the input reads as it did. -/
def eftProductsSpec : ChangeSpec := { name := "eftProducts", fn := fun _ => fun
  | [d1, d2] => { results := [.lit (.bool true)], args := [d1, d2] }
  | _ => none }
def eftProductsRow : OpenClaim := { program := "ytjmaggfddinbkaagreatdoor", sum := "e738a66682b5397754c5243739acd9a59d9b6304dd18b21add20cb787808c99b", func := "binnacle/binnaclelaw04.EftProducts", spec := "eftProducts", inPlace := ["math.Float64bits", "math.Float64frombits", "math/bits.Add64", "math.FMA"], named := ["math/bits.deBruijn64tab", "math/bits.deBruijn32tab"], apart := false, laid := [("math/bits.deBruijn32tab", laid_math_bits_deBruijn32tab), ("math/bits.deBruijn64tab", laid_math_bits_deBruijn64tab)] }
def EftProductsSaid : Prop := eftProductsRow.holds Tryz.pinned (OpenSpec.ofChange eftProductsSpec)

/-- ITS FALSE NEIGHBOUR: 'it returns false'. Refute it at one input. -/
def eftProductsWrong : ChangeSpec := { name := "eftProducts", fn := fun _ => fun
  | [d1, d2] => { results := [.lit (.bool false)], args := [d1, d2] }
  | _ => none }
def EftProductsWrongFalsely : Prop := eftProductsRow.holds Tryz.pinned (OpenSpec.ofChange eftProductsWrong)

/- THE SECOND FORM. 'bulk': how many values and letters a reading holds, each counted each time it is reached (what is shared counts as often as it is met; a slice's spare places count too). A statement '..UptoSaid' is the law's where the arguments, and the package variables that the reading takes, are together of bulk at most 1048576: NARROWER than '..Said'. Prove '..Said' where nothing that the law and all that it calls make is longer than what came in: it says more and counts as full. Else prove '..UptoSaid'. A law counts once. -/
mutual
def uptoBulk {H : Type} : DataW H → Nat
  | .lit (.string bytes) => bytes.length + 1
  | .lit _ => 1
  | .nil => 1
  | .ptr d => uptoBulk d + 1
  | .slice elems spare => uptoBulkAll elems + uptoBulkAll spare + 1
  | .agg parts => uptoBulkAll parts + 1
  | .iface _ d => uptoBulk d + 1
  | .map entries => uptoBulkEntries entries + 1
  | .held _ => 1
def uptoBulkAll {H : Type} : List (DataW H) → Nat
  | [] => 0
  | d :: r => uptoBulk d + uptoBulkAll r
def uptoBulkEntries {H : Type} : List (Lit × DataW H) → Nat
  | [] => 0
  | x :: r => uptoBulkEntry x + uptoBulkEntries r
def uptoBulkEntry {H : Type} : Lit × DataW H → Nat
  | (.string bytes, d) => bytes.length + uptoBulk d + 1
  | (_, d) => uptoBulk d + 1
 end
def uptoSmall : (H : Type) → List (DataW H) → Bool := fun _ ds => decide (uptoBulkAll ds ≤ 1048576)
def OpenSpec.upto (s : _root_.Go.ChangeSpec) : _root_.Go.OpenSpec := { _root_.Go.OpenSpec.ofChange s with cond := some uptoSmall }

/-- 'binnaclelaw04.EftExpansions', WHERE WHAT IT READS IS OF BULK AT MOST 1048576: true; the input reads as it did. -/
def eftExpansionsUptoRow : OpenClaim := { program := "ytjmaggfddinbkaagreatdoor", sum := "e738a66682b5397754c5243739acd9a59d9b6304dd18b21add20cb787808c99b", func := "binnacle/binnaclelaw04.EftExpansions", spec := "eftExpansions", inPlace := ["math.Float64frombits", "math.Float64bits", "math/bits.Add64"], named := ["math/bits.deBruijn64tab"], apart := false, laid := [("math/bits.deBruijn64tab", laid_math_bits_deBruijn64tab)], narrowed := true }
def EftExpansionsUptoSaid : Prop := eftExpansionsUptoRow.holds Tryz.pinned (OpenSpec.upto eftExpansionsSpec)

/-- 'binnaclelaw04.EftSigns', WHERE WHAT IT READS IS OF BULK AT MOST 1048576: true; the input reads as it did. -/
def eftSignsUptoRow : OpenClaim := { program := "ytjmaggfddinbkaagreatdoor", sum := "e738a66682b5397754c5243739acd9a59d9b6304dd18b21add20cb787808c99b", func := "binnacle/binnaclelaw04.EftSigns", spec := "eftSigns", inPlace := ["math.Float64frombits", "math.Float64bits", "math/bits.Add64", "math/bits.Sub64"], named := ["math/bits.deBruijn64tab"], apart := false, laid := [("math/bits.deBruijn64tab", laid_math_bits_deBruijn64tab)], narrowed := true }
def EftSignsUptoSaid : Prop := eftSignsUptoRow.holds Tryz.pinned (OpenSpec.upto eftSignsSpec)

/-- 'binnaclelaw04.EftExact', WHERE WHAT IT READS IS OF BULK AT MOST 1048576: true; the input reads as it did. -/
def eftExactUptoRow : OpenClaim := { program := "ytjmaggfddinbkaagreatdoor", sum := "e738a66682b5397754c5243739acd9a59d9b6304dd18b21add20cb787808c99b", func := "binnacle/binnaclelaw04.EftExact", spec := "eftExact", inPlace := ["math.Float64bits", "math.Float64frombits", "math/bits.Add64"], named := ["math/bits.deBruijn64tab"], apart := false, laid := [("math/bits.deBruijn64tab", laid_math_bits_deBruijn64tab)], narrowed := true }
def EftExactUptoSaid : Prop := eftExactUptoRow.holds Tryz.pinned (OpenSpec.upto eftExactSpec)

/-- 'binnaclelaw04.EftScales', WHERE WHAT IT READS IS OF BULK AT MOST 1048576: true; the input reads as it did. -/
def eftScalesUptoRow : OpenClaim := { program := "ytjmaggfddinbkaagreatdoor", sum := "e738a66682b5397754c5243739acd9a59d9b6304dd18b21add20cb787808c99b", func := "binnacle/binnaclelaw04.EftScales", spec := "eftScales", inPlace := ["math.Float64frombits", "math.Float64bits", "math/bits.Add64"], named := ["math/bits.deBruijn64tab"], apart := false, laid := [("math/bits.deBruijn64tab", laid_math_bits_deBruijn64tab)], narrowed := true }
def EftScalesUptoSaid : Prop := eftScalesUptoRow.holds Tryz.pinned (OpenSpec.upto eftScalesSpec)

/-- 'binnaclelaw04.EftSplits', WHERE WHAT IT READS IS OF BULK AT MOST 1048576: true; the input reads as it did. -/
def eftSplitsUptoRow : OpenClaim := { program := "ytjmaggfddinbkaagreatdoor", sum := "e738a66682b5397754c5243739acd9a59d9b6304dd18b21add20cb787808c99b", func := "binnacle/binnaclelaw04.EftSplits", spec := "eftSplits", inPlace := ["math.Float64bits", "math.Float64frombits", "math/bits.Add64"], named := ["math/bits.deBruijn64tab", "math/bits.deBruijn32tab"], apart := false, laid := [("math/bits.deBruijn32tab", laid_math_bits_deBruijn32tab), ("math/bits.deBruijn64tab", laid_math_bits_deBruijn64tab)], narrowed := true }
def EftSplitsUptoSaid : Prop := eftSplitsUptoRow.holds Tryz.pinned (OpenSpec.upto eftSplitsSpec)

/-- 'binnaclelaw04.EftKeeps', WHERE WHAT IT READS IS OF BULK AT MOST 1048576: true; the input reads as it did. -/
def eftKeepsUptoRow : OpenClaim := { program := "ytjmaggfddinbkaagreatdoor", sum := "e738a66682b5397754c5243739acd9a59d9b6304dd18b21add20cb787808c99b", func := "binnacle/binnaclelaw04.EftKeeps", spec := "eftKeeps", inPlace := ["math.Float64bits", "math.Float64frombits", "math/bits.Add64"], named := ["math/bits.deBruijn64tab"], apart := false, laid := [("math/bits.deBruijn64tab", laid_math_bits_deBruijn64tab)], narrowed := true }
def EftKeepsUptoSaid : Prop := eftKeepsUptoRow.holds Tryz.pinned (OpenSpec.upto eftKeepsSpec)

/-- 'binnaclelaw04.EftGreatest', WHERE WHAT IT READS IS OF BULK AT MOST 1048576: true; the input reads as it did. -/
def eftGreatestUptoRow : OpenClaim := { program := "ytjmaggfddinbkaagreatdoor", sum := "e738a66682b5397754c5243739acd9a59d9b6304dd18b21add20cb787808c99b", func := "binnacle/binnaclelaw04.EftGreatest", spec := "eftGreatest", inPlace := ["math.Float64bits", "math.Float64frombits", "math/bits.Add64"], named := ["math/bits.deBruijn64tab"], apart := false, laid := [("math/bits.deBruijn64tab", laid_math_bits_deBruijn64tab)], narrowed := true }
def EftGreatestUptoSaid : Prop := eftGreatestUptoRow.holds Tryz.pinned (OpenSpec.upto eftGreatestSpec)

/-- 'binnaclelaw04.EftTransforms', WHERE WHAT IT READS IS OF BULK AT MOST 1048576: true; the input reads as it did. -/
def eftTransformsUptoRow : OpenClaim := { program := "ytjmaggfddinbkaagreatdoor", sum := "e738a66682b5397754c5243739acd9a59d9b6304dd18b21add20cb787808c99b", func := "binnacle/binnaclelaw04.EftTransforms", spec := "eftTransforms", inPlace := ["math.Float64frombits", "math.Float64bits", "math.FMA", "math/bits.Add64"], named := ["math/bits.deBruijn32tab", "math/bits.deBruijn64tab"], apart := false, laid := [("math/bits.deBruijn32tab", laid_math_bits_deBruijn32tab), ("math/bits.deBruijn64tab", laid_math_bits_deBruijn64tab)], narrowed := true }
def EftTransformsUptoSaid : Prop := eftTransformsUptoRow.holds Tryz.pinned (OpenSpec.upto eftTransformsSpec)

/-- 'binnaclelaw04.EftProducts', WHERE WHAT IT READS IS OF BULK AT MOST 1048576: true; the input reads as it did. -/
def eftProductsUptoRow : OpenClaim := { program := "ytjmaggfddinbkaagreatdoor", sum := "e738a66682b5397754c5243739acd9a59d9b6304dd18b21add20cb787808c99b", func := "binnacle/binnaclelaw04.EftProducts", spec := "eftProducts", inPlace := ["math.Float64bits", "math.Float64frombits", "math/bits.Add64", "math.FMA"], named := ["math/bits.deBruijn64tab", "math/bits.deBruijn32tab"], apart := false, laid := [("math/bits.deBruijn32tab", laid_math_bits_deBruijn32tab), ("math/bits.deBruijn64tab", laid_math_bits_deBruijn64tab)], narrowed := true }
def EftProductsUptoSaid : Prop := eftProductsUptoRow.holds Tryz.pinned (OpenSpec.upto eftProductsSpec)

end Rows
end Go.Proofs.YtjmaggfddinbkaaGreatDoor
