/-
  NARROWER THAN 'FOR EVERY INPUT', by the rows' own cells (each row's printed sentence says how): AnatomyParts: laid · AnatomyFields32: laid · AnatomyFields: laid · AnatomyOrder: laid · AnatomyBack: laid · AnatomyNext: laid · AnatomyKeys: laid · AnatomySteps: laid · AnatomyNear: laid.
  DERIVED. THE GIVEN ROWS OF THIS SEAT. 9 by the template 'for every input the law returns true; each argument reads behind the call as it read before'; 0 by the template 'total and deterministic' (their statements: YthjaponkbodooaaDoorTotals.lean).
  GIVEN WITH THE SEED: the statements are not yours to turn. If you find one false, say at which input.
  Laid BY PROGRAM, IN A SANDBOX (cutbox-rows.mjs): the forced cells as the released guide's own fill.sh prints them over the translation 5a846da2793ae84c… (all of the seat's roots in one cut). By AI agents, Wed Nov 11 2026. No macro, syntax, notation, axiom, sorry.
-/
import Derived.Test.YthjaponkbodooaaDoorChecked
import GoSem.Claim
import GoSem.ClaimJoined
import GoSem.ClaimMapViews
import Derived.JoinedTies
import Derived.KernelRfl
namespace Go.Proofs.YthjaponkbodooaaDoor
/- THE CELL 'sum', in the pinned program and in every row, IS THE sha256 OF THE DUMP (.gsa) THAT YthjaponkbodooaaDoorProg.lean LOADS. Nothing in Lean hashes anything: it is a label: what it is worth is what the hold of that sum in a sandbox is worth. -/
noncomputable def Tryd.pinned : Pinned := { name := "ythjaponkbodooaadoor", sum := "5a846da2793ae84c8e99d0b18b181a3b6d2c12e000561d3d5006a4a57b22ad0d", checked := Tryd.checked }
namespace Rows
def none {H : Type} : Left H := { results := [], args := [] }

/- WHAT THE LISTED PACKAGE-LEVEL VARIABLES READ AS WHEN THE CALL BEGINS. Each datum BY PROGRAM (the guide's laid-datum.mjs) off the statement by which the dump's own 'gosem.cut.vars' lays the variable. In a bare row this is a premise. The card (YthjaponkbodooaaDoorCards.lean) ties it to the program's text. -/
def laid_math_bits_deBruijn64tab {H : Type} : DataW H := .agg [.lit (.int .u8 0), .lit (.int .u8 1), .lit (.int .u8 56), .lit (.int .u8 2), .lit (.int .u8 57), .lit (.int .u8 49), .lit (.int .u8 28), .lit (.int .u8 3), .lit (.int .u8 61), .lit (.int .u8 58), .lit (.int .u8 42), .lit (.int .u8 50), .lit (.int .u8 38), .lit (.int .u8 29), .lit (.int .u8 17), .lit (.int .u8 4), .lit (.int .u8 62), .lit (.int .u8 47), .lit (.int .u8 59), .lit (.int .u8 36), .lit (.int .u8 45), .lit (.int .u8 43), .lit (.int .u8 51), .lit (.int .u8 22), .lit (.int .u8 53), .lit (.int .u8 39), .lit (.int .u8 33), .lit (.int .u8 30), .lit (.int .u8 24), .lit (.int .u8 18), .lit (.int .u8 12), .lit (.int .u8 5), .lit (.int .u8 63), .lit (.int .u8 55), .lit (.int .u8 48), .lit (.int .u8 27), .lit (.int .u8 60), .lit (.int .u8 41), .lit (.int .u8 37), .lit (.int .u8 16), .lit (.int .u8 46), .lit (.int .u8 35), .lit (.int .u8 44), .lit (.int .u8 21), .lit (.int .u8 52), .lit (.int .u8 32), .lit (.int .u8 23), .lit (.int .u8 11), .lit (.int .u8 54), .lit (.int .u8 26), .lit (.int .u8 40), .lit (.int .u8 15), .lit (.int .u8 34), .lit (.int .u8 20), .lit (.int .u8 31), .lit (.int .u8 10), .lit (.int .u8 25), .lit (.int .u8 14), .lit (.int .u8 19), .lit (.int .u8 9), .lit (.int .u8 13), .lit (.int .u8 8), .lit (.int .u8 7), .lit (.int .u8 6)]

/-- 'binnaclelaw01.AnatomyParts': WHATEVER THE INPUT: true; the input reads as it did. -/
def anatomyPartsSpec : ChangeSpec := { name := "anatomyParts", fn := fun _ => fun
  | [d1, d2, d3] => { results := [.lit (.bool true)], args := [d1, d2, d3] }
  | _ => none }
def anatomyPartsRow : OpenClaim := { program := "ythjaponkbodooaadoor", sum := "5a846da2793ae84c8e99d0b18b181a3b6d2c12e000561d3d5006a4a57b22ad0d", func := "binnacle/binnaclelaw01.AnatomyParts", spec := "anatomyParts", inPlace := ["math.Float64frombits", "math.Float64bits", "math.Float32frombits", "math.Float32bits"], named := ["math/bits.deBruijn64tab"], apart := false, laid := [("math/bits.deBruijn64tab", laid_math_bits_deBruijn64tab)] }
def AnatomyPartsSaid : Prop := anatomyPartsRow.holds Tryd.pinned (OpenSpec.ofChange anatomyPartsSpec)

/-- ITS FALSE NEIGHBOUR: 'it returns false'. Refute it at one input. -/
def anatomyPartsWrong : ChangeSpec := { name := "anatomyParts", fn := fun _ => fun
  | [d1, d2, d3] => { results := [.lit (.bool false)], args := [d1, d2, d3] }
  | _ => none }
def AnatomyPartsWrongFalsely : Prop := anatomyPartsRow.holds Tryd.pinned (OpenSpec.ofChange anatomyPartsWrong)

/-- 'binnaclelaw01.AnatomyFields32': WHATEVER THE INPUT: true; the input reads as it did. -/
def anatomyFields32Spec : ChangeSpec := { name := "anatomyFields32", fn := fun _ => fun
  | [d1, d2, d3, d4, d5] => { results := [.lit (.bool true)], args := [d1, d2, d3, d4, d5] }
  | _ => none }
def anatomyFields32Row : OpenClaim := { program := "ythjaponkbodooaadoor", sum := "5a846da2793ae84c8e99d0b18b181a3b6d2c12e000561d3d5006a4a57b22ad0d", func := "binnacle/binnaclelaw01.AnatomyFields32", spec := "anatomyFields32", inPlace := ["math.Float32frombits", "math.Float32bits", "math.Float64bits", "math.Float64frombits"], named := ["math/bits.deBruijn64tab"], apart := false, laid := [("math/bits.deBruijn64tab", laid_math_bits_deBruijn64tab)] }
def AnatomyFields32Said : Prop := anatomyFields32Row.holds Tryd.pinned (OpenSpec.ofChange anatomyFields32Spec)

/-- ITS FALSE NEIGHBOUR: 'it returns false'. Refute it at one input. -/
def anatomyFields32Wrong : ChangeSpec := { name := "anatomyFields32", fn := fun _ => fun
  | [d1, d2, d3, d4, d5] => { results := [.lit (.bool false)], args := [d1, d2, d3, d4, d5] }
  | _ => none }
def AnatomyFields32WrongFalsely : Prop := anatomyFields32Row.holds Tryd.pinned (OpenSpec.ofChange anatomyFields32Wrong)

/-- 'binnaclelaw01.AnatomyFields': WHATEVER THE INPUT: true; the input reads as it did. -/
def anatomyFieldsSpec : ChangeSpec := { name := "anatomyFields", fn := fun _ => fun
  | [d1, d2, d3, d4, d5] => { results := [.lit (.bool true)], args := [d1, d2, d3, d4, d5] }
  | _ => none }
def anatomyFieldsRow : OpenClaim := { program := "ythjaponkbodooaadoor", sum := "5a846da2793ae84c8e99d0b18b181a3b6d2c12e000561d3d5006a4a57b22ad0d", func := "binnacle/binnaclelaw01.AnatomyFields", spec := "anatomyFields", inPlace := ["math.Float64frombits", "math.Float64bits"], named := ["math/bits.deBruijn64tab"], apart := false, laid := [("math/bits.deBruijn64tab", laid_math_bits_deBruijn64tab)] }
def AnatomyFieldsSaid : Prop := anatomyFieldsRow.holds Tryd.pinned (OpenSpec.ofChange anatomyFieldsSpec)

/-- ITS FALSE NEIGHBOUR: 'it returns false'. Refute it at one input. -/
def anatomyFieldsWrong : ChangeSpec := { name := "anatomyFields", fn := fun _ => fun
  | [d1, d2, d3, d4, d5] => { results := [.lit (.bool false)], args := [d1, d2, d3, d4, d5] }
  | _ => none }
def AnatomyFieldsWrongFalsely : Prop := anatomyFieldsRow.holds Tryd.pinned (OpenSpec.ofChange anatomyFieldsWrong)

/-- 'binnaclelaw01.AnatomyOrder': WHATEVER THE INPUT: true; the input reads as it did. -/
def anatomyOrderSpec : ChangeSpec := { name := "anatomyOrder", fn := fun _ => fun
  | [d1, d2, d3] => { results := [.lit (.bool true)], args := [d1, d2, d3] }
  | _ => none }
def anatomyOrderRow : OpenClaim := { program := "ythjaponkbodooaadoor", sum := "5a846da2793ae84c8e99d0b18b181a3b6d2c12e000561d3d5006a4a57b22ad0d", func := "binnacle/binnaclelaw01.AnatomyOrder", spec := "anatomyOrder", inPlace := ["math.Float64frombits", "math.Float64bits"], named := ["math/bits.deBruijn64tab"], apart := false, laid := [("math/bits.deBruijn64tab", laid_math_bits_deBruijn64tab)] }
def AnatomyOrderSaid : Prop := anatomyOrderRow.holds Tryd.pinned (OpenSpec.ofChange anatomyOrderSpec)

/-- ITS FALSE NEIGHBOUR: 'it returns false'. Refute it at one input. -/
def anatomyOrderWrong : ChangeSpec := { name := "anatomyOrder", fn := fun _ => fun
  | [d1, d2, d3] => { results := [.lit (.bool false)], args := [d1, d2, d3] }
  | _ => none }
def AnatomyOrderWrongFalsely : Prop := anatomyOrderRow.holds Tryd.pinned (OpenSpec.ofChange anatomyOrderWrong)

/-- 'binnaclelaw01.AnatomyBack': WHATEVER THE INPUT: true; the input reads as it did. -/
def anatomyBackSpec : ChangeSpec := { name := "anatomyBack", fn := fun _ => fun
  | [d1, d2] => { results := [.lit (.bool true)], args := [d1, d2] }
  | _ => none }
def anatomyBackRow : OpenClaim := { program := "ythjaponkbodooaadoor", sum := "5a846da2793ae84c8e99d0b18b181a3b6d2c12e000561d3d5006a4a57b22ad0d", func := "binnacle/binnaclelaw01.AnatomyBack", spec := "anatomyBack", inPlace := ["math.Float64frombits", "math.Float64bits"], named := ["math/bits.deBruijn64tab"], apart := false, laid := [("math/bits.deBruijn64tab", laid_math_bits_deBruijn64tab)] }
def AnatomyBackSaid : Prop := anatomyBackRow.holds Tryd.pinned (OpenSpec.ofChange anatomyBackSpec)

/-- ITS FALSE NEIGHBOUR: 'it returns false'. Refute it at one input. -/
def anatomyBackWrong : ChangeSpec := { name := "anatomyBack", fn := fun _ => fun
  | [d1, d2] => { results := [.lit (.bool false)], args := [d1, d2] }
  | _ => none }
def AnatomyBackWrongFalsely : Prop := anatomyBackRow.holds Tryd.pinned (OpenSpec.ofChange anatomyBackWrong)

/-- 'binnaclelaw01.AnatomyNext': WHATEVER THE INPUT: true; the input reads as it did. -/
def anatomyNextSpec : ChangeSpec := { name := "anatomyNext", fn := fun _ => fun
  | [d1, d2] => { results := [.lit (.bool true)], args := [d1, d2] }
  | _ => none }
def anatomyNextRow : OpenClaim := { program := "ythjaponkbodooaadoor", sum := "5a846da2793ae84c8e99d0b18b181a3b6d2c12e000561d3d5006a4a57b22ad0d", func := "binnacle/binnaclelaw01.AnatomyNext", spec := "anatomyNext", inPlace := ["math.Float64frombits", "math.Float32frombits", "math.Float64bits", "math.Float32bits"], named := ["math/bits.deBruijn64tab"], apart := false, laid := [("math/bits.deBruijn64tab", laid_math_bits_deBruijn64tab)] }
def AnatomyNextSaid : Prop := anatomyNextRow.holds Tryd.pinned (OpenSpec.ofChange anatomyNextSpec)

/-- ITS FALSE NEIGHBOUR: 'it returns false'. Refute it at one input. -/
def anatomyNextWrong : ChangeSpec := { name := "anatomyNext", fn := fun _ => fun
  | [d1, d2] => { results := [.lit (.bool false)], args := [d1, d2] }
  | _ => none }
def AnatomyNextWrongFalsely : Prop := anatomyNextRow.holds Tryd.pinned (OpenSpec.ofChange anatomyNextWrong)

/-- 'binnaclelaw01.AnatomyKeys': WHATEVER THE INPUT: true; the input reads as it did. -/
def anatomyKeysSpec : ChangeSpec := { name := "anatomyKeys", fn := fun _ => fun
  | [d1, d2, d3] => { results := [.lit (.bool true)], args := [d1, d2, d3] }
  | _ => none }
def anatomyKeysRow : OpenClaim := { program := "ythjaponkbodooaadoor", sum := "5a846da2793ae84c8e99d0b18b181a3b6d2c12e000561d3d5006a4a57b22ad0d", func := "binnacle/binnaclelaw01.AnatomyKeys", spec := "anatomyKeys", inPlace := ["math.Float64frombits", "math.Float64bits"], named := ["math/bits.deBruijn64tab"], apart := false, laid := [("math/bits.deBruijn64tab", laid_math_bits_deBruijn64tab)] }
def AnatomyKeysSaid : Prop := anatomyKeysRow.holds Tryd.pinned (OpenSpec.ofChange anatomyKeysSpec)

/-- ITS FALSE NEIGHBOUR: 'it returns false'. Refute it at one input. -/
def anatomyKeysWrong : ChangeSpec := { name := "anatomyKeys", fn := fun _ => fun
  | [d1, d2, d3] => { results := [.lit (.bool false)], args := [d1, d2, d3] }
  | _ => none }
def AnatomyKeysWrongFalsely : Prop := anatomyKeysRow.holds Tryd.pinned (OpenSpec.ofChange anatomyKeysWrong)

/-- 'binnaclelaw01.AnatomySteps': WHATEVER THE INPUT: true; the input reads as it did. -/
def anatomyStepsSpec : ChangeSpec := { name := "anatomySteps", fn := fun _ => fun
  | [d1, d2] => { results := [.lit (.bool true)], args := [d1, d2] }
  | _ => none }
def anatomyStepsRow : OpenClaim := { program := "ythjaponkbodooaadoor", sum := "5a846da2793ae84c8e99d0b18b181a3b6d2c12e000561d3d5006a4a57b22ad0d", func := "binnacle/binnaclelaw01.AnatomySteps", spec := "anatomySteps", inPlace := ["math.Float64frombits", "math.Float64bits"], named := ["math/bits.deBruijn64tab"], apart := false, laid := [("math/bits.deBruijn64tab", laid_math_bits_deBruijn64tab)] }
def AnatomyStepsSaid : Prop := anatomyStepsRow.holds Tryd.pinned (OpenSpec.ofChange anatomyStepsSpec)

/-- ITS FALSE NEIGHBOUR: 'it returns false'. Refute it at one input. -/
def anatomyStepsWrong : ChangeSpec := { name := "anatomySteps", fn := fun _ => fun
  | [d1, d2] => { results := [.lit (.bool false)], args := [d1, d2] }
  | _ => none }
def AnatomyStepsWrongFalsely : Prop := anatomyStepsRow.holds Tryd.pinned (OpenSpec.ofChange anatomyStepsWrong)

/-- 'binnaclelaw01.AnatomyNear': WHATEVER THE INPUT: true; the input reads as it did. -/
def anatomyNearSpec : ChangeSpec := { name := "anatomyNear", fn := fun _ => fun
  | [d1, d2] => { results := [.lit (.bool true)], args := [d1, d2] }
  | _ => none }
def anatomyNearRow : OpenClaim := { program := "ythjaponkbodooaadoor", sum := "5a846da2793ae84c8e99d0b18b181a3b6d2c12e000561d3d5006a4a57b22ad0d", func := "binnacle/binnaclelaw01.AnatomyNear", spec := "anatomyNear", inPlace := ["math.Float64frombits", "math.Float64bits", "math.archMin"], named := ["math/bits.deBruijn64tab"], apart := false, laid := [("math/bits.deBruijn64tab", laid_math_bits_deBruijn64tab)] }
def AnatomyNearSaid : Prop := anatomyNearRow.holds Tryd.pinned (OpenSpec.ofChange anatomyNearSpec)

/-- ITS FALSE NEIGHBOUR: 'it returns false'. Refute it at one input. -/
def anatomyNearWrong : ChangeSpec := { name := "anatomyNear", fn := fun _ => fun
  | [d1, d2] => { results := [.lit (.bool false)], args := [d1, d2] }
  | _ => none }
def AnatomyNearWrongFalsely : Prop := anatomyNearRow.holds Tryd.pinned (OpenSpec.ofChange anatomyNearWrong)

/- THE SECOND FORM. 'bulk': how many values and letters a reading holds, each counted each time it is reached (what is shared counts as often as it is met; a slice's spare places count too). A statement '..UptoSaid' is the law's where the arguments, and the package variables that the reading takes, are together of bulk at most 1048576: NARROWER than '..Said'. Prove '..Said' where nothing that the law and all that it calls make is longer than what came in: it says more and counts as full. Else prove '..UptoSaid'. A law counts once. -/
mutual
def uptoBulk {H : Type} : DataW H → Nat
  | .lit (.string bytes) => bytes.length + 1
  | .lit _ => 1
  | .nil => 1
  | .ptr d => uptoBulk d + 1
  | .slice elems spare => uptoBulkAll elems + uptoBulkAll spare + 1
  | .agg parts => uptoBulkAll parts + 1
  | .iface _ d => uptoBulk d + 1
  | .map entries => uptoBulkEntries entries + 1
  | .held _ => 1
def uptoBulkAll {H : Type} : List (DataW H) → Nat
  | [] => 0
  | d :: r => uptoBulk d + uptoBulkAll r
def uptoBulkEntries {H : Type} : List (Lit × DataW H) → Nat
  | [] => 0
  | x :: r => uptoBulkEntry x + uptoBulkEntries r
def uptoBulkEntry {H : Type} : Lit × DataW H → Nat
  | (.string bytes, d) => bytes.length + uptoBulk d + 1
  | (_, d) => uptoBulk d + 1
 end
def uptoSmall : (H : Type) → List (DataW H) → Bool := fun _ ds => decide (uptoBulkAll ds ≤ 1048576)
def OpenSpec.upto (s : _root_.Go.ChangeSpec) : _root_.Go.OpenSpec := { _root_.Go.OpenSpec.ofChange s with cond := some uptoSmall }

/-- 'binnaclelaw01.AnatomyParts', WHERE WHAT IT READS IS OF BULK AT MOST 1048576: true; the input reads as it did. -/
def anatomyPartsUptoRow : OpenClaim := { program := "ythjaponkbodooaadoor", sum := "5a846da2793ae84c8e99d0b18b181a3b6d2c12e000561d3d5006a4a57b22ad0d", func := "binnacle/binnaclelaw01.AnatomyParts", spec := "anatomyParts", inPlace := ["math.Float64frombits", "math.Float64bits", "math.Float32frombits", "math.Float32bits"], named := ["math/bits.deBruijn64tab"], apart := false, laid := [("math/bits.deBruijn64tab", laid_math_bits_deBruijn64tab)], narrowed := true }
def AnatomyPartsUptoSaid : Prop := anatomyPartsUptoRow.holds Tryd.pinned (OpenSpec.upto anatomyPartsSpec)

/-- 'binnaclelaw01.AnatomyFields32', WHERE WHAT IT READS IS OF BULK AT MOST 1048576: true; the input reads as it did. -/
def anatomyFields32UptoRow : OpenClaim := { program := "ythjaponkbodooaadoor", sum := "5a846da2793ae84c8e99d0b18b181a3b6d2c12e000561d3d5006a4a57b22ad0d", func := "binnacle/binnaclelaw01.AnatomyFields32", spec := "anatomyFields32", inPlace := ["math.Float32frombits", "math.Float32bits", "math.Float64bits", "math.Float64frombits"], named := ["math/bits.deBruijn64tab"], apart := false, laid := [("math/bits.deBruijn64tab", laid_math_bits_deBruijn64tab)], narrowed := true }
def AnatomyFields32UptoSaid : Prop := anatomyFields32UptoRow.holds Tryd.pinned (OpenSpec.upto anatomyFields32Spec)

/-- 'binnaclelaw01.AnatomyFields', WHERE WHAT IT READS IS OF BULK AT MOST 1048576: true; the input reads as it did. -/
def anatomyFieldsUptoRow : OpenClaim := { program := "ythjaponkbodooaadoor", sum := "5a846da2793ae84c8e99d0b18b181a3b6d2c12e000561d3d5006a4a57b22ad0d", func := "binnacle/binnaclelaw01.AnatomyFields", spec := "anatomyFields", inPlace := ["math.Float64frombits", "math.Float64bits"], named := ["math/bits.deBruijn64tab"], apart := false, laid := [("math/bits.deBruijn64tab", laid_math_bits_deBruijn64tab)], narrowed := true }
def AnatomyFieldsUptoSaid : Prop := anatomyFieldsUptoRow.holds Tryd.pinned (OpenSpec.upto anatomyFieldsSpec)

/-- 'binnaclelaw01.AnatomyOrder', WHERE WHAT IT READS IS OF BULK AT MOST 1048576: true; the input reads as it did. -/
def anatomyOrderUptoRow : OpenClaim := { program := "ythjaponkbodooaadoor", sum := "5a846da2793ae84c8e99d0b18b181a3b6d2c12e000561d3d5006a4a57b22ad0d", func := "binnacle/binnaclelaw01.AnatomyOrder", spec := "anatomyOrder", inPlace := ["math.Float64frombits", "math.Float64bits"], named := ["math/bits.deBruijn64tab"], apart := false, laid := [("math/bits.deBruijn64tab", laid_math_bits_deBruijn64tab)], narrowed := true }
def AnatomyOrderUptoSaid : Prop := anatomyOrderUptoRow.holds Tryd.pinned (OpenSpec.upto anatomyOrderSpec)

/-- 'binnaclelaw01.AnatomyBack', WHERE WHAT IT READS IS OF BULK AT MOST 1048576: true; the input reads as it did. -/
def anatomyBackUptoRow : OpenClaim := { program := "ythjaponkbodooaadoor", sum := "5a846da2793ae84c8e99d0b18b181a3b6d2c12e000561d3d5006a4a57b22ad0d", func := "binnacle/binnaclelaw01.AnatomyBack", spec := "anatomyBack", inPlace := ["math.Float64frombits", "math.Float64bits"], named := ["math/bits.deBruijn64tab"], apart := false, laid := [("math/bits.deBruijn64tab", laid_math_bits_deBruijn64tab)], narrowed := true }
def AnatomyBackUptoSaid : Prop := anatomyBackUptoRow.holds Tryd.pinned (OpenSpec.upto anatomyBackSpec)

/-- 'binnaclelaw01.AnatomyNext', WHERE WHAT IT READS IS OF BULK AT MOST 1048576: true; the input reads as it did. -/
def anatomyNextUptoRow : OpenClaim := { program := "ythjaponkbodooaadoor", sum := "5a846da2793ae84c8e99d0b18b181a3b6d2c12e000561d3d5006a4a57b22ad0d", func := "binnacle/binnaclelaw01.AnatomyNext", spec := "anatomyNext", inPlace := ["math.Float64frombits", "math.Float32frombits", "math.Float64bits", "math.Float32bits"], named := ["math/bits.deBruijn64tab"], apart := false, laid := [("math/bits.deBruijn64tab", laid_math_bits_deBruijn64tab)], narrowed := true }
def AnatomyNextUptoSaid : Prop := anatomyNextUptoRow.holds Tryd.pinned (OpenSpec.upto anatomyNextSpec)

/-- 'binnaclelaw01.AnatomyKeys', WHERE WHAT IT READS IS OF BULK AT MOST 1048576: true; the input reads as it did. -/
def anatomyKeysUptoRow : OpenClaim := { program := "ythjaponkbodooaadoor", sum := "5a846da2793ae84c8e99d0b18b181a3b6d2c12e000561d3d5006a4a57b22ad0d", func := "binnacle/binnaclelaw01.AnatomyKeys", spec := "anatomyKeys", inPlace := ["math.Float64frombits", "math.Float64bits"], named := ["math/bits.deBruijn64tab"], apart := false, laid := [("math/bits.deBruijn64tab", laid_math_bits_deBruijn64tab)], narrowed := true }
def AnatomyKeysUptoSaid : Prop := anatomyKeysUptoRow.holds Tryd.pinned (OpenSpec.upto anatomyKeysSpec)

/-- 'binnaclelaw01.AnatomySteps', WHERE WHAT IT READS IS OF BULK AT MOST 1048576: true; the input reads as it did. -/
def anatomyStepsUptoRow : OpenClaim := { program := "ythjaponkbodooaadoor", sum := "5a846da2793ae84c8e99d0b18b181a3b6d2c12e000561d3d5006a4a57b22ad0d", func := "binnacle/binnaclelaw01.AnatomySteps", spec := "anatomySteps", inPlace := ["math.Float64frombits", "math.Float64bits"], named := ["math/bits.deBruijn64tab"], apart := false, laid := [("math/bits.deBruijn64tab", laid_math_bits_deBruijn64tab)], narrowed := true }
def AnatomyStepsUptoSaid : Prop := anatomyStepsUptoRow.holds Tryd.pinned (OpenSpec.upto anatomyStepsSpec)

/-- 'binnaclelaw01.AnatomyNear', WHERE WHAT IT READS IS OF BULK AT MOST 1048576: true; the input reads as it did. -/
def anatomyNearUptoRow : OpenClaim := { program := "ythjaponkbodooaadoor", sum := "5a846da2793ae84c8e99d0b18b181a3b6d2c12e000561d3d5006a4a57b22ad0d", func := "binnacle/binnaclelaw01.AnatomyNear", spec := "anatomyNear", inPlace := ["math.Float64frombits", "math.Float64bits", "math.archMin"], named := ["math/bits.deBruijn64tab"], apart := false, laid := [("math/bits.deBruijn64tab", laid_math_bits_deBruijn64tab)], narrowed := true }
def AnatomyNearUptoSaid : Prop := anatomyNearUptoRow.holds Tryd.pinned (OpenSpec.upto anatomyNearSpec)

end Rows
end Go.Proofs.YthjaponkbodooaaDoor
