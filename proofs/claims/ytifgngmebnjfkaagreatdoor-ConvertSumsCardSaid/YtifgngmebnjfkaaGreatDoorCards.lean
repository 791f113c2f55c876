/-
  DERIVED. GIVEN WITH THE SEED: THE CARDS: each row of YtifgngmebnjfkaaGreatDoorRows.lean that lists a variable, with what it lists TIED to the program's text (the seventh form; the later family's looks); each row that meets fmt, with fmt's text TOLD by the authors' own Lean function (tested against real Go, not proved from fmt's source: count such statements apart). THE CARD IS WHAT COUNTS. Prove the row's statement (the work); the ties are given (YtifgngmebnjfkaaGreatDoorTie.lean); close each card by the builder's one call (the guide's Derived/Test/ToyasCard.lean, 'card_holds'). Laid BY PROGRAM, IN A SANDBOX (cutbox-door.mjs). By AI agents, Wed Nov 11 2026. No macro, syntax, notation, axiom, sorry.
-/
import Derived.Test.YtifgngmebnjfkaaGreatDoorRows
import GoSem.ClaimSeven
namespace Go.Proofs.YtifgngmebnjfkaaGreatDoor
namespace Rows

/-- THE TIED CARD OF 'binnaclelaw02.ConvertFusions'. -/
def convertFusionsCard : Claim7 := { stood := { row := convertFusionsRow, standIns := [], harness := (true, "fa0faa20ca52c824f1b852f3ff94522ffd8ef1da4cec7796abd6ab08c88df44d"), looks := false }, kinds := [], alts := [], laidByText := true, laidKinds := [.data], laidTests := true, laidLooks := .later }
def ConvertFusionsCardSaid : Prop := Claim7.holds Tryz.pinned (.plain (OpenSpec.ofChange convertFusionsSpec)) convertFusionsCard

/-- THE TIED CARD OF 'binnaclelaw02.ConvertWholes'. -/
def convertWholesCard : Claim7 := { stood := { row := convertWholesRow, standIns := [], harness := (true, "fa0faa20ca52c824f1b852f3ff94522ffd8ef1da4cec7796abd6ab08c88df44d"), looks := false }, kinds := [], alts := [], laidByText := true, laidKinds := [.data], laidTests := true, laidLooks := .later }
def ConvertWholesCardSaid : Prop := Claim7.holds Tryz.pinned (.plain (OpenSpec.ofChange convertWholesSpec)) convertWholesCard

/-- THE TIED CARD OF 'binnaclelaw02.ConvertSums'. -/
def convertSumsCard : Claim7 := { stood := { row := convertSumsRow, standIns := [], harness := (true, "fa0faa20ca52c824f1b852f3ff94522ffd8ef1da4cec7796abd6ab08c88df44d"), looks := false }, kinds := [], alts := [], laidByText := true, laidKinds := [.data], laidTests := true, laidLooks := .later }
def ConvertSumsCardSaid : Prop := Claim7.holds Tryz.pinned (.plain (OpenSpec.ofChange convertSumsSpec)) convertSumsCard

/-- THE SECOND FORM's CARD OF 'binnaclelaw02.ConvertFusions'. -/
def convertFusionsUptoCard : Claim7 := { stood := { row := convertFusionsUptoRow, standIns := [], harness := (true, "fa0faa20ca52c824f1b852f3ff94522ffd8ef1da4cec7796abd6ab08c88df44d"), looks := false }, kinds := [], alts := [], laidByText := true, laidKinds := [.data], laidTests := true, laidLooks := .later }
def ConvertFusionsUptoCardSaid : Prop := Claim7.holds Tryz.pinned (.plain (OpenSpec.upto convertFusionsSpec)) convertFusionsUptoCard

/-- THE SECOND FORM's CARD OF 'binnaclelaw02.ConvertWholes'. -/
def convertWholesUptoCard : Claim7 := { stood := { row := convertWholesUptoRow, standIns := [], harness := (true, "fa0faa20ca52c824f1b852f3ff94522ffd8ef1da4cec7796abd6ab08c88df44d"), looks := false }, kinds := [], alts := [], laidByText := true, laidKinds := [.data], laidTests := true, laidLooks := .later }
def ConvertWholesUptoCardSaid : Prop := Claim7.holds Tryz.pinned (.plain (OpenSpec.upto convertWholesSpec)) convertWholesUptoCard

/-- THE SECOND FORM's CARD OF 'binnaclelaw02.ConvertSums'. -/
def convertSumsUptoCard : Claim7 := { stood := { row := convertSumsUptoRow, standIns := [], harness := (true, "fa0faa20ca52c824f1b852f3ff94522ffd8ef1da4cec7796abd6ab08c88df44d"), looks := false }, kinds := [], alts := [], laidByText := true, laidKinds := [.data], laidTests := true, laidLooks := .later }
def ConvertSumsUptoCardSaid : Prop := Claim7.holds Tryz.pinned (.plain (OpenSpec.upto convertSumsSpec)) convertSumsUptoCard
end Rows
end Go.Proofs.YtifgngmebnjfkaaGreatDoor
