/-
  DERIVED. GIVEN WITH THE SEED: THE CARDS: each row of YtgkcpnidmfejeaaGreatDoorRows.lean that lists a variable, with what it lists TIED to the program's text (the seventh form; the later family's looks); each row that meets fmt, with fmt's text TOLD by the authors' own Lean function (tested against real Go, not proved from fmt's source: count such statements apart). THE CARD IS WHAT COUNTS. Prove the row's statement (the work); the ties are given (YtgkcpnidmfejeaaGreatDoorTie.lean); close each card by the builder's one call (the guide's Derived/Test/ToyasCard.lean, 'card_holds'). Laid BY PROGRAM, IN A SANDBOX (cutbox-door.mjs). By AI agents, Wed Nov 11 2026. No macro, syntax, notation, axiom, sorry.
-/
import Derived.Test.YtgkcpnidmfejeaaGreatDoorRows
import GoSem.ClaimSeven
namespace Go.Proofs.YtgkcpnidmfejeaaGreatDoor
namespace Rows

/-- THE TIED CARD OF 'binnacletop.TopEncloses'. -/
def topEnclosesCard : Claim7 := { stood := { row := topEnclosesRow, standIns := [], harness := (true, "b4a3ad363f7c461edba7b4f9950dc46329ce098fe32e149b91bd8b40e0d89fbc"), looks := true }, kinds := [], alts := [], laidByText := true, laidKinds := [.data, .data], laidTests := true, laidLooks := .later }
def TopEnclosesCardSaid : Prop := Claim7.holds Tryz.pinned (.plain (OpenSpec.ofChange topEnclosesSpec)) topEnclosesCard

/-- THE TIED CARD OF 'binnacletop.TopVerified'. -/
def topVerifiedCard : Claim7 := { stood := { row := topVerifiedRow, standIns := [], harness := (true, "b4a3ad363f7c461edba7b4f9950dc46329ce098fe32e149b91bd8b40e0d89fbc"), looks := true }, kinds := [], alts := [], laidByText := true, laidKinds := [.data, .data], laidTests := true, laidLooks := .later }
def TopVerifiedCardSaid : Prop := Claim7.holds Tryz.pinned (.plain (OpenSpec.ofChange topVerifiedSpec)) topVerifiedCard

/-- THE TIED CARD OF 'binnacletop.TopUnit'. -/
def topUnitCard : Claim7 := { stood := { row := topUnitRow, standIns := [], harness := (true, "b4a3ad363f7c461edba7b4f9950dc46329ce098fe32e149b91bd8b40e0d89fbc"), looks := true }, kinds := [], alts := [], laidByText := true, laidKinds := [.data, .data], laidTests := true, laidLooks := .later }
def TopUnitCardSaid : Prop := Claim7.holds Tryz.pinned (.plain (OpenSpec.ofChange topUnitSpec)) topUnitCard

/-- THE SECOND FORM's CARD OF 'binnacletop.TopEncloses'. -/
def topEnclosesUptoCard : Claim7 := { stood := { row := topEnclosesUptoRow, standIns := [], harness := (true, "b4a3ad363f7c461edba7b4f9950dc46329ce098fe32e149b91bd8b40e0d89fbc"), looks := true }, kinds := [], alts := [], laidByText := true, laidKinds := [.data, .data], laidTests := true, laidLooks := .later }
def TopEnclosesUptoCardSaid : Prop := Claim7.holds Tryz.pinned (.plain (OpenSpec.upto topEnclosesSpec)) topEnclosesUptoCard

/-- THE SECOND FORM's CARD OF 'binnacletop.TopVerified'. -/
def topVerifiedUptoCard : Claim7 := { stood := { row := topVerifiedUptoRow, standIns := [], harness := (true, "b4a3ad363f7c461edba7b4f9950dc46329ce098fe32e149b91bd8b40e0d89fbc"), looks := true }, kinds := [], alts := [], laidByText := true, laidKinds := [.data, .data], laidTests := true, laidLooks := .later }
def TopVerifiedUptoCardSaid : Prop := Claim7.holds Tryz.pinned (.plain (OpenSpec.upto topVerifiedSpec)) topVerifiedUptoCard

/-- THE SECOND FORM's CARD OF 'binnacletop.TopUnit'. -/
def topUnitUptoCard : Claim7 := { stood := { row := topUnitUptoRow, standIns := [], harness := (true, "b4a3ad363f7c461edba7b4f9950dc46329ce098fe32e149b91bd8b40e0d89fbc"), looks := true }, kinds := [], alts := [], laidByText := true, laidKinds := [.data, .data], laidTests := true, laidLooks := .later }
def TopUnitUptoCardSaid : Prop := Claim7.holds Tryz.pinned (.plain (OpenSpec.upto topUnitSpec)) topUnitUptoCard
end Rows
end Go.Proofs.YtgkcpnidmfejeaaGreatDoor
