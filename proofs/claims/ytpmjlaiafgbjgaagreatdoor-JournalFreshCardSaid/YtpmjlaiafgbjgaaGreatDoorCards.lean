/-
  DERIVED. GIVEN WITH THE SEED: THE CARDS: each row of YtpmjlaiafgbjgaaGreatDoorRows.lean that lists a variable, with what it lists TIED to the program's text (the seventh form; the later family's looks); each row that meets fmt, with fmt's text TOLD by the authors' own Lean function (tested against real Go, not proved from fmt's source: count such statements apart). THE CARD IS WHAT COUNTS. Prove the row's statement (the work); the ties are given (YtpmjlaiafgbjgaaGreatDoorTie.lean); close each card by the builder's one call (the guide's Derived/Test/ToyasCard.lean, 'card_holds'). Laid BY PROGRAM, IN A SANDBOX (cutbox-door.mjs). By AI agents, Wed Nov 11 2026. No macro, syntax, notation, axiom, sorry.
-/
import Derived.Test.YtpmjlaiafgbjgaaGreatDoorRows
import GoSem.ClaimSeven
namespace Go.Proofs.YtpmjlaiafgbjgaaGreatDoor
namespace Rows

/-- THE TIED CARD OF 'binnaclelaw22.JournalDoes'. -/
def journalDoesCard : Claim7 := { stood := { row := journalDoesRow, standIns := [], harness := (true, "10b30b3ef148327da73c57d0346681e6da3a878705a38b805058edaa94dd4a0e"), looks := false }, kinds := [], alts := [], laidByText := true, laidKinds := [.data], laidTests := true, laidLooks := .later }
def JournalDoesCardSaid : Prop := Claim7.holds Tryz.pinned (.plain (OpenSpec.ofChange journalDoesSpec)) journalDoesCard

/-- THE TIED CARD OF 'binnaclelaw22.JournalFresh'. -/
def journalFreshCard : Claim7 := { stood := { row := journalFreshRow, standIns := [], harness := (true, "10b30b3ef148327da73c57d0346681e6da3a878705a38b805058edaa94dd4a0e"), looks := false }, kinds := [], alts := [], laidByText := true, laidKinds := [.data], laidTests := true, laidLooks := .later }
def JournalFreshCardSaid : Prop := Claim7.holds Tryz.pinned (.plain (OpenSpec.ofChange journalFreshSpec)) journalFreshCard

/-- THE SECOND FORM's CARD OF 'binnaclelaw22.JournalDoes'. -/
def journalDoesUptoCard : Claim7 := { stood := { row := journalDoesUptoRow, standIns := [], harness := (true, "10b30b3ef148327da73c57d0346681e6da3a878705a38b805058edaa94dd4a0e"), looks := false }, kinds := [], alts := [], laidByText := true, laidKinds := [.data], laidTests := true, laidLooks := .later }
def JournalDoesUptoCardSaid : Prop := Claim7.holds Tryz.pinned (.plain (OpenSpec.upto journalDoesSpec)) journalDoesUptoCard

/-- THE SECOND FORM's CARD OF 'binnaclelaw22.JournalFresh'. -/
def journalFreshUptoCard : Claim7 := { stood := { row := journalFreshUptoRow, standIns := [], harness := (true, "10b30b3ef148327da73c57d0346681e6da3a878705a38b805058edaa94dd4a0e"), looks := false }, kinds := [], alts := [], laidByText := true, laidKinds := [.data], laidTests := true, laidLooks := .later }
def JournalFreshUptoCardSaid : Prop := Claim7.holds Tryz.pinned (.plain (OpenSpec.upto journalFreshSpec)) journalFreshUptoCard
end Rows
end Go.Proofs.YtpmjlaiafgbjgaaGreatDoor
