/-
  DERIVED. GIVEN WITH THE SEED: THE CARDS: each row of YtpmjlaiafgbjgaaDoorRows.lean that lists a variable, with what it lists TIED to the program's text (the seventh form; the later family's looks); each row that meets fmt, with fmt's text TOLD by the authors' own Lean function (tested against real Go, not proved from fmt's source: count such statements apart). THE CARD IS WHAT COUNTS. Prove the row's statement (the work); the ties are given (YtpmjlaiafgbjgaaDoorTie.lean); close each card by the builder's one call (the guide's Derived/Test/ToyasCard.lean, 'card_holds'). Laid BY PROGRAM, IN A SANDBOX (cutbox-door.mjs). By AI agents, Wed Nov 11 2026. No macro, syntax, notation, axiom, sorry.
-/
import Derived.Test.YtpmjlaiafgbjgaaDoorRows
import GoSem.ClaimSeven
namespace Go.Proofs.YtpmjlaiafgbjgaaDoor
namespace Rows

/-- THE TIED CARD OF 'binnaclelaw22.JournalOpens'. -/
def journalOpensCard : Claim7 := { stood := { row := journalOpensRow, standIns := [], harness := (true, "0dea658a7f6b737fcec88858ff33e6c95cccd3ee42a148fd0af8c4ed216546b2"), looks := false }, kinds := [], alts := [], laidByText := true, laidKinds := [.data], laidTests := true, laidLooks := .later }
def JournalOpensCardSaid : Prop := Claim7.holds Tryd.pinned (.plain (OpenSpec.ofChange journalOpensSpec)) journalOpensCard

/-- THE TIED CARD OF 'binnaclelaw22.JournalReads'. -/
def journalReadsCard : Claim7 := { stood := { row := journalReadsRow, standIns := [], harness := (true, "0dea658a7f6b737fcec88858ff33e6c95cccd3ee42a148fd0af8c4ed216546b2"), looks := false }, kinds := [], alts := [], laidByText := true, laidKinds := [.data], laidTests := true, laidLooks := .later }
def JournalReadsCardSaid : Prop := Claim7.holds Tryd.pinned (.plain (OpenSpec.ofChange journalReadsSpec)) journalReadsCard

/-- THE TIED CARD OF 'binnaclelaw22.JournalTorn'. -/
def journalTornCard : Claim7 := { stood := { row := journalTornRow, standIns := [], harness := (true, "0dea658a7f6b737fcec88858ff33e6c95cccd3ee42a148fd0af8c4ed216546b2"), looks := false }, kinds := [], alts := [], laidByText := true, laidKinds := [.data], laidTests := true, laidLooks := .later }
def JournalTornCardSaid : Prop := Claim7.holds Tryd.pinned (.plain (OpenSpec.ofChange journalTornSpec)) journalTornCard

/-- THE TIED CARD OF 'binnaclelaw22.JournalTurned'. -/
def journalTurnedCard : Claim7 := { stood := { row := journalTurnedRow, standIns := [], harness := (true, "0dea658a7f6b737fcec88858ff33e6c95cccd3ee42a148fd0af8c4ed216546b2"), looks := false }, kinds := [], alts := [], laidByText := true, laidKinds := [.data], laidTests := true, laidLooks := .later }
def JournalTurnedCardSaid : Prop := Claim7.holds Tryd.pinned (.plain (OpenSpec.ofChange journalTurnedSpec)) journalTurnedCard

/-- THE TIED CARD OF 'binnaclelaw22.JournalChained'. -/
def journalChainedCard : Claim7 := { stood := { row := journalChainedRow, standIns := [], harness := (true, "0dea658a7f6b737fcec88858ff33e6c95cccd3ee42a148fd0af8c4ed216546b2"), looks := false }, kinds := [], alts := [], laidByText := true, laidKinds := [.data], laidTests := true, laidLooks := .later }
def JournalChainedCardSaid : Prop := Claim7.holds Tryd.pinned (.plain (OpenSpec.ofChange journalChainedSpec)) journalChainedCard

/-- THE TIED CARD OF 'binnaclelaw22.JournalBack'. -/
def journalBackCard : Claim7 := { stood := { row := journalBackRow, standIns := [], harness := (true, "0dea658a7f6b737fcec88858ff33e6c95cccd3ee42a148fd0af8c4ed216546b2"), looks := false }, kinds := [], alts := [], laidByText := true, laidKinds := [.data], laidTests := true, laidLooks := .later }
def JournalBackCardSaid : Prop := Claim7.holds Tryd.pinned (.plain (OpenSpec.ofChange journalBackSpec)) journalBackCard

/-- THE TIED CARD OF 'binnaclelaw22.JournalRecords'. -/
def journalRecordsCard : Claim7 := { stood := { row := journalRecordsRow, standIns := [], harness := (true, "0dea658a7f6b737fcec88858ff33e6c95cccd3ee42a148fd0af8c4ed216546b2"), looks := false }, kinds := [], alts := [], laidByText := true, laidKinds := [.data], laidTests := true, laidLooks := .later }
def JournalRecordsCardSaid : Prop := Claim7.holds Tryd.pinned (.plain (OpenSpec.ofChange journalRecordsSpec)) journalRecordsCard

/-- THE TIED CARD OF 'binnaclelaw22.JournalNil'. -/
def journalNilCard : Claim7 := { stood := { row := journalNilRow, standIns := [], harness := (true, "0dea658a7f6b737fcec88858ff33e6c95cccd3ee42a148fd0af8c4ed216546b2"), looks := false }, kinds := [], alts := [], laidByText := true, laidKinds := [.data], laidTests := true, laidLooks := .later }
def JournalNilCardSaid : Prop := Claim7.holds Tryd.pinned (.plain (OpenSpec.ofChange journalNilSpec)) journalNilCard

/-- THE SECOND FORM's CARD OF 'binnaclelaw22.JournalOpens'. -/
def journalOpensUptoCard : Claim7 := { stood := { row := journalOpensUptoRow, standIns := [], harness := (true, "0dea658a7f6b737fcec88858ff33e6c95cccd3ee42a148fd0af8c4ed216546b2"), looks := false }, kinds := [], alts := [], laidByText := true, laidKinds := [.data], laidTests := true, laidLooks := .later }
def JournalOpensUptoCardSaid : Prop := Claim7.holds Tryd.pinned (.plain (OpenSpec.upto journalOpensSpec)) journalOpensUptoCard

/-- THE SECOND FORM's CARD OF 'binnaclelaw22.JournalReads'. -/
def journalReadsUptoCard : Claim7 := { stood := { row := journalReadsUptoRow, standIns := [], harness := (true, "0dea658a7f6b737fcec88858ff33e6c95cccd3ee42a148fd0af8c4ed216546b2"), looks := false }, kinds := [], alts := [], laidByText := true, laidKinds := [.data], laidTests := true, laidLooks := .later }
def JournalReadsUptoCardSaid : Prop := Claim7.holds Tryd.pinned (.plain (OpenSpec.upto journalReadsSpec)) journalReadsUptoCard

/-- THE SECOND FORM's CARD OF 'binnaclelaw22.JournalTorn'. -/
def journalTornUptoCard : Claim7 := { stood := { row := journalTornUptoRow, standIns := [], harness := (true, "0dea658a7f6b737fcec88858ff33e6c95cccd3ee42a148fd0af8c4ed216546b2"), looks := false }, kinds := [], alts := [], laidByText := true, laidKinds := [.data], laidTests := true, laidLooks := .later }
def JournalTornUptoCardSaid : Prop := Claim7.holds Tryd.pinned (.plain (OpenSpec.upto journalTornSpec)) journalTornUptoCard

/-- THE SECOND FORM's CARD OF 'binnaclelaw22.JournalTurned'. -/
def journalTurnedUptoCard : Claim7 := { stood := { row := journalTurnedUptoRow, standIns := [], harness := (true, "0dea658a7f6b737fcec88858ff33e6c95cccd3ee42a148fd0af8c4ed216546b2"), looks := false }, kinds := [], alts := [], laidByText := true, laidKinds := [.data], laidTests := true, laidLooks := .later }
def JournalTurnedUptoCardSaid : Prop := Claim7.holds Tryd.pinned (.plain (OpenSpec.upto journalTurnedSpec)) journalTurnedUptoCard

/-- THE SECOND FORM's CARD OF 'binnaclelaw22.JournalChained'. -/
def journalChainedUptoCard : Claim7 := { stood := { row := journalChainedUptoRow, standIns := [], harness := (true, "0dea658a7f6b737fcec88858ff33e6c95cccd3ee42a148fd0af8c4ed216546b2"), looks := false }, kinds := [], alts := [], laidByText := true, laidKinds := [.data], laidTests := true, laidLooks := .later }
def JournalChainedUptoCardSaid : Prop := Claim7.holds Tryd.pinned (.plain (OpenSpec.upto journalChainedSpec)) journalChainedUptoCard

/-- THE SECOND FORM's CARD OF 'binnaclelaw22.JournalBack'. -/
def journalBackUptoCard : Claim7 := { stood := { row := journalBackUptoRow, standIns := [], harness := (true, "0dea658a7f6b737fcec88858ff33e6c95cccd3ee42a148fd0af8c4ed216546b2"), looks := false }, kinds := [], alts := [], laidByText := true, laidKinds := [.data], laidTests := true, laidLooks := .later }
def JournalBackUptoCardSaid : Prop := Claim7.holds Tryd.pinned (.plain (OpenSpec.upto journalBackSpec)) journalBackUptoCard

/-- THE SECOND FORM's CARD OF 'binnaclelaw22.JournalRecords'. -/
def journalRecordsUptoCard : Claim7 := { stood := { row := journalRecordsUptoRow, standIns := [], harness := (true, "0dea658a7f6b737fcec88858ff33e6c95cccd3ee42a148fd0af8c4ed216546b2"), looks := false }, kinds := [], alts := [], laidByText := true, laidKinds := [.data], laidTests := true, laidLooks := .later }
def JournalRecordsUptoCardSaid : Prop := Claim7.holds Tryd.pinned (.plain (OpenSpec.upto journalRecordsSpec)) journalRecordsUptoCard

/-- THE SECOND FORM's CARD OF 'binnaclelaw22.JournalNil'. -/
def journalNilUptoCard : Claim7 := { stood := { row := journalNilUptoRow, standIns := [], harness := (true, "0dea658a7f6b737fcec88858ff33e6c95cccd3ee42a148fd0af8c4ed216546b2"), looks := false }, kinds := [], alts := [], laidByText := true, laidKinds := [.data], laidTests := true, laidLooks := .later }
def JournalNilUptoCardSaid : Prop := Claim7.holds Tryd.pinned (.plain (OpenSpec.upto journalNilSpec)) journalNilUptoCard
end Rows
end Go.Proofs.YtpmjlaiafgbjgaaDoor
