/-
  DERIVED. GIVEN WITH THE SEED: THE CARDS: each row of YtifgngmebnjfkaaDoorRows.lean that lists a variable, with what it lists TIED to the program's text (the seventh form; the later family's looks); each row that meets fmt, with fmt's text TOLD by the authors' own Lean function (tested against real Go, not proved from fmt's source: count such statements apart). THE CARD IS WHAT COUNTS. Prove the row's statement (the work); the ties are given (YtifgngmebnjfkaaDoorTie.lean); close each card by the builder's one call (the guide's Derived/Test/ToyasCard.lean, 'card_holds'). Laid BY PROGRAM, IN A SANDBOX (cutbox-door.mjs). By AI agents, Wed Nov 11 2026. No macro, syntax, notation, axiom, sorry.
-/
import Derived.Test.YtifgngmebnjfkaaDoorRows
import GoSem.ClaimSeven
namespace Go.Proofs.YtifgngmebnjfkaaDoor
namespace Rows

/-- THE TIED CARD OF 'binnaclelaw02.ConvertSterbenz'. -/
def convertSterbenzCard : Claim7 := { stood := { row := convertSterbenzRow, standIns := [], harness := (true, "ccd7d926ca44bda79c54bbb08909cfa3f8252fddb007da67795935d8e648ab72"), looks := false }, kinds := [], alts := [], laidByText := true, laidKinds := [.data], laidTests := true, laidLooks := .later }
def ConvertSterbenzCardSaid : Prop := Claim7.holds Tryd.pinned (.plain (OpenSpec.ofChange convertSterbenzSpec)) convertSterbenzCard

/-- THE TIED CARD OF 'binnaclelaw02.ConvertNarrows'. -/
def convertNarrowsCard : Claim7 := { stood := { row := convertNarrowsRow, standIns := [], harness := (true, "ccd7d926ca44bda79c54bbb08909cfa3f8252fddb007da67795935d8e648ab72"), looks := false }, kinds := [], alts := [], laidByText := true, laidKinds := [.data], laidTests := true, laidLooks := .later }
def ConvertNarrowsCardSaid : Prop := Claim7.holds Tryd.pinned (.plain (OpenSpec.ofChange convertNarrowsSpec)) convertNarrowsCard

/-- THE TIED CARD OF 'binnaclelaw02.ConvertBack'. -/
def convertBackCard : Claim7 := { stood := { row := convertBackRow, standIns := [], harness := (true, "ccd7d926ca44bda79c54bbb08909cfa3f8252fddb007da67795935d8e648ab72"), looks := false }, kinds := [], alts := [], laidByText := true, laidKinds := [.data, .data], laidTests := true, laidLooks := .later }
def ConvertBackCardSaid : Prop := Claim7.holds Tryd.pinned (.plain (OpenSpec.ofChange convertBackSpec)) convertBackCard

/-- THE TIED CARD OF 'binnaclelaw02.ConvertScales'. -/
def convertScalesCard : Claim7 := { stood := { row := convertScalesRow, standIns := [], harness := (true, "ccd7d926ca44bda79c54bbb08909cfa3f8252fddb007da67795935d8e648ab72"), looks := false }, kinds := [], alts := [], laidByText := true, laidKinds := [.data, .data], laidTests := true, laidLooks := .later }
def ConvertScalesCardSaid : Prop := Claim7.holds Tryd.pinned (.plain (OpenSpec.ofChange convertScalesSpec)) convertScalesCard

/-- THE TIED CARD OF 'binnaclelaw02.ConvertRises'. -/
def convertRisesCard : Claim7 := { stood := { row := convertRisesRow, standIns := [], harness := (true, "ccd7d926ca44bda79c54bbb08909cfa3f8252fddb007da67795935d8e648ab72"), looks := false }, kinds := [], alts := [], laidByText := true, laidKinds := [.data, .data], laidTests := true, laidLooks := .later }
def ConvertRisesCardSaid : Prop := Claim7.holds Tryd.pinned (.plain (OpenSpec.ofChange convertRisesSpec)) convertRisesCard

/-- THE TIED CARD OF 'binnaclelaw02.ConvertInts'. -/
def convertIntsCard : Claim7 := { stood := { row := convertIntsRow, standIns := [], harness := (true, "ccd7d926ca44bda79c54bbb08909cfa3f8252fddb007da67795935d8e648ab72"), looks := false }, kinds := [], alts := [], laidByText := true, laidKinds := [.data, .data], laidTests := true, laidLooks := .later }
def ConvertIntsCardSaid : Prop := Claim7.holds Tryd.pinned (.plain (OpenSpec.ofChange convertIntsSpec)) convertIntsCard

/-- THE TIED CARD OF 'binnaclelaw02.ConvertBetween'. -/
def convertBetweenCard : Claim7 := { stood := { row := convertBetweenRow, standIns := [], harness := (true, "ccd7d926ca44bda79c54bbb08909cfa3f8252fddb007da67795935d8e648ab72"), looks := false }, kinds := [], alts := [], laidByText := true, laidKinds := [.data], laidTests := true, laidLooks := .later }
def ConvertBetweenCardSaid : Prop := Claim7.holds Tryd.pinned (.plain (OpenSpec.ofChange convertBetweenSpec)) convertBetweenCard

/-- THE TIED CARD OF 'binnaclelaw02.ConvertTurned'. -/
def convertTurnedCard : Claim7 := { stood := { row := convertTurnedRow, standIns := [], harness := (true, "ccd7d926ca44bda79c54bbb08909cfa3f8252fddb007da67795935d8e648ab72"), looks := false }, kinds := [], alts := [], laidByText := true, laidKinds := [.data], laidTests := true, laidLooks := .later }
def ConvertTurnedCardSaid : Prop := Claim7.holds Tryd.pinned (.plain (OpenSpec.ofChange convertTurnedSpec)) convertTurnedCard

/-- THE TIED CARD OF 'binnaclelaw02.ConvertFigueroa'. -/
def convertFigueroaCard : Claim7 := { stood := { row := convertFigueroaRow, standIns := [], harness := (true, "ccd7d926ca44bda79c54bbb08909cfa3f8252fddb007da67795935d8e648ab72"), looks := false }, kinds := [], alts := [], laidByText := true, laidKinds := [.data], laidTests := true, laidLooks := .later }
def ConvertFigueroaCardSaid : Prop := Claim7.holds Tryd.pinned (.plain (OpenSpec.ofChange convertFigueroaSpec)) convertFigueroaCard

/-- THE SECOND FORM's CARD OF 'binnaclelaw02.ConvertSterbenz'. -/
def convertSterbenzUptoCard : Claim7 := { stood := { row := convertSterbenzUptoRow, standIns := [], harness := (true, "ccd7d926ca44bda79c54bbb08909cfa3f8252fddb007da67795935d8e648ab72"), looks := false }, kinds := [], alts := [], laidByText := true, laidKinds := [.data], laidTests := true, laidLooks := .later }
def ConvertSterbenzUptoCardSaid : Prop := Claim7.holds Tryd.pinned (.plain (OpenSpec.upto convertSterbenzSpec)) convertSterbenzUptoCard

/-- THE SECOND FORM's CARD OF 'binnaclelaw02.ConvertNarrows'. -/
def convertNarrowsUptoCard : Claim7 := { stood := { row := convertNarrowsUptoRow, standIns := [], harness := (true, "ccd7d926ca44bda79c54bbb08909cfa3f8252fddb007da67795935d8e648ab72"), looks := false }, kinds := [], alts := [], laidByText := true, laidKinds := [.data], laidTests := true, laidLooks := .later }
def ConvertNarrowsUptoCardSaid : Prop := Claim7.holds Tryd.pinned (.plain (OpenSpec.upto convertNarrowsSpec)) convertNarrowsUptoCard

/-- THE SECOND FORM's CARD OF 'binnaclelaw02.ConvertBack'. -/
def convertBackUptoCard : Claim7 := { stood := { row := convertBackUptoRow, standIns := [], harness := (true, "ccd7d926ca44bda79c54bbb08909cfa3f8252fddb007da67795935d8e648ab72"), looks := false }, kinds := [], alts := [], laidByText := true, laidKinds := [.data, .data], laidTests := true, laidLooks := .later }
def ConvertBackUptoCardSaid : Prop := Claim7.holds Tryd.pinned (.plain (OpenSpec.upto convertBackSpec)) convertBackUptoCard

/-- THE SECOND FORM's CARD OF 'binnaclelaw02.ConvertScales'. -/
def convertScalesUptoCard : Claim7 := { stood := { row := convertScalesUptoRow, standIns := [], harness := (true, "ccd7d926ca44bda79c54bbb08909cfa3f8252fddb007da67795935d8e648ab72"), looks := false }, kinds := [], alts := [], laidByText := true, laidKinds := [.data, .data], laidTests := true, laidLooks := .later }
def ConvertScalesUptoCardSaid : Prop := Claim7.holds Tryd.pinned (.plain (OpenSpec.upto convertScalesSpec)) convertScalesUptoCard

/-- THE SECOND FORM's CARD OF 'binnaclelaw02.ConvertRises'. -/
def convertRisesUptoCard : Claim7 := { stood := { row := convertRisesUptoRow, standIns := [], harness := (true, "ccd7d926ca44bda79c54bbb08909cfa3f8252fddb007da67795935d8e648ab72"), looks := false }, kinds := [], alts := [], laidByText := true, laidKinds := [.data, .data], laidTests := true, laidLooks := .later }
def ConvertRisesUptoCardSaid : Prop := Claim7.holds Tryd.pinned (.plain (OpenSpec.upto convertRisesSpec)) convertRisesUptoCard

/-- THE SECOND FORM's CARD OF 'binnaclelaw02.ConvertInts'. -/
def convertIntsUptoCard : Claim7 := { stood := { row := convertIntsUptoRow, standIns := [], harness := (true, "ccd7d926ca44bda79c54bbb08909cfa3f8252fddb007da67795935d8e648ab72"), looks := false }, kinds := [], alts := [], laidByText := true, laidKinds := [.data, .data], laidTests := true, laidLooks := .later }
def ConvertIntsUptoCardSaid : Prop := Claim7.holds Tryd.pinned (.plain (OpenSpec.upto convertIntsSpec)) convertIntsUptoCard

/-- THE SECOND FORM's CARD OF 'binnaclelaw02.ConvertBetween'. -/
def convertBetweenUptoCard : Claim7 := { stood := { row := convertBetweenUptoRow, standIns := [], harness := (true, "ccd7d926ca44bda79c54bbb08909cfa3f8252fddb007da67795935d8e648ab72"), looks := false }, kinds := [], alts := [], laidByText := true, laidKinds := [.data], laidTests := true, laidLooks := .later }
def ConvertBetweenUptoCardSaid : Prop := Claim7.holds Tryd.pinned (.plain (OpenSpec.upto convertBetweenSpec)) convertBetweenUptoCard

/-- THE SECOND FORM's CARD OF 'binnaclelaw02.ConvertTurned'. -/
def convertTurnedUptoCard : Claim7 := { stood := { row := convertTurnedUptoRow, standIns := [], harness := (true, "ccd7d926ca44bda79c54bbb08909cfa3f8252fddb007da67795935d8e648ab72"), looks := false }, kinds := [], alts := [], laidByText := true, laidKinds := [.data], laidTests := true, laidLooks := .later }
def ConvertTurnedUptoCardSaid : Prop := Claim7.holds Tryd.pinned (.plain (OpenSpec.upto convertTurnedSpec)) convertTurnedUptoCard

/-- THE SECOND FORM's CARD OF 'binnaclelaw02.ConvertFigueroa'. -/
def convertFigueroaUptoCard : Claim7 := { stood := { row := convertFigueroaUptoRow, standIns := [], harness := (true, "ccd7d926ca44bda79c54bbb08909cfa3f8252fddb007da67795935d8e648ab72"), looks := false }, kinds := [], alts := [], laidByText := true, laidKinds := [.data], laidTests := true, laidLooks := .later }
def ConvertFigueroaUptoCardSaid : Prop := Claim7.holds Tryd.pinned (.plain (OpenSpec.upto convertFigueroaSpec)) convertFigueroaUptoCard
end Rows
end Go.Proofs.YtifgngmebnjfkaaDoor
