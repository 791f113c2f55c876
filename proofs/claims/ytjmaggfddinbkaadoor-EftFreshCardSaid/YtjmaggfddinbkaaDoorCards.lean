/-
  DERIVED. GIVEN WITH THE SEED: THE CARDS: each row of YtjmaggfddinbkaaDoorRows.lean that lists a variable, with what it lists TIED to the program's text (the seventh form; the later family's looks); each row that meets fmt, with fmt's text TOLD by the authors' own Lean function (tested against real Go, not proved from fmt's source: count such statements apart). THE CARD IS WHAT COUNTS. Prove the row's statement (the work); the ties are given (YtjmaggfddinbkaaDoorTie.lean); close each card by the builder's one call (the guide's Derived/Test/ToyasCard.lean, 'card_holds'). Laid BY PROGRAM, IN A SANDBOX (cutbox-door.mjs). By AI agents, Wed Nov 11 2026. No macro, syntax, notation, axiom, sorry.
-/
import Derived.Test.YtjmaggfddinbkaaDoorRows
import GoSem.ClaimSeven
namespace Go.Proofs.YtjmaggfddinbkaaDoor
namespace Rows

/-- THE TIED CARD OF 'binnaclelaw04.EftTurned'. -/
def eftTurnedCard : Claim7 := { stood := { row := eftTurnedRow, standIns := [], harness := (true, "919f7a9c577e8245fb25de90932274d9cddbd1c53b95affb679ad411ee6a8344"), looks := false }, kinds := [], alts := [], laidByText := true, laidKinds := [.data], laidTests := true, laidLooks := .later }
def EftTurnedCardSaid : Prop := Claim7.holds Tryd.pinned (.plain (OpenSpec.ofChange eftTurnedSpec)) eftTurnedCard

/-- THE TIED CARD OF 'binnaclelaw04.EftFresh'. -/
def eftFreshCard : Claim7 := { stood := { row := eftFreshRow, standIns := [], harness := (true, "919f7a9c577e8245fb25de90932274d9cddbd1c53b95affb679ad411ee6a8344"), looks := false }, kinds := [], alts := [], laidByText := true, laidKinds := [.data], laidTests := true, laidLooks := .later }
def EftFreshCardSaid : Prop := Claim7.holds Tryd.pinned (.plain (OpenSpec.ofChange eftFreshSpec)) eftFreshCard

/-- THE SECOND FORM's CARD OF 'binnaclelaw04.EftTurned'. -/
def eftTurnedUptoCard : Claim7 := { stood := { row := eftTurnedUptoRow, standIns := [], harness := (true, "919f7a9c577e8245fb25de90932274d9cddbd1c53b95affb679ad411ee6a8344"), looks := false }, kinds := [], alts := [], laidByText := true, laidKinds := [.data], laidTests := true, laidLooks := .later }
def EftTurnedUptoCardSaid : Prop := Claim7.holds Tryd.pinned (.plain (OpenSpec.upto eftTurnedSpec)) eftTurnedUptoCard

/-- THE SECOND FORM's CARD OF 'binnaclelaw04.EftFresh'. -/
def eftFreshUptoCard : Claim7 := { stood := { row := eftFreshUptoRow, standIns := [], harness := (true, "919f7a9c577e8245fb25de90932274d9cddbd1c53b95affb679ad411ee6a8344"), looks := false }, kinds := [], alts := [], laidByText := true, laidKinds := [.data], laidTests := true, laidLooks := .later }
def EftFreshUptoCardSaid : Prop := Claim7.holds Tryd.pinned (.plain (OpenSpec.upto eftFreshSpec)) eftFreshUptoCard
end Rows
end Go.Proofs.YtjmaggfddinbkaaDoor
