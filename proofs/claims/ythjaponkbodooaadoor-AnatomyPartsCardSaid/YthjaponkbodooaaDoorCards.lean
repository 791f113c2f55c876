/-
  DERIVED. GIVEN WITH THE SEED: THE CARDS: each row of YthjaponkbodooaaDoorRows.lean that lists a variable, with what it lists TIED to the program's text (the seventh form; the later family's looks); each row that meets fmt, with fmt's text TOLD by the authors' own Lean function (tested against real Go, not proved from fmt's source: count such statements apart). THE CARD IS WHAT COUNTS. Prove the row's statement (the work); the ties are given (YthjaponkbodooaaDoorTie.lean); close each card by the builder's one call (the guide's Derived/Test/ToyasCard.lean, 'card_holds'). Laid BY PROGRAM, IN A SANDBOX (cutbox-door.mjs). By AI agents, Wed Nov 11 2026. No macro, syntax, notation, axiom, sorry.
-/
import Derived.Test.YthjaponkbodooaaDoorRows
import GoSem.ClaimSeven
namespace Go.Proofs.YthjaponkbodooaaDoor
namespace Rows

/-- THE TIED CARD OF 'binnaclelaw01.AnatomyParts'. -/
def anatomyPartsCard : Claim7 := { stood := { row := anatomyPartsRow, standIns := [], harness := (true, "8c23f20682ef4d79697af29d57fab0f6548da7e04190012d1568b7f236ff709c"), looks := false }, kinds := [], alts := [], laidByText := true, laidKinds := [.data], laidTests := true, laidLooks := .later }
def AnatomyPartsCardSaid : Prop := Claim7.holds Tryd.pinned (.plain (OpenSpec.ofChange anatomyPartsSpec)) anatomyPartsCard

/-- THE TIED CARD OF 'binnaclelaw01.AnatomyFields32'. -/
def anatomyFields32Card : Claim7 := { stood := { row := anatomyFields32Row, standIns := [], harness := (true, "8c23f20682ef4d79697af29d57fab0f6548da7e04190012d1568b7f236ff709c"), looks := false }, kinds := [], alts := [], laidByText := true, laidKinds := [.data], laidTests := true, laidLooks := .later }
def AnatomyFields32CardSaid : Prop := Claim7.holds Tryd.pinned (.plain (OpenSpec.ofChange anatomyFields32Spec)) anatomyFields32Card

/-- THE TIED CARD OF 'binnaclelaw01.AnatomyFields'. -/
def anatomyFieldsCard : Claim7 := { stood := { row := anatomyFieldsRow, standIns := [], harness := (true, "8c23f20682ef4d79697af29d57fab0f6548da7e04190012d1568b7f236ff709c"), looks := false }, kinds := [], alts := [], laidByText := true, laidKinds := [.data], laidTests := true, laidLooks := .later }
def AnatomyFieldsCardSaid : Prop := Claim7.holds Tryd.pinned (.plain (OpenSpec.ofChange anatomyFieldsSpec)) anatomyFieldsCard

/-- THE TIED CARD OF 'binnaclelaw01.AnatomyOrder'. -/
def anatomyOrderCard : Claim7 := { stood := { row := anatomyOrderRow, standIns := [], harness := (true, "8c23f20682ef4d79697af29d57fab0f6548da7e04190012d1568b7f236ff709c"), looks := false }, kinds := [], alts := [], laidByText := true, laidKinds := [.data], laidTests := true, laidLooks := .later }
def AnatomyOrderCardSaid : Prop := Claim7.holds Tryd.pinned (.plain (OpenSpec.ofChange anatomyOrderSpec)) anatomyOrderCard

/-- THE TIED CARD OF 'binnaclelaw01.AnatomyBack'. -/
def anatomyBackCard : Claim7 := { stood := { row := anatomyBackRow, standIns := [], harness := (true, "8c23f20682ef4d79697af29d57fab0f6548da7e04190012d1568b7f236ff709c"), looks := false }, kinds := [], alts := [], laidByText := true, laidKinds := [.data], laidTests := true, laidLooks := .later }
def AnatomyBackCardSaid : Prop := Claim7.holds Tryd.pinned (.plain (OpenSpec.ofChange anatomyBackSpec)) anatomyBackCard

/-- THE TIED CARD OF 'binnaclelaw01.AnatomyNext'. -/
def anatomyNextCard : Claim7 := { stood := { row := anatomyNextRow, standIns := [], harness := (true, "8c23f20682ef4d79697af29d57fab0f6548da7e04190012d1568b7f236ff709c"), looks := false }, kinds := [], alts := [], laidByText := true, laidKinds := [.data], laidTests := true, laidLooks := .later }
def AnatomyNextCardSaid : Prop := Claim7.holds Tryd.pinned (.plain (OpenSpec.ofChange anatomyNextSpec)) anatomyNextCard

/-- THE TIED CARD OF 'binnaclelaw01.AnatomyKeys'. -/
def anatomyKeysCard : Claim7 := { stood := { row := anatomyKeysRow, standIns := [], harness := (true, "8c23f20682ef4d79697af29d57fab0f6548da7e04190012d1568b7f236ff709c"), looks := false }, kinds := [], alts := [], laidByText := true, laidKinds := [.data], laidTests := true, laidLooks := .later }
def AnatomyKeysCardSaid : Prop := Claim7.holds Tryd.pinned (.plain (OpenSpec.ofChange anatomyKeysSpec)) anatomyKeysCard

/-- THE TIED CARD OF 'binnaclelaw01.AnatomySteps'. -/
def anatomyStepsCard : Claim7 := { stood := { row := anatomyStepsRow, standIns := [], harness := (true, "8c23f20682ef4d79697af29d57fab0f6548da7e04190012d1568b7f236ff709c"), looks := false }, kinds := [], alts := [], laidByText := true, laidKinds := [.data], laidTests := true, laidLooks := .later }
def AnatomyStepsCardSaid : Prop := Claim7.holds Tryd.pinned (.plain (OpenSpec.ofChange anatomyStepsSpec)) anatomyStepsCard

/-- THE TIED CARD OF 'binnaclelaw01.AnatomyNear'. -/
def anatomyNearCard : Claim7 := { stood := { row := anatomyNearRow, standIns := [], harness := (true, "8c23f20682ef4d79697af29d57fab0f6548da7e04190012d1568b7f236ff709c"), looks := false }, kinds := [], alts := [], laidByText := true, laidKinds := [.data], laidTests := true, laidLooks := .later }
def AnatomyNearCardSaid : Prop := Claim7.holds Tryd.pinned (.plain (OpenSpec.ofChange anatomyNearSpec)) anatomyNearCard

/-- THE SECOND FORM's CARD OF 'binnaclelaw01.AnatomyParts'. -/
def anatomyPartsUptoCard : Claim7 := { stood := { row := anatomyPartsUptoRow, standIns := [], harness := (true, "8c23f20682ef4d79697af29d57fab0f6548da7e04190012d1568b7f236ff709c"), looks := false }, kinds := [], alts := [], laidByText := true, laidKinds := [.data], laidTests := true, laidLooks := .later }
def AnatomyPartsUptoCardSaid : Prop := Claim7.holds Tryd.pinned (.plain (OpenSpec.upto anatomyPartsSpec)) anatomyPartsUptoCard

/-- THE SECOND FORM's CARD OF 'binnaclelaw01.AnatomyFields32'. -/
def anatomyFields32UptoCard : Claim7 := { stood := { row := anatomyFields32UptoRow, standIns := [], harness := (true, "8c23f20682ef4d79697af29d57fab0f6548da7e04190012d1568b7f236ff709c"), looks := false }, kinds := [], alts := [], laidByText := true, laidKinds := [.data], laidTests := true, laidLooks := .later }
def AnatomyFields32UptoCardSaid : Prop := Claim7.holds Tryd.pinned (.plain (OpenSpec.upto anatomyFields32Spec)) anatomyFields32UptoCard

/-- THE SECOND FORM's CARD OF 'binnaclelaw01.AnatomyFields'. -/
def anatomyFieldsUptoCard : Claim7 := { stood := { row := anatomyFieldsUptoRow, standIns := [], harness := (true, "8c23f20682ef4d79697af29d57fab0f6548da7e04190012d1568b7f236ff709c"), looks := false }, kinds := [], alts := [], laidByText := true, laidKinds := [.data], laidTests := true, laidLooks := .later }
def AnatomyFieldsUptoCardSaid : Prop := Claim7.holds Tryd.pinned (.plain (OpenSpec.upto anatomyFieldsSpec)) anatomyFieldsUptoCard

/-- THE SECOND FORM's CARD OF 'binnaclelaw01.AnatomyOrder'. -/
def anatomyOrderUptoCard : Claim7 := { stood := { row := anatomyOrderUptoRow, standIns := [], harness := (true, "8c23f20682ef4d79697af29d57fab0f6548da7e04190012d1568b7f236ff709c"), looks := false }, kinds := [], alts := [], laidByText := true, laidKinds := [.data], laidTests := true, laidLooks := .later }
def AnatomyOrderUptoCardSaid : Prop := Claim7.holds Tryd.pinned (.plain (OpenSpec.upto anatomyOrderSpec)) anatomyOrderUptoCard

/-- THE SECOND FORM's CARD OF 'binnaclelaw01.AnatomyBack'. -/
def anatomyBackUptoCard : Claim7 := { stood := { row := anatomyBackUptoRow, standIns := [], harness := (true, "8c23f20682ef4d79697af29d57fab0f6548da7e04190012d1568b7f236ff709c"), looks := false }, kinds := [], alts := [], laidByText := true, laidKinds := [.data], laidTests := true, laidLooks := .later }
def AnatomyBackUptoCardSaid : Prop := Claim7.holds Tryd.pinned (.plain (OpenSpec.upto anatomyBackSpec)) anatomyBackUptoCard

/-- THE SECOND FORM's CARD OF 'binnaclelaw01.AnatomyNext'. -/
def anatomyNextUptoCard : Claim7 := { stood := { row := anatomyNextUptoRow, standIns := [], harness := (true, "8c23f20682ef4d79697af29d57fab0f6548da7e04190012d1568b7f236ff709c"), looks := false }, kinds := [], alts := [], laidByText := true, laidKinds := [.data], laidTests := true, laidLooks := .later }
def AnatomyNextUptoCardSaid : Prop := Claim7.holds Tryd.pinned (.plain (OpenSpec.upto anatomyNextSpec)) anatomyNextUptoCard

/-- THE SECOND FORM's CARD OF 'binnaclelaw01.AnatomyKeys'. -/
def anatomyKeysUptoCard : Claim7 := { stood := { row := anatomyKeysUptoRow, standIns := [], harness := (true, "8c23f20682ef4d79697af29d57fab0f6548da7e04190012d1568b7f236ff709c"), looks := false }, kinds := [], alts := [], laidByText := true, laidKinds := [.data], laidTests := true, laidLooks := .later }
def AnatomyKeysUptoCardSaid : Prop := Claim7.holds Tryd.pinned (.plain (OpenSpec.upto anatomyKeysSpec)) anatomyKeysUptoCard

/-- THE SECOND FORM's CARD OF 'binnaclelaw01.AnatomySteps'. -/
def anatomyStepsUptoCard : Claim7 := { stood := { row := anatomyStepsUptoRow, standIns := [], harness := (true, "8c23f20682ef4d79697af29d57fab0f6548da7e04190012d1568b7f236ff709c"), looks := false }, kinds := [], alts := [], laidByText := true, laidKinds := [.data], laidTests := true, laidLooks := .later }
def AnatomyStepsUptoCardSaid : Prop := Claim7.holds Tryd.pinned (.plain (OpenSpec.upto anatomyStepsSpec)) anatomyStepsUptoCard

/-- THE SECOND FORM's CARD OF 'binnaclelaw01.AnatomyNear'. -/
def anatomyNearUptoCard : Claim7 := { stood := { row := anatomyNearUptoRow, standIns := [], harness := (true, "8c23f20682ef4d79697af29d57fab0f6548da7e04190012d1568b7f236ff709c"), looks := false }, kinds := [], alts := [], laidByText := true, laidKinds := [.data], laidTests := true, laidLooks := .later }
def AnatomyNearUptoCardSaid : Prop := Claim7.holds Tryd.pinned (.plain (OpenSpec.upto anatomyNearSpec)) anatomyNearUptoCard
end Rows
end Go.Proofs.YthjaponkbodooaaDoor
