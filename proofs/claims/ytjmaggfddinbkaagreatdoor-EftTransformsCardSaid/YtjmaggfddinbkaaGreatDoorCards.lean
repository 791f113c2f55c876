/-
  DERIVED. GIVEN WITH THE SEED: THE CARDS: each row of YtjmaggfddinbkaaGreatDoorRows.lean that lists a variable, with what it lists TIED to the program's text (the seventh form; the later family's looks); each row that meets fmt, with fmt's text TOLD by the authors' own Lean function (tested against real Go, not proved from fmt's source: count such statements apart). THE CARD IS WHAT COUNTS. Prove the row's statement (the work); the ties are given (YtjmaggfddinbkaaGreatDoorTie.lean); close each card by the builder's one call (the guide's Derived/Test/ToyasCard.lean, 'card_holds'). Laid BY PROGRAM, IN A SANDBOX (cutbox-door.mjs). By AI agents, Wed Nov 11 2026. No macro, syntax, notation, axiom, sorry.
-/
import Derived.Test.YtjmaggfddinbkaaGreatDoorRows
import GoSem.ClaimSeven
namespace Go.Proofs.YtjmaggfddinbkaaGreatDoor
namespace Rows

/-- THE TIED CARD OF 'binnaclelaw04.EftExpansions'. -/
def eftExpansionsCard : Claim7 := { stood := { row := eftExpansionsRow, standIns := [], harness := (true, "2a703fd6c5a56997a239f3cdbfd7409dcd7b87b8bb7a25fedf2cd5d77f49b515"), looks := false }, kinds := [], alts := [], laidByText := true, laidKinds := [.data], laidTests := true, laidLooks := .later }
def EftExpansionsCardSaid : Prop := Claim7.holds Tryz.pinned (.plain (OpenSpec.ofChange eftExpansionsSpec)) eftExpansionsCard

/-- THE TIED CARD OF 'binnaclelaw04.EftSigns'. -/
def eftSignsCard : Claim7 := { stood := { row := eftSignsRow, standIns := [], harness := (true, "2a703fd6c5a56997a239f3cdbfd7409dcd7b87b8bb7a25fedf2cd5d77f49b515"), looks := false }, kinds := [], alts := [], laidByText := true, laidKinds := [.data], laidTests := true, laidLooks := .later }
def EftSignsCardSaid : Prop := Claim7.holds Tryz.pinned (.plain (OpenSpec.ofChange eftSignsSpec)) eftSignsCard

/-- THE TIED CARD OF 'binnaclelaw04.EftExact'. -/
def eftExactCard : Claim7 := { stood := { row := eftExactRow, standIns := [], harness := (true, "2a703fd6c5a56997a239f3cdbfd7409dcd7b87b8bb7a25fedf2cd5d77f49b515"), looks := false }, kinds := [], alts := [], laidByText := true, laidKinds := [.data], laidTests := true, laidLooks := .later }
def EftExactCardSaid : Prop := Claim7.holds Tryz.pinned (.plain (OpenSpec.ofChange eftExactSpec)) eftExactCard

/-- THE TIED CARD OF 'binnaclelaw04.EftScales'. -/
def eftScalesCard : Claim7 := { stood := { row := eftScalesRow, standIns := [], harness := (true, "2a703fd6c5a56997a239f3cdbfd7409dcd7b87b8bb7a25fedf2cd5d77f49b515"), looks := false }, kinds := [], alts := [], laidByText := true, laidKinds := [.data], laidTests := true, laidLooks := .later }
def EftScalesCardSaid : Prop := Claim7.holds Tryz.pinned (.plain (OpenSpec.ofChange eftScalesSpec)) eftScalesCard

/-- THE TIED CARD OF 'binnaclelaw04.EftSplits'. -/
def eftSplitsCard : Claim7 := { stood := { row := eftSplitsRow, standIns := [], harness := (true, "2a703fd6c5a56997a239f3cdbfd7409dcd7b87b8bb7a25fedf2cd5d77f49b515"), looks := false }, kinds := [], alts := [], laidByText := true, laidKinds := [.data, .data], laidTests := true, laidLooks := .later }
def EftSplitsCardSaid : Prop := Claim7.holds Tryz.pinned (.plain (OpenSpec.ofChange eftSplitsSpec)) eftSplitsCard

/-- THE TIED CARD OF 'binnaclelaw04.EftKeeps'. -/
def eftKeepsCard : Claim7 := { stood := { row := eftKeepsRow, standIns := [], harness := (true, "2a703fd6c5a56997a239f3cdbfd7409dcd7b87b8bb7a25fedf2cd5d77f49b515"), looks := false }, kinds := [], alts := [], laidByText := true, laidKinds := [.data], laidTests := true, laidLooks := .later }
def EftKeepsCardSaid : Prop := Claim7.holds Tryz.pinned (.plain (OpenSpec.ofChange eftKeepsSpec)) eftKeepsCard

/-- THE TIED CARD OF 'binnaclelaw04.EftGreatest'. -/
def eftGreatestCard : Claim7 := { stood := { row := eftGreatestRow, standIns := [], harness := (true, "2a703fd6c5a56997a239f3cdbfd7409dcd7b87b8bb7a25fedf2cd5d77f49b515"), looks := false }, kinds := [], alts := [], laidByText := true, laidKinds := [.data], laidTests := true, laidLooks := .later }
def EftGreatestCardSaid : Prop := Claim7.holds Tryz.pinned (.plain (OpenSpec.ofChange eftGreatestSpec)) eftGreatestCard

/-- THE TIED CARD OF 'binnaclelaw04.EftTransforms'. -/
def eftTransformsCard : Claim7 := { stood := { row := eftTransformsRow, standIns := [], harness := (true, "2a703fd6c5a56997a239f3cdbfd7409dcd7b87b8bb7a25fedf2cd5d77f49b515"), looks := false }, kinds := [], alts := [], laidByText := true, laidKinds := [.data, .data], laidTests := true, laidLooks := .later }
def EftTransformsCardSaid : Prop := Claim7.holds Tryz.pinned (.plain (OpenSpec.ofChange eftTransformsSpec)) eftTransformsCard

/-- THE TIED CARD OF 'binnaclelaw04.EftProducts'. -/
def eftProductsCard : Claim7 := { stood := { row := eftProductsRow, standIns := [], harness := (true, "2a703fd6c5a56997a239f3cdbfd7409dcd7b87b8bb7a25fedf2cd5d77f49b515"), looks := false }, kinds := [], alts := [], laidByText := true, laidKinds := [.data, .data], laidTests := true, laidLooks := .later }
def EftProductsCardSaid : Prop := Claim7.holds Tryz.pinned (.plain (OpenSpec.ofChange eftProductsSpec)) eftProductsCard

/-- THE SECOND FORM's CARD OF 'binnaclelaw04.EftExpansions'. -/
def eftExpansionsUptoCard : Claim7 := { stood := { row := eftExpansionsUptoRow, standIns := [], harness := (true, "2a703fd6c5a56997a239f3cdbfd7409dcd7b87b8bb7a25fedf2cd5d77f49b515"), looks := false }, kinds := [], alts := [], laidByText := true, laidKinds := [.data], laidTests := true, laidLooks := .later }
def EftExpansionsUptoCardSaid : Prop := Claim7.holds Tryz.pinned (.plain (OpenSpec.upto eftExpansionsSpec)) eftExpansionsUptoCard

/-- THE SECOND FORM's CARD OF 'binnaclelaw04.EftSigns'. -/
def eftSignsUptoCard : Claim7 := { stood := { row := eftSignsUptoRow, standIns := [], harness := (true, "2a703fd6c5a56997a239f3cdbfd7409dcd7b87b8bb7a25fedf2cd5d77f49b515"), looks := false }, kinds := [], alts := [], laidByText := true, laidKinds := [.data], laidTests := true, laidLooks := .later }
def EftSignsUptoCardSaid : Prop := Claim7.holds Tryz.pinned (.plain (OpenSpec.upto eftSignsSpec)) eftSignsUptoCard

/-- THE SECOND FORM's CARD OF 'binnaclelaw04.EftExact'. -/
def eftExactUptoCard : Claim7 := { stood := { row := eftExactUptoRow, standIns := [], harness := (true, "2a703fd6c5a56997a239f3cdbfd7409dcd7b87b8bb7a25fedf2cd5d77f49b515"), looks := false }, kinds := [], alts := [], laidByText := true, laidKinds := [.data], laidTests := true, laidLooks := .later }
def EftExactUptoCardSaid : Prop := Claim7.holds Tryz.pinned (.plain (OpenSpec.upto eftExactSpec)) eftExactUptoCard

/-- THE SECOND FORM's CARD OF 'binnaclelaw04.EftScales'. -/
def eftScalesUptoCard : Claim7 := { stood := { row := eftScalesUptoRow, standIns := [], harness := (true, "2a703fd6c5a56997a239f3cdbfd7409dcd7b87b8bb7a25fedf2cd5d77f49b515"), looks := false }, kinds := [], alts := [], laidByText := true, laidKinds := [.data], laidTests := true, laidLooks := .later }
def EftScalesUptoCardSaid : Prop := Claim7.holds Tryz.pinned (.plain (OpenSpec.upto eftScalesSpec)) eftScalesUptoCard

/-- THE SECOND FORM's CARD OF 'binnaclelaw04.EftSplits'. -/
def eftSplitsUptoCard : Claim7 := { stood := { row := eftSplitsUptoRow, standIns := [], harness := (true, "2a703fd6c5a56997a239f3cdbfd7409dcd7b87b8bb7a25fedf2cd5d77f49b515"), looks := false }, kinds := [], alts := [], laidByText := true, laidKinds := [.data, .data], laidTests := true, laidLooks := .later }
def EftSplitsUptoCardSaid : Prop := Claim7.holds Tryz.pinned (.plain (OpenSpec.upto eftSplitsSpec)) eftSplitsUptoCard

/-- THE SECOND FORM's CARD OF 'binnaclelaw04.EftKeeps'. -/
def eftKeepsUptoCard : Claim7 := { stood := { row := eftKeepsUptoRow, standIns := [], harness := (true, "2a703fd6c5a56997a239f3cdbfd7409dcd7b87b8bb7a25fedf2cd5d77f49b515"), looks := false }, kinds := [], alts := [], laidByText := true, laidKinds := [.data], laidTests := true, laidLooks := .later }
def EftKeepsUptoCardSaid : Prop := Claim7.holds Tryz.pinned (.plain (OpenSpec.upto eftKeepsSpec)) eftKeepsUptoCard

/-- THE SECOND FORM's CARD OF 'binnaclelaw04.EftGreatest'. -/
def eftGreatestUptoCard : Claim7 := { stood := { row := eftGreatestUptoRow, standIns := [], harness := (true, "2a703fd6c5a56997a239f3cdbfd7409dcd7b87b8bb7a25fedf2cd5d77f49b515"), looks := false }, kinds := [], alts := [], laidByText := true, laidKinds := [.data], laidTests := true, laidLooks := .later }
def EftGreatestUptoCardSaid : Prop := Claim7.holds Tryz.pinned (.plain (OpenSpec.upto eftGreatestSpec)) eftGreatestUptoCard

/-- THE SECOND FORM's CARD OF 'binnaclelaw04.EftTransforms'. -/
def eftTransformsUptoCard : Claim7 := { stood := { row := eftTransformsUptoRow, standIns := [], harness := (true, "2a703fd6c5a56997a239f3cdbfd7409dcd7b87b8bb7a25fedf2cd5d77f49b515"), looks := false }, kinds := [], alts := [], laidByText := true, laidKinds := [.data, .data], laidTests := true, laidLooks := .later }
def EftTransformsUptoCardSaid : Prop := Claim7.holds Tryz.pinned (.plain (OpenSpec.upto eftTransformsSpec)) eftTransformsUptoCard

/-- THE SECOND FORM's CARD OF 'binnaclelaw04.EftProducts'. -/
def eftProductsUptoCard : Claim7 := { stood := { row := eftProductsUptoRow, standIns := [], harness := (true, "2a703fd6c5a56997a239f3cdbfd7409dcd7b87b8bb7a25fedf2cd5d77f49b515"), looks := false }, kinds := [], alts := [], laidByText := true, laidKinds := [.data, .data], laidTests := true, laidLooks := .later }
def EftProductsUptoCardSaid : Prop := Claim7.holds Tryz.pinned (.plain (OpenSpec.upto eftProductsSpec)) eftProductsUptoCard
end Rows
end Go.Proofs.YtjmaggfddinbkaaGreatDoor
