/-
  DERIVED. GIVEN WITH THE SEED: THE CARDS: each row of YtmpcnhiklpahnaaDoorRows.lean that lists a variable, with what it lists TIED to the program's text (the seventh form; the later family's looks); each row that meets fmt, with fmt's text TOLD by the authors' own Lean function (tested against real Go, not proved from fmt's source: count such statements apart). THE CARD IS WHAT COUNTS. Prove the row's statement (the work); the ties are given (YtmpcnhiklpahnaaDoorTie.lean); close each card by the builder's one call (the guide's Derived/Test/ToyasCard.lean, 'card_holds'). Laid BY PROGRAM, IN A SANDBOX (cutbox-door.mjs). By AI agents, Wed Nov 11 2026. No macro, syntax, notation, axiom, sorry.
-/
import Derived.Test.YtmpcnhiklpahnaaDoorRows
import GoSem.ClaimSeven
namespace Go.Proofs.YtmpcnhiklpahnaaDoor
namespace Rows

/-- THE TIED CARD OF 'binnaclelaw21.PacketPacks'. -/
def packetPacksCard : Claim7 := { stood := { row := packetPacksRow, standIns := [], harness := (true, "180e63eacff7c74ed8f2ff958a28c0885c021b2ace41d46d274b3e71f9db55fb"), looks := false }, kinds := [], alts := [], laidByText := true, laidKinds := [.data], laidTests := true, laidLooks := .later }
def PacketPacksCardSaid : Prop := Claim7.holds Tryd.pinned (.plain (OpenSpec.ofChange packetPacksSpec)) packetPacksCard

/-- THE TIED CARD OF 'binnaclelaw21.PacketUnpacks'. -/
def packetUnpacksCard : Claim7 := { stood := { row := packetUnpacksRow, standIns := [], harness := (true, "180e63eacff7c74ed8f2ff958a28c0885c021b2ace41d46d274b3e71f9db55fb"), looks := false }, kinds := [], alts := [], laidByText := true, laidKinds := [.data], laidTests := true, laidLooks := .later }
def PacketUnpacksCardSaid : Prop := Claim7.holds Tryd.pinned (.plain (OpenSpec.ofChange packetUnpacksSpec)) packetUnpacksCard

/-- THE TIED CARD OF 'binnaclelaw21.PacketBack'. -/
def packetBackCard : Claim7 := { stood := { row := packetBackRow, standIns := [], harness := (true, "180e63eacff7c74ed8f2ff958a28c0885c021b2ace41d46d274b3e71f9db55fb"), looks := false }, kinds := [], alts := [], laidByText := true, laidKinds := [.data], laidTests := true, laidLooks := .later }
def PacketBackCardSaid : Prop := Claim7.holds Tryd.pinned (.plain (OpenSpec.ofChange packetBackSpec)) packetBackCard

/-- THE TIED CARD OF 'binnaclelaw21.PacketSpoilt'. -/
def packetSpoiltCard : Claim7 := { stood := { row := packetSpoiltRow, standIns := [], harness := (true, "180e63eacff7c74ed8f2ff958a28c0885c021b2ace41d46d274b3e71f9db55fb"), looks := false }, kinds := [], alts := [], laidByText := true, laidKinds := [.data], laidTests := true, laidLooks := .later }
def PacketSpoiltCardSaid : Prop := Claim7.holds Tryd.pinned (.plain (OpenSpec.ofChange packetSpoiltSpec)) packetSpoiltCard

/-- THE TIED CARD OF 'binnaclelaw21.PacketKeeps'. -/
def packetKeepsCard : Claim7 := { stood := { row := packetKeepsRow, standIns := [], harness := (true, "180e63eacff7c74ed8f2ff958a28c0885c021b2ace41d46d274b3e71f9db55fb"), looks := false }, kinds := [], alts := [], laidByText := true, laidKinds := [.data], laidTests := true, laidLooks := .later }
def PacketKeepsCardSaid : Prop := Claim7.holds Tryd.pinned (.plain (OpenSpec.ofChange packetKeepsSpec)) packetKeepsCard

/-- THE TIED CARD OF 'binnaclelaw21.PacketChunks'. -/
def packetChunksCard : Claim7 := { stood := { row := packetChunksRow, standIns := [], harness := (true, "180e63eacff7c74ed8f2ff958a28c0885c021b2ace41d46d274b3e71f9db55fb"), looks := false }, kinds := [], alts := [], laidByText := true, laidKinds := [.data], laidTests := true, laidLooks := .later }
def PacketChunksCardSaid : Prop := Claim7.holds Tryd.pinned (.plain (OpenSpec.ofChange packetChunksSpec)) packetChunksCard

/-- THE TIED CARD OF 'binnaclelaw21.PacketFinds'. -/
def packetFindsCard : Claim7 := { stood := { row := packetFindsRow, standIns := [], harness := (true, "180e63eacff7c74ed8f2ff958a28c0885c021b2ace41d46d274b3e71f9db55fb"), looks := false }, kinds := [], alts := [], laidByText := true, laidKinds := [.data], laidTests := true, laidLooks := .later }
def PacketFindsCardSaid : Prop := Claim7.holds Tryd.pinned (.plain (OpenSpec.ofChange packetFindsSpec)) packetFindsCard

/-- THE TIED CARD OF 'binnaclelaw21.PacketReads'. -/
def packetReadsCard : Claim7 := { stood := { row := packetReadsRow, standIns := [], harness := (true, "180e63eacff7c74ed8f2ff958a28c0885c021b2ace41d46d274b3e71f9db55fb"), looks := false }, kinds := [], alts := [], laidByText := true, laidKinds := [.data], laidTests := true, laidLooks := .later }
def PacketReadsCardSaid : Prop := Claim7.holds Tryd.pinned (.plain (OpenSpec.ofChange packetReadsSpec)) packetReadsCard

/-- THE SECOND FORM's CARD OF 'binnaclelaw21.PacketPacks'. -/
def packetPacksUptoCard : Claim7 := { stood := { row := packetPacksUptoRow, standIns := [], harness := (true, "180e63eacff7c74ed8f2ff958a28c0885c021b2ace41d46d274b3e71f9db55fb"), looks := false }, kinds := [], alts := [], laidByText := true, laidKinds := [.data], laidTests := true, laidLooks := .later }
def PacketPacksUptoCardSaid : Prop := Claim7.holds Tryd.pinned (.plain (OpenSpec.upto packetPacksSpec)) packetPacksUptoCard

/-- THE SECOND FORM's CARD OF 'binnaclelaw21.PacketUnpacks'. -/
def packetUnpacksUptoCard : Claim7 := { stood := { row := packetUnpacksUptoRow, standIns := [], harness := (true, "180e63eacff7c74ed8f2ff958a28c0885c021b2ace41d46d274b3e71f9db55fb"), looks := false }, kinds := [], alts := [], laidByText := true, laidKinds := [.data], laidTests := true, laidLooks := .later }
def PacketUnpacksUptoCardSaid : Prop := Claim7.holds Tryd.pinned (.plain (OpenSpec.upto packetUnpacksSpec)) packetUnpacksUptoCard

/-- THE SECOND FORM's CARD OF 'binnaclelaw21.PacketBack'. -/
def packetBackUptoCard : Claim7 := { stood := { row := packetBackUptoRow, standIns := [], harness := (true, "180e63eacff7c74ed8f2ff958a28c0885c021b2ace41d46d274b3e71f9db55fb"), looks := false }, kinds := [], alts := [], laidByText := true, laidKinds := [.data], laidTests := true, laidLooks := .later }
def PacketBackUptoCardSaid : Prop := Claim7.holds Tryd.pinned (.plain (OpenSpec.upto packetBackSpec)) packetBackUptoCard

/-- THE SECOND FORM's CARD OF 'binnaclelaw21.PacketSpoilt'. -/
def packetSpoiltUptoCard : Claim7 := { stood := { row := packetSpoiltUptoRow, standIns := [], harness := (true, "180e63eacff7c74ed8f2ff958a28c0885c021b2ace41d46d274b3e71f9db55fb"), looks := false }, kinds := [], alts := [], laidByText := true, laidKinds := [.data], laidTests := true, laidLooks := .later }
def PacketSpoiltUptoCardSaid : Prop := Claim7.holds Tryd.pinned (.plain (OpenSpec.upto packetSpoiltSpec)) packetSpoiltUptoCard

/-- THE SECOND FORM's CARD OF 'binnaclelaw21.PacketKeeps'. -/
def packetKeepsUptoCard : Claim7 := { stood := { row := packetKeepsUptoRow, standIns := [], harness := (true, "180e63eacff7c74ed8f2ff958a28c0885c021b2ace41d46d274b3e71f9db55fb"), looks := false }, kinds := [], alts := [], laidByText := true, laidKinds := [.data], laidTests := true, laidLooks := .later }
def PacketKeepsUptoCardSaid : Prop := Claim7.holds Tryd.pinned (.plain (OpenSpec.upto packetKeepsSpec)) packetKeepsUptoCard

/-- THE SECOND FORM's CARD OF 'binnaclelaw21.PacketChunks'. -/
def packetChunksUptoCard : Claim7 := { stood := { row := packetChunksUptoRow, standIns := [], harness := (true, "180e63eacff7c74ed8f2ff958a28c0885c021b2ace41d46d274b3e71f9db55fb"), looks := false }, kinds := [], alts := [], laidByText := true, laidKinds := [.data], laidTests := true, laidLooks := .later }
def PacketChunksUptoCardSaid : Prop := Claim7.holds Tryd.pinned (.plain (OpenSpec.upto packetChunksSpec)) packetChunksUptoCard

/-- THE SECOND FORM's CARD OF 'binnaclelaw21.PacketFinds'. -/
def packetFindsUptoCard : Claim7 := { stood := { row := packetFindsUptoRow, standIns := [], harness := (true, "180e63eacff7c74ed8f2ff958a28c0885c021b2ace41d46d274b3e71f9db55fb"), looks := false }, kinds := [], alts := [], laidByText := true, laidKinds := [.data], laidTests := true, laidLooks := .later }
def PacketFindsUptoCardSaid : Prop := Claim7.holds Tryd.pinned (.plain (OpenSpec.upto packetFindsSpec)) packetFindsUptoCard

/-- THE SECOND FORM's CARD OF 'binnaclelaw21.PacketReads'. -/
def packetReadsUptoCard : Claim7 := { stood := { row := packetReadsUptoRow, standIns := [], harness := (true, "180e63eacff7c74ed8f2ff958a28c0885c021b2ace41d46d274b3e71f9db55fb"), looks := false }, kinds := [], alts := [], laidByText := true, laidKinds := [.data], laidTests := true, laidLooks := .later }
def PacketReadsUptoCardSaid : Prop := Claim7.holds Tryd.pinned (.plain (OpenSpec.upto packetReadsSpec)) packetReadsUptoCard
end Rows
end Go.Proofs.YtmpcnhiklpahnaaDoor
