/-
  DERIVED. GIVEN WITH THE SEED: THE CARDS: each row of YtfoljmpphbhobaaGreatDoorRows.lean that lists a variable, with what it lists TIED to the program's text (the seventh form; the later family's looks); each row that meets fmt, with fmt's text TOLD by the authors' own Lean function (tested against real Go, not proved from fmt's source: count such statements apart). THE CARD IS WHAT COUNTS. Prove the row's statement (the work); the ties are given (YtfoljmpphbhobaaGreatDoorTie.lean); close each card by the builder's one call (the guide's Derived/Test/ToyasCard.lean, 'card_holds'). Laid BY PROGRAM, IN A SANDBOX (cutbox-door.mjs). By AI agents, Wed Nov 11 2026. No macro, syntax, notation, axiom, sorry.
-/
import Derived.Test.YtfoljmpphbhobaaGreatDoorRows
import GoSem.ClaimSeven
namespace Go.Proofs.YtfoljmpphbhobaaGreatDoor
namespace Rows

/-- THE TIED CARD OF 'speakeasylaw12.PacketWrites'. -/
def packetWritesCard : Claim7 := { stood := { row := packetWritesRow, standIns := [], harness := (true, "98006ec943ef5d74a914d6ad645067983d00065cc80534c055653ace52e0b8b1"), looks := true }, kinds := [], alts := [], laidByText := true, laidKinds := [.widerDeep, .data, .sentinel, .sentinel, .sentinel, .sentinel, .sentinel, .sentinel, .sentinel, .sentinel, .sentinel, .sentinel, .sentinel, .sentinel, .sentinel, .sentinel, .sentinel, .sentinel, .sentinel, .sentinel, .sentinel, .sentinel], laidTests := true, laidLooks := .later }
def PacketWritesCardSaid : Prop := Claim7.holds Tryz.pinned (.plain (OpenSpec.ofChange packetWritesSpec)) packetWritesCard

/-- THE TIED CARD OF 'speakeasylaw12.PacketTurned'. -/
def packetTurnedCard : Claim7 := { stood := { row := packetTurnedRow, standIns := [], harness := (true, "98006ec943ef5d74a914d6ad645067983d00065cc80534c055653ace52e0b8b1"), looks := true }, kinds := [], alts := [], laidByText := true, laidKinds := [.widerDeep, .data, .sentinel, .sentinel, .sentinel, .sentinel, .sentinel, .sentinel, .sentinel, .sentinel, .sentinel, .sentinel, .sentinel, .sentinel, .sentinel, .sentinel, .sentinel, .sentinel, .sentinel, .sentinel, .sentinel, .sentinel], laidTests := true, laidLooks := .later }
def PacketTurnedCardSaid : Prop := Claim7.holds Tryz.pinned (.plain (OpenSpec.ofChange packetTurnedSpec)) packetTurnedCard

/-- THE TIED CARD OF 'speakeasylaw12.PacketOrder'. -/
def packetOrderCard : Claim7 := { stood := { row := packetOrderRow, standIns := [], harness := (true, "98006ec943ef5d74a914d6ad645067983d00065cc80534c055653ace52e0b8b1"), looks := true }, kinds := [], alts := [], laidByText := true, laidKinds := [.widerDeep, .data, .sentinel, .sentinel, .sentinel, .sentinel, .sentinel, .sentinel, .sentinel, .sentinel, .sentinel, .sentinel, .sentinel, .sentinel, .sentinel, .sentinel, .sentinel, .sentinel, .sentinel, .sentinel, .sentinel, .sentinel], laidTests := true, laidLooks := .later }
def PacketOrderCardSaid : Prop := Claim7.holds Tryz.pinned (.plain (OpenSpec.ofChange packetOrderSpec)) packetOrderCard

/-- THE TIED CARD OF 'speakeasylaw12.PacketReads'. -/
def packetReadsCard : Claim7 := { stood := { row := packetReadsRow, standIns := [], harness := (true, "98006ec943ef5d74a914d6ad645067983d00065cc80534c055653ace52e0b8b1"), looks := true }, kinds := [], alts := [], laidByText := true, laidKinds := [.widerDeep, .data, .handle, .sentinel, .sentinel, .sentinel, .sentinel, .sentinel, .sentinel, .sentinel, .sentinel, .sentinel, .sentinel, .sentinel, .sentinel, .sentinel, .sentinel, .sentinel, .sentinel, .sentinel, .sentinel, .sentinel, .sentinel], laidTests := true, laidLooks := .later }
def PacketReadsCardSaid : Prop := Claim7.holds Tryz.pinned (.plain (OpenSpec.ofChange packetReadsSpec)) packetReadsCard

/-- THE SECOND FORM's CARD OF 'speakeasylaw12.PacketWrites'. -/
def packetWritesUptoCard : Claim7 := { stood := { row := packetWritesUptoRow, standIns := [], harness := (true, "98006ec943ef5d74a914d6ad645067983d00065cc80534c055653ace52e0b8b1"), looks := true }, kinds := [], alts := [], laidByText := true, laidKinds := [.widerDeep, .data, .sentinel, .sentinel, .sentinel, .sentinel, .sentinel, .sentinel, .sentinel, .sentinel, .sentinel, .sentinel, .sentinel, .sentinel, .sentinel, .sentinel, .sentinel, .sentinel, .sentinel, .sentinel, .sentinel, .sentinel], laidTests := true, laidLooks := .later }
def PacketWritesUptoCardSaid : Prop := Claim7.holds Tryz.pinned (.plain (OpenSpec.upto packetWritesSpec)) packetWritesUptoCard

/-- THE SECOND FORM's CARD OF 'speakeasylaw12.PacketTurned'. -/
def packetTurnedUptoCard : Claim7 := { stood := { row := packetTurnedUptoRow, standIns := [], harness := (true, "98006ec943ef5d74a914d6ad645067983d00065cc80534c055653ace52e0b8b1"), looks := true }, kinds := [], alts := [], laidByText := true, laidKinds := [.widerDeep, .data, .sentinel, .sentinel, .sentinel, .sentinel, .sentinel, .sentinel, .sentinel, .sentinel, .sentinel, .sentinel, .sentinel, .sentinel, .sentinel, .sentinel, .sentinel, .sentinel, .sentinel, .sentinel, .sentinel, .sentinel], laidTests := true, laidLooks := .later }
def PacketTurnedUptoCardSaid : Prop := Claim7.holds Tryz.pinned (.plain (OpenSpec.upto packetTurnedSpec)) packetTurnedUptoCard

/-- THE SECOND FORM's CARD OF 'speakeasylaw12.PacketOrder'. -/
def packetOrderUptoCard : Claim7 := { stood := { row := packetOrderUptoRow, standIns := [], harness := (true, "98006ec943ef5d74a914d6ad645067983d00065cc80534c055653ace52e0b8b1"), looks := true }, kinds := [], alts := [], laidByText := true, laidKinds := [.widerDeep, .data, .sentinel, .sentinel, .sentinel, .sentinel, .sentinel, .sentinel, .sentinel, .sentinel, .sentinel, .sentinel, .sentinel, .sentinel, .sentinel, .sentinel, .sentinel, .sentinel, .sentinel, .sentinel, .sentinel, .sentinel], laidTests := true, laidLooks := .later }
def PacketOrderUptoCardSaid : Prop := Claim7.holds Tryz.pinned (.plain (OpenSpec.upto packetOrderSpec)) packetOrderUptoCard

/-- THE SECOND FORM's CARD OF 'speakeasylaw12.PacketReads'. -/
def packetReadsUptoCard : Claim7 := { stood := { row := packetReadsUptoRow, standIns := [], harness := (true, "98006ec943ef5d74a914d6ad645067983d00065cc80534c055653ace52e0b8b1"), looks := true }, kinds := [], alts := [], laidByText := true, laidKinds := [.widerDeep, .data, .handle, .sentinel, .sentinel, .sentinel, .sentinel, .sentinel, .sentinel, .sentinel, .sentinel, .sentinel, .sentinel, .sentinel, .sentinel, .sentinel, .sentinel, .sentinel, .sentinel, .sentinel, .sentinel, .sentinel, .sentinel], laidTests := true, laidLooks := .later }
def PacketReadsUptoCardSaid : Prop := Claim7.holds Tryz.pinned (.plain (OpenSpec.upto packetReadsSpec)) packetReadsUptoCard
end Rows
end Go.Proofs.YtfoljmpphbhobaaGreatDoor
