/-
  DERIVED. GIVEN WITH THE SEED: THE CARDS: each row of YtfoljmpphbhobaaDoorRows.lean that lists a variable, with what it lists TIED to the program's text (the seventh form; the later family's looks); each row that meets fmt, with fmt's text TOLD by the authors' own Lean function (tested against real Go, not proved from fmt's source: count such statements apart). THE CARD IS WHAT COUNTS. Prove the row's statement (the work); the ties are given (YtfoljmpphbhobaaDoorTie.lean); close each card by the builder's one call (the guide's Derived/Test/ToyasCard.lean, 'card_holds'). Laid BY PROGRAM, IN A SANDBOX (cutbox-door.mjs). By AI agents, Wed Nov 11 2026. No macro, syntax, notation, axiom, sorry.
-/
import Derived.Test.YtfoljmpphbhobaaDoorRows
import GoSem.ClaimSeven
namespace Go.Proofs.YtfoljmpphbhobaaDoor
namespace Rows

/-- THE TIED CARD OF 'speakeasylaw03.ChachaBlocks'. -/
def chachaBlocksCard : Claim7 := { stood := { row := chachaBlocksRow, standIns := [], harness := (true, "dd2e311891c808ff0df6c50fd5662548779429bdeead3ce19c64d818b3da1a61"), looks := true }, kinds := [], alts := [], laidByText := true, laidKinds := [.widerDeep, .data], laidTests := true, laidLooks := .later }
def ChachaBlocksCardSaid : Prop := Claim7.holds Tryd.pinned (.plain (OpenSpec.ofChange chachaBlocksSpec)) chachaBlocksCard

/-- THE TIED CARD OF 'speakeasylaw03.ChachaXors'. -/
def chachaXorsCard : Claim7 := { stood := { row := chachaXorsRow, standIns := [], harness := (true, "dd2e311891c808ff0df6c50fd5662548779429bdeead3ce19c64d818b3da1a61"), looks := true }, kinds := [], alts := [], laidByText := true, laidKinds := [.widerDeep, .data], laidTests := true, laidLooks := .later }
def ChachaXorsCardSaid : Prop := Claim7.holds Tryd.pinned (.plain (OpenSpec.ofChange chachaXorsSpec)) chachaXorsCard

/-- THE TIED CARD OF 'speakeasylaw03.ChachaParts'. -/
def chachaPartsCard : Claim7 := { stood := { row := chachaPartsRow, standIns := [], harness := (true, "dd2e311891c808ff0df6c50fd5662548779429bdeead3ce19c64d818b3da1a61"), looks := true }, kinds := [], alts := [], laidByText := true, laidKinds := [.widerDeep, .data], laidTests := true, laidLooks := .later }
def ChachaPartsCardSaid : Prop := Claim7.holds Tryd.pinned (.plain (OpenSpec.ofChange chachaPartsSpec)) chachaPartsCard

/-- THE TIED CARD OF 'speakeasylaw04.PolySums'. -/
def polySumsCard : Claim7 := { stood := { row := polySumsRow, standIns := [], harness := (true, "dd2e311891c808ff0df6c50fd5662548779429bdeead3ce19c64d818b3da1a61"), looks := true }, kinds := [], alts := [], laidByText := true, laidKinds := [.widerDeep, .data, .sentinel, .sentinel], laidTests := true, laidLooks := .later }
def PolySumsCardSaid : Prop := Claim7.holds Tryd.pinned (.plain (OpenSpec.ofChange polySumsSpec)) polySumsCard

/-- THE TIED CARD OF 'speakeasylaw04.PolyEdges'. -/
def polyEdgesCard : Claim7 := { stood := { row := polyEdgesRow, standIns := [], harness := (true, "dd2e311891c808ff0df6c50fd5662548779429bdeead3ce19c64d818b3da1a61"), looks := true }, kinds := [], alts := [], laidByText := true, laidKinds := [.widerDeep, .data, .sentinel, .sentinel], laidTests := true, laidLooks := .later }
def PolyEdgesCardSaid : Prop := Claim7.holds Tryd.pinned (.plain (OpenSpec.ofChange polyEdgesSpec)) polyEdgesCard

/-- THE TIED CARD OF 'speakeasylaw04.PolySeals'. -/
def polySealsCard : Claim7 := { stood := { row := polySealsRow, standIns := [], harness := (true, "dd2e311891c808ff0df6c50fd5662548779429bdeead3ce19c64d818b3da1a61"), looks := true }, kinds := [], alts := [], laidByText := true, laidKinds := [.widerDeep, .data, .sentinel, .sentinel], laidTests := true, laidLooks := .later }
def PolySealsCardSaid : Prop := Claim7.holds Tryd.pinned (.plain (OpenSpec.ofChange polySealsSpec)) polySealsCard

/-- THE TIED CARD OF 'speakeasylaw04.PolyOpens'. -/
def polyOpensCard : Claim7 := { stood := { row := polyOpensRow, standIns := [], harness := (true, "dd2e311891c808ff0df6c50fd5662548779429bdeead3ce19c64d818b3da1a61"), looks := true }, kinds := [], alts := [], laidByText := true, laidKinds := [.widerDeep, .data, .sentinel, .sentinel, .sentinel, .sentinel, .sentinel, .sentinel, .sentinel, .sentinel, .sentinel, .sentinel, .sentinel, .sentinel, .sentinel, .sentinel, .sentinel, .sentinel, .sentinel, .sentinel, .sentinel, .sentinel], laidTests := true, laidLooks := .later }
def PolyOpensCardSaid : Prop := Claim7.holds Tryd.pinned (.plain (OpenSpec.ofChange polyOpensSpec)) polyOpensCard

/-- THE TIED CARD OF 'speakeasylaw04.PolyTurned'. -/
def polyTurnedCard : Claim7 := { stood := { row := polyTurnedRow, standIns := [], harness := (true, "dd2e311891c808ff0df6c50fd5662548779429bdeead3ce19c64d818b3da1a61"), looks := true }, kinds := [], alts := [], laidByText := true, laidKinds := [.widerDeep, .data, .sentinel, .sentinel, .sentinel, .sentinel, .sentinel, .sentinel, .sentinel, .sentinel, .sentinel, .sentinel, .sentinel, .sentinel, .sentinel, .sentinel, .sentinel, .sentinel, .sentinel, .sentinel, .sentinel, .sentinel], laidTests := true, laidLooks := .later }
def PolyTurnedCardSaid : Prop := Claim7.holds Tryd.pinned (.plain (OpenSpec.ofChange polyTurnedSpec)) polyTurnedCard

/-- THE TIED CARD OF 'speakeasylaw12.PacketParts'. -/
def packetPartsCard : Claim7 := { stood := { row := packetPartsRow, standIns := [], harness := (true, "dd2e311891c808ff0df6c50fd5662548779429bdeead3ce19c64d818b3da1a61"), looks := true }, kinds := [], alts := [], laidByText := true, laidKinds := [.widerDeep, .data, .sentinel, .sentinel, .sentinel, .sentinel], laidTests := true, laidLooks := .later }
def PacketPartsCardSaid : Prop := Claim7.holds Tryd.pinned (.plain (OpenSpec.ofChange packetPartsSpec)) packetPartsCard

/-- THE TIED CARD OF 'speakeasylaw12.PacketLong'. -/
def packetLongCard : Claim7 := { stood := { row := packetLongRow, standIns := [], harness := (true, "dd2e311891c808ff0df6c50fd5662548779429bdeead3ce19c64d818b3da1a61"), looks := true }, kinds := [], alts := [], laidByText := true, laidKinds := [.widerDeep, .data, .sentinel, .sentinel, .sentinel, .sentinel, .sentinel, .sentinel, .sentinel, .sentinel, .sentinel, .sentinel, .sentinel, .sentinel, .sentinel, .sentinel, .sentinel, .sentinel, .sentinel, .sentinel, .sentinel, .sentinel], laidTests := true, laidLooks := .later }
def PacketLongCardSaid : Prop := Claim7.holds Tryd.pinned (.plain (OpenSpec.ofChange packetLongSpec)) packetLongCard

/-- THE SECOND FORM's CARD OF 'speakeasylaw03.ChachaBlocks'. -/
def chachaBlocksUptoCard : Claim7 := { stood := { row := chachaBlocksUptoRow, standIns := [], harness := (true, "dd2e311891c808ff0df6c50fd5662548779429bdeead3ce19c64d818b3da1a61"), looks := true }, kinds := [], alts := [], laidByText := true, laidKinds := [.widerDeep, .data], laidTests := true, laidLooks := .later }
def ChachaBlocksUptoCardSaid : Prop := Claim7.holds Tryd.pinned (.plain (OpenSpec.upto chachaBlocksSpec)) chachaBlocksUptoCard

/-- THE SECOND FORM's CARD OF 'speakeasylaw03.ChachaXors'. -/
def chachaXorsUptoCard : Claim7 := { stood := { row := chachaXorsUptoRow, standIns := [], harness := (true, "dd2e311891c808ff0df6c50fd5662548779429bdeead3ce19c64d818b3da1a61"), looks := true }, kinds := [], alts := [], laidByText := true, laidKinds := [.widerDeep, .data], laidTests := true, laidLooks := .later }
def ChachaXorsUptoCardSaid : Prop := Claim7.holds Tryd.pinned (.plain (OpenSpec.upto chachaXorsSpec)) chachaXorsUptoCard

/-- THE SECOND FORM's CARD OF 'speakeasylaw03.ChachaParts'. -/
def chachaPartsUptoCard : Claim7 := { stood := { row := chachaPartsUptoRow, standIns := [], harness := (true, "dd2e311891c808ff0df6c50fd5662548779429bdeead3ce19c64d818b3da1a61"), looks := true }, kinds := [], alts := [], laidByText := true, laidKinds := [.widerDeep, .data], laidTests := true, laidLooks := .later }
def ChachaPartsUptoCardSaid : Prop := Claim7.holds Tryd.pinned (.plain (OpenSpec.upto chachaPartsSpec)) chachaPartsUptoCard

/-- THE SECOND FORM's CARD OF 'speakeasylaw04.PolySums'. -/
def polySumsUptoCard : Claim7 := { stood := { row := polySumsUptoRow, standIns := [], harness := (true, "dd2e311891c808ff0df6c50fd5662548779429bdeead3ce19c64d818b3da1a61"), looks := true }, kinds := [], alts := [], laidByText := true, laidKinds := [.widerDeep, .data, .sentinel, .sentinel], laidTests := true, laidLooks := .later }
def PolySumsUptoCardSaid : Prop := Claim7.holds Tryd.pinned (.plain (OpenSpec.upto polySumsSpec)) polySumsUptoCard

/-- THE SECOND FORM's CARD OF 'speakeasylaw04.PolyEdges'. -/
def polyEdgesUptoCard : Claim7 := { stood := { row := polyEdgesUptoRow, standIns := [], harness := (true, "dd2e311891c808ff0df6c50fd5662548779429bdeead3ce19c64d818b3da1a61"), looks := true }, kinds := [], alts := [], laidByText := true, laidKinds := [.widerDeep, .data, .sentinel, .sentinel], laidTests := true, laidLooks := .later }
def PolyEdgesUptoCardSaid : Prop := Claim7.holds Tryd.pinned (.plain (OpenSpec.upto polyEdgesSpec)) polyEdgesUptoCard

/-- THE SECOND FORM's CARD OF 'speakeasylaw04.PolySeals'. -/
def polySealsUptoCard : Claim7 := { stood := { row := polySealsUptoRow, standIns := [], harness := (true, "dd2e311891c808ff0df6c50fd5662548779429bdeead3ce19c64d818b3da1a61"), looks := true }, kinds := [], alts := [], laidByText := true, laidKinds := [.widerDeep, .data, .sentinel, .sentinel], laidTests := true, laidLooks := .later }
def PolySealsUptoCardSaid : Prop := Claim7.holds Tryd.pinned (.plain (OpenSpec.upto polySealsSpec)) polySealsUptoCard

/-- THE SECOND FORM's CARD OF 'speakeasylaw04.PolyOpens'. -/
def polyOpensUptoCard : Claim7 := { stood := { row := polyOpensUptoRow, standIns := [], harness := (true, "dd2e311891c808ff0df6c50fd5662548779429bdeead3ce19c64d818b3da1a61"), looks := true }, kinds := [], alts := [], laidByText := true, laidKinds := [.widerDeep, .data, .sentinel, .sentinel, .sentinel, .sentinel, .sentinel, .sentinel, .sentinel, .sentinel, .sentinel, .sentinel, .sentinel, .sentinel, .sentinel, .sentinel, .sentinel, .sentinel, .sentinel, .sentinel, .sentinel, .sentinel], laidTests := true, laidLooks := .later }
def PolyOpensUptoCardSaid : Prop := Claim7.holds Tryd.pinned (.plain (OpenSpec.upto polyOpensSpec)) polyOpensUptoCard

/-- THE SECOND FORM's CARD OF 'speakeasylaw04.PolyTurned'. -/
def polyTurnedUptoCard : Claim7 := { stood := { row := polyTurnedUptoRow, standIns := [], harness := (true, "dd2e311891c808ff0df6c50fd5662548779429bdeead3ce19c64d818b3da1a61"), looks := true }, kinds := [], alts := [], laidByText := true, laidKinds := [.widerDeep, .data, .sentinel, .sentinel, .sentinel, .sentinel, .sentinel, .sentinel, .sentinel, .sentinel, .sentinel, .sentinel, .sentinel, .sentinel, .sentinel, .sentinel, .sentinel, .sentinel, .sentinel, .sentinel, .sentinel, .sentinel], laidTests := true, laidLooks := .later }
def PolyTurnedUptoCardSaid : Prop := Claim7.holds Tryd.pinned (.plain (OpenSpec.upto polyTurnedSpec)) polyTurnedUptoCard

/-- THE SECOND FORM's CARD OF 'speakeasylaw12.PacketParts'. -/
def packetPartsUptoCard : Claim7 := { stood := { row := packetPartsUptoRow, standIns := [], harness := (true, "dd2e311891c808ff0df6c50fd5662548779429bdeead3ce19c64d818b3da1a61"), looks := true }, kinds := [], alts := [], laidByText := true, laidKinds := [.widerDeep, .data, .sentinel, .sentinel, .sentinel, .sentinel], laidTests := true, laidLooks := .later }
def PacketPartsUptoCardSaid : Prop := Claim7.holds Tryd.pinned (.plain (OpenSpec.upto packetPartsSpec)) packetPartsUptoCard

/-- THE SECOND FORM's CARD OF 'speakeasylaw12.PacketLong'. -/
def packetLongUptoCard : Claim7 := { stood := { row := packetLongUptoRow, standIns := [], harness := (true, "dd2e311891c808ff0df6c50fd5662548779429bdeead3ce19c64d818b3da1a61"), looks := true }, kinds := [], alts := [], laidByText := true, laidKinds := [.widerDeep, .data, .sentinel, .sentinel, .sentinel, .sentinel, .sentinel, .sentinel, .sentinel, .sentinel, .sentinel, .sentinel, .sentinel, .sentinel, .sentinel, .sentinel, .sentinel, .sentinel, .sentinel, .sentinel, .sentinel, .sentinel], laidTests := true, laidLooks := .later }
def PacketLongUptoCardSaid : Prop := Claim7.holds Tryd.pinned (.plain (OpenSpec.upto packetLongSpec)) packetLongUptoCard
end Rows
end Go.Proofs.YtfoljmpphbhobaaDoor
