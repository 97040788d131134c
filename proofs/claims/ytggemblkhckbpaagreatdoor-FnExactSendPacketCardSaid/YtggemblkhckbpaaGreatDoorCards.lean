/-
  DERIVED. GIVEN WITH THE SEED: THE CARDS: each row of YtggemblkhckbpaaGreatDoorRows.lean that lists a variable, with what it lists TIED to the program's text (the seventh form; the later family's looks); each row that meets fmt, with fmt's text TOLD by the authors' own Lean function (tested against real Go, not proved from fmt's source: count such statements apart). THE CARD IS WHAT COUNTS. Prove the row's statement (the work); the ties are given (YtggemblkhckbpaaGreatDoorTie.lean); close each card by the builder's one call (the guide's Derived/Test/ToyasCard.lean, 'card_holds'). Laid BY PROGRAM, IN A SANDBOX (cutbox-door.mjs). By AI agents, Wed Nov 11 2026. No macro, syntax, notation, axiom, sorry.
-/
import Derived.Test.YtggemblkhckbpaaGreatDoorRows
import GoSem.ClaimSeven
namespace Go.Proofs.YtggemblkhckbpaaGreatDoor
namespace Rows

/-- THE TIED CARD OF 'laws.FnRefund'. -/
def fnRefundCard : Claim7 := { stood := { row := fnRefundRow, standIns := [], harness := (true, "925e2a786dc43b9a88f9a61dae581679f332a774379ee6a5a5486430324a68ce"), looks := true }, kinds := [], alts := [], laidByText := true, laidKinds := [.data, .data, .data, .sentinel, .sentinel], laidTests := true, laidLooks := .later }
def FnRefundCardSaid : Prop := Claim7.holds Tryz.pinned (.plain (OpenSpec.ofChange fnRefundSpec)) fnRefundCard

/-- THE TIED CARD OF 'laws.FnPackets'. -/
def fnPacketsCard : Claim7 := { stood := { row := fnPacketsRow, standIns := [], harness := (true, "925e2a786dc43b9a88f9a61dae581679f332a774379ee6a5a5486430324a68ce"), looks := true }, kinds := [], alts := [], laidByText := true, laidKinds := [.data, .data, .data, .sentinel, .sentinel], laidTests := true, laidLooks := .later }
def FnPacketsCardSaid : Prop := Claim7.holds Tryz.pinned (.plain (OpenSpec.ofChange fnPacketsSpec)) fnPacketsCard

/-- THE TIED CARD OF 'laws.FnExactSendPacket'. -/
def fnExactSendPacketCard : Claim7 := { stood := { row := fnExactSendPacketRow, standIns := [], harness := (true, "925e2a786dc43b9a88f9a61dae581679f332a774379ee6a5a5486430324a68ce"), looks := true }, kinds := [], alts := [], laidByText := true, laidKinds := [.data, .data, .data, .sentinel, .sentinel], laidTests := true, laidLooks := .later }
def FnExactSendPacketCardSaid : Prop := Claim7.holds Tryz.pinned (.plain (OpenSpec.ofChange fnExactSendPacketSpec)) fnExactSendPacketCard

/-- THE SECOND FORM's CARD OF 'laws.FnRefund'. -/
def fnRefundUptoCard : Claim7 := { stood := { row := fnRefundUptoRow, standIns := [], harness := (true, "925e2a786dc43b9a88f9a61dae581679f332a774379ee6a5a5486430324a68ce"), looks := true }, kinds := [], alts := [], laidByText := true, laidKinds := [.data, .data, .data, .sentinel, .sentinel], laidTests := true, laidLooks := .later }
def FnRefundUptoCardSaid : Prop := Claim7.holds Tryz.pinned (.plain (OpenSpec.upto fnRefundSpec)) fnRefundUptoCard

/-- THE SECOND FORM's CARD OF 'laws.FnPackets'. -/
def fnPacketsUptoCard : Claim7 := { stood := { row := fnPacketsUptoRow, standIns := [], harness := (true, "925e2a786dc43b9a88f9a61dae581679f332a774379ee6a5a5486430324a68ce"), looks := true }, kinds := [], alts := [], laidByText := true, laidKinds := [.data, .data, .data, .sentinel, .sentinel], laidTests := true, laidLooks := .later }
def FnPacketsUptoCardSaid : Prop := Claim7.holds Tryz.pinned (.plain (OpenSpec.upto fnPacketsSpec)) fnPacketsUptoCard

/-- THE SECOND FORM's CARD OF 'laws.FnExactSendPacket'. -/
def fnExactSendPacketUptoCard : Claim7 := { stood := { row := fnExactSendPacketUptoRow, standIns := [], harness := (true, "925e2a786dc43b9a88f9a61dae581679f332a774379ee6a5a5486430324a68ce"), looks := true }, kinds := [], alts := [], laidByText := true, laidKinds := [.data, .data, .data, .sentinel, .sentinel], laidTests := true, laidLooks := .later }
def FnExactSendPacketUptoCardSaid : Prop := Claim7.holds Tryz.pinned (.plain (OpenSpec.upto fnExactSendPacketSpec)) fnExactSendPacketUptoCard
end Rows
end Go.Proofs.YtggemblkhckbpaaGreatDoor
