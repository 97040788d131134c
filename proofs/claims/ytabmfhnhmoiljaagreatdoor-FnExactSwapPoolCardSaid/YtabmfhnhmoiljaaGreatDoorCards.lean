/-
  DERIVED. GIVEN WITH THE SEED: THE CARDS: each row of YtabmfhnhmoiljaaGreatDoorRows.lean that lists a variable, with what it lists TIED to the program's text (the seventh form; the later family's looks); each row that meets fmt, with fmt's text TOLD by the authors' own Lean function (tested against real Go, not proved from fmt's source: count such statements apart). THE CARD IS WHAT COUNTS. Prove the row's statement (the work); the ties are given (YtabmfhnhmoiljaaGreatDoorTie.lean); close each card by the builder's one call (the guide's Derived/Test/ToyasCard.lean, 'card_holds'). Laid BY PROGRAM, IN A SANDBOX (cutbox-door.mjs). By AI agents, Wed Nov 11 2026. No macro, syntax, notation, axiom, sorry.
-/
import Derived.Test.YtabmfhnhmoiljaaGreatDoorRows
import GoSem.ClaimSeven
namespace Go.Proofs.YtabmfhnhmoiljaaGreatDoor
namespace Rows

/-- THE TIED CARD OF 'laws.FnExactSendTake'. -/
def fnExactSendTakeCard : Claim7 := { stood := { row := fnExactSendTakeRow, standIns := [], harness := (true, "fbcc3f793e0439fea9692cdbbef169ba072855bf6bc7a64418e4ff66035a40fb"), looks := true }, kinds := [], alts := [], laidByText := true, laidKinds := [.data, .data, .data, .sentinel, .sentinel], laidTests := true, laidLooks := .later }
def FnExactSendTakeCardSaid : Prop := Claim7.holds Tryz.pinned (.plain (OpenSpec.ofChange fnExactSendTakeSpec)) fnExactSendTakeCard

/-- THE TIED CARD OF 'laws.FnExactDoneTake'. -/
def fnExactDoneTakeCard : Claim7 := { stood := { row := fnExactDoneTakeRow, standIns := [], harness := (true, "fbcc3f793e0439fea9692cdbbef169ba072855bf6bc7a64418e4ff66035a40fb"), looks := true }, kinds := [], alts := [], laidByText := true, laidKinds := [.data, .data, .data, .sentinel, .sentinel], laidTests := true, laidLooks := .later }
def FnExactDoneTakeCardSaid : Prop := Claim7.holds Tryz.pinned (.plain (OpenSpec.ofChange fnExactDoneTakeSpec)) fnExactDoneTakeCard

/-- THE TIED CARD OF 'laws.FnExactSendCoins'. -/
def fnExactSendCoinsCard : Claim7 := { stood := { row := fnExactSendCoinsRow, standIns := [], harness := (true, "fbcc3f793e0439fea9692cdbbef169ba072855bf6bc7a64418e4ff66035a40fb"), looks := true }, kinds := [], alts := [], laidByText := true, laidKinds := [.data, .data, .data, .sentinel, .sentinel], laidTests := true, laidLooks := .later }
def FnExactSendCoinsCardSaid : Prop := Claim7.holds Tryz.pinned (.plain (OpenSpec.ofChange fnExactSendCoinsSpec)) fnExactSendCoinsCard

/-- THE TIED CARD OF 'laws.FnExactTakeCoins'. -/
def fnExactTakeCoinsCard : Claim7 := { stood := { row := fnExactTakeCoinsRow, standIns := [], harness := (true, "fbcc3f793e0439fea9692cdbbef169ba072855bf6bc7a64418e4ff66035a40fb"), looks := true }, kinds := [], alts := [], laidByText := true, laidKinds := [.data, .data, .data, .sentinel, .sentinel], laidTests := true, laidLooks := .later }
def FnExactTakeCoinsCardSaid : Prop := Claim7.holds Tryz.pinned (.plain (OpenSpec.ofChange fnExactTakeCoinsSpec)) fnExactTakeCoinsCard

/-- THE TIED CARD OF 'laws.FnExactDoneCoins'. -/
def fnExactDoneCoinsCard : Claim7 := { stood := { row := fnExactDoneCoinsRow, standIns := [], harness := (true, "fbcc3f793e0439fea9692cdbbef169ba072855bf6bc7a64418e4ff66035a40fb"), looks := true }, kinds := [], alts := [], laidByText := true, laidKinds := [.data, .data, .data, .sentinel, .sentinel], laidTests := true, laidLooks := .later }
def FnExactDoneCoinsCardSaid : Prop := Claim7.holds Tryz.pinned (.plain (OpenSpec.ofChange fnExactDoneCoinsSpec)) fnExactDoneCoinsCard

/-- THE TIED CARD OF 'laws.FnExactMakeOrder'. -/
def fnExactMakeOrderCard : Claim7 := { stood := { row := fnExactMakeOrderRow, standIns := [], harness := (true, "fbcc3f793e0439fea9692cdbbef169ba072855bf6bc7a64418e4ff66035a40fb"), looks := true }, kinds := [], alts := [], laidByText := true, laidKinds := [.data, .data, .data, .sentinel, .sentinel], laidTests := true, laidLooks := .later }
def FnExactMakeOrderCardSaid : Prop := Claim7.holds Tryz.pinned (.plain (OpenSpec.ofChange fnExactMakeOrderSpec)) fnExactMakeOrderCard

/-- THE TIED CARD OF 'laws.FnExactCancelOrder'. -/
def fnExactCancelOrderCard : Claim7 := { stood := { row := fnExactCancelOrderRow, standIns := [], harness := (true, "fbcc3f793e0439fea9692cdbbef169ba072855bf6bc7a64418e4ff66035a40fb"), looks := true }, kinds := [], alts := [], laidByText := true, laidKinds := [.data, .data, .data, .sentinel, .sentinel], laidTests := true, laidLooks := .later }
def FnExactCancelOrderCardSaid : Prop := Claim7.holds Tryz.pinned (.plain (OpenSpec.ofChange fnExactCancelOrderSpec)) fnExactCancelOrderCard

/-- THE TIED CARD OF 'laws.FnExactTakeOrder'. -/
def fnExactTakeOrderCard : Claim7 := { stood := { row := fnExactTakeOrderRow, standIns := [], harness := (true, "fbcc3f793e0439fea9692cdbbef169ba072855bf6bc7a64418e4ff66035a40fb"), looks := true }, kinds := [], alts := [], laidByText := true, laidKinds := [.data, .data, .data, .sentinel, .sentinel], laidTests := true, laidLooks := .later }
def FnExactTakeOrderCardSaid : Prop := Claim7.holds Tryz.pinned (.plain (OpenSpec.ofChange fnExactTakeOrderSpec)) fnExactTakeOrderCard

/-- THE TIED CARD OF 'laws.FnExactRemovePool'. -/
def fnExactRemovePoolCard : Claim7 := { stood := { row := fnExactRemovePoolRow, standIns := [], harness := (true, "fbcc3f793e0439fea9692cdbbef169ba072855bf6bc7a64418e4ff66035a40fb"), looks := true }, kinds := [], alts := [], laidByText := true, laidKinds := [.data, .data, .data, .sentinel, .sentinel], laidTests := true, laidLooks := .later }
def FnExactRemovePoolCardSaid : Prop := Claim7.holds Tryz.pinned (.plain (OpenSpec.ofChange fnExactRemovePoolSpec)) fnExactRemovePoolCard

/-- THE TIED CARD OF 'laws.FnExactSwapPool'. -/
def fnExactSwapPoolCard : Claim7 := { stood := { row := fnExactSwapPoolRow, standIns := [], harness := (true, "fbcc3f793e0439fea9692cdbbef169ba072855bf6bc7a64418e4ff66035a40fb"), looks := true }, kinds := [], alts := [], laidByText := true, laidKinds := [.data, .data, .data, .sentinel, .sentinel], laidTests := true, laidLooks := .later }
def FnExactSwapPoolCardSaid : Prop := Claim7.holds Tryz.pinned (.plain (OpenSpec.ofChange fnExactSwapPoolSpec)) fnExactSwapPoolCard

/-- THE TIED CARD OF 'laws.FnExactAddPool'. -/
def fnExactAddPoolCard : Claim7 := { stood := { row := fnExactAddPoolRow, standIns := [], harness := (true, "fbcc3f793e0439fea9692cdbbef169ba072855bf6bc7a64418e4ff66035a40fb"), looks := true }, kinds := [], alts := [], laidByText := true, laidKinds := [.data, .data, .data, .sentinel, .sentinel], laidTests := true, laidLooks := .later }
def FnExactAddPoolCardSaid : Prop := Claim7.holds Tryz.pinned (.plain (OpenSpec.ofChange fnExactAddPoolSpec)) fnExactAddPoolCard

/-- THE SECOND FORM's CARD OF 'laws.FnExactSendTake'. -/
def fnExactSendTakeUptoCard : Claim7 := { stood := { row := fnExactSendTakeUptoRow, standIns := [], harness := (true, "fbcc3f793e0439fea9692cdbbef169ba072855bf6bc7a64418e4ff66035a40fb"), looks := true }, kinds := [], alts := [], laidByText := true, laidKinds := [.data, .data, .data, .sentinel, .sentinel], laidTests := true, laidLooks := .later }
def FnExactSendTakeUptoCardSaid : Prop := Claim7.holds Tryz.pinned (.plain (OpenSpec.upto fnExactSendTakeSpec)) fnExactSendTakeUptoCard

/-- THE SECOND FORM's CARD OF 'laws.FnExactDoneTake'. -/
def fnExactDoneTakeUptoCard : Claim7 := { stood := { row := fnExactDoneTakeUptoRow, standIns := [], harness := (true, "fbcc3f793e0439fea9692cdbbef169ba072855bf6bc7a64418e4ff66035a40fb"), looks := true }, kinds := [], alts := [], laidByText := true, laidKinds := [.data, .data, .data, .sentinel, .sentinel], laidTests := true, laidLooks := .later }
def FnExactDoneTakeUptoCardSaid : Prop := Claim7.holds Tryz.pinned (.plain (OpenSpec.upto fnExactDoneTakeSpec)) fnExactDoneTakeUptoCard

/-- THE SECOND FORM's CARD OF 'laws.FnExactSendCoins'. -/
def fnExactSendCoinsUptoCard : Claim7 := { stood := { row := fnExactSendCoinsUptoRow, standIns := [], harness := (true, "fbcc3f793e0439fea9692cdbbef169ba072855bf6bc7a64418e4ff66035a40fb"), looks := true }, kinds := [], alts := [], laidByText := true, laidKinds := [.data, .data, .data, .sentinel, .sentinel], laidTests := true, laidLooks := .later }
def FnExactSendCoinsUptoCardSaid : Prop := Claim7.holds Tryz.pinned (.plain (OpenSpec.upto fnExactSendCoinsSpec)) fnExactSendCoinsUptoCard

/-- THE SECOND FORM's CARD OF 'laws.FnExactTakeCoins'. -/
def fnExactTakeCoinsUptoCard : Claim7 := { stood := { row := fnExactTakeCoinsUptoRow, standIns := [], harness := (true, "fbcc3f793e0439fea9692cdbbef169ba072855bf6bc7a64418e4ff66035a40fb"), looks := true }, kinds := [], alts := [], laidByText := true, laidKinds := [.data, .data, .data, .sentinel, .sentinel], laidTests := true, laidLooks := .later }
def FnExactTakeCoinsUptoCardSaid : Prop := Claim7.holds Tryz.pinned (.plain (OpenSpec.upto fnExactTakeCoinsSpec)) fnExactTakeCoinsUptoCard

/-- THE SECOND FORM's CARD OF 'laws.FnExactDoneCoins'. -/
def fnExactDoneCoinsUptoCard : Claim7 := { stood := { row := fnExactDoneCoinsUptoRow, standIns := [], harness := (true, "fbcc3f793e0439fea9692cdbbef169ba072855bf6bc7a64418e4ff66035a40fb"), looks := true }, kinds := [], alts := [], laidByText := true, laidKinds := [.data, .data, .data, .sentinel, .sentinel], laidTests := true, laidLooks := .later }
def FnExactDoneCoinsUptoCardSaid : Prop := Claim7.holds Tryz.pinned (.plain (OpenSpec.upto fnExactDoneCoinsSpec)) fnExactDoneCoinsUptoCard

/-- THE SECOND FORM's CARD OF 'laws.FnExactMakeOrder'. -/
def fnExactMakeOrderUptoCard : Claim7 := { stood := { row := fnExactMakeOrderUptoRow, standIns := [], harness := (true, "fbcc3f793e0439fea9692cdbbef169ba072855bf6bc7a64418e4ff66035a40fb"), looks := true }, kinds := [], alts := [], laidByText := true, laidKinds := [.data, .data, .data, .sentinel, .sentinel], laidTests := true, laidLooks := .later }
def FnExactMakeOrderUptoCardSaid : Prop := Claim7.holds Tryz.pinned (.plain (OpenSpec.upto fnExactMakeOrderSpec)) fnExactMakeOrderUptoCard

/-- THE SECOND FORM's CARD OF 'laws.FnExactCancelOrder'. -/
def fnExactCancelOrderUptoCard : Claim7 := { stood := { row := fnExactCancelOrderUptoRow, standIns := [], harness := (true, "fbcc3f793e0439fea9692cdbbef169ba072855bf6bc7a64418e4ff66035a40fb"), looks := true }, kinds := [], alts := [], laidByText := true, laidKinds := [.data, .data, .data, .sentinel, .sentinel], laidTests := true, laidLooks := .later }
def FnExactCancelOrderUptoCardSaid : Prop := Claim7.holds Tryz.pinned (.plain (OpenSpec.upto fnExactCancelOrderSpec)) fnExactCancelOrderUptoCard

/-- THE SECOND FORM's CARD OF 'laws.FnExactTakeOrder'. -/
def fnExactTakeOrderUptoCard : Claim7 := { stood := { row := fnExactTakeOrderUptoRow, standIns := [], harness := (true, "fbcc3f793e0439fea9692cdbbef169ba072855bf6bc7a64418e4ff66035a40fb"), looks := true }, kinds := [], alts := [], laidByText := true, laidKinds := [.data, .data, .data, .sentinel, .sentinel], laidTests := true, laidLooks := .later }
def FnExactTakeOrderUptoCardSaid : Prop := Claim7.holds Tryz.pinned (.plain (OpenSpec.upto fnExactTakeOrderSpec)) fnExactTakeOrderUptoCard

/-- THE SECOND FORM's CARD OF 'laws.FnExactRemovePool'. -/
def fnExactRemovePoolUptoCard : Claim7 := { stood := { row := fnExactRemovePoolUptoRow, standIns := [], harness := (true, "fbcc3f793e0439fea9692cdbbef169ba072855bf6bc7a64418e4ff66035a40fb"), looks := true }, kinds := [], alts := [], laidByText := true, laidKinds := [.data, .data, .data, .sentinel, .sentinel], laidTests := true, laidLooks := .later }
def FnExactRemovePoolUptoCardSaid : Prop := Claim7.holds Tryz.pinned (.plain (OpenSpec.upto fnExactRemovePoolSpec)) fnExactRemovePoolUptoCard

/-- THE SECOND FORM's CARD OF 'laws.FnExactSwapPool'. -/
def fnExactSwapPoolUptoCard : Claim7 := { stood := { row := fnExactSwapPoolUptoRow, standIns := [], harness := (true, "fbcc3f793e0439fea9692cdbbef169ba072855bf6bc7a64418e4ff66035a40fb"), looks := true }, kinds := [], alts := [], laidByText := true, laidKinds := [.data, .data, .data, .sentinel, .sentinel], laidTests := true, laidLooks := .later }
def FnExactSwapPoolUptoCardSaid : Prop := Claim7.holds Tryz.pinned (.plain (OpenSpec.upto fnExactSwapPoolSpec)) fnExactSwapPoolUptoCard

/-- THE SECOND FORM's CARD OF 'laws.FnExactAddPool'. -/
def fnExactAddPoolUptoCard : Claim7 := { stood := { row := fnExactAddPoolUptoRow, standIns := [], harness := (true, "fbcc3f793e0439fea9692cdbbef169ba072855bf6bc7a64418e4ff66035a40fb"), looks := true }, kinds := [], alts := [], laidByText := true, laidKinds := [.data, .data, .data, .sentinel, .sentinel], laidTests := true, laidLooks := .later }
def FnExactAddPoolUptoCardSaid : Prop := Claim7.holds Tryz.pinned (.plain (OpenSpec.upto fnExactAddPoolSpec)) fnExactAddPoolUptoCard
end Rows
end Go.Proofs.YtabmfhnhmoiljaaGreatDoor
