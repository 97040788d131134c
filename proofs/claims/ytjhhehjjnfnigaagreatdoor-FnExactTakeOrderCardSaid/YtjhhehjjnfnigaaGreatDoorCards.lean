/-
  DERIVED. GIVEN WITH THE SEED: THE CARDS: each row of YtjhhehjjnfnigaaGreatDoorRows.lean that lists a variable, with what it lists TIED to the program's text (the seventh form; the later family's looks); each row that meets fmt, with fmt's text TOLD by the authors' own Lean function (tested against real Go, not proved from fmt's source: count such statements apart). THE CARD IS WHAT COUNTS. Prove the row's statement (the work); the ties are given (YtjhhehjjnfnigaaGreatDoorTie.lean); close each card by the builder's one call (the guide's Derived/Test/ToyasCard.lean, 'card_holds'). Laid BY PROGRAM, IN A SANDBOX (cutbox-door.mjs). By AI agents, Wed Nov 11 2026. No macro, syntax, notation, axiom, sorry.
-/
import Derived.Test.YtjhhehjjnfnigaaGreatDoorRows
import GoSem.ClaimSeven
namespace Go.Proofs.YtjhhehjjnfnigaaGreatDoor
namespace Rows

/-- THE TIED CARD OF 'laws.FnExactTakeOrder'. -/
def fnExactTakeOrderCard : Claim7 := { stood := { row := fnExactTakeOrderRow, standIns := [], harness := (true, "b276daf9d08ed5c6ab4d9d6fa0847097c440d7838dc38d192ff9d955df0d14a0"), looks := true }, kinds := [], alts := [], laidByText := true, laidKinds := [.data, .data, .data, .sentinel, .sentinel], laidTests := true, laidLooks := .later }
def FnExactTakeOrderCardSaid : Prop := Claim7.holds Tryz.pinned (.plain (OpenSpec.ofChange fnExactTakeOrderSpec)) fnExactTakeOrderCard

/-- THE SECOND FORM's CARD OF 'laws.FnExactTakeOrder'. -/
def fnExactTakeOrderUptoCard : Claim7 := { stood := { row := fnExactTakeOrderUptoRow, standIns := [], harness := (true, "b276daf9d08ed5c6ab4d9d6fa0847097c440d7838dc38d192ff9d955df0d14a0"), looks := true }, kinds := [], alts := [], laidByText := true, laidKinds := [.data, .data, .data, .sentinel, .sentinel], laidTests := true, laidLooks := .later }
def FnExactTakeOrderUptoCardSaid : Prop := Claim7.holds Tryz.pinned (.plain (OpenSpec.upto fnExactTakeOrderSpec)) fnExactTakeOrderUptoCard
end Rows
end Go.Proofs.YtjhhehjjnfnigaaGreatDoor
