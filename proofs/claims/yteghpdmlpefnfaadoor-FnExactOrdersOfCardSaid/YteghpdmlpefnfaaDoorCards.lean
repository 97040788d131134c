/-
  DERIVED. GIVEN WITH THE SEED: THE CARDS: each row of YteghpdmlpefnfaaDoorRows.lean that lists a variable, with what it lists TIED to the program's text (the seventh form; the later family's looks); each row that meets fmt, with fmt's text TOLD by the authors' own Lean function (tested against real Go, not proved from fmt's source: count such statements apart). THE CARD IS WHAT COUNTS. Prove the row's statement (the work); the ties are given (YteghpdmlpefnfaaDoorTie.lean); close each card by the builder's one call (the guide's Derived/Test/ToyasCard.lean, 'card_holds'). Laid BY PROGRAM, IN A SANDBOX (cutbox-door.mjs). By AI agents, Wed Nov 11 2026. No macro, syntax, notation, axiom, sorry.
-/
import Derived.Test.YteghpdmlpefnfaaDoorRows
import GoSem.ClaimSeven
namespace Go.Proofs.YteghpdmlpefnfaaDoor
namespace Rows

/-- THE TIED CARD OF 'laws.FnExactTransferData'. -/
def fnExactTransferDataCard : Claim7 := { stood := { row := fnExactTransferDataRow, standIns := [], harness := (true, "e99c084f921d3b0dbcbe50cab242b4d0061818cfa7f046c2de773b8d1f515e6c"), looks := true }, kinds := [], alts := [], laidByText := true, laidKinds := [.data, .data, .data], laidTests := true, laidLooks := .later }
def FnExactTransferDataCardSaid : Prop := Claim7.holds Tryd.pinned (.plain (OpenSpec.ofChange fnExactTransferDataSpec)) fnExactTransferDataCard

/-- THE TIED CARD OF 'laws.FnHash'. -/
def fnHashCard : Claim7 := { stood := { row := fnHashRow, standIns := [], harness := (true, "e99c084f921d3b0dbcbe50cab242b4d0061818cfa7f046c2de773b8d1f515e6c"), looks := true }, kinds := [], alts := [], laidByText := true, laidKinds := [.data, .pinned], laidTests := true, laidLooks := .later }
def FnHashCardSaid : Prop := Claim7.holds Tryd.pinned (.plain (OpenSpec.ofChange fnHashSpec)) fnHashCard

/-- THE TIED CARD OF 'laws.FnExactPoolAt'. -/
def fnExactPoolAtCard : Claim7 := { stood := { row := fnExactPoolAtRow, standIns := [], harness := (true, "e99c084f921d3b0dbcbe50cab242b4d0061818cfa7f046c2de773b8d1f515e6c"), looks := true }, kinds := [], alts := [], laidByText := true, laidKinds := [.data, .data, .data, .sentinel, .sentinel], laidTests := true, laidLooks := .later }
def FnExactPoolAtCardSaid : Prop := Claim7.holds Tryd.pinned (.plain (OpenSpec.ofChange fnExactPoolAtSpec)) fnExactPoolAtCard

/-- THE TIED CARD OF 'laws.FnExactOrderAt'. -/
def fnExactOrderAtCard : Claim7 := { stood := { row := fnExactOrderAtRow, standIns := [], harness := (true, "e99c084f921d3b0dbcbe50cab242b4d0061818cfa7f046c2de773b8d1f515e6c"), looks := true }, kinds := [], alts := [], laidByText := true, laidKinds := [.data, .data, .data, .sentinel, .sentinel], laidTests := true, laidLooks := .later }
def FnExactOrderAtCardSaid : Prop := Claim7.holds Tryd.pinned (.plain (OpenSpec.ofChange fnExactOrderAtSpec)) fnExactOrderAtCard

/-- THE TIED CARD OF 'laws.FnExactOrdersOf'. -/
def fnExactOrdersOfCard : Claim7 := { stood := { row := fnExactOrdersOfRow, standIns := [], harness := (true, "e99c084f921d3b0dbcbe50cab242b4d0061818cfa7f046c2de773b8d1f515e6c"), looks := true }, kinds := [], alts := [], laidByText := true, laidKinds := [.data, .data, .data, .sentinel, .sentinel], laidTests := true, laidLooks := .later }
def FnExactOrdersOfCardSaid : Prop := Claim7.holds Tryd.pinned (.plain (OpenSpec.ofChange fnExactOrdersOfSpec)) fnExactOrdersOfCard

/-- THE SECOND FORM's CARD OF 'laws.FnExactTransferData'. -/
def fnExactTransferDataUptoCard : Claim7 := { stood := { row := fnExactTransferDataUptoRow, standIns := [], harness := (true, "e99c084f921d3b0dbcbe50cab242b4d0061818cfa7f046c2de773b8d1f515e6c"), looks := true }, kinds := [], alts := [], laidByText := true, laidKinds := [.data, .data, .data], laidTests := true, laidLooks := .later }
def FnExactTransferDataUptoCardSaid : Prop := Claim7.holds Tryd.pinned (.plain (OpenSpec.upto fnExactTransferDataSpec)) fnExactTransferDataUptoCard

/-- THE SECOND FORM's CARD OF 'laws.FnHash'. -/
def fnHashUptoCard : Claim7 := { stood := { row := fnHashUptoRow, standIns := [], harness := (true, "e99c084f921d3b0dbcbe50cab242b4d0061818cfa7f046c2de773b8d1f515e6c"), looks := true }, kinds := [], alts := [], laidByText := true, laidKinds := [.data, .pinned], laidTests := true, laidLooks := .later }
def FnHashUptoCardSaid : Prop := Claim7.holds Tryd.pinned (.plain (OpenSpec.upto fnHashSpec)) fnHashUptoCard

/-- THE SECOND FORM's CARD OF 'laws.FnExactPoolAt'. -/
def fnExactPoolAtUptoCard : Claim7 := { stood := { row := fnExactPoolAtUptoRow, standIns := [], harness := (true, "e99c084f921d3b0dbcbe50cab242b4d0061818cfa7f046c2de773b8d1f515e6c"), looks := true }, kinds := [], alts := [], laidByText := true, laidKinds := [.data, .data, .data, .sentinel, .sentinel], laidTests := true, laidLooks := .later }
def FnExactPoolAtUptoCardSaid : Prop := Claim7.holds Tryd.pinned (.plain (OpenSpec.upto fnExactPoolAtSpec)) fnExactPoolAtUptoCard

/-- THE SECOND FORM's CARD OF 'laws.FnExactOrderAt'. -/
def fnExactOrderAtUptoCard : Claim7 := { stood := { row := fnExactOrderAtUptoRow, standIns := [], harness := (true, "e99c084f921d3b0dbcbe50cab242b4d0061818cfa7f046c2de773b8d1f515e6c"), looks := true }, kinds := [], alts := [], laidByText := true, laidKinds := [.data, .data, .data, .sentinel, .sentinel], laidTests := true, laidLooks := .later }
def FnExactOrderAtUptoCardSaid : Prop := Claim7.holds Tryd.pinned (.plain (OpenSpec.upto fnExactOrderAtSpec)) fnExactOrderAtUptoCard

/-- THE SECOND FORM's CARD OF 'laws.FnExactOrdersOf'. -/
def fnExactOrdersOfUptoCard : Claim7 := { stood := { row := fnExactOrdersOfUptoRow, standIns := [], harness := (true, "e99c084f921d3b0dbcbe50cab242b4d0061818cfa7f046c2de773b8d1f515e6c"), looks := true }, kinds := [], alts := [], laidByText := true, laidKinds := [.data, .data, .data, .sentinel, .sentinel], laidTests := true, laidLooks := .later }
def FnExactOrdersOfUptoCardSaid : Prop := Claim7.holds Tryd.pinned (.plain (OpenSpec.upto fnExactOrdersOfSpec)) fnExactOrdersOfUptoCard
end Rows
end Go.Proofs.YteghpdmlpefnfaaDoor
