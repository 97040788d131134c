/-
  No cell of these rows narrows 'for every input' (looked for: loops, veiled, ifaces, maps, wideKeys, modest, calm, conditions, laid).
  DERIVED. THE GIVEN ROWS OF THIS SEAT. 11 by the template 'for every input the law returns true; each argument reads behind the call as it read before'; 0 by the template 'total and deterministic' (their statements: YtppgnndolgmcfaaTotals.lean).
  GIVEN WITH THE SEED: the statements are not yours to turn. If you find one false, say at which input.
  Laid BY PROGRAM, IN A SANDBOX (cutbox-rows.mjs): the forced cells as the released guide's own fill.sh prints them over the translation 9d01b567d378ef04… (all of the seat's roots in one cut). By AI agents, Wed Nov 11 2026. No macro, syntax, notation, axiom, sorry.
-/
import Derived.Test.YtppgnndolgmcfaaChecked
import GoSem.Claim
import GoSem.ClaimJoined
import GoSem.ClaimMapViews
import Derived.JoinedTies
import Derived.KernelRfl
namespace Go.Proofs.Ytppgnndolgmcfaa
/- THE CELL 'sum', in the pinned program and in every row, IS THE sha256 OF THE DUMP (.gsa) THAT YtppgnndolgmcfaaProg.lean LOADS. Nothing in Lean hashes anything: it is a label: what it is worth is what the hold of that sum in a sandbox is worth. -/
noncomputable def Try.pinned : Pinned := { name := "ytppgnndolgmcfaa", sum := "9d01b567d378ef04f2d635103a92b0cb99382be52808c2fa7a047b85bde764af", checked := Try.checked }
namespace Rows
def none {H : Type} : Left H := { results := [], args := [] }

/-- 'laws.FnExactPoolOK': WHATEVER THE INPUT: true; the input reads as it did. -/
def fnExactPoolOKSpec : ChangeSpec := { name := "fnExactPoolOK", fn := fun _ => fun
  | [d] => { results := [.lit (.bool true)], args := [d] }
  | _ => none }
def fnExactPoolOKRow : OpenClaim := { program := "ytppgnndolgmcfaa", sum := "9d01b567d378ef04f2d635103a92b0cb99382be52808c2fa7a047b85bde764af", func := "loop.example/g00298/laws.FnExactPoolOK", spec := "fnExactPoolOK", apart := false }
def FnExactPoolOKSaid : Prop := fnExactPoolOKRow.holds Try.pinned (OpenSpec.ofChange fnExactPoolOKSpec)

/-- ITS FALSE NEIGHBOUR: 'it returns false'. Refute it at one input. -/
def fnExactPoolOKWrong : ChangeSpec := { name := "fnExactPoolOK", fn := fun _ => fun
  | [d] => { results := [.lit (.bool false)], args := [d] }
  | _ => none }
def FnExactPoolOKWrongFalsely : Prop := fnExactPoolOKRow.holds Try.pinned (OpenSpec.ofChange fnExactPoolOKWrong)

/-- 'laws.FnExactVoucherOf': WHATEVER THE INPUT: true; the input reads as it did. -/
def fnExactVoucherOfSpec : ChangeSpec := { name := "fnExactVoucherOf", fn := fun _ => fun
  | [d] => { results := [.lit (.bool true)], args := [d] }
  | _ => none }
def fnExactVoucherOfRow : OpenClaim := { program := "ytppgnndolgmcfaa", sum := "9d01b567d378ef04f2d635103a92b0cb99382be52808c2fa7a047b85bde764af", func := "loop.example/g00298/laws.FnExactVoucherOf", spec := "fnExactVoucherOf", unfollowed := true, recurses := true, apart := false }
def FnExactVoucherOfSaid : Prop := fnExactVoucherOfRow.holds Try.pinned (OpenSpec.ofChange fnExactVoucherOfSpec)

/-- ITS FALSE NEIGHBOUR: 'it returns false'. Refute it at one input. -/
def fnExactVoucherOfWrong : ChangeSpec := { name := "fnExactVoucherOf", fn := fun _ => fun
  | [d] => { results := [.lit (.bool false)], args := [d] }
  | _ => none }
def FnExactVoucherOfWrongFalsely : Prop := fnExactVoucherOfRow.holds Try.pinned (OpenSpec.ofChange fnExactVoucherOfWrong)

/-- 'laws.FnExactOrderOK': WHATEVER THE INPUT: true; the input reads as it did. -/
def fnExactOrderOKSpec : ChangeSpec := { name := "fnExactOrderOK", fn := fun _ => fun
  | [d] => { results := [.lit (.bool true)], args := [d] }
  | _ => none }
def fnExactOrderOKRow : OpenClaim := { program := "ytppgnndolgmcfaa", sum := "9d01b567d378ef04f2d635103a92b0cb99382be52808c2fa7a047b85bde764af", func := "loop.example/g00298/laws.FnExactOrderOK", spec := "fnExactOrderOK", unfollowed := true, recurses := true, apart := false }
def FnExactOrderOKSaid : Prop := fnExactOrderOKRow.holds Try.pinned (OpenSpec.ofChange fnExactOrderOKSpec)

/-- ITS FALSE NEIGHBOUR: 'it returns false'. Refute it at one input. -/
def fnExactOrderOKWrong : ChangeSpec := { name := "fnExactOrderOK", fn := fun _ => fun
  | [d] => { results := [.lit (.bool false)], args := [d] }
  | _ => none }
def FnExactOrderOKWrongFalsely : Prop := fnExactOrderOKRow.holds Try.pinned (OpenSpec.ofChange fnExactOrderOKWrong)

/-- 'laws.FnExactQuoteSwap': WHATEVER THE INPUT: true; the input reads as it did. -/
def fnExactQuoteSwapSpec : ChangeSpec := { name := "fnExactQuoteSwap", fn := fun _ => fun
  | [d1, d2, d3] => { results := [.lit (.bool true)], args := [d1, d2, d3] }
  | _ => none }
def fnExactQuoteSwapRow : OpenClaim := { program := "ytppgnndolgmcfaa", sum := "9d01b567d378ef04f2d635103a92b0cb99382be52808c2fa7a047b85bde764af", func := "loop.example/g00298/laws.FnExactQuoteSwap", spec := "fnExactQuoteSwap", named := ["math/bits.divideError", "math/bits.overflowError"], apart := false }
def FnExactQuoteSwapSaid : Prop := fnExactQuoteSwapRow.holds Try.pinned (OpenSpec.ofChange fnExactQuoteSwapSpec)

/-- ITS FALSE NEIGHBOUR: 'it returns false'. Refute it at one input. -/
def fnExactQuoteSwapWrong : ChangeSpec := { name := "fnExactQuoteSwap", fn := fun _ => fun
  | [d1, d2, d3] => { results := [.lit (.bool false)], args := [d1, d2, d3] }
  | _ => none }
def FnExactQuoteSwapWrongFalsely : Prop := fnExactQuoteSwapRow.holds Try.pinned (OpenSpec.ofChange fnExactQuoteSwapWrong)

/-- 'laws.FnSwaps': WHATEVER THE INPUT: true; the input reads as it did. -/
def fnSwapsSpec : ChangeSpec := { name := "fnSwaps", fn := fun _ => fun
  | [d1, d2] => { results := [.lit (.bool true)], args := [d1, d2] }
  | _ => none }
def fnSwapsRow : OpenClaim := { program := "ytppgnndolgmcfaa", sum := "9d01b567d378ef04f2d635103a92b0cb99382be52808c2fa7a047b85bde764af", func := "loop.example/g00298/laws.FnSwaps", spec := "fnSwaps", named := ["math/bits.divideError", "math/bits.overflowError"], apart := false }
def FnSwapsSaid : Prop := fnSwapsRow.holds Try.pinned (OpenSpec.ofChange fnSwapsSpec)

/-- ITS FALSE NEIGHBOUR: 'it returns false'. Refute it at one input. -/
def fnSwapsWrong : ChangeSpec := { name := "fnSwaps", fn := fun _ => fun
  | [d1, d2] => { results := [.lit (.bool false)], args := [d1, d2] }
  | _ => none }
def FnSwapsWrongFalsely : Prop := fnSwapsRow.holds Try.pinned (OpenSpec.ofChange fnSwapsWrong)

/-- 'laws.FnExactQuoteRemove': WHATEVER THE INPUT: true; the input reads as it did. -/
def fnExactQuoteRemoveSpec : ChangeSpec := { name := "fnExactQuoteRemove", fn := fun _ => fun
  | [d1, d2] => { results := [.lit (.bool true)], args := [d1, d2] }
  | _ => none }
def fnExactQuoteRemoveRow : OpenClaim := { program := "ytppgnndolgmcfaa", sum := "9d01b567d378ef04f2d635103a92b0cb99382be52808c2fa7a047b85bde764af", func := "loop.example/g00298/laws.FnExactQuoteRemove", spec := "fnExactQuoteRemove", named := ["math/bits.divideError", "math/bits.overflowError"], apart := false }
def FnExactQuoteRemoveSaid : Prop := fnExactQuoteRemoveRow.holds Try.pinned (OpenSpec.ofChange fnExactQuoteRemoveSpec)

/-- ITS FALSE NEIGHBOUR: 'it returns false'. Refute it at one input. -/
def fnExactQuoteRemoveWrong : ChangeSpec := { name := "fnExactQuoteRemove", fn := fun _ => fun
  | [d1, d2] => { results := [.lit (.bool false)], args := [d1, d2] }
  | _ => none }
def FnExactQuoteRemoveWrongFalsely : Prop := fnExactQuoteRemoveRow.holds Try.pinned (OpenSpec.ofChange fnExactQuoteRemoveWrong)

/-- 'laws.FnExactQuoteAdd': WHATEVER THE INPUT: true; the input reads as it did. -/
def fnExactQuoteAddSpec : ChangeSpec := { name := "fnExactQuoteAdd", fn := fun _ => fun
  | [d1, d2, d3] => { results := [.lit (.bool true)], args := [d1, d2, d3] }
  | _ => none }
def fnExactQuoteAddRow : OpenClaim := { program := "ytppgnndolgmcfaa", sum := "9d01b567d378ef04f2d635103a92b0cb99382be52808c2fa7a047b85bde764af", func := "loop.example/g00298/laws.FnExactQuoteAdd", spec := "fnExactQuoteAdd", named := ["math/bits.divideError", "math/bits.overflowError"], apart := false }
def FnExactQuoteAddSaid : Prop := fnExactQuoteAddRow.holds Try.pinned (OpenSpec.ofChange fnExactQuoteAddSpec)

/-- ITS FALSE NEIGHBOUR: 'it returns false'. Refute it at one input. -/
def fnExactQuoteAddWrong : ChangeSpec := { name := "fnExactQuoteAdd", fn := fun _ => fun
  | [d1, d2, d3] => { results := [.lit (.bool false)], args := [d1, d2, d3] }
  | _ => none }
def FnExactQuoteAddWrongFalsely : Prop := fnExactQuoteAddRow.holds Try.pinned (OpenSpec.ofChange fnExactQuoteAddWrong)

/-- 'laws.FnExactFillOf': WHATEVER THE INPUT: true; the input reads as it did. -/
def fnExactFillOfSpec : ChangeSpec := { name := "fnExactFillOf", fn := fun _ => fun
  | [d1, d2] => { results := [.lit (.bool true)], args := [d1, d2] }
  | _ => none }
def fnExactFillOfRow : OpenClaim := { program := "ytppgnndolgmcfaa", sum := "9d01b567d378ef04f2d635103a92b0cb99382be52808c2fa7a047b85bde764af", func := "loop.example/g00298/laws.FnExactFillOf", spec := "fnExactFillOf", unfollowed := true, recurses := true, named := ["math/bits.divideError", "math/bits.overflowError"], apart := false }
def FnExactFillOfSaid : Prop := fnExactFillOfRow.holds Try.pinned (OpenSpec.ofChange fnExactFillOfSpec)

/-- ITS FALSE NEIGHBOUR: 'it returns false'. Refute it at one input. -/
def fnExactFillOfWrong : ChangeSpec := { name := "fnExactFillOf", fn := fun _ => fun
  | [d1, d2] => { results := [.lit (.bool false)], args := [d1, d2] }
  | _ => none }
def FnExactFillOfWrongFalsely : Prop := fnExactFillOfRow.holds Try.pinned (OpenSpec.ofChange fnExactFillOfWrong)

/-- 'laws.FnShares': WHATEVER THE INPUT: true; the input reads as it did. -/
def fnSharesSpec : ChangeSpec := { name := "fnShares", fn := fun _ => fun
  | [d1, d2] => { results := [.lit (.bool true)], args := [d1, d2] }
  | _ => none }
def fnSharesRow : OpenClaim := { program := "ytppgnndolgmcfaa", sum := "9d01b567d378ef04f2d635103a92b0cb99382be52808c2fa7a047b85bde764af", func := "loop.example/g00298/laws.FnShares", spec := "fnShares", named := ["math/bits.divideError", "math/bits.overflowError"], apart := false }
def FnSharesSaid : Prop := fnSharesRow.holds Try.pinned (OpenSpec.ofChange fnSharesSpec)

/-- ITS FALSE NEIGHBOUR: 'it returns false'. Refute it at one input. -/
def fnSharesWrong : ChangeSpec := { name := "fnShares", fn := fun _ => fun
  | [d1, d2] => { results := [.lit (.bool false)], args := [d1, d2] }
  | _ => none }
def FnSharesWrongFalsely : Prop := fnSharesRow.holds Try.pinned (OpenSpec.ofChange fnSharesWrong)

/-- 'laws.FnFills': WHATEVER THE INPUT: true; the input reads as it did. -/
def fnFillsSpec : ChangeSpec := { name := "fnFills", fn := fun _ => fun
  | [d1, d2] => { results := [.lit (.bool true)], args := [d1, d2] }
  | _ => none }
def fnFillsRow : OpenClaim := { program := "ytppgnndolgmcfaa", sum := "9d01b567d378ef04f2d635103a92b0cb99382be52808c2fa7a047b85bde764af", func := "loop.example/g00298/laws.FnFills", spec := "fnFills", unfollowed := true, recurses := true, named := ["math/bits.divideError", "math/bits.overflowError"], apart := false }
def FnFillsSaid : Prop := fnFillsRow.holds Try.pinned (OpenSpec.ofChange fnFillsSpec)

/-- ITS FALSE NEIGHBOUR: 'it returns false'. Refute it at one input. -/
def fnFillsWrong : ChangeSpec := { name := "fnFills", fn := fun _ => fun
  | [d1, d2] => { results := [.lit (.bool false)], args := [d1, d2] }
  | _ => none }
def FnFillsWrongFalsely : Prop := fnFillsRow.holds Try.pinned (OpenSpec.ofChange fnFillsWrong)

/-- 'laws.FnSplit': WHATEVER THE INPUT: true; the input reads as it did. -/
def fnSplitSpec : ChangeSpec := { name := "fnSplit", fn := fun _ => fun
  | [d1, d2] => { results := [.lit (.bool true)], args := [d1, d2] }
  | _ => none }
def fnSplitRow : OpenClaim := { program := "ytppgnndolgmcfaa", sum := "9d01b567d378ef04f2d635103a92b0cb99382be52808c2fa7a047b85bde764af", func := "loop.example/g00298/laws.FnSplit", spec := "fnSplit", unfollowed := true, recurses := true, named := ["math/bits.divideError", "math/bits.overflowError"], apart := false }
def FnSplitSaid : Prop := fnSplitRow.holds Try.pinned (OpenSpec.ofChange fnSplitSpec)

/-- ITS FALSE NEIGHBOUR: 'it returns false'. Refute it at one input. -/
def fnSplitWrong : ChangeSpec := { name := "fnSplit", fn := fun _ => fun
  | [d1, d2] => { results := [.lit (.bool false)], args := [d1, d2] }
  | _ => none }
def FnSplitWrongFalsely : Prop := fnSplitRow.holds Try.pinned (OpenSpec.ofChange fnSplitWrong)

/- THE SECOND FORM. 'bulk': how many values and letters a reading holds, each counted each time it is reached (what is shared counts as often as it is met; a slice's spare places count too). A statement '..UptoSaid' is the law's where the arguments, and the package variables that the reading takes, are together of bulk at most 1048576: NARROWER than '..Said'. Prove '..Said' where nothing that the law and all that it calls make is longer than what came in: it says more and counts as full. Else prove '..UptoSaid'. A law counts once. -/
mutual
def uptoBulk {H : Type} : DataW H → Nat
  | .lit (.string bytes) => bytes.length + 1
  | .lit _ => 1
  | .nil => 1
  | .ptr d => uptoBulk d + 1
  | .slice elems spare => uptoBulkAll elems + uptoBulkAll spare + 1
  | .agg parts => uptoBulkAll parts + 1
  | .iface _ d => uptoBulk d + 1
  | .map entries => uptoBulkEntries entries + 1
  | .held _ => 1
def uptoBulkAll {H : Type} : List (DataW H) → Nat
  | [] => 0
  | d :: r => uptoBulk d + uptoBulkAll r
def uptoBulkEntries {H : Type} : List (Lit × DataW H) → Nat
  | [] => 0
  | x :: r => uptoBulkEntry x + uptoBulkEntries r
def uptoBulkEntry {H : Type} : Lit × DataW H → Nat
  | (.string bytes, d) => bytes.length + uptoBulk d + 1
  | (_, d) => uptoBulk d + 1
 end
def uptoSmall : (H : Type) → List (DataW H) → Bool := fun _ ds => decide (uptoBulkAll ds ≤ 1048576)
def OpenSpec.upto (s : _root_.Go.ChangeSpec) : _root_.Go.OpenSpec := { _root_.Go.OpenSpec.ofChange s with cond := some uptoSmall }

/-- 'laws.FnExactPoolOK', WHERE WHAT IT READS IS OF BULK AT MOST 1048576: true; the input reads as it did. -/
def fnExactPoolOKUptoRow : OpenClaim := { program := "ytppgnndolgmcfaa", sum := "9d01b567d378ef04f2d635103a92b0cb99382be52808c2fa7a047b85bde764af", func := "loop.example/g00298/laws.FnExactPoolOK", spec := "fnExactPoolOK", apart := false, narrowed := true }
def FnExactPoolOKUptoSaid : Prop := fnExactPoolOKUptoRow.holds Try.pinned (OpenSpec.upto fnExactPoolOKSpec)

/-- 'laws.FnExactVoucherOf', WHERE WHAT IT READS IS OF BULK AT MOST 1048576: true; the input reads as it did. -/
def fnExactVoucherOfUptoRow : OpenClaim := { program := "ytppgnndolgmcfaa", sum := "9d01b567d378ef04f2d635103a92b0cb99382be52808c2fa7a047b85bde764af", func := "loop.example/g00298/laws.FnExactVoucherOf", spec := "fnExactVoucherOf", unfollowed := true, recurses := true, apart := false, narrowed := true }
def FnExactVoucherOfUptoSaid : Prop := fnExactVoucherOfUptoRow.holds Try.pinned (OpenSpec.upto fnExactVoucherOfSpec)

/-- 'laws.FnExactOrderOK', WHERE WHAT IT READS IS OF BULK AT MOST 1048576: true; the input reads as it did. -/
def fnExactOrderOKUptoRow : OpenClaim := { program := "ytppgnndolgmcfaa", sum := "9d01b567d378ef04f2d635103a92b0cb99382be52808c2fa7a047b85bde764af", func := "loop.example/g00298/laws.FnExactOrderOK", spec := "fnExactOrderOK", unfollowed := true, recurses := true, apart := false, narrowed := true }
def FnExactOrderOKUptoSaid : Prop := fnExactOrderOKUptoRow.holds Try.pinned (OpenSpec.upto fnExactOrderOKSpec)

/-- 'laws.FnExactQuoteSwap', WHERE WHAT IT READS IS OF BULK AT MOST 1048576: true; the input reads as it did. -/
def fnExactQuoteSwapUptoRow : OpenClaim := { program := "ytppgnndolgmcfaa", sum := "9d01b567d378ef04f2d635103a92b0cb99382be52808c2fa7a047b85bde764af", func := "loop.example/g00298/laws.FnExactQuoteSwap", spec := "fnExactQuoteSwap", named := ["math/bits.divideError", "math/bits.overflowError"], apart := false, narrowed := true }
def FnExactQuoteSwapUptoSaid : Prop := fnExactQuoteSwapUptoRow.holds Try.pinned (OpenSpec.upto fnExactQuoteSwapSpec)

/-- 'laws.FnSwaps', WHERE WHAT IT READS IS OF BULK AT MOST 1048576: true; the input reads as it did. -/
def fnSwapsUptoRow : OpenClaim := { program := "ytppgnndolgmcfaa", sum := "9d01b567d378ef04f2d635103a92b0cb99382be52808c2fa7a047b85bde764af", func := "loop.example/g00298/laws.FnSwaps", spec := "fnSwaps", named := ["math/bits.divideError", "math/bits.overflowError"], apart := false, narrowed := true }
def FnSwapsUptoSaid : Prop := fnSwapsUptoRow.holds Try.pinned (OpenSpec.upto fnSwapsSpec)

/-- 'laws.FnExactQuoteRemove', WHERE WHAT IT READS IS OF BULK AT MOST 1048576: true; the input reads as it did. -/
def fnExactQuoteRemoveUptoRow : OpenClaim := { program := "ytppgnndolgmcfaa", sum := "9d01b567d378ef04f2d635103a92b0cb99382be52808c2fa7a047b85bde764af", func := "loop.example/g00298/laws.FnExactQuoteRemove", spec := "fnExactQuoteRemove", named := ["math/bits.divideError", "math/bits.overflowError"], apart := false, narrowed := true }
def FnExactQuoteRemoveUptoSaid : Prop := fnExactQuoteRemoveUptoRow.holds Try.pinned (OpenSpec.upto fnExactQuoteRemoveSpec)

/-- 'laws.FnExactQuoteAdd', WHERE WHAT IT READS IS OF BULK AT MOST 1048576: true; the input reads as it did. -/
def fnExactQuoteAddUptoRow : OpenClaim := { program := "ytppgnndolgmcfaa", sum := "9d01b567d378ef04f2d635103a92b0cb99382be52808c2fa7a047b85bde764af", func := "loop.example/g00298/laws.FnExactQuoteAdd", spec := "fnExactQuoteAdd", named := ["math/bits.divideError", "math/bits.overflowError"], apart := false, narrowed := true }
def FnExactQuoteAddUptoSaid : Prop := fnExactQuoteAddUptoRow.holds Try.pinned (OpenSpec.upto fnExactQuoteAddSpec)

/-- 'laws.FnExactFillOf', WHERE WHAT IT READS IS OF BULK AT MOST 1048576: true; the input reads as it did. -/
def fnExactFillOfUptoRow : OpenClaim := { program := "ytppgnndolgmcfaa", sum := "9d01b567d378ef04f2d635103a92b0cb99382be52808c2fa7a047b85bde764af", func := "loop.example/g00298/laws.FnExactFillOf", spec := "fnExactFillOf", unfollowed := true, recurses := true, named := ["math/bits.divideError", "math/bits.overflowError"], apart := false, narrowed := true }
def FnExactFillOfUptoSaid : Prop := fnExactFillOfUptoRow.holds Try.pinned (OpenSpec.upto fnExactFillOfSpec)

/-- 'laws.FnShares', WHERE WHAT IT READS IS OF BULK AT MOST 1048576: true; the input reads as it did. -/
def fnSharesUptoRow : OpenClaim := { program := "ytppgnndolgmcfaa", sum := "9d01b567d378ef04f2d635103a92b0cb99382be52808c2fa7a047b85bde764af", func := "loop.example/g00298/laws.FnShares", spec := "fnShares", named := ["math/bits.divideError", "math/bits.overflowError"], apart := false, narrowed := true }
def FnSharesUptoSaid : Prop := fnSharesUptoRow.holds Try.pinned (OpenSpec.upto fnSharesSpec)

/-- 'laws.FnFills', WHERE WHAT IT READS IS OF BULK AT MOST 1048576: true; the input reads as it did. -/
def fnFillsUptoRow : OpenClaim := { program := "ytppgnndolgmcfaa", sum := "9d01b567d378ef04f2d635103a92b0cb99382be52808c2fa7a047b85bde764af", func := "loop.example/g00298/laws.FnFills", spec := "fnFills", unfollowed := true, recurses := true, named := ["math/bits.divideError", "math/bits.overflowError"], apart := false, narrowed := true }
def FnFillsUptoSaid : Prop := fnFillsUptoRow.holds Try.pinned (OpenSpec.upto fnFillsSpec)

/-- 'laws.FnSplit', WHERE WHAT IT READS IS OF BULK AT MOST 1048576: true; the input reads as it did. -/
def fnSplitUptoRow : OpenClaim := { program := "ytppgnndolgmcfaa", sum := "9d01b567d378ef04f2d635103a92b0cb99382be52808c2fa7a047b85bde764af", func := "loop.example/g00298/laws.FnSplit", spec := "fnSplit", unfollowed := true, recurses := true, named := ["math/bits.divideError", "math/bits.overflowError"], apart := false, narrowed := true }
def FnSplitUptoSaid : Prop := fnSplitUptoRow.holds Try.pinned (OpenSpec.upto fnSplitSpec)

end Rows
end Go.Proofs.Ytppgnndolgmcfaa
