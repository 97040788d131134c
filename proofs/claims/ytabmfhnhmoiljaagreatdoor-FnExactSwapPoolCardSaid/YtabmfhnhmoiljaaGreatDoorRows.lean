/-
  NARROWER THAN 'FOR EVERY INPUT', by the rows' own cells (each row's printed sentence says how): FnExactSendTake: laid · FnExactDoneTake: laid · FnExactSendCoins: laid · FnExactTakeCoins: laid · FnExactDoneCoins: laid · FnExactMakeOrder: laid · FnExactCancelOrder: laid · FnExactTakeOrder: laid · FnExactRemovePool: laid · FnExactSwapPool: laid · FnExactAddPool: laid.
  DERIVED. THE GIVEN ROWS OF THIS SEAT. 11 by the template 'for every input the law returns true; each argument reads behind the call as it read before'; 0 by the template 'total and deterministic' (their statements: YtabmfhnhmoiljaaGreatDoorTotals.lean).
  GIVEN WITH THE SEED: the statements are not yours to turn. If you find one false, say at which input.
  Laid BY PROGRAM, IN A SANDBOX (cutbox-rows.mjs): the forced cells as the released guide's own fill.sh prints them over the translation 9f2f1e8799c0626a… (all of the seat's roots in one cut). By AI agents, Wed Nov 11 2026. No macro, syntax, notation, axiom, sorry.
-/
import Derived.Test.YtabmfhnhmoiljaaGreatDoorChecked
import GoSem.Claim
import GoSem.ClaimJoined
import GoSem.ClaimMapViews
import Derived.JoinedTies
import Derived.KernelRfl
namespace Go.Proofs.YtabmfhnhmoiljaaGreatDoor
/- THE CELL 'sum', in the pinned program and in every row, IS THE sha256 OF THE DUMP (.gsa) THAT YtabmfhnhmoiljaaGreatDoorProg.lean LOADS. Nothing in Lean hashes anything: it is a label: what it is worth is what the hold of that sum in a sandbox is worth. -/
noncomputable def Tryz.pinned : Pinned := { name := "ytabmfhnhmoiljaagreatdoor", sum := "9f2f1e8799c0626aa026b9f854af95b027d4b031c1b15f29e913c6ba8e9bb20b", checked := Tryz.checked }
namespace Rows
def none {H : Type} : Left H := { results := [], args := [] }

/- WHAT THE LISTED PACKAGE-LEVEL VARIABLES READ AS WHEN THE CALL BEGINS. Each datum BY PROGRAM (the guide's laid-datum.mjs) off the statement by which the dump's own 'gosem.cut.vars' lays the variable. In a bare row this is a premise. The card (YtabmfhnhmoiljaaGreatDoorCards.lean) ties it to the program's text. -/
def laid_math_bits_deBruijn32tab {H : Type} : DataW H := .agg [.lit (.int .u8 0), .lit (.int .u8 1), .lit (.int .u8 28), .lit (.int .u8 2), .lit (.int .u8 29), .lit (.int .u8 14), .lit (.int .u8 24), .lit (.int .u8 3), .lit (.int .u8 30), .lit (.int .u8 22), .lit (.int .u8 20), .lit (.int .u8 15), .lit (.int .u8 25), .lit (.int .u8 17), .lit (.int .u8 4), .lit (.int .u8 8), .lit (.int .u8 31), .lit (.int .u8 27), .lit (.int .u8 13), .lit (.int .u8 23), .lit (.int .u8 21), .lit (.int .u8 19), .lit (.int .u8 16), .lit (.int .u8 7), .lit (.int .u8 26), .lit (.int .u8 12), .lit (.int .u8 18), .lit (.int .u8 6), .lit (.int .u8 11), .lit (.int .u8 5), .lit (.int .u8 10), .lit (.int .u8 9)]
def laid_math_bits_deBruijn64tab {H : Type} : DataW H := .agg [.lit (.int .u8 0), .lit (.int .u8 1), .lit (.int .u8 56), .lit (.int .u8 2), .lit (.int .u8 57), .lit (.int .u8 49), .lit (.int .u8 28), .lit (.int .u8 3), .lit (.int .u8 61), .lit (.int .u8 58), .lit (.int .u8 42), .lit (.int .u8 50), .lit (.int .u8 38), .lit (.int .u8 29), .lit (.int .u8 17), .lit (.int .u8 4), .lit (.int .u8 62), .lit (.int .u8 47), .lit (.int .u8 59), .lit (.int .u8 36), .lit (.int .u8 45), .lit (.int .u8 43), .lit (.int .u8 51), .lit (.int .u8 22), .lit (.int .u8 53), .lit (.int .u8 39), .lit (.int .u8 33), .lit (.int .u8 30), .lit (.int .u8 24), .lit (.int .u8 18), .lit (.int .u8 12), .lit (.int .u8 5), .lit (.int .u8 63), .lit (.int .u8 55), .lit (.int .u8 48), .lit (.int .u8 27), .lit (.int .u8 60), .lit (.int .u8 41), .lit (.int .u8 37), .lit (.int .u8 16), .lit (.int .u8 46), .lit (.int .u8 35), .lit (.int .u8 44), .lit (.int .u8 21), .lit (.int .u8 52), .lit (.int .u8 32), .lit (.int .u8 23), .lit (.int .u8 11), .lit (.int .u8 54), .lit (.int .u8 26), .lit (.int .u8 40), .lit (.int .u8 15), .lit (.int .u8 34), .lit (.int .u8 20), .lit (.int .u8 31), .lit (.int .u8 10), .lit (.int .u8 25), .lit (.int .u8 14), .lit (.int .u8 19), .lit (.int .u8 9), .lit (.int .u8 13), .lit (.int .u8 8), .lit (.int .u8 7), .lit (.int .u8 6)]
def laid_internal_strconv_uint64pow10 {H : Type} : DataW H := .agg [.lit (.int .u64 1), .lit (.int .u64 10), .lit (.int .u64 100), .lit (.int .u64 1000), .lit (.int .u64 10000), .lit (.int .u64 100000), .lit (.int .u64 1000000), .lit (.int .u64 10000000), .lit (.int .u64 100000000), .lit (.int .u64 1000000000), .lit (.int .u64 10000000000), .lit (.int .u64 100000000000), .lit (.int .u64 1000000000000), .lit (.int .u64 10000000000000), .lit (.int .u64 100000000000000), .lit (.int .u64 1000000000000000), .lit (.int .u64 10000000000000000), .lit (.int .u64 100000000000000000), .lit (.int .u64 1000000000000000000), .lit (.int .u64 10000000000000000000)]
def laid_strconv_ErrRange {H : Type} : DataW H := .iface "*errors.errorString" (.ptr (.agg [.lit (.string [118, 97, 108, 117, 101, 32, 111, 117, 116, 32, 111, 102, 32, 114, 97, 110, 103, 101])]))
def laid_strconv_ErrSyntax {H : Type} : DataW H := .iface "*errors.errorString" (.ptr (.agg [.lit (.string [105, 110, 118, 97, 108, 105, 100, 32, 115, 121, 110, 116, 97, 120])]))

/-- 'laws.FnExactSendTake': WHATEVER THE INPUT: true; the input reads as it did. -/
def fnExactSendTakeSpec : ChangeSpec := { name := "fnExactSendTake", fn := fun _ => fun
  | [d1, d2, d3, d4, d5, d6] => { results := [.lit (.bool true)], args := [d1, d2, d3, d4, d5, d6] }
  | _ => none }
def fnExactSendTakeRow : OpenClaim := { program := "ytabmfhnhmoiljaagreatdoor", sum := "9f2f1e8799c0626aa026b9f854af95b027d4b031c1b15f29e913c6ba8e9bb20b", func := "loop.example/g00298/laws.FnExactSendTake", spec := "fnExactSendTake", inPlace := ["internal/bytealg.abigen_runtime_cmpstring", "slices.overlaps[loop.example/g00298/impl.Pair]"], unfollowed := true, recurses := true, named := ["strconv.ErrSyntax", "strconv.ErrRange", "internal/strconv.uint64pow10", "math/bits.deBruijn32tab", "math/bits.deBruijn64tab"], apart := false, laid := [("math/bits.deBruijn32tab", laid_math_bits_deBruijn32tab), ("math/bits.deBruijn64tab", laid_math_bits_deBruijn64tab), ("internal/strconv.uint64pow10", laid_internal_strconv_uint64pow10), ("strconv.ErrRange", laid_strconv_ErrRange), ("strconv.ErrSyntax", laid_strconv_ErrSyntax)] }
def FnExactSendTakeSaid : Prop := fnExactSendTakeRow.holds Tryz.pinned (OpenSpec.ofChange fnExactSendTakeSpec)

/-- ITS FALSE NEIGHBOUR: 'it returns false'. Refute it at one input. -/
def fnExactSendTakeWrong : ChangeSpec := { name := "fnExactSendTake", fn := fun _ => fun
  | [d1, d2, d3, d4, d5, d6] => { results := [.lit (.bool false)], args := [d1, d2, d3, d4, d5, d6] }
  | _ => none }
def FnExactSendTakeWrongFalsely : Prop := fnExactSendTakeRow.holds Tryz.pinned (OpenSpec.ofChange fnExactSendTakeWrong)

/-- 'laws.FnExactDoneTake': WHATEVER THE INPUT: true; the input reads as it did. -/
def fnExactDoneTakeSpec : ChangeSpec := { name := "fnExactDoneTake", fn := fun _ => fun
  | [d1, d2, d3, d4] => { results := [.lit (.bool true)], args := [d1, d2, d3, d4] }
  | _ => none }
def fnExactDoneTakeRow : OpenClaim := { program := "ytabmfhnhmoiljaagreatdoor", sum := "9f2f1e8799c0626aa026b9f854af95b027d4b031c1b15f29e913c6ba8e9bb20b", func := "loop.example/g00298/laws.FnExactDoneTake", spec := "fnExactDoneTake", inPlace := ["internal/bytealg.abigen_runtime_cmpstring", "slices.overlaps[loop.example/g00298/impl.Pair]"], unfollowed := true, recurses := true, named := ["strconv.ErrSyntax", "strconv.ErrRange", "internal/strconv.uint64pow10", "math/bits.deBruijn32tab", "math/bits.deBruijn64tab"], apart := false, laid := [("math/bits.deBruijn32tab", laid_math_bits_deBruijn32tab), ("math/bits.deBruijn64tab", laid_math_bits_deBruijn64tab), ("internal/strconv.uint64pow10", laid_internal_strconv_uint64pow10), ("strconv.ErrRange", laid_strconv_ErrRange), ("strconv.ErrSyntax", laid_strconv_ErrSyntax)] }
def FnExactDoneTakeSaid : Prop := fnExactDoneTakeRow.holds Tryz.pinned (OpenSpec.ofChange fnExactDoneTakeSpec)

/-- ITS FALSE NEIGHBOUR: 'it returns false'. Refute it at one input. -/
def fnExactDoneTakeWrong : ChangeSpec := { name := "fnExactDoneTake", fn := fun _ => fun
  | [d1, d2, d3, d4] => { results := [.lit (.bool false)], args := [d1, d2, d3, d4] }
  | _ => none }
def FnExactDoneTakeWrongFalsely : Prop := fnExactDoneTakeRow.holds Tryz.pinned (OpenSpec.ofChange fnExactDoneTakeWrong)

/-- 'laws.FnExactSendCoins': WHATEVER THE INPUT: true; the input reads as it did. -/
def fnExactSendCoinsSpec : ChangeSpec := { name := "fnExactSendCoins", fn := fun _ => fun
  | [d1, d2, d3, d4, d5, d6] => { results := [.lit (.bool true)], args := [d1, d2, d3, d4, d5, d6] }
  | _ => none }
def fnExactSendCoinsRow : OpenClaim := { program := "ytabmfhnhmoiljaagreatdoor", sum := "9f2f1e8799c0626aa026b9f854af95b027d4b031c1b15f29e913c6ba8e9bb20b", func := "loop.example/g00298/laws.FnExactSendCoins", spec := "fnExactSendCoins", inPlace := ["internal/bytealg.abigen_runtime_cmpstring", "slices.overlaps[loop.example/g00298/impl.Pair]"], unfollowed := true, recurses := true, named := ["strconv.ErrSyntax", "strconv.ErrRange", "internal/strconv.uint64pow10", "math/bits.deBruijn32tab", "math/bits.deBruijn64tab"], apart := false, laid := [("math/bits.deBruijn32tab", laid_math_bits_deBruijn32tab), ("math/bits.deBruijn64tab", laid_math_bits_deBruijn64tab), ("internal/strconv.uint64pow10", laid_internal_strconv_uint64pow10), ("strconv.ErrRange", laid_strconv_ErrRange), ("strconv.ErrSyntax", laid_strconv_ErrSyntax)] }
def FnExactSendCoinsSaid : Prop := fnExactSendCoinsRow.holds Tryz.pinned (OpenSpec.ofChange fnExactSendCoinsSpec)

/-- ITS FALSE NEIGHBOUR: 'it returns false'. Refute it at one input. -/
def fnExactSendCoinsWrong : ChangeSpec := { name := "fnExactSendCoins", fn := fun _ => fun
  | [d1, d2, d3, d4, d5, d6] => { results := [.lit (.bool false)], args := [d1, d2, d3, d4, d5, d6] }
  | _ => none }
def FnExactSendCoinsWrongFalsely : Prop := fnExactSendCoinsRow.holds Tryz.pinned (OpenSpec.ofChange fnExactSendCoinsWrong)

/-- 'laws.FnExactTakeCoins': WHATEVER THE INPUT: true; the input reads as it did. -/
def fnExactTakeCoinsSpec : ChangeSpec := { name := "fnExactTakeCoins", fn := fun _ => fun
  | [d1, d2, d3] => { results := [.lit (.bool true)], args := [d1, d2, d3] }
  | _ => none }
def fnExactTakeCoinsRow : OpenClaim := { program := "ytabmfhnhmoiljaagreatdoor", sum := "9f2f1e8799c0626aa026b9f854af95b027d4b031c1b15f29e913c6ba8e9bb20b", func := "loop.example/g00298/laws.FnExactTakeCoins", spec := "fnExactTakeCoins", inPlace := ["internal/bytealg.abigen_runtime_cmpstring", "slices.overlaps[loop.example/g00298/impl.Pair]"], unfollowed := true, recurses := true, named := ["strconv.ErrSyntax", "strconv.ErrRange", "internal/strconv.uint64pow10", "math/bits.deBruijn32tab", "math/bits.deBruijn64tab"], apart := false, laid := [("math/bits.deBruijn32tab", laid_math_bits_deBruijn32tab), ("math/bits.deBruijn64tab", laid_math_bits_deBruijn64tab), ("internal/strconv.uint64pow10", laid_internal_strconv_uint64pow10), ("strconv.ErrRange", laid_strconv_ErrRange), ("strconv.ErrSyntax", laid_strconv_ErrSyntax)] }
def FnExactTakeCoinsSaid : Prop := fnExactTakeCoinsRow.holds Tryz.pinned (OpenSpec.ofChange fnExactTakeCoinsSpec)

/-- ITS FALSE NEIGHBOUR: 'it returns false'. Refute it at one input. -/
def fnExactTakeCoinsWrong : ChangeSpec := { name := "fnExactTakeCoins", fn := fun _ => fun
  | [d1, d2, d3] => { results := [.lit (.bool false)], args := [d1, d2, d3] }
  | _ => none }
def FnExactTakeCoinsWrongFalsely : Prop := fnExactTakeCoinsRow.holds Tryz.pinned (OpenSpec.ofChange fnExactTakeCoinsWrong)

/-- 'laws.FnExactDoneCoins': WHATEVER THE INPUT: true; the input reads as it did. -/
def fnExactDoneCoinsSpec : ChangeSpec := { name := "fnExactDoneCoins", fn := fun _ => fun
  | [d1, d2, d3, d4] => { results := [.lit (.bool true)], args := [d1, d2, d3, d4] }
  | _ => none }
def fnExactDoneCoinsRow : OpenClaim := { program := "ytabmfhnhmoiljaagreatdoor", sum := "9f2f1e8799c0626aa026b9f854af95b027d4b031c1b15f29e913c6ba8e9bb20b", func := "loop.example/g00298/laws.FnExactDoneCoins", spec := "fnExactDoneCoins", inPlace := ["internal/bytealg.abigen_runtime_cmpstring", "slices.overlaps[loop.example/g00298/impl.Pair]"], unfollowed := true, recurses := true, named := ["strconv.ErrSyntax", "strconv.ErrRange", "internal/strconv.uint64pow10", "math/bits.deBruijn32tab", "math/bits.deBruijn64tab"], apart := false, laid := [("math/bits.deBruijn32tab", laid_math_bits_deBruijn32tab), ("math/bits.deBruijn64tab", laid_math_bits_deBruijn64tab), ("internal/strconv.uint64pow10", laid_internal_strconv_uint64pow10), ("strconv.ErrRange", laid_strconv_ErrRange), ("strconv.ErrSyntax", laid_strconv_ErrSyntax)] }
def FnExactDoneCoinsSaid : Prop := fnExactDoneCoinsRow.holds Tryz.pinned (OpenSpec.ofChange fnExactDoneCoinsSpec)

/-- ITS FALSE NEIGHBOUR: 'it returns false'. Refute it at one input. -/
def fnExactDoneCoinsWrong : ChangeSpec := { name := "fnExactDoneCoins", fn := fun _ => fun
  | [d1, d2, d3, d4] => { results := [.lit (.bool false)], args := [d1, d2, d3, d4] }
  | _ => none }
def FnExactDoneCoinsWrongFalsely : Prop := fnExactDoneCoinsRow.holds Tryz.pinned (OpenSpec.ofChange fnExactDoneCoinsWrong)

/-- 'laws.FnExactMakeOrder': WHATEVER THE INPUT: true; the input reads as it did. -/
def fnExactMakeOrderSpec : ChangeSpec := { name := "fnExactMakeOrder", fn := fun _ => fun
  | [d1, d2, d3, d4, d5, d6] => { results := [.lit (.bool true)], args := [d1, d2, d3, d4, d5, d6] }
  | _ => none }
def fnExactMakeOrderRow : OpenClaim := { program := "ytabmfhnhmoiljaagreatdoor", sum := "9f2f1e8799c0626aa026b9f854af95b027d4b031c1b15f29e913c6ba8e9bb20b", func := "loop.example/g00298/laws.FnExactMakeOrder", spec := "fnExactMakeOrder", inPlace := ["internal/bytealg.abigen_runtime_cmpstring", "slices.overlaps[loop.example/g00298/impl.Pair]"], unfollowed := true, recurses := true, named := ["strconv.ErrSyntax", "strconv.ErrRange", "internal/strconv.uint64pow10", "math/bits.deBruijn32tab", "math/bits.deBruijn64tab"], apart := false, laid := [("math/bits.deBruijn32tab", laid_math_bits_deBruijn32tab), ("math/bits.deBruijn64tab", laid_math_bits_deBruijn64tab), ("internal/strconv.uint64pow10", laid_internal_strconv_uint64pow10), ("strconv.ErrRange", laid_strconv_ErrRange), ("strconv.ErrSyntax", laid_strconv_ErrSyntax)] }
def FnExactMakeOrderSaid : Prop := fnExactMakeOrderRow.holds Tryz.pinned (OpenSpec.ofChange fnExactMakeOrderSpec)

/-- ITS FALSE NEIGHBOUR: 'it returns false'. Refute it at one input. -/
def fnExactMakeOrderWrong : ChangeSpec := { name := "fnExactMakeOrder", fn := fun _ => fun
  | [d1, d2, d3, d4, d5, d6] => { results := [.lit (.bool false)], args := [d1, d2, d3, d4, d5, d6] }
  | _ => none }
def FnExactMakeOrderWrongFalsely : Prop := fnExactMakeOrderRow.holds Tryz.pinned (OpenSpec.ofChange fnExactMakeOrderWrong)

/-- 'laws.FnExactCancelOrder': WHATEVER THE INPUT: true; the input reads as it did. -/
def fnExactCancelOrderSpec : ChangeSpec := { name := "fnExactCancelOrder", fn := fun _ => fun
  | [d1, d2, d3, d4] => { results := [.lit (.bool true)], args := [d1, d2, d3, d4] }
  | _ => none }
def fnExactCancelOrderRow : OpenClaim := { program := "ytabmfhnhmoiljaagreatdoor", sum := "9f2f1e8799c0626aa026b9f854af95b027d4b031c1b15f29e913c6ba8e9bb20b", func := "loop.example/g00298/laws.FnExactCancelOrder", spec := "fnExactCancelOrder", inPlace := ["internal/bytealg.abigen_runtime_cmpstring", "slices.overlaps[loop.example/g00298/impl.Pair]"], unfollowed := true, recurses := true, named := ["strconv.ErrSyntax", "strconv.ErrRange", "internal/strconv.uint64pow10", "math/bits.deBruijn32tab", "math/bits.deBruijn64tab"], apart := false, laid := [("math/bits.deBruijn32tab", laid_math_bits_deBruijn32tab), ("math/bits.deBruijn64tab", laid_math_bits_deBruijn64tab), ("internal/strconv.uint64pow10", laid_internal_strconv_uint64pow10), ("strconv.ErrRange", laid_strconv_ErrRange), ("strconv.ErrSyntax", laid_strconv_ErrSyntax)] }
def FnExactCancelOrderSaid : Prop := fnExactCancelOrderRow.holds Tryz.pinned (OpenSpec.ofChange fnExactCancelOrderSpec)

/-- ITS FALSE NEIGHBOUR: 'it returns false'. Refute it at one input. -/
def fnExactCancelOrderWrong : ChangeSpec := { name := "fnExactCancelOrder", fn := fun _ => fun
  | [d1, d2, d3, d4] => { results := [.lit (.bool false)], args := [d1, d2, d3, d4] }
  | _ => none }
def FnExactCancelOrderWrongFalsely : Prop := fnExactCancelOrderRow.holds Tryz.pinned (OpenSpec.ofChange fnExactCancelOrderWrong)

/-- 'laws.FnExactTakeOrder': WHATEVER THE INPUT: true; the input reads as it did. -/
def fnExactTakeOrderSpec : ChangeSpec := { name := "fnExactTakeOrder", fn := fun _ => fun
  | [d1, d2, d3] => { results := [.lit (.bool true)], args := [d1, d2, d3] }
  | _ => none }
def fnExactTakeOrderRow : OpenClaim := { program := "ytabmfhnhmoiljaagreatdoor", sum := "9f2f1e8799c0626aa026b9f854af95b027d4b031c1b15f29e913c6ba8e9bb20b", func := "loop.example/g00298/laws.FnExactTakeOrder", spec := "fnExactTakeOrder", inPlace := ["internal/bytealg.abigen_runtime_cmpstring", "slices.overlaps[loop.example/g00298/impl.Pair]"], unfollowed := true, recurses := true, named := ["strconv.ErrSyntax", "strconv.ErrRange", "internal/strconv.uint64pow10", "math/bits.deBruijn32tab", "math/bits.deBruijn64tab", "math/bits.divideError", "math/bits.overflowError"], apart := false, laid := [("math/bits.deBruijn32tab", laid_math_bits_deBruijn32tab), ("math/bits.deBruijn64tab", laid_math_bits_deBruijn64tab), ("internal/strconv.uint64pow10", laid_internal_strconv_uint64pow10), ("strconv.ErrRange", laid_strconv_ErrRange), ("strconv.ErrSyntax", laid_strconv_ErrSyntax)] }
def FnExactTakeOrderSaid : Prop := fnExactTakeOrderRow.holds Tryz.pinned (OpenSpec.ofChange fnExactTakeOrderSpec)

/-- ITS FALSE NEIGHBOUR: 'it returns false'. Refute it at one input. -/
def fnExactTakeOrderWrong : ChangeSpec := { name := "fnExactTakeOrder", fn := fun _ => fun
  | [d1, d2, d3] => { results := [.lit (.bool false)], args := [d1, d2, d3] }
  | _ => none }
def FnExactTakeOrderWrongFalsely : Prop := fnExactTakeOrderRow.holds Tryz.pinned (OpenSpec.ofChange fnExactTakeOrderWrong)

/-- 'laws.FnExactRemovePool': WHATEVER THE INPUT: true; the input reads as it did. -/
def fnExactRemovePoolSpec : ChangeSpec := { name := "fnExactRemovePool", fn := fun _ => fun
  | [d1, d2, d3, d4] => { results := [.lit (.bool true)], args := [d1, d2, d3, d4] }
  | _ => none }
def fnExactRemovePoolRow : OpenClaim := { program := "ytabmfhnhmoiljaagreatdoor", sum := "9f2f1e8799c0626aa026b9f854af95b027d4b031c1b15f29e913c6ba8e9bb20b", func := "loop.example/g00298/laws.FnExactRemovePool", spec := "fnExactRemovePool", inPlace := ["internal/bytealg.abigen_runtime_cmpstring", "slices.overlaps[loop.example/g00298/impl.Pair]"], unfollowed := true, recurses := true, named := ["strconv.ErrSyntax", "strconv.ErrRange", "internal/strconv.uint64pow10", "math/bits.deBruijn32tab", "math/bits.deBruijn64tab", "math/bits.divideError", "math/bits.overflowError"], apart := false, laid := [("math/bits.deBruijn32tab", laid_math_bits_deBruijn32tab), ("math/bits.deBruijn64tab", laid_math_bits_deBruijn64tab), ("internal/strconv.uint64pow10", laid_internal_strconv_uint64pow10), ("strconv.ErrRange", laid_strconv_ErrRange), ("strconv.ErrSyntax", laid_strconv_ErrSyntax)] }
def FnExactRemovePoolSaid : Prop := fnExactRemovePoolRow.holds Tryz.pinned (OpenSpec.ofChange fnExactRemovePoolSpec)

/-- ITS FALSE NEIGHBOUR: 'it returns false'. Refute it at one input. -/
def fnExactRemovePoolWrong : ChangeSpec := { name := "fnExactRemovePool", fn := fun _ => fun
  | [d1, d2, d3, d4] => { results := [.lit (.bool false)], args := [d1, d2, d3, d4] }
  | _ => none }
def FnExactRemovePoolWrongFalsely : Prop := fnExactRemovePoolRow.holds Tryz.pinned (OpenSpec.ofChange fnExactRemovePoolWrong)

/-- 'laws.FnExactSwapPool': WHATEVER THE INPUT: true; the input reads as it did. -/
def fnExactSwapPoolSpec : ChangeSpec := { name := "fnExactSwapPool", fn := fun _ => fun
  | [d1, d2, d3, d4, d5, d6] => { results := [.lit (.bool true)], args := [d1, d2, d3, d4, d5, d6] }
  | _ => none }
def fnExactSwapPoolRow : OpenClaim := { program := "ytabmfhnhmoiljaagreatdoor", sum := "9f2f1e8799c0626aa026b9f854af95b027d4b031c1b15f29e913c6ba8e9bb20b", func := "loop.example/g00298/laws.FnExactSwapPool", spec := "fnExactSwapPool", inPlace := ["internal/bytealg.abigen_runtime_cmpstring", "slices.overlaps[loop.example/g00298/impl.Pair]"], unfollowed := true, recurses := true, named := ["strconv.ErrSyntax", "strconv.ErrRange", "internal/strconv.uint64pow10", "math/bits.deBruijn32tab", "math/bits.deBruijn64tab", "math/bits.divideError", "math/bits.overflowError"], apart := false, laid := [("math/bits.deBruijn32tab", laid_math_bits_deBruijn32tab), ("math/bits.deBruijn64tab", laid_math_bits_deBruijn64tab), ("internal/strconv.uint64pow10", laid_internal_strconv_uint64pow10), ("strconv.ErrRange", laid_strconv_ErrRange), ("strconv.ErrSyntax", laid_strconv_ErrSyntax)] }
def FnExactSwapPoolSaid : Prop := fnExactSwapPoolRow.holds Tryz.pinned (OpenSpec.ofChange fnExactSwapPoolSpec)

/-- ITS FALSE NEIGHBOUR: 'it returns false'. Refute it at one input. -/
def fnExactSwapPoolWrong : ChangeSpec := { name := "fnExactSwapPool", fn := fun _ => fun
  | [d1, d2, d3, d4, d5, d6] => { results := [.lit (.bool false)], args := [d1, d2, d3, d4, d5, d6] }
  | _ => none }
def FnExactSwapPoolWrongFalsely : Prop := fnExactSwapPoolRow.holds Tryz.pinned (OpenSpec.ofChange fnExactSwapPoolWrong)

/-- 'laws.FnExactAddPool': WHATEVER THE INPUT: true; the input reads as it did. -/
def fnExactAddPoolSpec : ChangeSpec := { name := "fnExactAddPool", fn := fun _ => fun
  | [d1, d2, d3, d4, d5, d6] => { results := [.lit (.bool true)], args := [d1, d2, d3, d4, d5, d6] }
  | _ => none }
def fnExactAddPoolRow : OpenClaim := { program := "ytabmfhnhmoiljaagreatdoor", sum := "9f2f1e8799c0626aa026b9f854af95b027d4b031c1b15f29e913c6ba8e9bb20b", func := "loop.example/g00298/laws.FnExactAddPool", spec := "fnExactAddPool", inPlace := ["internal/bytealg.abigen_runtime_cmpstring", "slices.overlaps[loop.example/g00298/impl.Pair]"], unfollowed := true, recurses := true, named := ["strconv.ErrSyntax", "strconv.ErrRange", "internal/strconv.uint64pow10", "math/bits.deBruijn32tab", "math/bits.deBruijn64tab", "math/bits.divideError", "math/bits.overflowError"], apart := false, laid := [("math/bits.deBruijn32tab", laid_math_bits_deBruijn32tab), ("math/bits.deBruijn64tab", laid_math_bits_deBruijn64tab), ("internal/strconv.uint64pow10", laid_internal_strconv_uint64pow10), ("strconv.ErrRange", laid_strconv_ErrRange), ("strconv.ErrSyntax", laid_strconv_ErrSyntax)] }
def FnExactAddPoolSaid : Prop := fnExactAddPoolRow.holds Tryz.pinned (OpenSpec.ofChange fnExactAddPoolSpec)

/-- ITS FALSE NEIGHBOUR: 'it returns false'. Refute it at one input. -/
def fnExactAddPoolWrong : ChangeSpec := { name := "fnExactAddPool", fn := fun _ => fun
  | [d1, d2, d3, d4, d5, d6] => { results := [.lit (.bool false)], args := [d1, d2, d3, d4, d5, d6] }
  | _ => none }
def FnExactAddPoolWrongFalsely : Prop := fnExactAddPoolRow.holds Tryz.pinned (OpenSpec.ofChange fnExactAddPoolWrong)

/- THE SECOND FORM. 'bulk': how many values and letters a reading holds, each counted each time it is reached (what is shared counts as often as it is met; a slice's spare places count too). A statement '..UptoSaid' is the law's where the arguments, and the package variables that the reading takes, are together of bulk at most 1048576: NARROWER than '..Said'. Prove '..Said' where nothing that the law and all that it calls make is longer than what came in: it says more and counts as full. Else prove '..UptoSaid'. A law counts once. -/
mutual
def uptoBulk {H : Type} : DataW H → Nat
  | .lit (.string bytes) => bytes.length + 1
  | .lit _ => 1
  | .nil => 1
  | .ptr d => uptoBulk d + 1
  | .slice elems spare => uptoBulkAll elems + uptoBulkAll spare + 1
  | .agg parts => uptoBulkAll parts + 1
  | .iface _ d => uptoBulk d + 1
  | .map entries => uptoBulkEntries entries + 1
  | .held _ => 1
def uptoBulkAll {H : Type} : List (DataW H) → Nat
  | [] => 0
  | d :: r => uptoBulk d + uptoBulkAll r
def uptoBulkEntries {H : Type} : List (Lit × DataW H) → Nat
  | [] => 0
  | x :: r => uptoBulkEntry x + uptoBulkEntries r
def uptoBulkEntry {H : Type} : Lit × DataW H → Nat
  | (.string bytes, d) => bytes.length + uptoBulk d + 1
  | (_, d) => uptoBulk d + 1
 end
def uptoSmall : (H : Type) → List (DataW H) → Bool := fun _ ds => decide (uptoBulkAll ds ≤ 1048576)
def OpenSpec.upto (s : _root_.Go.ChangeSpec) : _root_.Go.OpenSpec := { _root_.Go.OpenSpec.ofChange s with cond := some uptoSmall }

/-- 'laws.FnExactSendTake', WHERE WHAT IT READS IS OF BULK AT MOST 1048576: true; the input reads as it did. -/
def fnExactSendTakeUptoRow : OpenClaim := { program := "ytabmfhnhmoiljaagreatdoor", sum := "9f2f1e8799c0626aa026b9f854af95b027d4b031c1b15f29e913c6ba8e9bb20b", func := "loop.example/g00298/laws.FnExactSendTake", spec := "fnExactSendTake", inPlace := ["internal/bytealg.abigen_runtime_cmpstring", "slices.overlaps[loop.example/g00298/impl.Pair]"], unfollowed := true, recurses := true, named := ["strconv.ErrSyntax", "strconv.ErrRange", "internal/strconv.uint64pow10", "math/bits.deBruijn32tab", "math/bits.deBruijn64tab"], apart := false, laid := [("math/bits.deBruijn32tab", laid_math_bits_deBruijn32tab), ("math/bits.deBruijn64tab", laid_math_bits_deBruijn64tab), ("internal/strconv.uint64pow10", laid_internal_strconv_uint64pow10), ("strconv.ErrRange", laid_strconv_ErrRange), ("strconv.ErrSyntax", laid_strconv_ErrSyntax)], narrowed := true }
def FnExactSendTakeUptoSaid : Prop := fnExactSendTakeUptoRow.holds Tryz.pinned (OpenSpec.upto fnExactSendTakeSpec)

/-- 'laws.FnExactDoneTake', WHERE WHAT IT READS IS OF BULK AT MOST 1048576: true; the input reads as it did. -/
def fnExactDoneTakeUptoRow : OpenClaim := { program := "ytabmfhnhmoiljaagreatdoor", sum := "9f2f1e8799c0626aa026b9f854af95b027d4b031c1b15f29e913c6ba8e9bb20b", func := "loop.example/g00298/laws.FnExactDoneTake", spec := "fnExactDoneTake", inPlace := ["internal/bytealg.abigen_runtime_cmpstring", "slices.overlaps[loop.example/g00298/impl.Pair]"], unfollowed := true, recurses := true, named := ["strconv.ErrSyntax", "strconv.ErrRange", "internal/strconv.uint64pow10", "math/bits.deBruijn32tab", "math/bits.deBruijn64tab"], apart := false, laid := [("math/bits.deBruijn32tab", laid_math_bits_deBruijn32tab), ("math/bits.deBruijn64tab", laid_math_bits_deBruijn64tab), ("internal/strconv.uint64pow10", laid_internal_strconv_uint64pow10), ("strconv.ErrRange", laid_strconv_ErrRange), ("strconv.ErrSyntax", laid_strconv_ErrSyntax)], narrowed := true }
def FnExactDoneTakeUptoSaid : Prop := fnExactDoneTakeUptoRow.holds Tryz.pinned (OpenSpec.upto fnExactDoneTakeSpec)

/-- 'laws.FnExactSendCoins', WHERE WHAT IT READS IS OF BULK AT MOST 1048576: true; the input reads as it did. -/
def fnExactSendCoinsUptoRow : OpenClaim := { program := "ytabmfhnhmoiljaagreatdoor", sum := "9f2f1e8799c0626aa026b9f854af95b027d4b031c1b15f29e913c6ba8e9bb20b", func := "loop.example/g00298/laws.FnExactSendCoins", spec := "fnExactSendCoins", inPlace := ["internal/bytealg.abigen_runtime_cmpstring", "slices.overlaps[loop.example/g00298/impl.Pair]"], unfollowed := true, recurses := true, named := ["strconv.ErrSyntax", "strconv.ErrRange", "internal/strconv.uint64pow10", "math/bits.deBruijn32tab", "math/bits.deBruijn64tab"], apart := false, laid := [("math/bits.deBruijn32tab", laid_math_bits_deBruijn32tab), ("math/bits.deBruijn64tab", laid_math_bits_deBruijn64tab), ("internal/strconv.uint64pow10", laid_internal_strconv_uint64pow10), ("strconv.ErrRange", laid_strconv_ErrRange), ("strconv.ErrSyntax", laid_strconv_ErrSyntax)], narrowed := true }
def FnExactSendCoinsUptoSaid : Prop := fnExactSendCoinsUptoRow.holds Tryz.pinned (OpenSpec.upto fnExactSendCoinsSpec)

/-- 'laws.FnExactTakeCoins', WHERE WHAT IT READS IS OF BULK AT MOST 1048576: true; the input reads as it did. -/
def fnExactTakeCoinsUptoRow : OpenClaim := { program := "ytabmfhnhmoiljaagreatdoor", sum := "9f2f1e8799c0626aa026b9f854af95b027d4b031c1b15f29e913c6ba8e9bb20b", func := "loop.example/g00298/laws.FnExactTakeCoins", spec := "fnExactTakeCoins", inPlace := ["internal/bytealg.abigen_runtime_cmpstring", "slices.overlaps[loop.example/g00298/impl.Pair]"], unfollowed := true, recurses := true, named := ["strconv.ErrSyntax", "strconv.ErrRange", "internal/strconv.uint64pow10", "math/bits.deBruijn32tab", "math/bits.deBruijn64tab"], apart := false, laid := [("math/bits.deBruijn32tab", laid_math_bits_deBruijn32tab), ("math/bits.deBruijn64tab", laid_math_bits_deBruijn64tab), ("internal/strconv.uint64pow10", laid_internal_strconv_uint64pow10), ("strconv.ErrRange", laid_strconv_ErrRange), ("strconv.ErrSyntax", laid_strconv_ErrSyntax)], narrowed := true }
def FnExactTakeCoinsUptoSaid : Prop := fnExactTakeCoinsUptoRow.holds Tryz.pinned (OpenSpec.upto fnExactTakeCoinsSpec)

/-- 'laws.FnExactDoneCoins', WHERE WHAT IT READS IS OF BULK AT MOST 1048576: true; the input reads as it did. -/
def fnExactDoneCoinsUptoRow : OpenClaim := { program := "ytabmfhnhmoiljaagreatdoor", sum := "9f2f1e8799c0626aa026b9f854af95b027d4b031c1b15f29e913c6ba8e9bb20b", func := "loop.example/g00298/laws.FnExactDoneCoins", spec := "fnExactDoneCoins", inPlace := ["internal/bytealg.abigen_runtime_cmpstring", "slices.overlaps[loop.example/g00298/impl.Pair]"], unfollowed := true, recurses := true, named := ["strconv.ErrSyntax", "strconv.ErrRange", "internal/strconv.uint64pow10", "math/bits.deBruijn32tab", "math/bits.deBruijn64tab"], apart := false, laid := [("math/bits.deBruijn32tab", laid_math_bits_deBruijn32tab), ("math/bits.deBruijn64tab", laid_math_bits_deBruijn64tab), ("internal/strconv.uint64pow10", laid_internal_strconv_uint64pow10), ("strconv.ErrRange", laid_strconv_ErrRange), ("strconv.ErrSyntax", laid_strconv_ErrSyntax)], narrowed := true }
def FnExactDoneCoinsUptoSaid : Prop := fnExactDoneCoinsUptoRow.holds Tryz.pinned (OpenSpec.upto fnExactDoneCoinsSpec)

/-- 'laws.FnExactMakeOrder', WHERE WHAT IT READS IS OF BULK AT MOST 1048576: true; the input reads as it did. -/
def fnExactMakeOrderUptoRow : OpenClaim := { program := "ytabmfhnhmoiljaagreatdoor", sum := "9f2f1e8799c0626aa026b9f854af95b027d4b031c1b15f29e913c6ba8e9bb20b", func := "loop.example/g00298/laws.FnExactMakeOrder", spec := "fnExactMakeOrder", inPlace := ["internal/bytealg.abigen_runtime_cmpstring", "slices.overlaps[loop.example/g00298/impl.Pair]"], unfollowed := true, recurses := true, named := ["strconv.ErrSyntax", "strconv.ErrRange", "internal/strconv.uint64pow10", "math/bits.deBruijn32tab", "math/bits.deBruijn64tab"], apart := false, laid := [("math/bits.deBruijn32tab", laid_math_bits_deBruijn32tab), ("math/bits.deBruijn64tab", laid_math_bits_deBruijn64tab), ("internal/strconv.uint64pow10", laid_internal_strconv_uint64pow10), ("strconv.ErrRange", laid_strconv_ErrRange), ("strconv.ErrSyntax", laid_strconv_ErrSyntax)], narrowed := true }
def FnExactMakeOrderUptoSaid : Prop := fnExactMakeOrderUptoRow.holds Tryz.pinned (OpenSpec.upto fnExactMakeOrderSpec)

/-- 'laws.FnExactCancelOrder', WHERE WHAT IT READS IS OF BULK AT MOST 1048576: true; the input reads as it did. -/
def fnExactCancelOrderUptoRow : OpenClaim := { program := "ytabmfhnhmoiljaagreatdoor", sum := "9f2f1e8799c0626aa026b9f854af95b027d4b031c1b15f29e913c6ba8e9bb20b", func := "loop.example/g00298/laws.FnExactCancelOrder", spec := "fnExactCancelOrder", inPlace := ["internal/bytealg.abigen_runtime_cmpstring", "slices.overlaps[loop.example/g00298/impl.Pair]"], unfollowed := true, recurses := true, named := ["strconv.ErrSyntax", "strconv.ErrRange", "internal/strconv.uint64pow10", "math/bits.deBruijn32tab", "math/bits.deBruijn64tab"], apart := false, laid := [("math/bits.deBruijn32tab", laid_math_bits_deBruijn32tab), ("math/bits.deBruijn64tab", laid_math_bits_deBruijn64tab), ("internal/strconv.uint64pow10", laid_internal_strconv_uint64pow10), ("strconv.ErrRange", laid_strconv_ErrRange), ("strconv.ErrSyntax", laid_strconv_ErrSyntax)], narrowed := true }
def FnExactCancelOrderUptoSaid : Prop := fnExactCancelOrderUptoRow.holds Tryz.pinned (OpenSpec.upto fnExactCancelOrderSpec)

/-- 'laws.FnExactTakeOrder', WHERE WHAT IT READS IS OF BULK AT MOST 1048576: true; the input reads as it did. -/
def fnExactTakeOrderUptoRow : OpenClaim := { program := "ytabmfhnhmoiljaagreatdoor", sum := "9f2f1e8799c0626aa026b9f854af95b027d4b031c1b15f29e913c6ba8e9bb20b", func := "loop.example/g00298/laws.FnExactTakeOrder", spec := "fnExactTakeOrder", inPlace := ["internal/bytealg.abigen_runtime_cmpstring", "slices.overlaps[loop.example/g00298/impl.Pair]"], unfollowed := true, recurses := true, named := ["strconv.ErrSyntax", "strconv.ErrRange", "internal/strconv.uint64pow10", "math/bits.deBruijn32tab", "math/bits.deBruijn64tab", "math/bits.divideError", "math/bits.overflowError"], apart := false, laid := [("math/bits.deBruijn32tab", laid_math_bits_deBruijn32tab), ("math/bits.deBruijn64tab", laid_math_bits_deBruijn64tab), ("internal/strconv.uint64pow10", laid_internal_strconv_uint64pow10), ("strconv.ErrRange", laid_strconv_ErrRange), ("strconv.ErrSyntax", laid_strconv_ErrSyntax)], narrowed := true }
def FnExactTakeOrderUptoSaid : Prop := fnExactTakeOrderUptoRow.holds Tryz.pinned (OpenSpec.upto fnExactTakeOrderSpec)

/-- 'laws.FnExactRemovePool', WHERE WHAT IT READS IS OF BULK AT MOST 1048576: true; the input reads as it did. -/
def fnExactRemovePoolUptoRow : OpenClaim := { program := "ytabmfhnhmoiljaagreatdoor", sum := "9f2f1e8799c0626aa026b9f854af95b027d4b031c1b15f29e913c6ba8e9bb20b", func := "loop.example/g00298/laws.FnExactRemovePool", spec := "fnExactRemovePool", inPlace := ["internal/bytealg.abigen_runtime_cmpstring", "slices.overlaps[loop.example/g00298/impl.Pair]"], unfollowed := true, recurses := true, named := ["strconv.ErrSyntax", "strconv.ErrRange", "internal/strconv.uint64pow10", "math/bits.deBruijn32tab", "math/bits.deBruijn64tab", "math/bits.divideError", "math/bits.overflowError"], apart := false, laid := [("math/bits.deBruijn32tab", laid_math_bits_deBruijn32tab), ("math/bits.deBruijn64tab", laid_math_bits_deBruijn64tab), ("internal/strconv.uint64pow10", laid_internal_strconv_uint64pow10), ("strconv.ErrRange", laid_strconv_ErrRange), ("strconv.ErrSyntax", laid_strconv_ErrSyntax)], narrowed := true }
def FnExactRemovePoolUptoSaid : Prop := fnExactRemovePoolUptoRow.holds Tryz.pinned (OpenSpec.upto fnExactRemovePoolSpec)

/-- 'laws.FnExactSwapPool', WHERE WHAT IT READS IS OF BULK AT MOST 1048576: true; the input reads as it did. -/
def fnExactSwapPoolUptoRow : OpenClaim := { program := "ytabmfhnhmoiljaagreatdoor", sum := "9f2f1e8799c0626aa026b9f854af95b027d4b031c1b15f29e913c6ba8e9bb20b", func := "loop.example/g00298/laws.FnExactSwapPool", spec := "fnExactSwapPool", inPlace := ["internal/bytealg.abigen_runtime_cmpstring", "slices.overlaps[loop.example/g00298/impl.Pair]"], unfollowed := true, recurses := true, named := ["strconv.ErrSyntax", "strconv.ErrRange", "internal/strconv.uint64pow10", "math/bits.deBruijn32tab", "math/bits.deBruijn64tab", "math/bits.divideError", "math/bits.overflowError"], apart := false, laid := [("math/bits.deBruijn32tab", laid_math_bits_deBruijn32tab), ("math/bits.deBruijn64tab", laid_math_bits_deBruijn64tab), ("internal/strconv.uint64pow10", laid_internal_strconv_uint64pow10), ("strconv.ErrRange", laid_strconv_ErrRange), ("strconv.ErrSyntax", laid_strconv_ErrSyntax)], narrowed := true }
def FnExactSwapPoolUptoSaid : Prop := fnExactSwapPoolUptoRow.holds Tryz.pinned (OpenSpec.upto fnExactSwapPoolSpec)

/-- 'laws.FnExactAddPool', WHERE WHAT IT READS IS OF BULK AT MOST 1048576: true; the input reads as it did. -/
def fnExactAddPoolUptoRow : OpenClaim := { program := "ytabmfhnhmoiljaagreatdoor", sum := "9f2f1e8799c0626aa026b9f854af95b027d4b031c1b15f29e913c6ba8e9bb20b", func := "loop.example/g00298/laws.FnExactAddPool", spec := "fnExactAddPool", inPlace := ["internal/bytealg.abigen_runtime_cmpstring", "slices.overlaps[loop.example/g00298/impl.Pair]"], unfollowed := true, recurses := true, named := ["strconv.ErrSyntax", "strconv.ErrRange", "internal/strconv.uint64pow10", "math/bits.deBruijn32tab", "math/bits.deBruijn64tab", "math/bits.divideError", "math/bits.overflowError"], apart := false, laid := [("math/bits.deBruijn32tab", laid_math_bits_deBruijn32tab), ("math/bits.deBruijn64tab", laid_math_bits_deBruijn64tab), ("internal/strconv.uint64pow10", laid_internal_strconv_uint64pow10), ("strconv.ErrRange", laid_strconv_ErrRange), ("strconv.ErrSyntax", laid_strconv_ErrSyntax)], narrowed := true }
def FnExactAddPoolUptoSaid : Prop := fnExactAddPoolUptoRow.holds Tryz.pinned (OpenSpec.upto fnExactAddPoolSpec)

end Rows
end Go.Proofs.YtabmfhnhmoiljaaGreatDoor
