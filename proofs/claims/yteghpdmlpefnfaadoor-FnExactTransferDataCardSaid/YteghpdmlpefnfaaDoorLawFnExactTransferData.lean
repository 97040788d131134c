-- written by wip/rowlaid.py, a program of this claim's author
import Derived.Test.YteghpdmlpefnfaaDoorCards
import Derived.Test.YteghpdmlpefnfaaDoorTie
import Derived.Test.YteghpdmlpefnfaaDoorM1
import Derived.WalkKit
import Derived.ProofKit
import Derived.OpenShut
import Derived.ShutString
import Derived.ChangeOld
import Derived.Below
import Derived.SizedLaws
import Derived.Deep.DeepHandedRow
import Derived.Deep.DeepWitnessRowRef
import Derived.LaidMore
import Derived.Lib.LaidTab
import Derived.Lib.AppendIntMem
import Derived.Stop.LaidErr
namespace Go.Proofs.YteghpdmlpefnfaaDoor.fnExactTransferData
open Go Go.ChangeShapes Go.WideShapes Go.ChangeAt Go.RowKit Go.Proofs.YteghpdmlpefnfaaDoor.U Go.Proofs.YteghpdmlpefnfaaDoorW.PrintWords Go.Proofs.YteghpdmlpefnfaaDoor.Q
open Go.ChangeMaps (open_string shut_string)
set_option linter.unusedVariables false
set_option linter.unusedSimpArgs false
theorem own : ownKnob Tryd.prog.godebug = none := by kernel_rfl
theorem laidOut : laidOutB Tryd.prog = true := by kernel_rfl
theorem opens0 : Opens Tryd.prog 9 Kd.string (fun x : ByteArray => x.size ≤ maxLen) := by
  have h := (Opens.string Tryd.underlying9)
  exact h
theorem opens1 : Opens Tryd.prog 3 (Kd.int .i64) (fun x : Int => (Lit.int .i64 x).wf = true) := by
  have h := (Opens.int Tryd.underlying3)
  exact h
theorem opens2 : Opens Tryd.prog 9 Kd.string (fun x : ByteArray => x.size ≤ maxLen) := by
  have h := (Opens.string Tryd.underlying9)
  exact h
theorem opens3 : Opens Tryd.prog 9 Kd.string (fun x : ByteArray => x.size ≤ maxLen) := by
  have h := (Opens.string Tryd.underlying9)
  exact h
theorem gPow : Tryd.prog.globalNamed "internal/strconv.uint64pow10" = some 5 := by kernel_rfl
theorem gPowType : (Tryd.prog.globals[5]?).map (·.type) = some 175 := by kernel_rfl
theorem cellsT : Tryd.prog.cellsOf 175 = 20 := by kernel_rfl
theorem cellsE : Tryd.prog.cellsOf 135 = 1 := by kernel_rfl
theorem plainList : (Rows.fnExactTransferDataRow.laid.all fun x => x.2.handleName?.isNone) = true := by kernel_rfl
theorem tabs {W : World} (h : laidMetH Tryd.prog Rows.fnExactTransferDataRow.laid W) : TabsOK W := by
  rw [MakeChecks.laidMetH_plain _ _ _ plainList] at h
  have h1 : laidMet Tryd.prog (("internal/strconv.uint64pow10", Lib.tabData .u64 Lib.pow10Tab) :: Rows.fnExactTransferDataRow.laid.drop 3) W := ((h.tail).tail)
  exact Lib.tabBelow_of_tabIs (Lib.tabIs_of_head gPow gPowType Tryd.underlying175 Tryd.underlying135 cellsE cellsT h1)
-- the row
set_option maxRecDepth 100000 in
theorem contract (H : Type) (enc : TypeId × Value → H) (W : World) (base : Nat) (args : Array Value) (ds gs : List (DataW H)) (before : List MemPlace)
    (hval0 : ∀ (j : Nat) t v, Tryd.f3.params[j]? = some t → args[j]? = some v → Value.okWide Tryd.prog W .any base t v)
    (hW : DataW.Whole enc Tryd.prog Tryd.f3.params.toList Rows.fnExactTransferDataSpec.vars false W args.toList ds gs before) (hL : laidMetH Tryd.prog Rows.fnExactTransferDataRow.laid W) :
    Calls Tryd.prog 3 args W fun e W' => ∃ v, e = .returned v ∧ Rows.fnExactTransferDataSpec.post enc Tryd.prog Tryd.f3 false true false false W args v W' := by
  have hval : ∀ (j : Nat) t v, Tryd.f3.params[j]? = some t → args[j]? = some v → Value.okWide Tryd.prog W .any base t v := hval0
  have hW' := hW
  obtain ⟨p, q, hA0, hV, rfl, hfz, hnd⟩ := hW
  have hA : DataW.TrodAll enc Tryd.prog W 0 (fun _ => true) true Tryd.f3.params.toList args.toList ds p := hA0
  rw [Tryd.params3] at hA hval
  obtain ⟨v0, vs0, d0, ds0, p0, q0, hargs, rfl, rfl, h0, r0⟩ := trodAll_cons hA
  obtain ⟨v1, vs1, d1, ds1, p1, q1, rfl, rfl, rfl, h1, r1⟩ := trodAll_cons r0
  obtain ⟨v2, vs2, d2, ds2, p2, q2, rfl, rfl, rfl, h2, r2⟩ := trodAll_cons r1
  obtain ⟨v3, vs3, d3, ds3, p3, q3, rfl, rfl, rfl, h3, r3⟩ := trodAll_cons r2
  obtain ⟨rfl, rfl, rfl⟩ := trodAll_nil r3
  obtain rfl : args = #[v0, v1, v2, v3] := by cases args; simp_all
  obtain ⟨rfl, rfl⟩ := trodVars_none hV
  have k0 := h0
  have lt0 : ∀ x ∈ p0, x.block < W.heap.size := by obtain ⟨m, hm⟩ := k0; exact DataW.trod_lt m _ _ _ hm
  obtain ⟨a0, rfl⟩ := okWide_string Tryd.underlying9 (hval 0 9 v0 rfl rfl)
  obtain ⟨x0, kx0, w0⟩ : ∃ x : ByteArray, Kd.string.K W x [.string a0] ∧ x.size ≤ maxLen := by obtain ⟨m, hm⟩ := h0; exact opens0.out _ _ _ _ _ _ _ _ hm
  obtain rfl : a0 = x0 := by have e : [_] = [_] := kx0; injection e with e _; injection e
  have k1 := h1
  have lt1 : ∀ x ∈ p1, x.block < W.heap.size := by obtain ⟨m, hm⟩ := k1; exact DataW.trod_lt m _ _ _ hm
  obtain ⟨a1, rfl⟩ := okWide_int Tryd.underlying3 (hval 1 3 v1 rfl rfl)
  obtain ⟨x1, kx1, w1⟩ : ∃ x : Int, (Kd.int .i64).K W x [.int .i64 a1] ∧ (Lit.int .i64 x).wf = true := by obtain ⟨m, hm⟩ := h1; exact opens1.out _ _ _ _ _ _ _ _ hm
  obtain rfl : a1 = x1 := by have e : [_] = [_] := kx1; injection e with e _; injection e
  have k2 := h2
  have lt2 : ∀ x ∈ p2, x.block < W.heap.size := by obtain ⟨m, hm⟩ := k2; exact DataW.trod_lt m _ _ _ hm
  obtain ⟨a2, rfl⟩ := okWide_string Tryd.underlying9 (hval 2 9 v2 rfl rfl)
  obtain ⟨x2, kx2, w2⟩ : ∃ x : ByteArray, Kd.string.K W x [.string a2] ∧ x.size ≤ maxLen := by obtain ⟨m, hm⟩ := h2; exact opens2.out _ _ _ _ _ _ _ _ hm
  obtain rfl : a2 = x2 := by have e : [_] = [_] := kx2; injection e with e _; injection e
  have k3 := h3
  have lt3 : ∀ x ∈ p3, x.block < W.heap.size := by obtain ⟨m, hm⟩ := k3; exact DataW.trod_lt m _ _ _ hm
  obtain ⟨a3, rfl⟩ := okWide_string Tryd.underlying9 (hval 3 9 v3 rfl rfl)
  obtain ⟨x3, kx3, w3⟩ : ∃ x : ByteArray, Kd.string.K W x [.string a3] ∧ x.size ≤ maxLen := by obtain ⟨m, hm⟩ := h3; exact opens3.out _ _ _ _ _ _ _ _ hm
  obtain rfl : a3 = x3 := by have e : [_] = [_] := kx3; injection e with e _; injection e
  clear hA0 hval0
  obtain ⟨k, hk⟩ := Pure.FnExactTransferData a0 w0 a1 w1 a2 w2 a3 w3
  refine (laws_FnExactTransferData.calls k a0 a1 a2 a3 true W  (tabs hL) hk).mono fun e W' ⟨he, bel0⟩ => ?_
  have bel : Below W.heap.size W W' := bel0
  subst he
  exact ⟨_, rfl, _, _, _, [], _, [], hW', trodAll_mk1 (shut_bool Tryd.underlying4 _), (trodAll_cons_mk (Below.trod laidOut (by kernel_rfl) (of_decide_eq_true (by kernel_rfl)) k0 bel lt0) (trodAll_cons_mk (Below.trod laidOut (by kernel_rfl) (of_decide_eq_true (by kernel_rfl)) k1 bel lt1) (trodAll_cons_mk (Below.trod laidOut (by kernel_rfl) (of_decide_eq_true (by kernel_rfl)) k2 bel lt2) (trodAll_cons_mk (Below.trod laidOut (by kernel_rfl) (of_decide_eq_true (by kernel_rfl)) k3 bel lt3) trodAll_mk0)))), rfl, bel.frame _, fun h => by cases h⟩
noncomputable def laidWorld (os : Os) : World := World.doorLaid Tryd.prog 72 os
theorem laid_met (os : Os) : laidMetH Tryd.prog Rows.fnExactTransferDataRow.laid ((laidWorld os).forCall (fun _ _ => 0) ⟨#[], #[.string ByteArray.empty, .int .i64 0, .string ByteArray.empty, .string ByteArray.empty], []⟩).memory := by
  rw [MakeChecks.laidMetH_plain _ _ _ (by kernel_rfl)]
  exact laidMet_of_run' 8 (by kernel_rfl) (by kernel_rfl)
theorem reads (os : Os) {H : Type} (enc : TypeId × Value → H) : ∃ places, DataW.whole enc Tryd.prog ((laidWorld os).forCall (fun _ _ => 0) ⟨#[], #[.string ByteArray.empty, .int .i64 0, .string ByteArray.empty, .string ByteArray.empty], []⟩).memory Tryd.f3.params.toList Rows.fnExactTransferDataSpec.vars false (#[.string ByteArray.empty, .int .i64 0, .string ByteArray.empty, .string ByteArray.empty] : Array Value).toList 8 = some ([.lit (.string []), .lit (.int .i64 0), .lit (.string []), .lit (.string [])], [], places) :=
  ⟨[], by kernel_rfl⟩
set_option maxRecDepth 100000 in
theorem lifted (os : Os) (started : os.Started) (H : Type) (enc : TypeId × Value → H) (F : Stop.Interp) :
    ReturnsInHanded {} Tryd.checked os 3 .any ((OpenSpec.ofChange Rows.fnExactTransferDataSpec).preRow enc Tryd.prog Tryd.f3 Rows.fnExactTransferDataRow.domain false Rows.fnExactTransferDataRow.laid) (((OpenSpec.ofChange Rows.fnExactTransferDataSpec).at F).post enc Tryd.prog Tryd.f3 false true false false) := by
  obtain ⟨places, hx⟩ := reads os enc
  refine returnsInHanded_of_row (C := Tryd.checked) (s := OpenSpec.ofChange Rows.fnExactTransferDataSpec) own started (by kernel_rfl) Tryd.func3
    (witness_row_atRef (enc := enc) (C := Tryd.checked) false (laidWorld os) #[.string ByteArray.empty, .int .i64 0, .string ByteArray.empty, .string ByteArray.empty] rfl (by kernel_rfl) (by kernel_rfl) (by kernel_rfl)
      (OpenSpec.preRow_of_cond 8 hx (by kernel_rfl) (fun k hk => by cases hk) (by kernel_rfl) (laid_met os))) ?_
  intro W base args ds gs before hval hW _ _ _ hL _ _
  exact contract H enc W base args ds gs before hval hW hL
theorem said : Rows.FnExactTransferDataSaid :=
  OpenClaim.holds_of_cond 3 Tryd.f3 rfl rfl rfl rfl rfl rfl rfl ⟨rfl, rfl, rfl, rfl, rfl⟩ rfl rfl rfl rfl rfl (by kernel_rfl) Tryd.func3 (by kernel_rfl)
    (of_decide_eq_true (by kernel_rfl)) (by unfold Func.isWrapper; first | (rw [if_pos (by decide +kernel)]; kernel_rfl) | (rw [if_neg (by decide +kernel)]; exact ⟨rfl, rfl⟩))
    (fun os started H enc _ F => by rw [OpenClaim.pre_eq_preRow]; exact lifted os started H enc F)
theorem plain (f : FuncId) (fn : Func) (hf : Tryd.pinned.checked.prog.funcNamed "loop.example/g00298/laws.FnExactTransferData" = some f) (hfn : Tryd.pinned.checked.prog.funcs[f]? = some fn) :
    true = Tryd.pinned.checked.prog.looks [] ∧ ∀ (j : Nat) t, fn.params[j]? = some t → Tryd.pinned.checked.prog.wantsStandIn t = false := by
  obtain rfl : f = 3 := Option.some.inj ((show Tryd.prog.funcNamed "loop.example/g00298/laws.FnExactTransferData" = some 3 by kernel_rfl).symm.trans hf) |>.symm
  obtain rfl : fn = Tryd.f3 := (Option.some.inj (Tryd.func3.symm.trans hfn)).symm
  refine ⟨by kernel_rfl, fun j t ht => ?_⟩
  rw [Tryd.params3] at ht
  have hm : t ∈ [9, 3, 9, 9] := by simpa using Array.mem_of_getElem? ht
  have hall : ([9, 3, 9, 9].all fun u => !Tryd.prog.wantsStandIn u) = true := by kernel_rfl
  exact (show Tryd.prog.wantsStandIn t = false by simpa using List.all_eq_true.1 hall t hm)
theorem card : Rows.FnExactTransferDataCardSaid :=
  Claim7.holds_tied_plain_at .later [] _ _ _ _ said (fun _ h => by cases h) (by kernel_rfl) (fun _ h => by cases h) fnExactTransferData_row_tie rfl ⟨rfl, rfl⟩ (by kernel_rfl) rfl plain (by kernel_rfl)
#print axioms card
end Go.Proofs.YteghpdmlpefnfaaDoor.fnExactTransferData
namespace Go.Proofs.YteghpdmlpefnfaaDoor
/-- The card, under a short name, for the claim. -/
theorem fnExactTransferData_holds : Rows.FnExactTransferDataCardSaid := fnExactTransferData.card
end Go.Proofs.YteghpdmlpefnfaaDoor
