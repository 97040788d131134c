-- written by wip/rowlaid.py, a program of this claim's author
import Derived.Test.YteghpdmlpefnfaaDoorCards
import Derived.Test.YteghpdmlpefnfaaDoorTie
import Derived.Test.YteghpdmlpefnfaaDoorM5
import Derived.Test.YteghpdmlpefnfaaDoorM6
import Derived.WalkKit
import Derived.ProofKit
import Derived.OpenShut
import Derived.ShutString
import Derived.ChangeOld
import Derived.Below
import Derived.SizedLaws
import Derived.Deep.DeepHandedRow
import Derived.Deep.DeepWitnessRowRef
import Derived.LaidMore
import Derived.Lib.LaidTab
import Derived.Lib.AppendIntMem
import Derived.Stop.LaidErr
namespace Go.Proofs.YteghpdmlpefnfaaDoor.fnExactOrdersOf
open Go Go.ChangeShapes Go.WideShapes Go.ChangeAt Go.RowKit Go.Proofs.YteghpdmlpefnfaaDoor.U Go.Proofs.YteghpdmlpefnfaaDoorW.PrintWords Go.Proofs.YteghpdmlpefnfaaDoor.Q
open Go.ChangeMaps (open_string shut_string)
set_option linter.unusedVariables false
set_option linter.unusedSimpArgs false
theorem own : ownKnob Tryd.prog.godebug = none := by kernel_rfl
theorem laidOut : laidOutB Tryd.prog = true := by kernel_rfl
theorem opens0 : Opens Tryd.prog 30 (Kd.slice 68 k68) (fun x : List S68 => (x.length ≤ maxLen ∧ ∀ y30 : S68, y30 ∈ x → (y30.f0.size ≤ maxLen ∧ y30.f1.size ≤ maxLen))) := by
  have h := (Opens.slice Tryd.underlying30 (by kernel_rfl) (Opens.iso (f := fun x : S68 => (x.f0, x.f1)) (Opens.struct Tryd.underlying68 (by kernel_rfl) (OpensF.cons (Opens.string Tryd.underlying9) (by kernel_rfl) (OpensF.one (Opens.string Tryd.underlying9) (by kernel_rfl)))) (fun ⟨x0, x1⟩ => ⟨⟨x0, x1⟩, rfl⟩)))
  exact h
theorem gPow : Tryd.prog.globalNamed "internal/strconv.uint64pow10" = some 5 := by kernel_rfl
theorem gPowType : (Tryd.prog.globals[5]?).map (·.type) = some 175 := by kernel_rfl
theorem cellsT : Tryd.prog.cellsOf 175 = 20 := by kernel_rfl
theorem cellsE : Tryd.prog.cellsOf 135 = 1 := by kernel_rfl
theorem star : "*" ++ "errors.errorString" = "*errors.errorString" := by decide
theorem rowE (u : TypeId) (h : Tryd.prog.typeName? 3 u = some "*errors.errorString") : u = 179 :=
  typeName_ptr_named (nm := "errors.errorString") (by rw [star]; kernel_rfl) (by kernel_rfl) (by decide) u (by rw [star]; exact h)
theorem cellsES : Tryd.prog.cellsOf 181 = 1 := by kernel_rfl
theorem cellsS : Tryd.prog.cellsOf 9 = 1 := by kernel_rfl
theorem gS : Tryd.prog.globalNamed "strconv.ErrSyntax" = some 3 := by kernel_rfl
theorem gST : (Tryd.prog.globals[3]?).map (·.type) = some 117 := by kernel_rfl
theorem errS {W : World} (h : laidMet Tryd.prog Rows.fnExactOrdersOfRow.laid W) : ErrBelow W "strconv.ErrSyntax" := by
  obtain ⟨a0, s0, hv0, -, -, -⟩ := laid_sentinel (r := Rows.fnExactOrdersOfRow.laid.drop 5) ((((h.tail).tail).tail).tail) gS gST Tryd.underlying117 rowE Tryd.underlying179 Tryd.underlying181 rfl rfl Tryd.underlying9 cellsES cellsS
  exact ErrBelow.of_var hv0
theorem gR : Tryd.prog.globalNamed "strconv.ErrRange" = some 4 := by kernel_rfl
theorem gRT : (Tryd.prog.globals[4]?).map (·.type) = some 117 := by kernel_rfl
theorem errR {W : World} (h : laidMet Tryd.prog Rows.fnExactOrdersOfRow.laid W) : ErrBelow W "strconv.ErrRange" := by
  obtain ⟨a0, s0, hv0, -, -, -⟩ := laid_sentinel (r := Rows.fnExactOrdersOfRow.laid.drop 4) (((h.tail).tail).tail) gR gRT Tryd.underlying117 rowE Tryd.underlying179 Tryd.underlying181 rfl rfl Tryd.underlying9 cellsES cellsS
  exact ErrBelow.of_var hv0
theorem plainList : (Rows.fnExactOrdersOfRow.laid.all fun x => x.2.handleName?.isNone) = true := by kernel_rfl
theorem tabs {W : World} (h : laidMetH Tryd.prog Rows.fnExactOrdersOfRow.laid W) : TabsOK W := by
  rw [MakeChecks.laidMetH_plain _ _ _ plainList] at h
  have h1 : laidMet Tryd.prog (("internal/strconv.uint64pow10", Lib.tabData .u64 Lib.pow10Tab) :: Rows.fnExactOrdersOfRow.laid.drop 3) W := ((h.tail).tail)
  have t1 := Lib.tabBelow_of_tabIs (Lib.tabIs_of_head gPow gPowType Tryd.underlying175 Tryd.underlying135 cellsE cellsT h1)
  exact ⟨t1, errS h, errR h⟩
-- the row
set_option maxRecDepth 100000 in
theorem contract (H : Type) (enc : TypeId × Value → H) (W : World) (base : Nat) (args : Array Value) (ds gs : List (DataW H)) (before : List MemPlace)
    (hval0 : ∀ (j : Nat) t v, Tryd.f7.params[j]? = some t → args[j]? = some v → Value.okWide Tryd.prog W .any base t v)
    (hW : DataW.Whole enc Tryd.prog Tryd.f7.params.toList Rows.fnExactOrdersOfSpec.vars false W args.toList ds gs before) (hL : laidMetH Tryd.prog Rows.fnExactOrdersOfRow.laid W) :
    Calls Tryd.prog 7 args W fun e W' => ∃ v, e = .returned v ∧ Rows.fnExactOrdersOfSpec.post enc Tryd.prog Tryd.f7 false true false false W args v W' := by
  have hval : ∀ (j : Nat) t v, Tryd.f7.params[j]? = some t → args[j]? = some v → Value.okWide Tryd.prog W .any base t v := hval0
  have hW' := hW
  obtain ⟨p, q, hA0, hV, rfl, hfz, hnd⟩ := hW
  have hA : DataW.TrodAll enc Tryd.prog W 0 (fun _ => true) true Tryd.f7.params.toList args.toList ds p := hA0
  rw [Tryd.params7] at hA hval
  obtain ⟨v0, vs0, d0, ds0, p0, q0, hargs, rfl, rfl, h0, r0⟩ := trodAll_cons hA
  obtain ⟨rfl, rfl, rfl⟩ := trodAll_nil r0
  obtain rfl : args = #[v0] := by cases args; simp_all
  obtain ⟨rfl, rfl⟩ := trodVars_none hV
  have k0 := h0
  have lt0 : ∀ x ∈ p0, x.block < W.heap.size := by obtain ⟨m, hm⟩ := k0; exact DataW.trod_lt m _ _ _ hm
  obtain ⟨a0, len0, cap0, rfl⟩ := okWide_slice Tryd.underlying30 (hval 0 30 v0 rfl rfl)
  obtain ⟨l0, kx0, w0⟩ : ∃ x : List S68, (Kd.slice 68 k68).K W x [.slice a0 len0 cap0] ∧ (x.length ≤ maxLen ∧ ∀ y30 : S68, y30 ∈ x → (y30.f0.size ≤ maxLen ∧ y30.f1.size ≤ maxLen)) := by obtain ⟨m, hm⟩ := h0; exact opens0.out _ _ _ _ _ _ _ _ hm
  obtain ⟨A0, c0, e0, hc0, hr0⟩ := kx0
  injection e0 with e0 _
  injection e0 with ea0 el0 ec0
  subst ea0 el0 ec0
  clear hA0 hval0
  obtain ⟨k, hk⟩ := Pure.FnExactOrdersOf l0 w0
  refine (laws_FnExactOrdersOf.calls k a0 cap0 l0 true W hr0 hc0 (tabs hL) hk).mono fun e W' ⟨he, bel0⟩ => ?_
  have bel : Below W.heap.size W W' := bel0
  subst he
  exact ⟨_, rfl, _, _, _, [], _, [], hW', trodAll_mk1 (shut_bool Tryd.underlying4 _), (trodAll_cons_mk (Below.trod laidOut (by kernel_rfl) (of_decide_eq_true (by kernel_rfl)) k0 bel lt0) trodAll_mk0), rfl, bel.frame _, fun h => by cases h⟩
noncomputable def laidWorld (os : Os) : World := World.doorLaid Tryd.prog 72 os
theorem laid_met (os : Os) : laidMetH Tryd.prog Rows.fnExactOrdersOfRow.laid ((laidWorld os).forCall (fun _ _ => 0) ⟨#[], #[.slice none 0 0], []⟩).memory := by
  rw [MakeChecks.laidMetH_plain _ _ _ (by kernel_rfl)]
  exact laidMet_of_run' 8 (by kernel_rfl) (by kernel_rfl)
theorem reads (os : Os) {H : Type} (enc : TypeId × Value → H) : ∃ places, DataW.whole enc Tryd.prog ((laidWorld os).forCall (fun _ _ => 0) ⟨#[], #[.slice none 0 0], []⟩).memory Tryd.f7.params.toList Rows.fnExactOrdersOfSpec.vars false (#[.slice none 0 0] : Array Value).toList 8 = some ([.nil], [], places) :=
  ⟨[], by kernel_rfl⟩
set_option maxRecDepth 100000 in
theorem lifted (os : Os) (started : os.Started) (H : Type) (enc : TypeId × Value → H) (F : Stop.Interp) :
    ReturnsInHanded {} Tryd.checked os 7 .any ((OpenSpec.ofChange Rows.fnExactOrdersOfSpec).preRow enc Tryd.prog Tryd.f7 Rows.fnExactOrdersOfRow.domain false Rows.fnExactOrdersOfRow.laid) (((OpenSpec.ofChange Rows.fnExactOrdersOfSpec).at F).post enc Tryd.prog Tryd.f7 false true false false) := by
  obtain ⟨places, hx⟩ := reads os enc
  refine returnsInHanded_of_row (C := Tryd.checked) (s := OpenSpec.ofChange Rows.fnExactOrdersOfSpec) own started (by kernel_rfl) Tryd.func7
    (witness_row_atRef (enc := enc) (C := Tryd.checked) false (laidWorld os) #[.slice none 0 0] rfl (by kernel_rfl) (by kernel_rfl) (by kernel_rfl)
      (OpenSpec.preRow_of_cond 8 hx (by kernel_rfl) (fun k hk => by cases hk) (by kernel_rfl) (laid_met os))) ?_
  intro W base args ds gs before hval hW _ _ _ hL _ _
  exact contract H enc W base args ds gs before hval hW hL
theorem said : Rows.FnExactOrdersOfSaid :=
  OpenClaim.holds_of_cond 7 Tryd.f7 rfl rfl rfl rfl rfl rfl rfl ⟨rfl, rfl, rfl, rfl, rfl⟩ rfl rfl rfl rfl rfl (by kernel_rfl) Tryd.func7 (by kernel_rfl)
    (of_decide_eq_true (by kernel_rfl)) (by unfold Func.isWrapper; first | (rw [if_pos (by decide +kernel)]; kernel_rfl) | (rw [if_neg (by decide +kernel)]; exact ⟨rfl, rfl⟩))
    (fun os started H enc _ F => by rw [OpenClaim.pre_eq_preRow]; exact lifted os started H enc F)
theorem plain (f : FuncId) (fn : Func) (hf : Tryd.pinned.checked.prog.funcNamed "loop.example/g00298/laws.FnExactOrdersOf" = some f) (hfn : Tryd.pinned.checked.prog.funcs[f]? = some fn) :
    true = Tryd.pinned.checked.prog.looks [] ∧ ∀ (j : Nat) t, fn.params[j]? = some t → Tryd.pinned.checked.prog.wantsStandIn t = false := by
  obtain rfl : f = 7 := Option.some.inj ((show Tryd.prog.funcNamed "loop.example/g00298/laws.FnExactOrdersOf" = some 7 by kernel_rfl).symm.trans hf) |>.symm
  obtain rfl : fn = Tryd.f7 := (Option.some.inj (Tryd.func7.symm.trans hfn)).symm
  refine ⟨by kernel_rfl, fun j t ht => ?_⟩
  rw [Tryd.params7] at ht
  have hm : t ∈ [30] := by simpa using Array.mem_of_getElem? ht
  have hall : ([30].all fun u => !Tryd.prog.wantsStandIn u) = true := by kernel_rfl
  exact (show Tryd.prog.wantsStandIn t = false by simpa using List.all_eq_true.1 hall t hm)
theorem card : Rows.FnExactOrdersOfCardSaid :=
  Claim7.holds_tied_plain_at .later [] _ _ _ _ said (fun _ h => by cases h) (by kernel_rfl) (fun _ h => by cases h) fnExactOrdersOf_row_tie rfl ⟨rfl, rfl⟩ (by kernel_rfl) rfl plain (by kernel_rfl)
#print axioms card
end Go.Proofs.YteghpdmlpefnfaaDoor.fnExactOrdersOf
namespace Go.Proofs.YteghpdmlpefnfaaDoor
/-- The card, under a short name, for the claim. -/
theorem fnExactOrdersOf_holds : Rows.FnExactOrdersOfCardSaid := fnExactOrdersOf.card
end Go.Proofs.YteghpdmlpefnfaaDoor
