-- written by wip/rowlaid.py, a program of this claim's author
import Derived.Test.YtjhhehjjnfnigaaGreatDoorCards
import Derived.Test.YtjhhehjjnfnigaaGreatDoorTie
import Derived.Test.YtjhhehjjnfnigaaGreatDoorM4
import Derived.Test.YtjhhehjjnfnigaaGreatDoorM5
import Derived.WalkKit
import Derived.ProofKit
import Derived.OpenShut
import Derived.ShutString
import Derived.ChangeOld
import Derived.Below
import Derived.SizedLaws
import Derived.Deep.DeepHandedRow
import Derived.Deep.DeepWitnessRowRef
import Derived.LaidMore
import Derived.Lib.LaidTab
import Derived.Lib.AppendIntMem
import Derived.Stop.LaidErr
import Derived.Lay
namespace Go.Proofs.YtjhhehjjnfnigaaGreatDoor.fnExactTakeOrder
open Go Go.ChangeShapes Go.WideShapes Go.ChangeAt Go.RowKit Go.Proofs.YtjhhehjjnfnigaaGreatDoor.U Go.Proofs.YtjhhehjjnfnigaaGreatDoorW.PrintWords Go.Proofs.YtjhhehjjnfnigaaGreatDoor.Q
open Go.ChangeMaps (open_string shut_string)
set_option linter.unusedVariables false
set_option linter.unusedSimpArgs false
theorem own : ownKnob Tryz.prog.godebug = none := by kernel_rfl
theorem laidOut : laidOutB Tryz.prog = true := by kernel_rfl
theorem opens0 : Opens Tryz.prog 9 Kd.string (fun x : ByteArray => x.size ≤ maxLen) := by
  have h := (Opens.string Tryz.underlying9)
  exact h
theorem opens1 : Opens Tryz.prog 22 (Kd.slice 33 k33) (fun x : List S33 => (x.length ≤ maxLen ∧ ∀ y22 : S33, y22 ∈ x → (y22.f0.size ≤ maxLen ∧ y22.f1.size ≤ maxLen))) := by
  have h := (Opens.slice Tryz.underlying22 (by kernel_rfl) (Opens.iso (f := fun x : S33 => (x.f0, x.f1)) (Opens.struct Tryz.underlying33 (by kernel_rfl) (OpensF.cons (Opens.string Tryz.underlying9) (by kernel_rfl) (OpensF.one (Opens.string Tryz.underlying9) (by kernel_rfl)))) (fun ⟨x0, x1⟩ => ⟨⟨x0, x1⟩, rfl⟩)))
  exact h
theorem opens2 : Opens Tryz.prog 9 Kd.string (fun x : ByteArray => x.size ≤ maxLen) := by
  have h := (Opens.string Tryz.underlying9)
  exact h
theorem gPow : Tryz.prog.globalNamed "internal/strconv.uint64pow10" = some 5 := by kernel_rfl
theorem gPowType : (Tryz.prog.globals[5]?).map (·.type) = some 141 := by kernel_rfl
theorem cellsT : Tryz.prog.cellsOf 141 = 20 := by kernel_rfl
theorem cellsE : Tryz.prog.cellsOf 101 = 1 := by kernel_rfl
theorem star : "*" ++ "errors.errorString" = "*errors.errorString" := by decide
theorem rowE (u : TypeId) (h : Tryz.prog.typeName? 3 u = some "*errors.errorString") : u = 132 :=
  typeName_ptr_named (nm := "errors.errorString") (by rw [star]; kernel_rfl) (by kernel_rfl) (by decide) u (by rw [star]; exact h)
theorem cellsES : Tryz.prog.cellsOf 134 = 1 := by kernel_rfl
theorem cellsS : Tryz.prog.cellsOf 9 = 1 := by kernel_rfl
theorem gS : Tryz.prog.globalNamed "strconv.ErrSyntax" = some 2 := by kernel_rfl
theorem gST : (Tryz.prog.globals[2]?).map (·.type) = some 97 := by kernel_rfl
theorem errS {W : World} (h : laidMet Tryz.prog Rows.fnExactTakeOrderRow.laid W) : ErrBelow W "strconv.ErrSyntax" := by
  obtain ⟨a0, s0, hv0, -, -, -⟩ := laid_sentinel (r := Rows.fnExactTakeOrderRow.laid.drop 5) ((((h.tail).tail).tail).tail) gS gST Tryz.underlying97 rowE Tryz.underlying132 Tryz.underlying134 rfl rfl Tryz.underlying9 cellsES cellsS
  exact ErrBelow.of_var hv0
theorem gR : Tryz.prog.globalNamed "strconv.ErrRange" = some 3 := by kernel_rfl
theorem gRT : (Tryz.prog.globals[3]?).map (·.type) = some 97 := by kernel_rfl
theorem errR {W : World} (h : laidMet Tryz.prog Rows.fnExactTakeOrderRow.laid W) : ErrBelow W "strconv.ErrRange" := by
  obtain ⟨a0, s0, hv0, -, -, -⟩ := laid_sentinel (r := Rows.fnExactTakeOrderRow.laid.drop 4) (((h.tail).tail).tail) gR gRT Tryz.underlying97 rowE Tryz.underlying132 Tryz.underlying134 rfl rfl Tryz.underlying9 cellsES cellsS
  exact ErrBelow.of_var hv0
theorem plainList : (Rows.fnExactTakeOrderRow.laid.all fun x => x.2.handleName?.isNone) = true := by kernel_rfl
theorem tabs {W : World} (h : laidMetH Tryz.prog Rows.fnExactTakeOrderRow.laid W) : TabsOK W := by
  rw [MakeChecks.laidMetH_plain _ _ _ plainList] at h
  have h1 : laidMet Tryz.prog (("internal/strconv.uint64pow10", Lib.tabData .u64 Lib.pow10Tab) :: Rows.fnExactTakeOrderRow.laid.drop 3) W := ((h.tail).tail)
  have t1 := Lib.tabBelow_of_tabIs (Lib.tabIs_of_head gPow gPowType Tryz.underlying141 Tryz.underlying101 cellsE cellsT h1)
  exact ⟨t1, errS h, errR h⟩
-- the row
set_option maxRecDepth 100000 in
theorem contract (H : Type) (enc : TypeId × Value → H) (W : World) (base : Nat) (args : Array Value) (ds gs : List (DataW H)) (before : List MemPlace)
    (hval0 : ∀ (j : Nat) t v, Tryz.f3.params[j]? = some t → args[j]? = some v → Value.okWide Tryz.prog W .any base t v)
    (hW : DataW.Whole enc Tryz.prog Tryz.f3.params.toList Rows.fnExactTakeOrderSpec.vars false W args.toList ds gs before) (hL : laidMetH Tryz.prog Rows.fnExactTakeOrderRow.laid W) :
    Calls Tryz.prog 3 args W fun e W' => ∃ v, e = .returned v ∧ Rows.fnExactTakeOrderSpec.post enc Tryz.prog Tryz.f3 false true false false W args v W' := by
  have hval : ∀ (j : Nat) t v, Tryz.f3.params[j]? = some t → args[j]? = some v → Value.okWide Tryz.prog W .any base t v := hval0
  have hW' := hW
  obtain ⟨p, q, hA0, hV, rfl, hfz, hnd⟩ := hW
  have hA : DataW.TrodAll enc Tryz.prog W 0 (fun _ => true) true Tryz.f3.params.toList args.toList ds p := hA0
  rw [Tryz.params3] at hA hval
  obtain ⟨v0, vs0, d0, ds0, p0, q0, hargs, rfl, rfl, h0, r0⟩ := trodAll_cons hA
  obtain ⟨v1, vs1, d1, ds1, p1, q1, rfl, rfl, rfl, h1, r1⟩ := trodAll_cons r0
  obtain ⟨v2, vs2, d2, ds2, p2, q2, rfl, rfl, rfl, h2, r2⟩ := trodAll_cons r1
  obtain ⟨rfl, rfl, rfl⟩ := trodAll_nil r2
  obtain rfl : args = #[v0, v1, v2] := by cases args; simp_all
  obtain ⟨rfl, rfl⟩ := trodVars_none hV
  have k0 := h0
  have lt0 : ∀ x ∈ p0, x.block < W.heap.size := by obtain ⟨m, hm⟩ := k0; exact DataW.trod_lt m _ _ _ hm
  obtain ⟨a0, rfl⟩ := okWide_string Tryz.underlying9 (hval 0 9 v0 rfl rfl)
  obtain ⟨x0, kx0, w0⟩ : ∃ x : ByteArray, Kd.string.K W x [.string a0] ∧ x.size ≤ maxLen := by obtain ⟨m, hm⟩ := h0; exact opens0.out _ _ _ _ _ _ _ _ hm
  obtain rfl : a0 = x0 := by have e : [_] = [_] := kx0; injection e with e _; injection e
  have k1 := h1
  have lt1 : ∀ x ∈ p1, x.block < W.heap.size := by obtain ⟨m, hm⟩ := k1; exact DataW.trod_lt m _ _ _ hm
  obtain ⟨a1, len1, cap1, rfl⟩ := okWide_slice Tryz.underlying22 (hval 1 22 v1 rfl rfl)
  obtain ⟨l1, kx1, w1⟩ : ∃ x : List S33, (Kd.slice 33 k33).K W x [.slice a1 len1 cap1] ∧ (x.length ≤ maxLen ∧ ∀ y22 : S33, y22 ∈ x → (y22.f0.size ≤ maxLen ∧ y22.f1.size ≤ maxLen)) := by obtain ⟨m, hm⟩ := h1; exact opens1.out _ _ _ _ _ _ _ _ hm
  obtain ⟨A1, c1, e1, hc1, hr1⟩ := kx1
  injection e1 with e1 _
  injection e1 with ea1 el1 ec1
  subst ea1 el1 ec1
  have k2 := h2
  have lt2 : ∀ x ∈ p2, x.block < W.heap.size := by obtain ⟨m, hm⟩ := k2; exact DataW.trod_lt m _ _ _ hm
  obtain ⟨a2, rfl⟩ := okWide_string Tryz.underlying9 (hval 2 9 v2 rfl rfl)
  obtain ⟨x2, kx2, w2⟩ : ∃ x : ByteArray, Kd.string.K W x [.string a2] ∧ x.size ≤ maxLen := by obtain ⟨m, hm⟩ := h2; exact opens2.out _ _ _ _ _ _ _ _ hm
  obtain rfl : a2 = x2 := by have e : [_] = [_] := kx2; injection e with e _; injection e
  clear hA0 hval0
  obtain ⟨k, hk⟩ := Pure.FnExactTakeOrder a0 w0 l1 w1 a2 w2
  refine (laws_FnExactTakeOrder.calls k a0 a1 cap1 l1 a2 true W hr1 hc1 (tabs hL) hk).mono fun e W' ⟨he, bel0⟩ => ?_
  have bel : Below W.heap.size W W' := bel0
  subst he
  exact ⟨_, rfl, _, _, _, [], _, [], hW', trodAll_mk1 (shut_bool Tryz.underlying4 _), (trodAll_cons_mk (Below.trod laidOut (by kernel_rfl) (of_decide_eq_true (by kernel_rfl)) k0 bel lt0) (trodAll_cons_mk (Below.trod laidOut (by kernel_rfl) (of_decide_eq_true (by kernel_rfl)) k1 bel lt1) (trodAll_cons_mk (Below.trod laidOut (by kernel_rfl) (of_decide_eq_true (by kernel_rfl)) k2 bel lt2) trodAll_mk0))), rfl, bel.frame _, fun h => by cases h⟩
noncomputable def laidWorld (os : Os) : World := World.doorLaid Tryz.prog 62 os
theorem laid_met (os : Os) : laidMetH Tryz.prog Rows.fnExactTakeOrderRow.laid ((laidWorld os).forCall (fun _ _ => 0) ⟨#[], #[.string ByteArray.empty, .slice none 0 0, .string ByteArray.empty], []⟩).memory := by
  rw [MakeChecks.laidMetH_plain _ _ _ (by kernel_rfl)]
  exact laidMet_of_run' 8 (by kernel_rfl) (by kernel_rfl)
theorem reads (os : Os) {H : Type} (enc : TypeId × Value → H) : ∃ places, DataW.whole enc Tryz.prog ((laidWorld os).forCall (fun _ _ => 0) ⟨#[], #[.string ByteArray.empty, .slice none 0 0, .string ByteArray.empty], []⟩).memory Tryz.f3.params.toList Rows.fnExactTakeOrderSpec.vars false (#[.string ByteArray.empty, .slice none 0 0, .string ByteArray.empty] : Array Value).toList 8 = some ([.lit (.string []), .nil, .lit (.string [])], [], places) :=
  ⟨[], by kernel_rfl⟩
set_option maxRecDepth 100000 in
theorem lifted (os : Os) (started : os.Started) (H : Type) (enc : TypeId × Value → H) (F : Stop.Interp) :
    ReturnsInHanded {} Tryz.checked os 3 .any ((OpenSpec.ofChange Rows.fnExactTakeOrderSpec).preRow enc Tryz.prog Tryz.f3 Rows.fnExactTakeOrderRow.domain false Rows.fnExactTakeOrderRow.laid) (((OpenSpec.ofChange Rows.fnExactTakeOrderSpec).at F).post enc Tryz.prog Tryz.f3 false true false false) := by
  obtain ⟨places, hx⟩ := reads os enc
  refine returnsInHanded_of_row (C := Tryz.checked) (s := OpenSpec.ofChange Rows.fnExactTakeOrderSpec) own started (by kernel_rfl) Tryz.func3
    (witness_row_atRef (enc := enc) (C := Tryz.checked) false (laidWorld os) #[.string ByteArray.empty, .slice none 0 0, .string ByteArray.empty] rfl (by kernel_rfl) (by kernel_rfl) (by kernel_rfl)
      (OpenSpec.preRow_of_cond 8 hx (by kernel_rfl) (fun k hk => by cases hk) (by kernel_rfl) (laid_met os))) ?_
  intro W base args ds gs before hval hW _ _ _ hL _ _
  exact contract H enc W base args ds gs before hval hW hL
theorem cf_inPlace : (Rows.fnExactTakeOrderRow.inPlace == Tryz.checked.prog.inPlace 3) = true := by kernel_rfl
theorem cf_unfollowed : (Rows.fnExactTakeOrderRow.unfollowed == Tryz.checked.prog.unfollowed 3) = true := by kernel_rfl
theorem cf_recurses : (Rows.fnExactTakeOrderRow.recurses == Tryz.checked.prog.recurses 3) = true := by kernel_rfl
theorem cf_named : (Rows.fnExactTakeOrderRow.named == Tryz.checked.prog.varsNamed 3) = true := by kernel_rfl
theorem cf_wf : Rows.fnExactTakeOrderRow.wf (OpenSpec.ofChange Rows.fnExactTakeOrderSpec) = true := by kernel_rfl
theorem cf_out : laidOutB Tryz.checked.prog = true := by kernel_rfl
theorem cf_maps : mapsRowed Tryz.checked.prog = true := by kernel_rfl
theorem cf_enter : Tryz.checked.prog.mayEnter = true := by kernel_rfl
theorem cf_keys : (Rows.fnExactTakeOrderRow.plainKeys == Tryz.checked.prog.plainKeys) = true := by kernel_rfl
theorem cf_heard : Tryz.checked.prog.stopsHeard = true := by kernel_rfl
theorem cf_lifts : (Rows.fnExactTakeOrderRow.lifted == Tryz.checked.prog.liftsFinal) = true := by kernel_rfl
set_option maxRecDepth 100000 in
theorem closed : joinedFacts Tryz.checked.prog 3 Tryz.f3 Rows.fnExactTakeOrderSpec Rows.fnExactTakeOrderRow = true := by
  unfold joinedFacts
  simp only [Bool.and_eq_true]
  repeat' apply And.intro
  all_goals first | with_reducible exact cf_inPlace | with_reducible exact cf_unfollowed | with_reducible exact cf_recurses | with_reducible exact cf_named | with_reducible exact cf_wf | with_reducible exact cf_out | with_reducible exact cf_maps | with_reducible exact cf_enter | with_reducible exact cf_keys | with_reducible exact cf_heard | with_reducible exact cf_lifts | kernel_rfl
set_option maxRecDepth 100000 in
theorem said : Rows.FnExactTakeOrderSaid :=
  OpenClaim.holds_of_cond 3 Tryz.f3 rfl rfl rfl rfl rfl rfl rfl ⟨rfl, rfl, rfl, rfl, rfl⟩ rfl rfl rfl rfl rfl (by kernel_rfl) Tryz.func3 closed
    (of_decide_eq_true (by kernel_rfl)) (by unfold Func.isWrapper; first | (rw [if_pos (by decide +kernel)]; kernel_rfl) | (rw [if_neg (by decide +kernel)]; exact ⟨rfl, rfl⟩))
    (fun os started H enc _ F => by rw [OpenClaim.pre_eq_preRow]; exact lifted os started H enc F)
theorem plain (f : FuncId) (fn : Func) (hf : Tryz.pinned.checked.prog.funcNamed "loop.example/g00298/laws.FnExactTakeOrder" = some f) (hfn : Tryz.pinned.checked.prog.funcs[f]? = some fn) :
    true = Tryz.pinned.checked.prog.looks [] ∧ ∀ (j : Nat) t, fn.params[j]? = some t → Tryz.pinned.checked.prog.wantsStandIn t = false := by
  obtain rfl : f = 3 := Option.some.inj ((show Tryz.prog.funcNamed "loop.example/g00298/laws.FnExactTakeOrder" = some 3 by kernel_rfl).symm.trans hf) |>.symm
  obtain rfl : fn = Tryz.f3 := (Option.some.inj (Tryz.func3.symm.trans hfn)).symm
  refine ⟨by kernel_rfl, fun j t ht => ?_⟩
  rw [Tryz.params3] at ht
  have hm : t ∈ [9, 22, 9] := by simpa using Array.mem_of_getElem? ht
  have hall : ([9, 22, 9].all fun u => !Tryz.prog.wantsStandIn u) = true := by kernel_rfl
  exact (show Tryz.prog.wantsStandIn t = false by simpa using List.all_eq_true.1 hall t hm)
set_option maxRecDepth 100000 in
theorem card : Rows.FnExactTakeOrderCardSaid :=
  Claim7.holds_tied_plain_at .later [] _ _ _ _ said (fun _ h => by cases h) (by kernel_rfl) (fun _ h => by cases h) fnExactTakeOrder_row_tie rfl ⟨rfl, rfl⟩ (by kernel_rfl) rfl plain (by kernel_rfl)
#print axioms card
end Go.Proofs.YtjhhehjjnfnigaaGreatDoor.fnExactTakeOrder
namespace Go.Proofs.YtjhhehjjnfnigaaGreatDoor
/-- The card, under a short name, for the claim. -/
theorem fnExactTakeOrder_holds : Rows.FnExactTakeOrderCardSaid := fnExactTakeOrder.card
end Go.Proofs.YtjhhehjjnfnigaaGreatDoor
