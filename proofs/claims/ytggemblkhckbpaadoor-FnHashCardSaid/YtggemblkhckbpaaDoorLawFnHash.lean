-- written by wip/rowlaid.py, a program of this claim's author
import Derived.Test.YtggemblkhckbpaaDoorCards
import Derived.Test.YtggemblkhckbpaaDoorTie
import Derived.Test.YtggemblkhckbpaaDoorM2
import Derived.WalkKit
import Derived.ProofKit
import Derived.OpenShut
import Derived.ShutString
import Derived.ChangeOld
import Derived.Below
import Derived.SizedLaws
import Derived.Deep.DeepHandedRow
import Derived.Deep.DeepWitnessRowRef
import Derived.LaidMore
import Derived.Lib.LaidTab
import Derived.Lib.AppendIntMem
import Derived.Stop.LaidErr
import Derived.Lay
namespace Go.Proofs.YtggemblkhckbpaaDoor.fnHash
open Go Go.ChangeShapes Go.WideShapes Go.ChangeAt Go.RowKit Go.Proofs.YtggemblkhckbpaaDoor.U Go.Proofs.YtggemblkhckbpaaDoorW.PrintWords Go.Proofs.YtggemblkhckbpaaDoor.Q
open Go.ChangeMaps (open_string shut_string)
set_option linter.unusedVariables false
set_option linter.unusedSimpArgs false
theorem own : ownKnob Tryd.prog.godebug = none := by kernel_rfl
theorem laidOut : laidOutB Tryd.prog = true := by kernel_rfl
theorem opens0 : Opens Tryd.prog 22 (Kd.slice 5 (Kd.int .u8)) (fun x : List Int => (x.length ≤ maxLen ∧ ∀ y22 : Int, y22 ∈ x → (Lit.int .u8 y22).wf = true)) := by
  have h := (Opens.slice Tryd.underlying22 (by kernel_rfl) (Opens.int Tryd.underlying5))
  exact h
-- the row
set_option maxRecDepth 100000 in
theorem contract (H : Type) (enc : TypeId × Value → H) (W : World) (base : Nat) (args : Array Value) (ds gs : List (DataW H)) (before : List MemPlace)
    (hval0 : ∀ (j : Nat) t v, Tryd.f3.params[j]? = some t → args[j]? = some v → Value.okWide Tryd.prog W .any base t v)
    (hW : DataW.Whole enc Tryd.prog Tryd.f3.params.toList Rows.fnHashSpec.vars false W args.toList ds gs before) (hL : laidMetH Tryd.prog Rows.fnHashRow.laid W) :
    Calls Tryd.prog 3 args W fun e W' => ∃ v, e = .returned v ∧ Rows.fnHashSpec.post enc Tryd.prog Tryd.f3 false true false false W args v W' := by
  have hval : ∀ (j : Nat) t v, Tryd.f3.params[j]? = some t → args[j]? = some v → Value.okWide Tryd.prog W .any base t v := hval0
  have hW' := hW
  obtain ⟨p, q, hA0, hV, rfl, hfz, hnd⟩ := hW
  have hA : DataW.TrodAll enc Tryd.prog W 0 (fun _ => true) true Tryd.f3.params.toList args.toList ds p := hA0
  rw [Tryd.params3] at hA hval
  obtain ⟨v0, vs0, d0, ds0, p0, q0, hargs, rfl, rfl, h0, r0⟩ := trodAll_cons hA
  obtain ⟨rfl, rfl, rfl⟩ := trodAll_nil r0
  obtain rfl : args = #[v0] := by cases args; simp_all
  obtain ⟨rfl, rfl⟩ := trodVars_none hV
  have k0 := h0
  have lt0 : ∀ x ∈ p0, x.block < W.heap.size := by obtain ⟨m, hm⟩ := k0; exact DataW.trod_lt m _ _ _ hm
  obtain ⟨a0, len0, cap0, rfl⟩ := okWide_slice Tryd.underlying22 (hval 0 22 v0 rfl rfl)
  obtain ⟨l0, kx0, w0⟩ : ∃ x : List Int, (Kd.slice 5 (Kd.int .u8)).K W x [.slice a0 len0 cap0] ∧ (x.length ≤ maxLen ∧ ∀ y22 : Int, y22 ∈ x → (Lit.int .u8 y22).wf = true) := by obtain ⟨m, hm⟩ := h0; exact opens0.out _ _ _ _ _ _ _ _ hm
  obtain ⟨A0, c0, e0, hc0, hr0⟩ := kx0
  injection e0 with e0 _
  injection e0 with ea0 el0 ec0
  subst ea0 el0 ec0
  clear hA0 hval0
  obtain ⟨k, hk⟩ := Pure.FnHash l0 w0
  refine (laws_FnHash.calls k a0 cap0 l0 true W hr0 hc0  hk).mono fun e W' ⟨he, bel0⟩ => ?_
  have bel : Below W.heap.size W W' := bel0
  subst he
  exact ⟨_, rfl, _, _, _, [], _, [], hW', trodAll_mk1 (shut_bool Tryd.underlying4 _), (trodAll_cons_mk (Below.trod laidOut (by kernel_rfl) (of_decide_eq_true (by kernel_rfl)) k0 bel lt0) trodAll_mk0), rfl, bel.frame _, fun h => by cases h⟩
noncomputable def laidWorld (os : Os) : World := World.laidAll Tryd.prog os Rows.fnHashRow.laid
theorem laid_met (os : Os) : laidMetH Tryd.prog Rows.fnHashRow.laid ((laidWorld os).forCall (fun _ _ => 0) ⟨#[], #[.slice none 0 0], []⟩).memory := by
  rw [MakeChecks.laidMetH_plain _ _ _ (by kernel_rfl)]
  exact laidMet_laidAll _ (by kernel_rfl) (by kernel_rfl)
theorem reads (os : Os) {H : Type} (enc : TypeId × Value → H) : ∃ places, DataW.whole enc Tryd.prog ((laidWorld os).forCall (fun _ _ => 0) ⟨#[], #[.slice none 0 0], []⟩).memory Tryd.f3.params.toList Rows.fnHashSpec.vars false (#[.slice none 0 0] : Array Value).toList 8 = some ([.nil], [], places) :=
  ⟨[], by kernel_rfl⟩
set_option maxRecDepth 100000 in
theorem lifted (os : Os) (started : os.Started) (H : Type) (enc : TypeId × Value → H) (F : Stop.Interp) :
    ReturnsInHanded {} Tryd.checked os 3 .any ((OpenSpec.ofChange Rows.fnHashSpec).preRow enc Tryd.prog Tryd.f3 Rows.fnHashRow.domain false Rows.fnHashRow.laid) (((OpenSpec.ofChange Rows.fnHashSpec).at F).post enc Tryd.prog Tryd.f3 false true false false) := by
  obtain ⟨places, hx⟩ := reads os enc
  refine returnsInHanded_of_row (C := Tryd.checked) (s := OpenSpec.ofChange Rows.fnHashSpec) own started (by kernel_rfl) Tryd.func3
    (witness_row_atRef (enc := enc) (C := Tryd.checked) false (laidWorld os) #[.slice none 0 0] (World.laidAll_os _ _ _) (by kernel_rfl) (by kernel_rfl) (by kernel_rfl)
      (OpenSpec.preRow_of_cond 8 hx (by kernel_rfl) (fun k hk => by cases hk) (by kernel_rfl) (laid_met os))) ?_
  intro W base args ds gs before hval hW _ _ _ hL _ _
  exact contract H enc W base args ds gs before hval hW hL
theorem cf_inPlace : (Rows.fnHashRow.inPlace == Tryd.checked.prog.inPlace 3) = true := by kernel_rfl
theorem cf_unfollowed : (Rows.fnHashRow.unfollowed == Tryd.checked.prog.unfollowed 3) = true := by kernel_rfl
theorem cf_recurses : (Rows.fnHashRow.recurses == Tryd.checked.prog.recurses 3) = true := by kernel_rfl
theorem cf_named : (Rows.fnHashRow.named == Tryd.checked.prog.varsNamed 3) = true := by kernel_rfl
theorem cf_wf : Rows.fnHashRow.wf (OpenSpec.ofChange Rows.fnHashSpec) = true := by kernel_rfl
theorem cf_out : laidOutB Tryd.checked.prog = true := by kernel_rfl
theorem cf_maps : mapsRowed Tryd.checked.prog = true := by kernel_rfl
theorem cf_enter : Tryd.checked.prog.mayEnter = true := by kernel_rfl
theorem cf_keys : (Rows.fnHashRow.plainKeys == Tryd.checked.prog.plainKeys) = true := by kernel_rfl
theorem cf_heard : Tryd.checked.prog.stopsHeard = true := by kernel_rfl
theorem cf_lifts : (Rows.fnHashRow.lifted == Tryd.checked.prog.liftsFinal) = true := by kernel_rfl
set_option maxRecDepth 100000 in
theorem closed : joinedFacts Tryd.checked.prog 3 Tryd.f3 Rows.fnHashSpec Rows.fnHashRow = true := by
  unfold joinedFacts
  simp only [Bool.and_eq_true]
  repeat' apply And.intro
  all_goals first | with_reducible exact cf_inPlace | with_reducible exact cf_unfollowed | with_reducible exact cf_recurses | with_reducible exact cf_named | with_reducible exact cf_wf | with_reducible exact cf_out | with_reducible exact cf_maps | with_reducible exact cf_enter | with_reducible exact cf_keys | with_reducible exact cf_heard | with_reducible exact cf_lifts | kernel_rfl
set_option maxRecDepth 100000 in
theorem said : Rows.FnHashSaid :=
  OpenClaim.holds_of_cond 3 Tryd.f3 rfl rfl rfl rfl rfl rfl rfl ⟨rfl, rfl, rfl, rfl, rfl⟩ rfl rfl rfl rfl rfl (by kernel_rfl) Tryd.func3 closed
    (of_decide_eq_true (by kernel_rfl)) (by unfold Func.isWrapper; first | (rw [if_pos (by decide +kernel)]; kernel_rfl) | (rw [if_neg (by decide +kernel)]; exact ⟨rfl, rfl⟩))
    (fun os started H enc _ F => by rw [OpenClaim.pre_eq_preRow]; exact lifted os started H enc F)
theorem plain (f : FuncId) (fn : Func) (hf : Tryd.pinned.checked.prog.funcNamed "loop.example/g00298/laws.FnHash" = some f) (hfn : Tryd.pinned.checked.prog.funcs[f]? = some fn) :
    false = Tryd.pinned.checked.prog.looks [] ∧ ∀ (j : Nat) t, fn.params[j]? = some t → Tryd.pinned.checked.prog.wantsStandIn t = false := by
  obtain rfl : f = 3 := Option.some.inj ((show Tryd.prog.funcNamed "loop.example/g00298/laws.FnHash" = some 3 by kernel_rfl).symm.trans hf) |>.symm
  obtain rfl : fn = Tryd.f3 := (Option.some.inj (Tryd.func3.symm.trans hfn)).symm
  refine ⟨by kernel_rfl, fun j t ht => ?_⟩
  rw [Tryd.params3] at ht
  have hm : t ∈ [22] := by simpa using Array.mem_of_getElem? ht
  have hall : ([22].all fun u => !Tryd.prog.wantsStandIn u) = true := by kernel_rfl
  exact (show Tryd.prog.wantsStandIn t = false by simpa using List.all_eq_true.1 hall t hm)
set_option maxRecDepth 100000 in
theorem card : Rows.FnHashCardSaid :=
  Claim7.holds_tied_plain_at .later [] _ _ _ _ said (fun _ h => by cases h) (by kernel_rfl) (fun _ h => by cases h) fnHash_row_tie rfl ⟨rfl, rfl⟩ (by kernel_rfl) rfl plain (by kernel_rfl)
#print axioms card
end Go.Proofs.YtggemblkhckbpaaDoor.fnHash
namespace Go.Proofs.YtggemblkhckbpaaDoor
/-- The card, under a short name, for the claim. -/
theorem fnHash_holds : Rows.FnHashCardSaid := fnHash.card
end Go.Proofs.YtggemblkhckbpaaDoor
