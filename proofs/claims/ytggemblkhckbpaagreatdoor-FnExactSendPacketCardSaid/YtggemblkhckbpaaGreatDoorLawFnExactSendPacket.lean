-- written by wip/rowlaid.py, a program of this claim's author
import Derived.Test.YtggemblkhckbpaaGreatDoorCards
import Derived.Test.YtggemblkhckbpaaGreatDoorTie
import Derived.Test.YtggemblkhckbpaaGreatDoorM3
import Derived.WalkKit
import Derived.ProofKit
import Derived.OpenShut
import Derived.ShutString
import Derived.ChangeOld
import Derived.Below
import Derived.SizedLaws
import Derived.Deep.DeepHandedRow
import Derived.Deep.DeepWitnessRowRef
import Derived.LaidMore
import Derived.Lib.LaidTab
import Derived.Lib.AppendIntMem
import Derived.Stop.LaidErr
import Derived.Lay
namespace Go.Proofs.YtggemblkhckbpaaGreatDoor.fnExactSendPacket
open Go Go.ChangeShapes Go.WideShapes Go.ChangeAt Go.RowKit Go.Proofs.YtggemblkhckbpaaGreatDoor.U Go.Proofs.YtggemblkhckbpaaGreatDoorW.PrintWords Go.Proofs.YtggemblkhckbpaaGreatDoor.Q
open Go.ChangeMaps (open_string shut_string)
set_option linter.unusedVariables false
set_option linter.unusedSimpArgs false
theorem own : ownKnob Tryz.prog.godebug = none := by kernel_rfl
theorem laidOut : laidOutB Tryz.prog = true := by kernel_rfl
theorem opens0 : Opens Tryz.prog 46 (Kd.slice 71 k71) (fun x : List S71 => (x.length ≤ maxLen ∧ ∀ y46 : S71, y46 ∈ x → (y46.f0.size ≤ maxLen ∧ y46.f1.size ≤ maxLen))) := by
  have h := (Opens.slice Tryz.underlying46 (by kernel_rfl) (Opens.iso (f := fun x : S71 => (x.f0, x.f1)) (Opens.struct Tryz.underlying71 (by kernel_rfl) (OpensF.cons (Opens.string Tryz.underlying9) (by kernel_rfl) (OpensF.one (Opens.string Tryz.underlying9) (by kernel_rfl)))) (fun ⟨x0, x1⟩ => ⟨⟨x0, x1⟩, rfl⟩)))
  exact h
theorem opens1 : Opens Tryz.prog 9 Kd.string (fun x : ByteArray => x.size ≤ maxLen) := by
  have h := (Opens.string Tryz.underlying9)
  exact h
theorem opens2 : Opens Tryz.prog 3 (Kd.int .i64) (fun x : Int => (Lit.int .i64 x).wf = true) := by
  have h := (Opens.int Tryz.underlying3)
  exact h
theorem gPow : Tryz.prog.globalNamed "internal/strconv.uint64pow10" = some 3 := by kernel_rfl
theorem gPowType : (Tryz.prog.globals[3]?).map (·.type) = some 173 := by kernel_rfl
theorem cellsT : Tryz.prog.cellsOf 173 = 20 := by kernel_rfl
theorem cellsE : Tryz.prog.cellsOf 147 = 1 := by kernel_rfl
theorem star : "*" ++ "errors.errorString" = "*errors.errorString" := by decide
theorem rowE (u : TypeId) (h : Tryz.prog.typeName? 3 u = some "*errors.errorString") : u = 177 :=
  typeName_ptr_named (nm := "errors.errorString") (by rw [star]; kernel_rfl) (by kernel_rfl) (by decide) u (by rw [star]; exact h)
theorem cellsES : Tryz.prog.cellsOf 179 = 1 := by kernel_rfl
theorem cellsS : Tryz.prog.cellsOf 9 = 1 := by kernel_rfl
theorem gS : Tryz.prog.globalNamed "strconv.ErrSyntax" = some 1 := by kernel_rfl
theorem gST : (Tryz.prog.globals[1]?).map (·.type) = some 129 := by kernel_rfl
theorem errS {W : World} (h : laidMet Tryz.prog Rows.fnExactSendPacketRow.laid W) : ErrBelow W "strconv.ErrSyntax" := by
  obtain ⟨a0, s0, hv0, -, -, -⟩ := laid_sentinel (r := Rows.fnExactSendPacketRow.laid.drop 5) ((((h.tail).tail).tail).tail) gS gST Tryz.underlying129 rowE Tryz.underlying177 Tryz.underlying179 rfl rfl Tryz.underlying9 cellsES cellsS
  exact ErrBelow.of_var hv0
theorem gR : Tryz.prog.globalNamed "strconv.ErrRange" = some 2 := by kernel_rfl
theorem gRT : (Tryz.prog.globals[2]?).map (·.type) = some 129 := by kernel_rfl
theorem errR {W : World} (h : laidMet Tryz.prog Rows.fnExactSendPacketRow.laid W) : ErrBelow W "strconv.ErrRange" := by
  obtain ⟨a0, s0, hv0, -, -, -⟩ := laid_sentinel (r := Rows.fnExactSendPacketRow.laid.drop 4) (((h.tail).tail).tail) gR gRT Tryz.underlying129 rowE Tryz.underlying177 Tryz.underlying179 rfl rfl Tryz.underlying9 cellsES cellsS
  exact ErrBelow.of_var hv0
theorem plainList : (Rows.fnExactSendPacketRow.laid.all fun x => x.2.handleName?.isNone) = true := by kernel_rfl
theorem tabs {W : World} (h : laidMetH Tryz.prog Rows.fnExactSendPacketRow.laid W) : TabsOK W := by
  rw [MakeChecks.laidMetH_plain _ _ _ plainList] at h
  have h1 : laidMet Tryz.prog (("internal/strconv.uint64pow10", Lib.tabData .u64 Lib.pow10Tab) :: Rows.fnExactSendPacketRow.laid.drop 3) W := ((h.tail).tail)
  have t1 := Lib.tabBelow_of_tabIs (Lib.tabIs_of_head gPow gPowType Tryz.underlying173 Tryz.underlying147 cellsE cellsT h1)
  exact ⟨t1, errS h, errR h⟩
-- the row
set_option maxRecDepth 100000 in
theorem contract (H : Type) (enc : TypeId × Value → H) (W : World) (base : Nat) (args : Array Value) (ds gs : List (DataW H)) (before : List MemPlace)
    (hval0 : ∀ (j : Nat) t v, Tryz.f5.params[j]? = some t → args[j]? = some v → Value.okWide Tryz.prog W .any base t v)
    (hW : DataW.Whole enc Tryz.prog Tryz.f5.params.toList Rows.fnExactSendPacketSpec.vars false W args.toList ds gs before) (hL : laidMetH Tryz.prog Rows.fnExactSendPacketRow.laid W) :
    Calls Tryz.prog 5 args W fun e W' => ∃ v, e = .returned v ∧ Rows.fnExactSendPacketSpec.post enc Tryz.prog Tryz.f5 false true false false W args v W' := by
  have hval : ∀ (j : Nat) t v, Tryz.f5.params[j]? = some t → args[j]? = some v → Value.okWide Tryz.prog W .any base t v := hval0
  have hW' := hW
  obtain ⟨p, q, hA0, hV, rfl, hfz, hnd⟩ := hW
  have hA : DataW.TrodAll enc Tryz.prog W 0 (fun _ => true) true Tryz.f5.params.toList args.toList ds p := hA0
  rw [Tryz.params5] at hA hval
  obtain ⟨v0, vs0, d0, ds0, p0, q0, hargs, rfl, rfl, h0, r0⟩ := trodAll_cons hA
  obtain ⟨v1, vs1, d1, ds1, p1, q1, rfl, rfl, rfl, h1, r1⟩ := trodAll_cons r0
  obtain ⟨v2, vs2, d2, ds2, p2, q2, rfl, rfl, rfl, h2, r2⟩ := trodAll_cons r1
  obtain ⟨rfl, rfl, rfl⟩ := trodAll_nil r2
  obtain rfl : args = #[v0, v1, v2] := by cases args; simp_all
  obtain ⟨rfl, rfl⟩ := trodVars_none hV
  have k0 := h0
  have lt0 : ∀ x ∈ p0, x.block < W.heap.size := by obtain ⟨m, hm⟩ := k0; exact DataW.trod_lt m _ _ _ hm
  obtain ⟨a0, len0, cap0, rfl⟩ := okWide_slice Tryz.underlying46 (hval 0 46 v0 rfl rfl)
  obtain ⟨l0, kx0, w0⟩ : ∃ x : List S71, (Kd.slice 71 k71).K W x [.slice a0 len0 cap0] ∧ (x.length ≤ maxLen ∧ ∀ y46 : S71, y46 ∈ x → (y46.f0.size ≤ maxLen ∧ y46.f1.size ≤ maxLen)) := by obtain ⟨m, hm⟩ := h0; exact opens0.out _ _ _ _ _ _ _ _ hm
  obtain ⟨A0, c0, e0, hc0, hr0⟩ := kx0
  injection e0 with e0 _
  injection e0 with ea0 el0 ec0
  subst ea0 el0 ec0
  have k1 := h1
  have lt1 : ∀ x ∈ p1, x.block < W.heap.size := by obtain ⟨m, hm⟩ := k1; exact DataW.trod_lt m _ _ _ hm
  obtain ⟨a1, rfl⟩ := okWide_string Tryz.underlying9 (hval 1 9 v1 rfl rfl)
  obtain ⟨x1, kx1, w1⟩ : ∃ x : ByteArray, Kd.string.K W x [.string a1] ∧ x.size ≤ maxLen := by obtain ⟨m, hm⟩ := h1; exact opens1.out _ _ _ _ _ _ _ _ hm
  obtain rfl : a1 = x1 := by have e : [_] = [_] := kx1; injection e with e _; injection e
  have k2 := h2
  have lt2 : ∀ x ∈ p2, x.block < W.heap.size := by obtain ⟨m, hm⟩ := k2; exact DataW.trod_lt m _ _ _ hm
  obtain ⟨a2, rfl⟩ := okWide_int Tryz.underlying3 (hval 2 3 v2 rfl rfl)
  obtain ⟨x2, kx2, w2⟩ : ∃ x : Int, (Kd.int .i64).K W x [.int .i64 a2] ∧ (Lit.int .i64 x).wf = true := by obtain ⟨m, hm⟩ := h2; exact opens2.out _ _ _ _ _ _ _ _ hm
  obtain rfl : a2 = x2 := by have e : [_] = [_] := kx2; injection e with e _; injection e
  clear hA0 hval0
  obtain ⟨k, hk⟩ := Pure.FnExactSendPacket l0 w0 a1 w1 a2 w2
  refine (laws_FnExactSendPacket.calls k a0 cap0 l0 a1 a2 true W hr0 hc0 (tabs hL) hk).mono fun e W' ⟨he, bel0⟩ => ?_
  have bel : Below W.heap.size W W' := bel0
  subst he
  exact ⟨_, rfl, _, _, _, [], _, [], hW', trodAll_mk1 (shut_bool Tryz.underlying4 _), (trodAll_cons_mk (Below.trod laidOut (by kernel_rfl) (of_decide_eq_true (by kernel_rfl)) k0 bel lt0) (trodAll_cons_mk (Below.trod laidOut (by kernel_rfl) (of_decide_eq_true (by kernel_rfl)) k1 bel lt1) (trodAll_cons_mk (Below.trod laidOut (by kernel_rfl) (of_decide_eq_true (by kernel_rfl)) k2 bel lt2) trodAll_mk0))), rfl, bel.frame _, fun h => by cases h⟩
noncomputable def laidWorld (os : Os) : World := World.doorLaid Tryz.prog 62 os
theorem laid_met (os : Os) : laidMetH Tryz.prog Rows.fnExactSendPacketRow.laid ((laidWorld os).forCall (fun _ _ => 0) ⟨#[], #[.slice none 0 0, .string ByteArray.empty, .int .i64 0], []⟩).memory := by
  rw [MakeChecks.laidMetH_plain _ _ _ (by kernel_rfl)]
  exact laidMet_of_run' 8 (by kernel_rfl) (by kernel_rfl)
theorem reads (os : Os) {H : Type} (enc : TypeId × Value → H) : ∃ places, DataW.whole enc Tryz.prog ((laidWorld os).forCall (fun _ _ => 0) ⟨#[], #[.slice none 0 0, .string ByteArray.empty, .int .i64 0], []⟩).memory Tryz.f5.params.toList Rows.fnExactSendPacketSpec.vars false (#[.slice none 0 0, .string ByteArray.empty, .int .i64 0] : Array Value).toList 8 = some ([.nil, .lit (.string []), .lit (.int .i64 0)], [], places) :=
  ⟨[], by kernel_rfl⟩
set_option maxRecDepth 100000 in
theorem lifted (os : Os) (started : os.Started) (H : Type) (enc : TypeId × Value → H) (F : Stop.Interp) :
    ReturnsInHanded {} Tryz.checked os 5 .any ((OpenSpec.ofChange Rows.fnExactSendPacketSpec).preRow enc Tryz.prog Tryz.f5 Rows.fnExactSendPacketRow.domain false Rows.fnExactSendPacketRow.laid) (((OpenSpec.ofChange Rows.fnExactSendPacketSpec).at F).post enc Tryz.prog Tryz.f5 false true false false) := by
  obtain ⟨places, hx⟩ := reads os enc
  refine returnsInHanded_of_row (C := Tryz.checked) (s := OpenSpec.ofChange Rows.fnExactSendPacketSpec) own started (by kernel_rfl) Tryz.func5
    (witness_row_atRef (enc := enc) (C := Tryz.checked) false (laidWorld os) #[.slice none 0 0, .string ByteArray.empty, .int .i64 0] rfl (by kernel_rfl) (by kernel_rfl) (by kernel_rfl)
      (OpenSpec.preRow_of_cond 8 hx (by kernel_rfl) (fun k hk => by cases hk) (by kernel_rfl) (laid_met os))) ?_
  intro W base args ds gs before hval hW _ _ _ hL _ _
  exact contract H enc W base args ds gs before hval hW hL
theorem cf_inPlace : (Rows.fnExactSendPacketRow.inPlace == Tryz.checked.prog.inPlace 5) = true := by kernel_rfl
theorem cf_unfollowed : (Rows.fnExactSendPacketRow.unfollowed == Tryz.checked.prog.unfollowed 5) = true := by kernel_rfl
theorem cf_recurses : (Rows.fnExactSendPacketRow.recurses == Tryz.checked.prog.recurses 5) = true := by kernel_rfl
theorem cf_named : (Rows.fnExactSendPacketRow.named == Tryz.checked.prog.varsNamed 5) = true := by kernel_rfl
theorem cf_wf : Rows.fnExactSendPacketRow.wf (OpenSpec.ofChange Rows.fnExactSendPacketSpec) = true := by kernel_rfl
theorem cf_out : laidOutB Tryz.checked.prog = true := by kernel_rfl
theorem cf_maps : mapsRowed Tryz.checked.prog = true := by kernel_rfl
theorem cf_enter : Tryz.checked.prog.mayEnter = true := by kernel_rfl
theorem cf_keys : (Rows.fnExactSendPacketRow.plainKeys == Tryz.checked.prog.plainKeys) = true := by kernel_rfl
theorem cf_heard : Tryz.checked.prog.stopsHeard = true := by kernel_rfl
theorem cf_lifts : (Rows.fnExactSendPacketRow.lifted == Tryz.checked.prog.liftsFinal) = true := by kernel_rfl
set_option maxRecDepth 100000 in
theorem closed : joinedFacts Tryz.checked.prog 5 Tryz.f5 Rows.fnExactSendPacketSpec Rows.fnExactSendPacketRow = true := by
  unfold joinedFacts
  simp only [Bool.and_eq_true]
  repeat' apply And.intro
  all_goals first | with_reducible exact cf_inPlace | with_reducible exact cf_unfollowed | with_reducible exact cf_recurses | with_reducible exact cf_named | with_reducible exact cf_wf | with_reducible exact cf_out | with_reducible exact cf_maps | with_reducible exact cf_enter | with_reducible exact cf_keys | with_reducible exact cf_heard | with_reducible exact cf_lifts | kernel_rfl
set_option maxRecDepth 100000 in
theorem said : Rows.FnExactSendPacketSaid :=
  OpenClaim.holds_of_cond 5 Tryz.f5 rfl rfl rfl rfl rfl rfl rfl ⟨rfl, rfl, rfl, rfl, rfl⟩ rfl rfl rfl rfl rfl (by kernel_rfl) Tryz.func5 closed
    (of_decide_eq_true (by kernel_rfl)) (by unfold Func.isWrapper; first | (rw [if_pos (by decide +kernel)]; kernel_rfl) | (rw [if_neg (by decide +kernel)]; exact ⟨rfl, rfl⟩))
    (fun os started H enc _ F => by rw [OpenClaim.pre_eq_preRow]; exact lifted os started H enc F)
theorem plain (f : FuncId) (fn : Func) (hf : Tryz.pinned.checked.prog.funcNamed "loop.example/g00298/laws.FnExactSendPacket" = some f) (hfn : Tryz.pinned.checked.prog.funcs[f]? = some fn) :
    true = Tryz.pinned.checked.prog.looks [] ∧ ∀ (j : Nat) t, fn.params[j]? = some t → Tryz.pinned.checked.prog.wantsStandIn t = false := by
  obtain rfl : f = 5 := Option.some.inj ((show Tryz.prog.funcNamed "loop.example/g00298/laws.FnExactSendPacket" = some 5 by kernel_rfl).symm.trans hf) |>.symm
  obtain rfl : fn = Tryz.f5 := (Option.some.inj (Tryz.func5.symm.trans hfn)).symm
  refine ⟨by kernel_rfl, fun j t ht => ?_⟩
  rw [Tryz.params5] at ht
  have hm : t ∈ [46, 9, 3] := by simpa using Array.mem_of_getElem? ht
  have hall : ([46, 9, 3].all fun u => !Tryz.prog.wantsStandIn u) = true := by kernel_rfl
  exact (show Tryz.prog.wantsStandIn t = false by simpa using List.all_eq_true.1 hall t hm)
set_option maxRecDepth 100000 in
theorem card : Rows.FnExactSendPacketCardSaid :=
  Claim7.holds_tied_plain_at .later [] _ _ _ _ said (fun _ h => by cases h) (by kernel_rfl) (fun _ h => by cases h) fnExactSendPacket_row_tie rfl ⟨rfl, rfl⟩ (by kernel_rfl) rfl plain (by kernel_rfl)
#print axioms card
end Go.Proofs.YtggemblkhckbpaaGreatDoor.fnExactSendPacket
namespace Go.Proofs.YtggemblkhckbpaaGreatDoor
/-- The card, under a short name, for the claim. -/
theorem fnExactSendPacket_holds : Rows.FnExactSendPacketCardSaid := fnExactSendPacket.card
end Go.Proofs.YtggemblkhckbpaaGreatDoor
