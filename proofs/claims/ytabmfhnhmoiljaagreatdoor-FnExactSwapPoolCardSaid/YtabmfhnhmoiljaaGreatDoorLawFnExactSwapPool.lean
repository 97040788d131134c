-- written by wip/rowlaid.py, a program of this claim's author
import Derived.Test.YtabmfhnhmoiljaaGreatDoorCards
import Derived.Test.YtabmfhnhmoiljaaGreatDoorTie
import Derived.Test.YtabmfhnhmoiljaaGreatDoorM4
import Derived.Test.YtabmfhnhmoiljaaGreatDoorM5
import Derived.WalkKit
import Derived.ProofKit
import Derived.OpenShut
import Derived.ShutString
import Derived.ChangeOld
import Derived.Below
import Derived.SizedLaws
import Derived.Deep.DeepHandedRow
import Derived.Deep.DeepWitnessRowRef
import Derived.LaidMore
import Derived.Lib.LaidTab
import Derived.Lib.AppendIntMem
import Derived.Stop.LaidErr
namespace Go.Proofs.YtabmfhnhmoiljaaGreatDoor.fnExactSwapPool
open Go Go.ChangeShapes Go.WideShapes Go.ChangeAt Go.RowKit Go.Proofs.YtabmfhnhmoiljaaGreatDoor.U Go.Proofs.YtabmfhnhmoiljaaGreatDoorW.PrintWords Go.Proofs.YtabmfhnhmoiljaaGreatDoor.Q
open Go.ChangeMaps (open_string shut_string)
set_option linter.unusedVariables false
set_option linter.unusedSimpArgs false
theorem own : ownKnob Tryz.prog.godebug = none := by kernel_rfl
theorem laidOut : laidOutB Tryz.prog = true := by kernel_rfl
theorem opens0 : Opens Tryz.prog 9 Kd.string (fun x : ByteArray => x.size ≤ maxLen) := by
  have h := (Opens.string Tryz.underlying9)
  exact h
theorem opens1 : Opens Tryz.prog 22 (Kd.slice 49 k49) (fun x : List S49 => (x.length ≤ maxLen ∧ ∀ y22 : S49, y22 ∈ x → (y22.f0.size ≤ maxLen ∧ y22.f1.size ≤ maxLen))) := by
  have h := (Opens.slice Tryz.underlying22 (by kernel_rfl) (Opens.iso (f := fun x : S49 => (x.f0, x.f1)) (Opens.struct Tryz.underlying49 (by kernel_rfl) (OpensF.cons (Opens.string Tryz.underlying9) (by kernel_rfl) (OpensF.one (Opens.string Tryz.underlying9) (by kernel_rfl)))) (fun ⟨x0, x1⟩ => ⟨⟨x0, x1⟩, rfl⟩)))
  exact h
theorem opens2 : Opens Tryz.prog 9 Kd.string (fun x : ByteArray => x.size ≤ maxLen) := by
  have h := (Opens.string Tryz.underlying9)
  exact h
theorem opens3 : Opens Tryz.prog 9 Kd.string (fun x : ByteArray => x.size ≤ maxLen) := by
  have h := (Opens.string Tryz.underlying9)
  exact h
theorem opens4 : Opens Tryz.prog 3 (Kd.int .i64) (fun x : Int => (Lit.int .i64 x).wf = true) := by
  have h := (Opens.int Tryz.underlying3)
  exact h
theorem opens5 : Opens Tryz.prog 3 (Kd.int .i64) (fun x : Int => (Lit.int .i64 x).wf = true) := by
  have h := (Opens.int Tryz.underlying3)
  exact h
theorem gPow : Tryz.prog.globalNamed "internal/strconv.uint64pow10" = some 5 := by kernel_rfl
theorem gPowType : (Tryz.prog.globals[5]?).map (·.type) = some 179 := by kernel_rfl
theorem cellsT : Tryz.prog.cellsOf 179 = 20 := by kernel_rfl
theorem cellsE : Tryz.prog.cellsOf 149 = 1 := by kernel_rfl
theorem star : "*" ++ "errors.errorString" = "*errors.errorString" := by decide
theorem rowE (u : TypeId) (h : Tryz.prog.typeName? 3 u = some "*errors.errorString") : u = 185 :=
  typeName_ptr_named (nm := "errors.errorString") (by rw [star]; kernel_rfl) (by kernel_rfl) (by decide) u (by rw [star]; exact h)
theorem cellsES : Tryz.prog.cellsOf 187 = 1 := by kernel_rfl
theorem cellsS : Tryz.prog.cellsOf 9 = 1 := by kernel_rfl
theorem gS : Tryz.prog.globalNamed "strconv.ErrSyntax" = some 3 := by kernel_rfl
theorem gST : (Tryz.prog.globals[3]?).map (·.type) = some 141 := by kernel_rfl
theorem errS {W : World} (h : laidMet Tryz.prog Rows.fnExactSwapPoolRow.laid W) : ErrBelow W "strconv.ErrSyntax" := by
  obtain ⟨a0, s0, hv0, -, -, -⟩ := laid_sentinel (r := Rows.fnExactSwapPoolRow.laid.drop 5) ((((h.tail).tail).tail).tail) gS gST Tryz.underlying141 rowE Tryz.underlying185 Tryz.underlying187 rfl rfl Tryz.underlying9 cellsES cellsS
  exact ErrBelow.of_var hv0
theorem gR : Tryz.prog.globalNamed "strconv.ErrRange" = some 4 := by kernel_rfl
theorem gRT : (Tryz.prog.globals[4]?).map (·.type) = some 141 := by kernel_rfl
theorem errR {W : World} (h : laidMet Tryz.prog Rows.fnExactSwapPoolRow.laid W) : ErrBelow W "strconv.ErrRange" := by
  obtain ⟨a0, s0, hv0, -, -, -⟩ := laid_sentinel (r := Rows.fnExactSwapPoolRow.laid.drop 4) (((h.tail).tail).tail) gR gRT Tryz.underlying141 rowE Tryz.underlying185 Tryz.underlying187 rfl rfl Tryz.underlying9 cellsES cellsS
  exact ErrBelow.of_var hv0
theorem plainList : (Rows.fnExactSwapPoolRow.laid.all fun x => x.2.handleName?.isNone) = true := by kernel_rfl
theorem tabs {W : World} (h : laidMetH Tryz.prog Rows.fnExactSwapPoolRow.laid W) : TabsOK W := by
  rw [MakeChecks.laidMetH_plain _ _ _ plainList] at h
  have h1 : laidMet Tryz.prog (("internal/strconv.uint64pow10", Lib.tabData .u64 Lib.pow10Tab) :: Rows.fnExactSwapPoolRow.laid.drop 3) W := ((h.tail).tail)
  have t1 := Lib.tabBelow_of_tabIs (Lib.tabIs_of_head gPow gPowType Tryz.underlying179 Tryz.underlying149 cellsE cellsT h1)
  exact ⟨t1, errS h, errR h⟩
-- the row
set_option maxRecDepth 100000 in
theorem contract (H : Type) (enc : TypeId × Value → H) (W : World) (base : Nat) (args : Array Value) (ds gs : List (DataW H)) (before : List MemPlace)
    (hval0 : ∀ (j : Nat) t v, Tryz.f12.params[j]? = some t → args[j]? = some v → Value.okWide Tryz.prog W .any base t v)
    (hW : DataW.Whole enc Tryz.prog Tryz.f12.params.toList Rows.fnExactSwapPoolSpec.vars false W args.toList ds gs before) (hL : laidMetH Tryz.prog Rows.fnExactSwapPoolRow.laid W) :
    Calls Tryz.prog 12 args W fun e W' => ∃ v, e = .returned v ∧ Rows.fnExactSwapPoolSpec.post enc Tryz.prog Tryz.f12 false true false false W args v W' := by
  have hval : ∀ (j : Nat) t v, Tryz.f12.params[j]? = some t → args[j]? = some v → Value.okWide Tryz.prog W .any base t v := hval0
  have hW' := hW
  obtain ⟨p, q, hA0, hV, rfl, hfz, hnd⟩ := hW
  have hA : DataW.TrodAll enc Tryz.prog W 0 (fun _ => true) true Tryz.f12.params.toList args.toList ds p := hA0
  rw [Tryz.params12] at hA hval
  obtain ⟨v0, vs0, d0, ds0, p0, q0, hargs, rfl, rfl, h0, r0⟩ := trodAll_cons hA
  obtain ⟨v1, vs1, d1, ds1, p1, q1, rfl, rfl, rfl, h1, r1⟩ := trodAll_cons r0
  obtain ⟨v2, vs2, d2, ds2, p2, q2, rfl, rfl, rfl, h2, r2⟩ := trodAll_cons r1
  obtain ⟨v3, vs3, d3, ds3, p3, q3, rfl, rfl, rfl, h3, r3⟩ := trodAll_cons r2
  obtain ⟨v4, vs4, d4, ds4, p4, q4, rfl, rfl, rfl, h4, r4⟩ := trodAll_cons r3
  obtain ⟨v5, vs5, d5, ds5, p5, q5, rfl, rfl, rfl, h5, r5⟩ := trodAll_cons r4
  obtain ⟨rfl, rfl, rfl⟩ := trodAll_nil r5
  obtain rfl : args = #[v0, v1, v2, v3, v4, v5] := by cases args; simp_all
  obtain ⟨rfl, rfl⟩ := trodVars_none hV
  have k0 := h0
  have lt0 : ∀ x ∈ p0, x.block < W.heap.size := by obtain ⟨m, hm⟩ := k0; exact DataW.trod_lt m _ _ _ hm
  obtain ⟨a0, rfl⟩ := okWide_string Tryz.underlying9 (hval 0 9 v0 rfl rfl)
  obtain ⟨x0, kx0, w0⟩ : ∃ x : ByteArray, Kd.string.K W x [.string a0] ∧ x.size ≤ maxLen := by obtain ⟨m, hm⟩ := h0; exact opens0.out _ _ _ _ _ _ _ _ hm
  obtain rfl : a0 = x0 := by have e : [_] = [_] := kx0; injection e with e _; injection e
  have k1 := h1
  have lt1 : ∀ x ∈ p1, x.block < W.heap.size := by obtain ⟨m, hm⟩ := k1; exact DataW.trod_lt m _ _ _ hm
  obtain ⟨a1, len1, cap1, rfl⟩ := okWide_slice Tryz.underlying22 (hval 1 22 v1 rfl rfl)
  obtain ⟨l1, kx1, w1⟩ : ∃ x : List S49, (Kd.slice 49 k49).K W x [.slice a1 len1 cap1] ∧ (x.length ≤ maxLen ∧ ∀ y22 : S49, y22 ∈ x → (y22.f0.size ≤ maxLen ∧ y22.f1.size ≤ maxLen)) := by obtain ⟨m, hm⟩ := h1; exact opens1.out _ _ _ _ _ _ _ _ hm
  obtain ⟨A1, c1, e1, hc1, hr1⟩ := kx1
  injection e1 with e1 _
  injection e1 with ea1 el1 ec1
  subst ea1 el1 ec1
  have k2 := h2
  have lt2 : ∀ x ∈ p2, x.block < W.heap.size := by obtain ⟨m, hm⟩ := k2; exact DataW.trod_lt m _ _ _ hm
  obtain ⟨a2, rfl⟩ := okWide_string Tryz.underlying9 (hval 2 9 v2 rfl rfl)
  obtain ⟨x2, kx2, w2⟩ : ∃ x : ByteArray, Kd.string.K W x [.string a2] ∧ x.size ≤ maxLen := by obtain ⟨m, hm⟩ := h2; exact opens2.out _ _ _ _ _ _ _ _ hm
  obtain rfl : a2 = x2 := by have e : [_] = [_] := kx2; injection e with e _; injection e
  have k3 := h3
  have lt3 : ∀ x ∈ p3, x.block < W.heap.size := by obtain ⟨m, hm⟩ := k3; exact DataW.trod_lt m _ _ _ hm
  obtain ⟨a3, rfl⟩ := okWide_string Tryz.underlying9 (hval 3 9 v3 rfl rfl)
  obtain ⟨x3, kx3, w3⟩ : ∃ x : ByteArray, Kd.string.K W x [.string a3] ∧ x.size ≤ maxLen := by obtain ⟨m, hm⟩ := h3; exact opens3.out _ _ _ _ _ _ _ _ hm
  obtain rfl : a3 = x3 := by have e : [_] = [_] := kx3; injection e with e _; injection e
  have k4 := h4
  have lt4 : ∀ x ∈ p4, x.block < W.heap.size := by obtain ⟨m, hm⟩ := k4; exact DataW.trod_lt m _ _ _ hm
  obtain ⟨a4, rfl⟩ := okWide_int Tryz.underlying3 (hval 4 3 v4 rfl rfl)
  obtain ⟨x4, kx4, w4⟩ : ∃ x : Int, (Kd.int .i64).K W x [.int .i64 a4] ∧ (Lit.int .i64 x).wf = true := by obtain ⟨m, hm⟩ := h4; exact opens4.out _ _ _ _ _ _ _ _ hm
  obtain rfl : a4 = x4 := by have e : [_] = [_] := kx4; injection e with e _; injection e
  have k5 := h5
  have lt5 : ∀ x ∈ p5, x.block < W.heap.size := by obtain ⟨m, hm⟩ := k5; exact DataW.trod_lt m _ _ _ hm
  obtain ⟨a5, rfl⟩ := okWide_int Tryz.underlying3 (hval 5 3 v5 rfl rfl)
  obtain ⟨x5, kx5, w5⟩ : ∃ x : Int, (Kd.int .i64).K W x [.int .i64 a5] ∧ (Lit.int .i64 x).wf = true := by obtain ⟨m, hm⟩ := h5; exact opens5.out _ _ _ _ _ _ _ _ hm
  obtain rfl : a5 = x5 := by have e : [_] = [_] := kx5; injection e with e _; injection e
  clear hA0 hval0
  obtain ⟨k, hk⟩ := Pure.FnExactSwapPool a0 w0 l1 w1 a2 w2 a3 w3 a4 w4 a5 w5
  refine (laws_FnExactSwapPool.calls k a0 a1 cap1 l1 a2 a3 a4 a5 true W hr1 hc1 (tabs hL) hk).mono fun e W' ⟨he, bel0⟩ => ?_
  have bel : Below W.heap.size W W' := bel0
  subst he
  exact ⟨_, rfl, _, _, _, [], _, [], hW', trodAll_mk1 (shut_bool Tryz.underlying4 _), (trodAll_cons_mk (Below.trod laidOut (by kernel_rfl) (of_decide_eq_true (by kernel_rfl)) k0 bel lt0) (trodAll_cons_mk (Below.trod laidOut (by kernel_rfl) (of_decide_eq_true (by kernel_rfl)) k1 bel lt1) (trodAll_cons_mk (Below.trod laidOut (by kernel_rfl) (of_decide_eq_true (by kernel_rfl)) k2 bel lt2) (trodAll_cons_mk (Below.trod laidOut (by kernel_rfl) (of_decide_eq_true (by kernel_rfl)) k3 bel lt3) (trodAll_cons_mk (Below.trod laidOut (by kernel_rfl) (of_decide_eq_true (by kernel_rfl)) k4 bel lt4) (trodAll_cons_mk (Below.trod laidOut (by kernel_rfl) (of_decide_eq_true (by kernel_rfl)) k5 bel lt5) trodAll_mk0)))))), rfl, bel.frame _, fun h => by cases h⟩
noncomputable def laidWorld (os : Os) : World := World.doorLaid Tryz.prog 62 os
theorem laid_met (os : Os) : laidMetH Tryz.prog Rows.fnExactSwapPoolRow.laid ((laidWorld os).forCall (fun _ _ => 0) ⟨#[], #[.string ByteArray.empty, .slice none 0 0, .string ByteArray.empty, .string ByteArray.empty, .int .i64 0, .int .i64 0], []⟩).memory := by
  rw [MakeChecks.laidMetH_plain _ _ _ (by kernel_rfl)]
  exact laidMet_of_run' 8 (by kernel_rfl) (by kernel_rfl)
theorem reads (os : Os) {H : Type} (enc : TypeId × Value → H) : ∃ places, DataW.whole enc Tryz.prog ((laidWorld os).forCall (fun _ _ => 0) ⟨#[], #[.string ByteArray.empty, .slice none 0 0, .string ByteArray.empty, .string ByteArray.empty, .int .i64 0, .int .i64 0], []⟩).memory Tryz.f12.params.toList Rows.fnExactSwapPoolSpec.vars false (#[.string ByteArray.empty, .slice none 0 0, .string ByteArray.empty, .string ByteArray.empty, .int .i64 0, .int .i64 0] : Array Value).toList 8 = some ([.lit (.string []), .nil, .lit (.string []), .lit (.string []), .lit (.int .i64 0), .lit (.int .i64 0)], [], places) :=
  ⟨[], by kernel_rfl⟩
set_option maxRecDepth 100000 in
theorem lifted (os : Os) (started : os.Started) (H : Type) (enc : TypeId × Value → H) (F : Stop.Interp) :
    ReturnsInHanded {} Tryz.checked os 12 .any ((OpenSpec.ofChange Rows.fnExactSwapPoolSpec).preRow enc Tryz.prog Tryz.f12 Rows.fnExactSwapPoolRow.domain false Rows.fnExactSwapPoolRow.laid) (((OpenSpec.ofChange Rows.fnExactSwapPoolSpec).at F).post enc Tryz.prog Tryz.f12 false true false false) := by
  obtain ⟨places, hx⟩ := reads os enc
  refine returnsInHanded_of_row (C := Tryz.checked) (s := OpenSpec.ofChange Rows.fnExactSwapPoolSpec) own started (by kernel_rfl) Tryz.func12
    (witness_row_atRef (enc := enc) (C := Tryz.checked) false (laidWorld os) #[.string ByteArray.empty, .slice none 0 0, .string ByteArray.empty, .string ByteArray.empty, .int .i64 0, .int .i64 0] rfl (by kernel_rfl) (by kernel_rfl) (by kernel_rfl)
      (OpenSpec.preRow_of_cond 8 hx (by kernel_rfl) (fun k hk => by cases hk) (by kernel_rfl) (laid_met os))) ?_
  intro W base args ds gs before hval hW _ _ _ hL _ _
  exact contract H enc W base args ds gs before hval hW hL
theorem cf_inPlace : (Rows.fnExactSwapPoolRow.inPlace == Tryz.checked.prog.inPlace 12) = true := by kernel_rfl
theorem cf_unfollowed : (Rows.fnExactSwapPoolRow.unfollowed == Tryz.checked.prog.unfollowed 12) = true := by kernel_rfl
theorem cf_recurses : (Rows.fnExactSwapPoolRow.recurses == Tryz.checked.prog.recurses 12) = true := by kernel_rfl
theorem cf_named : (Rows.fnExactSwapPoolRow.named == Tryz.checked.prog.varsNamed 12) = true := by kernel_rfl
theorem cf_wf : Rows.fnExactSwapPoolRow.wf (OpenSpec.ofChange Rows.fnExactSwapPoolSpec) = true := by kernel_rfl
theorem cf_out : laidOutB Tryz.checked.prog = true := by kernel_rfl
theorem cf_maps : mapsRowed Tryz.checked.prog = true := by kernel_rfl
theorem cf_enter : Tryz.checked.prog.mayEnter = true := by kernel_rfl
theorem cf_keys : (Rows.fnExactSwapPoolRow.plainKeys == Tryz.checked.prog.plainKeys) = true := by kernel_rfl
theorem cf_heard : Tryz.checked.prog.stopsHeard = true := by kernel_rfl
theorem cf_lifts : (Rows.fnExactSwapPoolRow.lifted == Tryz.checked.prog.liftsFinal) = true := by kernel_rfl
set_option maxRecDepth 100000 in
theorem closed : joinedFacts Tryz.checked.prog 12 Tryz.f12 Rows.fnExactSwapPoolSpec Rows.fnExactSwapPoolRow = true := by
  unfold joinedFacts
  simp only [Bool.and_eq_true]
  repeat' apply And.intro
  all_goals first | with_reducible exact cf_inPlace | with_reducible exact cf_unfollowed | with_reducible exact cf_recurses | with_reducible exact cf_named | with_reducible exact cf_wf | with_reducible exact cf_out | with_reducible exact cf_maps | with_reducible exact cf_enter | with_reducible exact cf_keys | with_reducible exact cf_heard | with_reducible exact cf_lifts | kernel_rfl
set_option maxRecDepth 100000 in
theorem said : Rows.FnExactSwapPoolSaid :=
  OpenClaim.holds_of_cond 12 Tryz.f12 rfl rfl rfl rfl rfl rfl rfl ⟨rfl, rfl, rfl, rfl, rfl⟩ rfl rfl rfl rfl rfl (by kernel_rfl) Tryz.func12 closed
    (of_decide_eq_true (by kernel_rfl)) (by unfold Func.isWrapper; first | (rw [if_pos (by decide +kernel)]; kernel_rfl) | (rw [if_neg (by decide +kernel)]; exact ⟨rfl, rfl⟩))
    (fun os started H enc _ F => by rw [OpenClaim.pre_eq_preRow]; exact lifted os started H enc F)
theorem plain (f : FuncId) (fn : Func) (hf : Tryz.pinned.checked.prog.funcNamed "loop.example/g00298/laws.FnExactSwapPool" = some f) (hfn : Tryz.pinned.checked.prog.funcs[f]? = some fn) :
    true = Tryz.pinned.checked.prog.looks [] ∧ ∀ (j : Nat) t, fn.params[j]? = some t → Tryz.pinned.checked.prog.wantsStandIn t = false := by
  obtain rfl : f = 12 := Option.some.inj ((show Tryz.prog.funcNamed "loop.example/g00298/laws.FnExactSwapPool" = some 12 by kernel_rfl).symm.trans hf) |>.symm
  obtain rfl : fn = Tryz.f12 := (Option.some.inj (Tryz.func12.symm.trans hfn)).symm
  refine ⟨by kernel_rfl, fun j t ht => ?_⟩
  rw [Tryz.params12] at ht
  have hm : t ∈ [9, 22, 9, 9, 3, 3] := by simpa using Array.mem_of_getElem? ht
  have hall : ([9, 22, 9, 9, 3, 3].all fun u => !Tryz.prog.wantsStandIn u) = true := by kernel_rfl
  exact (show Tryz.prog.wantsStandIn t = false by simpa using List.all_eq_true.1 hall t hm)
set_option maxRecDepth 100000 in
theorem card : Rows.FnExactSwapPoolCardSaid :=
  Claim7.holds_tied_plain_at .later [] _ _ _ _ said (fun _ h => by cases h) (by kernel_rfl) (fun _ h => by cases h) fnExactSwapPool_row_tie rfl ⟨rfl, rfl⟩ (by kernel_rfl) rfl plain (by kernel_rfl)
#print axioms card
end Go.Proofs.YtabmfhnhmoiljaaGreatDoor.fnExactSwapPool
namespace Go.Proofs.YtabmfhnhmoiljaaGreatDoor
/-- The card, under a short name, for the claim. -/
theorem fnExactSwapPool_holds : Rows.FnExactSwapPoolCardSaid := fnExactSwapPool.card
end Go.Proofs.YtabmfhnhmoiljaaGreatDoor
