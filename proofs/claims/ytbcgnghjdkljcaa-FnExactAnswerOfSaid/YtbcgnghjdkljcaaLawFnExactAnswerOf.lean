-- written by wip/row.py, a program of this claim's author
import Derived.Test.YtbcgnghjdkljcaaRows
import Derived.Test.YtbcgnghjdkljcaaM1
import Derived.WalkKit
import Derived.ProofKit
import Derived.OpenShut
import Derived.ShutString
import Derived.ChangeOld
import Derived.Below
import Derived.SizedLaws
namespace Go.Proofs.Ytbcgnghjdkljcaa.fnExactAnswerOf
open Go Go.ChangeShapes Go.WideShapes Go.ChangeAt Go.RowKit Go.Proofs.Ytbcgnghjdkljcaa.U Go.Proofs.YtbcgnghjdkljcaaW.PrintWords Go.Proofs.Ytbcgnghjdkljcaa.Q
open Go.ChangeMaps (open_string shut_string)
set_option linter.unusedVariables false
set_option linter.unusedSimpArgs false
theorem own : ownKnob Try.prog.godebug = none := by kernel_rfl
theorem laidOut : laidOutB Try.prog = true := by kernel_rfl
theorem opens0 : Opens Try.prog 22 (Kd.slice 73 k73) (fun x : List S73 => (x.length ≤ maxLen ∧ ∀ y22 : S73, y22 ∈ x → (y22.f0.size ≤ maxLen ∧ y22.f1.size ≤ maxLen))) := by
  have h := (Opens.slice Try.underlying22 (by kernel_rfl) (Opens.iso (f := fun x : S73 => (x.f0, x.f1)) (Opens.struct Try.underlying73 (by kernel_rfl) (OpensF.cons (Opens.string Try.underlying9) (by kernel_rfl) (OpensF.one (Opens.string Try.underlying9) (by kernel_rfl)))) (fun ⟨x0, x1⟩ => ⟨⟨x0, x1⟩, rfl⟩)))
  exact h
theorem opens1 : Opens Try.prog 3 (Kd.int .i64) (fun x : Int => (Lit.int .i64 x).wf = true) := by
  have h := (Opens.int Try.underlying3)
  exact h
set_option maxRecDepth 100000 in
theorem lifted (os : Os) (started : os.Started) (H : Type) (enc : TypeId × Value → H) :
    ReturnsInHanded {} Try.checked os 3 .any (Rows.fnExactAnswerOfSpec.pre6 enc Try.prog Try.f3 Rows.fnExactAnswerOfRow.domain false) (Rows.fnExactAnswerOfSpec.post enc Try.prog Try.f3 false true false false) := by
  refine returnsInHanded_of_change_sized (C := Try.checked) own started (by kernel_rfl) Try.func3
    (ChangeSpec.witness6 (enc := enc) (C := Try.checked) false ⟨#[], #[.slice none 0 0, .int .i64 0], []⟩ 8 (by kernel_rfl) (by kernel_rfl) (by kernel_rfl) (by kernel_rfl)) ?_
  intro W base args ds gs before hval0 hW hcnd hsz0 _
  have hval : ∀ (j : Nat) t v, Try.f3.params[j]? = some t → args[j]? = some v → Value.okWide Try.prog W .any base t v := hval0
  have hW' := hW
  obtain ⟨p, q, hA0, hV, rfl, hfz, hnd⟩ := hW
  have hA : DataW.TrodAll enc Try.prog W 0 (fun _ => true) true Try.f3.params.toList args.toList ds p := hA0
  rw [Try.params3] at hA hval
  obtain ⟨v0, vs0, d0, ds0, p0, q0, hargs, rfl, rfl, h0, r0⟩ := trodAll_cons hA
  obtain ⟨v1, vs1, d1, ds1, p1, q1, rfl, rfl, rfl, h1, r1⟩ := trodAll_cons r0
  obtain ⟨rfl, rfl, rfl⟩ := trodAll_nil r1
  obtain rfl : args = #[v0, v1] := by cases args; simp_all
  obtain ⟨rfl, rfl⟩ := trodVars_none hV
  have k0 := h0
  have lt0 : ∀ x ∈ p0, x.block < W.heap.size := by obtain ⟨m, hm⟩ := k0; exact DataW.trod_lt m _ _ _ hm
  obtain ⟨a0, len0, cap0, rfl⟩ := okWide_slice Try.underlying22 (hval 0 22 v0 rfl rfl)
  obtain ⟨l0, kx0, w0⟩ : ∃ x : List S73, (Kd.slice 73 k73).K W x [.slice a0 len0 cap0] ∧ (x.length ≤ maxLen ∧ ∀ y22 : S73, y22 ∈ x → (y22.f0.size ≤ maxLen ∧ y22.f1.size ≤ maxLen)) := by obtain ⟨m, hm⟩ := h0; exact opens0.out _ _ _ _ _ _ _ _ hm
  obtain ⟨A0, c0, e0, hc0, hr0⟩ := kx0
  injection e0 with e0 _
  injection e0 with ea0 el0 ec0
  subst ea0 el0 ec0
  have k1 := h1
  have lt1 : ∀ x ∈ p1, x.block < W.heap.size := by obtain ⟨m, hm⟩ := k1; exact DataW.trod_lt m _ _ _ hm
  obtain ⟨a1, rfl⟩ := okWide_int Try.underlying3 (hval 1 3 v1 rfl rfl)
  obtain ⟨x1, kx1, w1⟩ : ∃ x : Int, (Kd.int .i64).K W x [.int .i64 a1] ∧ (Lit.int .i64 x).wf = true := by obtain ⟨m, hm⟩ := h1; exact opens1.out _ _ _ _ _ _ _ _ hm
  obtain rfl : a1 = x1 := by have e : [_] = [_] := kx1; injection e with e _; injection e
  clear hA0 hval0 hsz0
  obtain ⟨k, hk⟩ := Pure.FnExactAnswerOf l0 w0 a1 w1
  refine (laws_FnExactAnswerOf.calls k a0 cap0 l0 a1 true W hr0 hc0 hk).mono fun e W' ⟨he, bel0⟩ => ?_
  have bel : Below W.heap.size W W' := bel0
  subst he
  exact ⟨_, rfl, _, _, _, [], _, [], hW', trodAll_mk1 (shut_bool Try.underlying4 _), (trodAll_cons_mk (Below.trod laidOut (by kernel_rfl) (of_decide_eq_true (by kernel_rfl)) k0 bel lt0) (trodAll_cons_mk (Below.trod laidOut (by kernel_rfl) (of_decide_eq_true (by kernel_rfl)) k1 bel lt1) trodAll_mk0)), rfl, bel.frame _, fun h => by cases h⟩
theorem over : Rows.fnExactAnswerOfRow.holds Try.pinned (OpenSpec.ofChange Rows.fnExactAnswerOfSpec) :=
  OpenClaim.holds_of_wide 3 Try.f3 rfl rfl rfl rfl rfl rfl rfl ⟨rfl, rfl, rfl, rfl, rfl⟩ rfl rfl rfl rfl rfl (by kernel_rfl) Try.func3 (by kernel_rfl)
    (of_decide_eq_true (by kernel_rfl)) (by unfold Func.isWrapper; first | (rw [if_pos (by decide +kernel)]; kernel_rfl) | (rw [if_neg (by decide +kernel)]; exact ⟨rfl, rfl⟩))
    (fun os started H enc _ => lifted os started H enc)
theorem proved : Rows.FnExactAnswerOfSaid := over
#print axioms proved
end Go.Proofs.Ytbcgnghjdkljcaa.fnExactAnswerOf
namespace Go.Proofs.Ytbcgnghjdkljcaa
/-- The row, under a short name, for the claim. -/
theorem fnExactAnswerOf_holds : Rows.FnExactAnswerOfSaid := fnExactAnswerOf.proved
end Go.Proofs.Ytbcgnghjdkljcaa
