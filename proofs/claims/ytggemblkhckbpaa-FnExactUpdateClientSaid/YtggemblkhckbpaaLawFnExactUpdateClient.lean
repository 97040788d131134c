-- written by wip/row.py, a program of this claim's author
import Derived.Test.YtggemblkhckbpaaRows
import Derived.Test.YtggemblkhckbpaaM3
import Derived.Test.YtggemblkhckbpaaM4
import Derived.WalkKit
import Derived.ProofKit
import Derived.OpenShut
import Derived.ShutString
import Derived.ChangeOld
import Derived.Below
import Derived.SizedLaws
namespace Go.Proofs.Ytggemblkhckbpaa.fnExactUpdateClient
open Go Go.ChangeShapes Go.WideShapes Go.ChangeAt Go.RowKit Go.Proofs.Ytggemblkhckbpaa.U Go.Proofs.YtggemblkhckbpaaW.PrintWords Go.Proofs.Ytggemblkhckbpaa.Q
open Go.ChangeMaps (open_string shut_string)
set_option linter.unusedVariables false
set_option linter.unusedSimpArgs false
theorem own : ownKnob Try.prog.godebug = none := by kernel_rfl
theorem laidOut : laidOutB Try.prog = true := by kernel_rfl
theorem opens0 : Opens Try.prog 45 (Kd.pair Kd.string (Kd.slice 98 k98)) (fun x : ByteArray × List S98 => (x.1.size ≤ maxLen ∧ (x.2.length ≤ maxLen ∧ ∀ y43 : S98, y43 ∈ x.2 → ((Lit.int .i64 y43.f0).wf = true ∧ y43.f1.size ≤ maxLen)))) := by
  have h := (Opens.struct Try.underlying45 (by kernel_rfl) (OpensF.cons (Opens.string Try.underlying9) (by kernel_rfl) (OpensF.one (Opens.slice Try.underlying43 (by kernel_rfl) (Opens.iso (f := fun x : S98 => (x.f0, x.f1)) (Opens.struct Try.underlying98 (by kernel_rfl) (OpensF.cons (Opens.int Try.underlying3) (by kernel_rfl) (OpensF.one (Opens.string Try.underlying9) (by kernel_rfl)))) (fun ⟨x0, x1⟩ => ⟨⟨x0, x1⟩, rfl⟩))) (by kernel_rfl))))
  exact h
theorem opens1 : Opens Try.prog 46 (Kd.pair (Kd.int .i64) (Kd.pair (Kd.int .i64) (Kd.pair Kd.string Kd.string))) (fun x : Int × Int × ByteArray × ByteArray => ((Lit.int .i64 x.1).wf = true ∧ ((Lit.int .i64 x.2.1).wf = true ∧ (x.2.2.1.size ≤ maxLen ∧ x.2.2.2.size ≤ maxLen)))) := by
  have h := (Opens.struct Try.underlying46 (by kernel_rfl) (OpensF.cons (Opens.int Try.underlying3) (by kernel_rfl) (OpensF.cons (Opens.int Try.underlying3) (by kernel_rfl) (OpensF.cons (Opens.string Try.underlying9) (by kernel_rfl) (OpensF.one (Opens.string Try.underlying9) (by kernel_rfl))))))
  exact h
set_option maxRecDepth 100000 in
theorem lifted (os : Os) (started : os.Started) (H : Type) (enc : TypeId × Value → H) :
    ReturnsInHanded {} Try.checked os 4 .any (Rows.fnExactUpdateClientSpec.pre6 enc Try.prog Try.f4 Rows.fnExactUpdateClientRow.domain false) (Rows.fnExactUpdateClientSpec.post enc Try.prog Try.f4 false true false false) := by
  refine returnsInHanded_of_change_sized (C := Try.checked) own started (by kernel_rfl) Try.func4
    (ChangeSpec.witness6 (enc := enc) (C := Try.checked) false ⟨#[], #[.agg #[.string ByteArray.empty, .slice none 0 0], .agg #[.int .i64 0, .int .i64 0, .string ByteArray.empty, .string ByteArray.empty]], []⟩ 8 (by kernel_rfl) (by kernel_rfl) (by kernel_rfl) (by kernel_rfl)) ?_
  intro W base args ds gs before hval0 hW hcnd hsz0 _
  have hval : ∀ (j : Nat) t v, Try.f4.params[j]? = some t → args[j]? = some v → Value.okWide Try.prog W .any base t v := hval0
  have hW' := hW
  obtain ⟨p, q, hA0, hV, rfl, hfz, hnd⟩ := hW
  have hA : DataW.TrodAll enc Try.prog W 0 (fun _ => true) true Try.f4.params.toList args.toList ds p := hA0
  rw [Try.params4] at hA hval
  obtain ⟨v0, vs0, d0, ds0, p0, q0, hargs, rfl, rfl, h0, r0⟩ := trodAll_cons hA
  obtain ⟨v1, vs1, d1, ds1, p1, q1, rfl, rfl, rfl, h1, r1⟩ := trodAll_cons r0
  obtain ⟨rfl, rfl, rfl⟩ := trodAll_nil r1
  obtain rfl : args = #[v0, v1] := by cases args; simp_all
  obtain ⟨rfl, rfl⟩ := trodVars_none hV
  have k0 := h0
  have lt0 : ∀ x ∈ p0, x.block < W.heap.size := by obtain ⟨m, hm⟩ := k0; exact DataW.trod_lt m _ _ _ hm
  obtain ⟨cs0, rfl, _⟩ := okWide_struct Try.underlying45 (hval 0 45 v0 rfl rfl)
  obtain ⟨x0, kx0, w0⟩ : ∃ x : ByteArray × List S98, (Kd.pair Kd.string (Kd.slice 98 k98)).K W x cs0.toList ∧ (x.1.size ≤ maxLen ∧ (x.2.length ≤ maxLen ∧ ∀ y43 : S98, y43 ∈ x.2 → ((Lit.int .i64 y43.f0).wf = true ∧ y43.f1.size ≤ maxLen))) := by obtain ⟨m, hm⟩ := h0; exact opens0.out _ _ _ _ _ _ _ _ hm
  obtain ⟨a0_0, a0_1⟩ := x0
  obtain ⟨c0_0, t0_0, e0, f0_0, n0_0⟩ := kx0
  obtain rfl := f0_0
  obtain ⟨A0_1, q0_1, rfl, hc0_1, hr0_1⟩ := n0_0
  obtain rfl : cs0 = #[.string a0_0, .slice A0_1 a0_1.length q0_1] := Array.toList_inj.mp (by simpa using e0)
  have k1 := h1
  have lt1 : ∀ x ∈ p1, x.block < W.heap.size := by obtain ⟨m, hm⟩ := k1; exact DataW.trod_lt m _ _ _ hm
  obtain ⟨cs1, rfl, _⟩ := okWide_struct Try.underlying46 (hval 1 46 v1 rfl rfl)
  obtain ⟨x1, kx1, w1⟩ : ∃ x : Int × Int × ByteArray × ByteArray, (Kd.pair (Kd.int .i64) (Kd.pair (Kd.int .i64) (Kd.pair Kd.string Kd.string))).K W x cs1.toList ∧ ((Lit.int .i64 x.1).wf = true ∧ ((Lit.int .i64 x.2.1).wf = true ∧ (x.2.2.1.size ≤ maxLen ∧ x.2.2.2.size ≤ maxLen))) := by obtain ⟨m, hm⟩ := h1; exact opens1.out _ _ _ _ _ _ _ _ hm
  obtain ⟨a1_0, a1_1, a1_2, a1_3⟩ := x1
  obtain rfl : cs1 = #[.int .i64 a1_0, .int .i64 a1_1, .string a1_2, .string a1_3] := by
    apply Array.toList_inj.mp
    exact (show cs1.toList = [.int .i64 a1_0, .int .i64 a1_1, .string a1_2, .string a1_3] by
      obtain ⟨c0, r0, e, rfl, r0'⟩ := kx1
      obtain ⟨c1, r1, rfl, rfl, r1'⟩ := r0'
      obtain ⟨c2, r2, rfl, rfl, r2'⟩ := r1'
      obtain rfl := r2'
      simpa using e)
  clear hA0 hval0 hsz0
  obtain ⟨k, hk⟩ := Pure.FnExactUpdateClient a0_0 a0_1 w0 a1_0 a1_1 a1_2 a1_3 w1
  refine (laws_FnExactUpdateClient.calls k a0_0 A0_1 q0_1 a0_1 a1_0 a1_1 a1_2 a1_3 true W hr0_1 hc0_1 hk).mono fun e W' ⟨he, bel0⟩ => ?_
  have bel : Below W.heap.size W W' := bel0
  subst he
  exact ⟨_, rfl, _, _, _, [], _, [], hW', trodAll_mk1 (shut_bool Try.underlying4 _), (trodAll_cons_mk (Below.trod laidOut (by kernel_rfl) (of_decide_eq_true (by kernel_rfl)) k0 bel lt0) (trodAll_cons_mk (Below.trod laidOut (by kernel_rfl) (of_decide_eq_true (by kernel_rfl)) k1 bel lt1) trodAll_mk0)), rfl, bel.frame _, fun h => by cases h⟩
theorem over : Rows.fnExactUpdateClientRow.holds Try.pinned (OpenSpec.ofChange Rows.fnExactUpdateClientSpec) :=
  OpenClaim.holds_of_wide 4 Try.f4 rfl rfl rfl rfl rfl rfl rfl ⟨rfl, rfl, rfl, rfl, rfl⟩ rfl rfl rfl rfl rfl (by kernel_rfl) Try.func4 (by kernel_rfl)
    (of_decide_eq_true (by kernel_rfl)) (by unfold Func.isWrapper; first | (rw [if_pos (by decide +kernel)]; kernel_rfl) | (rw [if_neg (by decide +kernel)]; exact ⟨rfl, rfl⟩))
    (fun os started H enc _ => lifted os started H enc)
theorem proved : Rows.FnExactUpdateClientSaid := over
#print axioms proved
end Go.Proofs.Ytggemblkhckbpaa.fnExactUpdateClient
namespace Go.Proofs.Ytggemblkhckbpaa
/-- The row, under a short name, for the claim. -/
theorem fnExactUpdateClient_holds : Rows.FnExactUpdateClientSaid := fnExactUpdateClient.proved
end Go.Proofs.Ytggemblkhckbpaa
