/- Parts of the proof: what single Go functions compute, each with its walk, and plain laws over these. -/
import Derived.Test.YteghpdmlpefnfaaDoorM1
import Derived.Test.YteghpdmlpefnfaaDoorM3
import Derived.Test.YteghpdmlpefnfaaDoorM4
import Derived.Test.YteghpdmlpefnfaaDoorM5
import Derived.WalkKit
import Derived.ProofKit
import Derived.OpenShut
import Derived.ShutString
import Derived.ChangeOld
import Derived.Below
import Derived.ChangeArms
import Derived.DataReads
import Derived.Test.YteghpdmlpefnfaaDoorVWords
/- All orders of a store: the program's are the reference's, and share no memory with what they were read from. -/
namespace Go.Proofs.YteghpdmlpefnfaaDoor.Pure
open Go Go.RowKit Go.Proofs.YteghpdmlpefnfaaDoor.Q Go.Proofs.YteghpdmlpefnfaaDoor.U Go.Proofs.YteghpdmlpefnfaaDoorW.PrintWords Go.Proofs.YteghpdmlpefnfaaDoorW.PrintLast Go.Proofs.YteghpdmlpefnfaaDoorW.PrintMore
set_option linter.unusedVariables false
set_option linter.unusedSimpArgs false

noncomputable def ordersOfV (l : List IP) : List OT × Int := if l.length ≤ 4096 then (if storeB l = true then (ordersV l, 0) else ([], 1)) else ([], 2)
theorem ordersOfV_len (l : List IP) (hl : l.length ≤ 1048576) : (ordersOfV l).1.length ≤ 1048576 := by
  unfold ordersOfV
  have := ordersV_len l
  split
  · split
    · exact Nat.le_trans this hl
    · exact Nat.zero_le _
  · exact Nat.zero_le _
theorem storeB_small {l : List IP} (h : storeB l = true) : ∀ x ∈ l, x.f0.size ≤ 1000000 ∧ x.f1.size ≤ 1000000 := fun x hx => by
  have := storeB_key h x hx
  omega
theorem specOrdersOf_ev (l : List IP) (hl : l.length ≤ 1048576) : Ev (fun k => spec_OrdersOf.f k l) (ordersOfV l) := by
  unfold spec_OrdersOf.f ordersOfV
  by_cases h1 : l.length ≤ 4096
  · simp only [if_neg (show ¬ (l.length : Int) > 4096 by omega), if_pos h1]
    refine Ev.bind (specStoreOK_ev l hl) ?_
    cases hs : storeB l with
    | false => exact Ev.now _
    | true => simp only [if_true]; exact Ev.bind (specAll_ev l hl (storeB_rises hs) (storeB_small hs)) (Ev.now _)
  · simp only [if_pos (show (l.length : Int) > 4096 by omega), if_neg h1]; exact Ev.now _
theorem implOrdersOf_ev (l : List IP) (hl : l.length ≤ 1048576) : Ev (fun k => impl_OrdersOf.f k l) (ordersOfV l) := by
  unfold impl_OrdersOf.f ordersOfV
  refine Ev.bind (storeCode_ev l [] hl) ?_
  simp only [List.any_nil, and_true]
  by_cases h1 : l.length ≤ 4096
  · simp only [if_pos h1]
    cases hs : storeB l with
    | false => exact Ev.now _
    | true => simp only [if_true]; exact Ev.bind (implAll_ev l hl (storeB_small hs)) (Ev.now _)
  · simp only [if_neg h1]; exact Ev.now _
theorem FnExactOrdersOf (l : List LP) (hw : l.length ≤ maxLen ∧ ∀ x ∈ l, (x.f0.size ≤ maxLen ∧ x.f1.size ≤ maxLen)) : ∃ k, laws_FnExactOrdersOf.f k l = some true := by
  refine Ev.rounds (?_ : Ev (fun k => laws_FnExactOrdersOf.f k l) true)
  have hm : maxLen = 9223372036854775807 := rfl
  rw [hm] at hw
  unfold laws_FnExactOrdersOf.f
  obtain ⟨z, e, hz⟩ := szPairS_ev l 1048576 hw.1 hw.2 (by decide) (by decide)
  refine Ev.bind e ?_
  by_cases hneg : z < 0
  · simp only [if_pos hneg]; exact Ev.now _
  simp only [if_neg hneg]
  rcases hz with hz | ⟨_, _, hs⟩
  · exact absurd hz hneg
  have hl : (l.map toP).length ≤ 1048576 := by rw [List.length_map]; exact hs.1
  have hol := ordersOfV_len (l.map toP) hl
  refine Ev.bind (toPairS_ev l hs.1) (Ev.bind (specOrdersOf_ev _ hl) (Ev.bind (toPairS_ev l hs.1) (Ev.bind (implOrdersOf_ev _ hl) ?_)))
  have himp := implOrdersOf_ev (l.map toP) hl
  generalize ordersOfV (l.map toP) = r at *
  refine Ev.bind (eqOrderS_ev r.1 hol) ?_
  simp only [if_true, bne_self_eq_false]
  refine Ev.step (fun k => by rw [laws_FnExactOrdersOf.j0, if_neg (by decide)]) (Ev.bind (toPairS_ev l hs.1) (Ev.bind (eqPairS_ev _ hl) ?_))
  simp only [if_true]
  refine Ev.bind (markPairS_ev _ 1 hl (by decide)) ?_
  simp only [if_neg (show ¬ ((1 + 2 * (l.map toP).length : Nat) : Int) < 0 by omega)]
  refine Ev.bind (eqOrderS_ev r.1 hol) ?_
  simp only [if_true, bne_self_eq_false]
  have hmk : Ev (fun k => laws_markOrderS.f k r.1 1) (((1 + 6 * r.1.length : Nat) : Int), markOs 1 r.1) := markOrderS_ev r.1 1 hol (by decide)
  have hhd : Ev (fun k => laws_heldOrderS.f k (markOs 1 r.1) 1) ((1 + 6 * r.1.length : Nat) : Int) := heldOrderS_ev r.1 1 hol (by decide)
  refine Ev.step (fun k => by rw [laws_FnExactOrdersOf.j1, if_neg (by decide)]) (Ev.bind hmk (Ev.bind hhd ?_))
  simp only [if_neg (show ¬ ((1 + 6 * r.1.length : Nat) : Int) < 0 by omega), if_true]
  refine Ev.bind (toPairS_ev l hs.1) (Ev.bind himp (Ev.bind (eqOrderS_ev r.1 hol) ?_))
  simp only [if_true, bne_self_eq_false]
  refine Ev.step (fun k => by rw [laws_FnExactOrdersOf.j2, if_neg (by decide)]) (Ev.bind hhd ?_)
  simp only [if_neg (show ¬ ((1 + 6 * r.1.length : Nat) : Int) < 0 by omega), if_true]
  exact Ev.now _
end Go.Proofs.YteghpdmlpefnfaaDoor.Pure

/- An argument of a law, whatever its type: read whole from what was handed over. -/
namespace Go.Proofs.YteghpdmlpefnfaaDoor.U
open Go Go.ChangeShapes Go.WideShapes Go.ChangeAt Go.RowKit Go.Proofs.YteghpdmlpefnfaaDoorW.PrintWords
set_option linter.unusedVariables false
set_option linter.unusedSimpArgs false

theorem addr_add_add (a : Addr) (i j : Nat) : (a.add i).add j = a.add (i + j) := by
  unfold Addr.add
  by_cases h0 : i = 0
  · subst h0; simp
  by_cases h1 : j = 0
  · subst h1; simp
  rw [if_neg h0, if_neg h1, if_neg (by omega)]
  simp only [Nat.add_assoc]
/-- What is handed over as a t can be read as a d. -/
structure Opens {α : Type} (P : Program) (t : TypeId) (d : Kd α) (wf : α → Prop) : Prop where
  out : ∀ {H : Type} (enc : TypeId × Value → H) (w : World) (base : Nat) (sp : Nat → Bool) (held : Bool) (n : Nat) (cs : List Value) (x : DataW H × List MemPlace),
    DataW.trod enc P w base sp held n t cs = some x → ∃ a, d.K w a cs ∧ wf a
theorem Opens.int {P : Program} {t : TypeId} {k : IntKind} (ht : P.underlying t = some (.int k)) : Opens P t (Kd.int k) (fun n => (Lit.int k n).wf = true) := by
  constructor
  intro H enc w base sp held n cs x h
  obtain ⟨m, rfl, rfl, hw⟩ := DataW.trod_int ht h
  exact ⟨m, rfl, hw⟩
theorem Opens.bool {P : Program} {t : TypeId} (ht : P.underlying t = some .bool) : Opens P t Kd.bool (fun _ => True) := by
  constructor
  intro H enc w base sp held n cs x h
  obtain ⟨m, rfl, rfl⟩ := DataW.trod_bool ht h
  exact ⟨m, rfl, trivial⟩
theorem Opens.string {P : Program} {t : TypeId} (ht : P.underlying t = some .string) : Opens P t Kd.string (fun s => s.size ≤ maxLen) := by
  constructor
  intro H enc w base sp held n cs x h
  obtain ⟨m, rfl, rfl, hw⟩ := DataW.trod_string ht h
  exact ⟨m, rfl, hw⟩
theorem all_of_each {α : Type} : ∀ (n : Nat) (p : Nat → α → Prop), (∀ i, i < n → ∃ a, p i a) → ∃ xs : List α, xs.length = n ∧ ∀ i a, xs[i]? = some a → p i a
  | 0, _, _ => ⟨[], rfl, fun i a h => by simp at h⟩
  | n + 1, p, h => by
    obtain ⟨a, ha⟩ := h 0 (by omega)
    obtain ⟨xs, hl, hx⟩ := all_of_each n (fun i => p (i + 1)) (fun i hi => h (i + 1) (by omega))
    refine ⟨a :: xs, by simp [hl], fun i b hb => ?_⟩
    cases i with
    | zero => simp at hb; subst hb; exact ha
    | succ j => exact hx j b (by simpa using hb)
theorem Opens.slice {α : Type} {P : Program} {t e : TypeId} {d : Kd α} {wf : α → Prop} (ht : P.underlying t = some (.slice e)) (hs : P.cellsOf e = d.sz) (hd : Opens P e d wf) :
    Opens P t (Kd.slice e d) (fun xs => xs.length ≤ maxLen ∧ ∀ x ∈ xs, wf x) := by
  constructor
  intro H enc w base sp held n cs x h
  rcases DataW.trod_slice ht h with ⟨rfl, rfl⟩ | ⟨a, len, cap, elems, rest, m, rfl, rfl, rfl, hb, hl, hm, hlen, hel, _, _⟩
  · exact ⟨[], ⟨none, 0, rfl, by simp, rfl, by simp, by simp⟩, by simp, by simp⟩
  obtain ⟨xs, hxl, hx⟩ := all_of_each len (fun i y => wf y ∧ ∃ c, c.length = d.sz ∧ d.K w y c ∧ ∀ j u, c[j]? = some u → w.cell? (a.add (i * d.sz + j)) = some u) (fun i hi => by
    have h1 := hel i hi
    rw [List.getElem?_eq_getElem (by omega)] at h1
    obtain ⟨c, hc, hy⟩ := Option.bind_eq_some_iff.mp h1
    obtain ⟨_, hcl, hcell⟩ := World.cells?_some hc
    obtain ⟨y, hk, hw⟩ := hd.out _ _ _ _ _ _ _ _ hy
    refine ⟨y, hw, c, by omega, hk, fun j u hu => ?_⟩
    have hj : j < P.cellsOf e := by
      rcases Nat.lt_or_ge j c.length with h' | h'
      · omega
      · rw [List.getElem?_eq_none h'] at hu; cases hu
    have h2 := hcell j hj
    rw [hu] at h2
    rw [← hs, ← h2, addr_add_add])
  subst hxl
  refine ⟨xs, ⟨some a, cap, rfl, hl, rfl, by have : maxLen = 9223372036854775807 := rfl; omega, fun _ => ⟨a, rfl, fun j p hp => (hx j p hp).2⟩⟩, by omega, fun x hxm => ?_⟩
  obtain ⟨i, hi, rfl⟩ := List.getElem_of_mem hxm
  exact (hx i _ (List.getElem?_eq_getElem hi)).1
/-- The fields of a struct, from a cell on. -/
structure OpensF {α : Type} (P : Program) (fs : List Field) (off : Nat) (d : Kd α) (wf : α → Prop) : Prop where
  out : ∀ {H : Type} (enc : TypeId × Value → H) (w : World) (base : Nat) (sp : Nat → Bool) (held : Bool) (n : Nat) (cs : List Value),
    cs.length = off + d.sz → (∀ f ∈ fs, ∃ y, DataW.trod enc P w base sp held n f.type ((cs.drop f.offset).take (P.cellsOf f.type)) = some y) → ∃ a, d.K w a (cs.drop off) ∧ wf a
theorem OpensF.one {α : Type} {P : Program} {f : Field} {d : Kd α} {wf : α → Prop} (hd : Opens P f.type d wf) (hs : P.cellsOf f.type = d.sz) : OpensF P [f] f.offset d wf := by
  constructor
  intro H enc w base sp held n cs hl hf
  obtain ⟨y, hy⟩ := hf f (by simp)
  rw [List.take_of_length_le (by rw [List.length_drop]; omega)] at hy
  exact hd.out _ _ _ _ _ _ _ _ hy
theorem OpensF.cons {α β : Type} {P : Program} {f : Field} {fs : List Field} {d : Kd α} {d1 : Kd β} {wf : α → Prop} {wf1 : β → Prop} (hd : Opens P f.type d wf) (hs : P.cellsOf f.type = d.sz) (h1 : OpensF P fs (f.offset + d.sz) d1 wf1) :
    OpensF P (f :: fs) f.offset (Kd.pair d d1) (fun p => wf p.1 ∧ wf1 p.2) := by
  constructor
  intro H enc w base sp held n cs hl hf
  have hl' : cs.length = f.offset + (d.sz + d1.sz) := hl
  obtain ⟨y, hy⟩ := hf f (by simp)
  obtain ⟨a, ha, wa⟩ := hd.out _ _ _ _ _ _ _ _ hy
  obtain ⟨b, hb, wb⟩ := h1.out enc w base sp held n cs (by omega) (fun g hg => hf g (by simp [hg]))
  refine ⟨(a, b), ⟨_, _, ?_, ha, hb⟩, wa, wb⟩
  rw [hs, ← List.drop_drop, List.take_append_drop]
theorem Opens.struct {α : Type} {P : Program} {t : TypeId} {fs : Array Field} {d : Kd α} {wf : α → Prop} (ht : P.underlying t = some (.struct fs)) (hs : P.cellsOf t = d.sz) (hf : OpensF P fs.toList 0 d wf) : Opens P t d wf := by
  constructor
  intro H enc w base sp held n cs x h
  obtain ⟨xs, m, rfl, rfl, hl, hxl, hx⟩ := DataW.trod_struct ht h
  have := hf.out enc w base sp held m cs (by omega) (fun f hfm => by
    obtain ⟨i, hi, rfl⟩ := List.getElem_of_mem hfm
    have hi' : i < fs.size := by simpa using hi
    refine ⟨xs[i]'(by omega), ?_⟩
    rw [hx i _ (by simp [hi'])]
    rw [List.getElem?_eq_getElem])
  simpa using this
theorem Opens.iso {α β : Type} {P : Program} {t : TypeId} {d : Kd α} {wf : α → Prop} {f : β → α} (h : Opens P t d wf) (g : ∀ a, ∃ b, f b = a) : Opens P t (Kd.iso d f) (fun b => wf (f b)) := by
  constructor
  intro H enc w base sp held n cs x hx
  obtain ⟨a, ha, wa⟩ := h.out enc w base sp held n cs x hx
  obtain ⟨b, rfl⟩ := g a
  exact ⟨b, ha, wa⟩
end Go.Proofs.YteghpdmlpefnfaaDoor.U
