/- Parts of the proof: what single Go functions compute, each with its walk, and plain laws over these. -/
import Derived.Test.YteghpdmlpefnfaaDoorM0
import Derived.Test.YteghpdmlpefnfaaDoorM2
import Derived.Test.YteghpdmlpefnfaaDoorM3
import Derived.Test.YteghpdmlpefnfaaDoorM4
import Derived.Test.YteghpdmlpefnfaaDoorM5
import Derived.WalkKit
import Derived.ProofKit
import Derived.OpenShut
import Derived.ShutString
import Derived.ChangeOld
import Derived.Below
import Derived.ChangeArms
import Derived.DataReads
import Derived.Test.YteghpdmlpefnfaaDoorVWords
/- The order of an Id: the program's is the reference's. -/
namespace Go.Proofs.YteghpdmlpefnfaaDoor.Pure
open Go Go.RowKit Go.Proofs.YteghpdmlpefnfaaDoor.Q Go.Proofs.YteghpdmlpefnfaaDoor.U Go.Proofs.YteghpdmlpefnfaaDoorW.PrintWords Go.Proofs.YteghpdmlpefnfaaDoorW.PrintLast Go.Proofs.YteghpdmlpefnfaaDoorW.PrintMore
set_option linter.unusedVariables false
set_option linter.unusedSimpArgs false

def nilO : Ord := ((⟨#[]⟩ : ByteArray), (⟨#[]⟩ : ByteArray), 0, 0, 0, false)
def okey (id : ByteArray) : ByteArray := (⟨#[111, 47]⟩ : ByteArray) ++ id
def ordC (c : Int) : Option Ord → ByteArray × ByteArray × Int × Int × Int × Bool × Int
  | some (a, b, s, w, l, o) => (a, b, s, w, l, o, 0)
  | none => ((⟨#[]⟩ : ByteArray), (⟨#[]⟩ : ByteArray), 0, 0, 0, false, c)
noncomputable def orderAtV (l : List IP) (id : ByteArray) : ByteArray × ByteArray × Int × Int × Int × Bool × Int :=
  if l.length ≤ 4096 ∧ id.size ≤ 65536 then (if storeB l = true then (if nameB id = true then ordC 5 (orderO id (getV l (okey id)).1) else ordC 4 none) else ordC 1 none) else ordC 2 none
theorem l09Key_eq (id : ByteArray) (h : id.size ≤ 1048576) : spec_l09Key.f id = some (okey id) := by
  unfold spec_l09Key.f okey
  rw [if_pos (by omega)]
theorem orderKey_eq (id : ByteArray) (h : id.size ≤ 1048576) : impl_orderKey.f id = some (okey id) := by
  unfold impl_orderKey.f okey
  rw [if_pos (by omega)]
theorem orderO_empty (id : ByteArray) : orderO id (⟨#[]⟩ : ByteArray) = none := by unfold orderO; rw [readV_empty]
theorem specFindO_ev (l : List IP) (id : ByteArray) (hl : l.length ≤ 1048576) (hv : ∀ x ∈ l, x.f1.size ≤ 1048576) (hi : id.size ≤ 1048576) : ∃ x, Ev (fun k => spec_l09Find.f k l id) (ordR x (orderO id (getV l (okey id)).1)) := by
  unfold spec_l09Find.f
  rw [l09Key_eq id hi]
  simp only [Option.bind_some]
  have hn := getV_none l (okey id)
  have hsz := getV_size l (okey id) 1048576 hv
  have hg := specGet_ev l (okey id) hl
  generalize getV l (okey id) = g at *
  obtain ⟨v, ok⟩ := g
  cases ok with
  | false =>
    have : v = ⟨#[]⟩ := hn rfl
    subst this
    refine ⟨nilO, Ev.bind hg ?_⟩
    rw [orderO_empty]
    simp only [Bool.false_eq_true, if_false]
    exact Ev.now _
  | true =>
    obtain ⟨x, hx⟩ := specRead_ev id v hsz
    refine ⟨x, Ev.bind hg ?_⟩
    simp only [if_true]
    exact Ev.bind hx (Ev.now _)
theorem implAtO_ev (l : List IP) (id : ByteArray) (hl : l.length ≤ 1048576) (hv : ∀ x ∈ l, x.f1.size ≤ 1048576) (hi : id.size ≤ 1048576) : ∃ x, Ev (fun k => impl_orderAt.f k l id) (ordR x (orderO id (getV l (okey id)).1)) := by
  unfold impl_orderAt.f
  rw [orderKey_eq id hi]
  simp only [Option.bind_some]
  have hn := getV_none l (okey id)
  have hsz := getV_size l (okey id) 1048576 hv
  have hg := implGet_ev l (okey id) hl
  generalize getV l (okey id) = g at *
  obtain ⟨v, ok⟩ := g
  obtain ⟨x, hx⟩ := implOrderOf_ev id v hi hsz
  cases ok with
  | false =>
    have : v = ⟨#[]⟩ := hn rfl
    subst this
    rw [orderO_empty] at *
    refine ⟨x, Ev.bind hg (Ev.bind hx ?_)⟩
    simp only [Bool.false_eq_true, if_false]
    exact Ev.now _
  | true =>
    refine ⟨x, Ev.bind hg (Ev.bind hx ?_)⟩
    simp only [if_true]
    exact Ev.now _
theorem ordR_ordC (x : Ord) (o : Option Ord) (c : Int) : (if (ordR x o).2.2.2.2.2.2 = true then some ((ordR x o).1, (ordR x o).2.1, (ordR x o).2.2.1, (ordR x o).2.2.2.1, (ordR x o).2.2.2.2.1, (ordR x o).2.2.2.2.2.1, (0 : Int)) else some ((⟨#[]⟩ : ByteArray), (⟨#[]⟩ : ByteArray), (0 : Int), (0 : Int), (0 : Int), false, c)) = some (ordC c o) := by
  cases o with
  | none => rfl
  | some y => rfl
theorem specOrderAt_ev (l : List IP) (id : ByteArray) (hl : l.length ≤ 1048576) (hv : ∀ x ∈ l, x.f1.size ≤ 1048576) (hi : id.size ≤ 1048576) : Ev (fun k => spec_OrderAt.f k l id) (orderAtV l id) := by
  have hbad : orderAtV l id = ordC 2 none → Ev (fun k => spec_OrderAt.j0 k l id true) (orderAtV l id) := fun e => by
    rw [e]; exact Ev.step (fun k => by rw [spec_OrderAt.j0, if_pos rfl]; rfl) (Ev.now _)
  unfold spec_OrderAt.f
  by_cases h1 : l.length ≤ 4096
  · simp only [if_neg (show ¬ (l.length : Int) > 4096 by omega)]
    by_cases h2 : id.size ≤ 65536
    · simp only [decide_eq_false (show ¬ (id.size : Int) > 65536 by omega)]
      have hask : Ev (fun k => spec_l09Ask.f k l id) (if storeB l = true then (if nameB id = true then 0 else 4) else 1) := by
        unfold spec_l09Ask.f
        simp only [if_neg (show ¬ (l.length : Int) > 4096 by omega), decide_eq_false (show ¬ (id.size : Int) > 65536 by omega)]
        refine Ev.step (fun k => by rw [spec_l09Ask.j0, if_neg (by decide)]) (Ev.bind (specStoreOK_ev l hl) ?_)
        cases storeB l with
        | false => exact Ev.now _
        | true =>
          simp only [if_true]
          refine Ev.bind (l05Name_ev id) ?_
          cases nameB id <;> exact Ev.now _
      refine Ev.step (fun k => by rw [spec_OrderAt.j0, if_neg (by decide)]) (Ev.bind hask ?_)
      rw [show orderAtV l id = (if storeB l = true then (if nameB id = true then ordC 5 (orderO id (getV l (okey id)).1) else ordC 4 none) else ordC 1 none) from by unfold orderAtV; rw [if_pos (show l.length ≤ 4096 ∧ id.size ≤ 65536 from ⟨h1, h2⟩)]]
      cases storeB l with
      | false => simp only [Bool.false_eq_true, if_false, if_neg (show ¬ (1 : Int) = 0 by decide)]; exact Ev.now _
      | true =>
        cases nameB id with
        | false => simp only [Bool.false_eq_true, if_false, if_true, if_neg (show ¬ (4 : Int) = 0 by decide)]; exact Ev.now _
        | true =>
          simp only [if_true]
          obtain ⟨x, hx⟩ := specFindO_ev l id hl hv hi
          refine Ev.bind hx ?_
          simp only [ordR_ordC]
          exact Ev.now _
    · simp only [decide_eq_true (show (id.size : Int) > 65536 by omega)]
      exact hbad (by unfold orderAtV; rw [if_neg (fun h => h2 h.2)])
  · simp only [if_pos (show (l.length : Int) > 4096 by omega)]
    exact hbad (by unfold orderAtV; rw [if_neg (fun h => h1 h.1)])
theorem implOrderAt_ev (l : List IP) (id : ByteArray) (hl : l.length ≤ 1048576) (hv : ∀ x ∈ l, x.f1.size ≤ 1048576) (hi : id.size ≤ 1048576) : Ev (fun k => impl_OrderAt.f k l id) (orderAtV l id) := by
  unfold impl_OrderAt.f orderAtV
  refine Ev.bind (storeCode_ev l [id] hl) ?_
  simp only [List.any_cons, List.any_nil, Bool.or_false, decide_eq_false_iff_not]
  by_cases h1 : l.length ≤ 4096 ∧ id.size ≤ 65536
  · rw [if_pos (show l.length ≤ 4096 ∧ ¬ (id.size : Int) > 65536 by omega), if_pos h1]
    cases storeB l with
    | false => simp only [Bool.false_eq_true, if_false]; exact Ev.now _
    | true =>
      simp only [if_true]
      refine Ev.bind (areNames_ev [id] (by simp) (one_small hi)) ?_
      rw [List.all_cons, List.all_nil, Bool.and_true]
      cases nameB id with
      | false => simp only [Bool.false_eq_true, if_false]; exact Ev.now _
      | true =>
        simp only [if_true]
        obtain ⟨x, hx⟩ := implAtO_ev l id hl hv hi
        refine Ev.bind hx ?_
        simp only [ordR_ordC]
        exact Ev.now _
  · rw [if_neg (show ¬ (l.length ≤ 4096 ∧ ¬ (id.size : Int) > 65536) by omega), if_neg h1]
    exact Ev.now _
theorem FnExactOrderAt (l : List LP) (hw : l.length ≤ maxLen ∧ ∀ x ∈ l, (x.f0.size ≤ maxLen ∧ x.f1.size ≤ maxLen)) (id : ByteArray) (hi : id.size ≤ maxLen) : ∃ k, laws_FnExactOrderAt.f k l id = some true := by
  refine Ev.rounds (?_ : Ev (fun k => laws_FnExactOrderAt.f k l id) true)
  have hm : maxLen = 9223372036854775807 := rfl
  rw [hm] at hw
  unfold laws_FnExactOrderAt.f
  by_cases hi2 : (id.size : Int) > 1048576
  · simp only [if_pos hi2]; exact Ev.now _
  simp only [if_neg hi2]
  obtain ⟨z, e, hz⟩ := szPairS_ev l 1048576 hw.1 hw.2 (by decide) (by decide)
  refine Ev.bind e ?_
  by_cases hneg : z < 0
  · simp only [if_pos hneg]; exact Ev.now _
  simp only [if_neg hneg]
  rcases hz with hz | ⟨_, _, hs⟩
  · exact absurd hz hneg
  have hl : (l.map toP).length ≤ 1048576 := by rw [List.length_map]; exact hs.1
  have hv : ∀ x ∈ l.map toP, x.f1.size ≤ 1048576 := by
    intro x hx
    obtain ⟨y, hy, rfl⟩ := List.mem_map.1 hx
    exact (hs.2 y hy).2
  refine Ev.bind (toPairS_ev l hs.1) (Ev.bind (specOrderAt_ev _ id hl hv (by omega)) (Ev.bind (toPairS_ev l hs.1) (Ev.bind (implOrderAt_ev _ id hl hv (by omega)) ?_)))
  unfold laws_eqOrder.f
  simp only [if_true, Option.bind_some, bne_self_eq_false, Bool.false_eq_true, if_false]
  refine Ev.step (fun k => by rw [laws_FnExactOrderAt.j0, if_neg (by decide)]) (Ev.bind (toPairS_ev l hs.1) (Ev.bind (eqPairS_ev _ hl) ?_))
  simp only [if_true]
  exact Ev.now _
end Go.Proofs.YteghpdmlpefnfaaDoor.Pure

/- An argument of a law, whatever its type: read whole from what was handed over. -/
namespace Go.Proofs.YteghpdmlpefnfaaDoor.U
open Go Go.ChangeShapes Go.WideShapes Go.ChangeAt Go.RowKit Go.Proofs.YteghpdmlpefnfaaDoorW.PrintWords
set_option linter.unusedVariables false
set_option linter.unusedSimpArgs false

theorem addr_add_add (a : Addr) (i j : Nat) : (a.add i).add j = a.add (i + j) := by
  unfold Addr.add
  by_cases h0 : i = 0
  · subst h0; simp
  by_cases h1 : j = 0
  · subst h1; simp
  rw [if_neg h0, if_neg h1, if_neg (by omega)]
  simp only [Nat.add_assoc]
/-- What is handed over as a t can be read as a d. -/
structure Opens {α : Type} (P : Program) (t : TypeId) (d : Kd α) (wf : α → Prop) : Prop where
  out : ∀ {H : Type} (enc : TypeId × Value → H) (w : World) (base : Nat) (sp : Nat → Bool) (held : Bool) (n : Nat) (cs : List Value) (x : DataW H × List MemPlace),
    DataW.trod enc P w base sp held n t cs = some x → ∃ a, d.K w a cs ∧ wf a
theorem Opens.int {P : Program} {t : TypeId} {k : IntKind} (ht : P.underlying t = some (.int k)) : Opens P t (Kd.int k) (fun n => (Lit.int k n).wf = true) := by
  constructor
  intro H enc w base sp held n cs x h
  obtain ⟨m, rfl, rfl, hw⟩ := DataW.trod_int ht h
  exact ⟨m, rfl, hw⟩
theorem Opens.bool {P : Program} {t : TypeId} (ht : P.underlying t = some .bool) : Opens P t Kd.bool (fun _ => True) := by
  constructor
  intro H enc w base sp held n cs x h
  obtain ⟨m, rfl, rfl⟩ := DataW.trod_bool ht h
  exact ⟨m, rfl, trivial⟩
theorem Opens.string {P : Program} {t : TypeId} (ht : P.underlying t = some .string) : Opens P t Kd.string (fun s => s.size ≤ maxLen) := by
  constructor
  intro H enc w base sp held n cs x h
  obtain ⟨m, rfl, rfl, hw⟩ := DataW.trod_string ht h
  exact ⟨m, rfl, hw⟩
theorem all_of_each {α : Type} : ∀ (n : Nat) (p : Nat → α → Prop), (∀ i, i < n → ∃ a, p i a) → ∃ xs : List α, xs.length = n ∧ ∀ i a, xs[i]? = some a → p i a
  | 0, _, _ => ⟨[], rfl, fun i a h => by simp at h⟩
  | n + 1, p, h => by
    obtain ⟨a, ha⟩ := h 0 (by omega)
    obtain ⟨xs, hl, hx⟩ := all_of_each n (fun i => p (i + 1)) (fun i hi => h (i + 1) (by omega))
    refine ⟨a :: xs, by simp [hl], fun i b hb => ?_⟩
    cases i with
    | zero => simp at hb; subst hb; exact ha
    | succ j => exact hx j b (by simpa using hb)
theorem Opens.slice {α : Type} {P : Program} {t e : TypeId} {d : Kd α} {wf : α → Prop} (ht : P.underlying t = some (.slice e)) (hs : P.cellsOf e = d.sz) (hd : Opens P e d wf) :
    Opens P t (Kd.slice e d) (fun xs => xs.length ≤ maxLen ∧ ∀ x ∈ xs, wf x) := by
  constructor
  intro H enc w base sp held n cs x h
  rcases DataW.trod_slice ht h with ⟨rfl, rfl⟩ | ⟨a, len, cap, elems, rest, m, rfl, rfl, rfl, hb, hl, hm, hlen, hel, _, _⟩
  · exact ⟨[], ⟨none, 0, rfl, by simp, rfl, by simp, by simp⟩, by simp, by simp⟩
  obtain ⟨xs, hxl, hx⟩ := all_of_each len (fun i y => wf y ∧ ∃ c, c.length = d.sz ∧ d.K w y c ∧ ∀ j u, c[j]? = some u → w.cell? (a.add (i * d.sz + j)) = some u) (fun i hi => by
    have h1 := hel i hi
    rw [List.getElem?_eq_getElem (by omega)] at h1
    obtain ⟨c, hc, hy⟩ := Option.bind_eq_some_iff.mp h1
    obtain ⟨_, hcl, hcell⟩ := World.cells?_some hc
    obtain ⟨y, hk, hw⟩ := hd.out _ _ _ _ _ _ _ _ hy
    refine ⟨y, hw, c, by omega, hk, fun j u hu => ?_⟩
    have hj : j < P.cellsOf e := by
      rcases Nat.lt_or_ge j c.length with h' | h'
      · omega
      · rw [List.getElem?_eq_none h'] at hu; cases hu
    have h2 := hcell j hj
    rw [hu] at h2
    rw [← hs, ← h2, addr_add_add])
  subst hxl
  refine ⟨xs, ⟨some a, cap, rfl, hl, rfl, by have : maxLen = 9223372036854775807 := rfl; omega, fun _ => ⟨a, rfl, fun j p hp => (hx j p hp).2⟩⟩, by omega, fun x hxm => ?_⟩
  obtain ⟨i, hi, rfl⟩ := List.getElem_of_mem hxm
  exact (hx i _ (List.getElem?_eq_getElem hi)).1
/-- The fields of a struct, from a cell on. -/
structure OpensF {α : Type} (P : Program) (fs : List Field) (off : Nat) (d : Kd α) (wf : α → Prop) : Prop where
  out : ∀ {H : Type} (enc : TypeId × Value → H) (w : World) (base : Nat) (sp : Nat → Bool) (held : Bool) (n : Nat) (cs : List Value),
    cs.length = off + d.sz → (∀ f ∈ fs, ∃ y, DataW.trod enc P w base sp held n f.type ((cs.drop f.offset).take (P.cellsOf f.type)) = some y) → ∃ a, d.K w a (cs.drop off) ∧ wf a
theorem OpensF.one {α : Type} {P : Program} {f : Field} {d : Kd α} {wf : α → Prop} (hd : Opens P f.type d wf) (hs : P.cellsOf f.type = d.sz) : OpensF P [f] f.offset d wf := by
  constructor
  intro H enc w base sp held n cs hl hf
  obtain ⟨y, hy⟩ := hf f (by simp)
  rw [List.take_of_length_le (by rw [List.length_drop]; omega)] at hy
  exact hd.out _ _ _ _ _ _ _ _ hy
theorem OpensF.cons {α β : Type} {P : Program} {f : Field} {fs : List Field} {d : Kd α} {d1 : Kd β} {wf : α → Prop} {wf1 : β → Prop} (hd : Opens P f.type d wf) (hs : P.cellsOf f.type = d.sz) (h1 : OpensF P fs (f.offset + d.sz) d1 wf1) :
    OpensF P (f :: fs) f.offset (Kd.pair d d1) (fun p => wf p.1 ∧ wf1 p.2) := by
  constructor
  intro H enc w base sp held n cs hl hf
  have hl' : cs.length = f.offset + (d.sz + d1.sz) := hl
  obtain ⟨y, hy⟩ := hf f (by simp)
  obtain ⟨a, ha, wa⟩ := hd.out _ _ _ _ _ _ _ _ hy
  obtain ⟨b, hb, wb⟩ := h1.out enc w base sp held n cs (by omega) (fun g hg => hf g (by simp [hg]))
  refine ⟨(a, b), ⟨_, _, ?_, ha, hb⟩, wa, wb⟩
  rw [hs, ← List.drop_drop, List.take_append_drop]
theorem Opens.struct {α : Type} {P : Program} {t : TypeId} {fs : Array Field} {d : Kd α} {wf : α → Prop} (ht : P.underlying t = some (.struct fs)) (hs : P.cellsOf t = d.sz) (hf : OpensF P fs.toList 0 d wf) : Opens P t d wf := by
  constructor
  intro H enc w base sp held n cs x h
  obtain ⟨xs, m, rfl, rfl, hl, hxl, hx⟩ := DataW.trod_struct ht h
  have := hf.out enc w base sp held m cs (by omega) (fun f hfm => by
    obtain ⟨i, hi, rfl⟩ := List.getElem_of_mem hfm
    have hi' : i < fs.size := by simpa using hi
    refine ⟨xs[i]'(by omega), ?_⟩
    rw [hx i _ (by simp [hi'])]
    rw [List.getElem?_eq_getElem])
  simpa using this
theorem Opens.iso {α β : Type} {P : Program} {t : TypeId} {d : Kd α} {wf : α → Prop} {f : β → α} (h : Opens P t d wf) (g : ∀ a, ∃ b, f b = a) : Opens P t (Kd.iso d f) (fun b => wf (f b)) := by
  constructor
  intro H enc w base sp held n cs x hx
  obtain ⟨a, ha, wa⟩ := h.out enc w base sp held n cs x hx
  obtain ⟨b, rfl⟩ := g a
  exact ⟨b, ha, wa⟩
end Go.Proofs.YteghpdmlpefnfaaDoor.U
