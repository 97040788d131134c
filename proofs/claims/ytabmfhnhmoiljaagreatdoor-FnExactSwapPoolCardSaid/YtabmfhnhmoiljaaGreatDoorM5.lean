/- Parts of the proof: what single Go functions compute, each with its walk, and plain laws over these. -/
import Derived.Test.YtabmfhnhmoiljaaGreatDoorM0
import Derived.Test.YtabmfhnhmoiljaaGreatDoorM1
import Derived.Test.YtabmfhnhmoiljaaGreatDoorM3
import Derived.Test.YtabmfhnhmoiljaaGreatDoorM4
import Derived.Test.YtabmfhnhmoiljaaGreatDoorM2
import Derived.Lib.ItoaNum
import Derived.WalkKit
import Derived.ProofKit
import Derived.OpenShut
import Derived.ShutString
import Derived.ChangeOld
import Derived.Below
import Derived.ChangeArms
import Derived.DataReads
import Derived.Test.YtabmfhnhmoiljaaGreatDoorVWords
/- A pool as it stands in a store: the program's reading is the reference's. -/
namespace Go.Proofs.YtabmfhnhmoiljaaGreatDoor.U
open Go Go.RowKit Go.Proofs.YtabmfhnhmoiljaaGreatDoor.Q Go.Proofs.YtabmfhnhmoiljaaGreatDoorW.PrintWords Go.Proofs.YtabmfhnhmoiljaaGreatDoorW.PrintLast Go.Proofs.YtabmfhnhmoiljaaGreatDoorW.PrintMore
set_option linter.unusedVariables false
set_option linter.unusedSimpArgs false

/-! ### pools -/
def poolB (a b c : Int) : Bool := (a == 0 && (b == 0 && c == 0)) || (someB a && (someB b && someB c))
def poolR (v : ByteArray) : Int × Int × Int :=
  match readV v with
  | some [x, y, z] => if poolB (amtV x) (amtV y) (amtV z) = true then (amtV x, amtV y, amtV z) else (0, 0, 0)
  | _ => (0, 0, 0)
theorem implPoolOK_eq (a b c : Int) : impl_PoolOK.f a b c = some (poolB a b c) := by
  unfold impl_PoolOK.f poolB
  simp only [isSome_eq, Option.bind_some]
  cases (a == 0 && (b == 0 && c == 0)) with
  | true => simp
  | false => cases someB a <;> cases someB b <;> simp
theorem specPoolOK_ev (a b c : Int) : Ev (fun k => spec_PoolOK.f k a b c) (poolB a b c) := by
  have key : ∀ z, Ev (fun k => spec_PoolOK.j0 k z a b c) (z || (someB a && (someB b && someB c))) := by
    intro z
    refine Ev.step (fun k => ?_) (Ev.now _)
    rw [spec_PoolOK.j0, l01In_eq, l01In_eq, l01In_eq]
    simp only [Option.bind_some]
    unfold someB
    cases z with
    | true => rfl
    | false =>
      simp only [Bool.false_eq_true, if_false, Bool.false_or]
      cases decide (1 ≤ a ∧ a ≤ 1000000000000000000) <;> cases decide (1 ≤ b ∧ b ≤ 1000000000000000000) <;> simp
  unfold spec_PoolOK.f poolB
  by_cases h1 : a = 0
  · simp only [if_pos h1, beq_iff_eq.2 h1, Bool.true_and]
    by_cases h2 : b = 0
    · simp only [if_pos h2, beq_iff_eq.2 h2, Bool.true_and]; exact key _
    · simp only [if_neg h2, beq_eq_false_iff_ne.2 h2, Bool.false_and]; exact key _
  · simp only [if_neg h1, beq_eq_false_iff_ne.2 h1, Bool.false_and]; exact key _
theorem three {α : Type} (l : List α) (h : l.length = 3) : ∃ x y z, l = [x, y, z] := by
  match l, h with
  | [x, y, z], _ => exact ⟨x, y, z, rfl⟩
theorem poolR_ne (v : ByteArray) (l : List ByteArray) (h : readV v = some l) (hl : l.length ≠ 3) : poolR v = (0, 0, 0) := by
  unfold poolR
  rw [h]
  match l with
  | [] => rfl
  | [_] => rfl
  | [_, _] => rfl
  | [_, _, _] => exact absurd rfl hl
  | _ :: _ :: _ :: _ :: _ => rfl
theorem specFind_ev (l : List IP) (hl : l.length ≤ 1048576) (hv : ∀ x ∈ l, x.f1.size ≤ 1048576) : Ev (fun k => spec_l10Find.f k l) (poolR (getV l (⟨#[112]⟩ : ByteArray)).1) := by
  have hsz := getV_size l (⟨#[112]⟩ : ByteArray) 1048576 hv
  unfold spec_l10Find.f
  refine Ev.bind (specGet_ev l _ hl) ?_
  have hn := getV_none l (⟨#[112]⟩ : ByteArray)
  generalize hg : getV l (⟨#[112]⟩ : ByteArray) = g at *
  obtain ⟨v, ok⟩ := g
  simp only at hsz hn ⊢
  obtain ⟨x, hx⟩ := l02Read_ev v (by omega)
  refine Ev.bind hx ?_
  have hbad : ∀ x4, Ev (fun k => spec_l10Find.j0 k x4 true) (0, 0, 0) := fun x4 => Ev.step (fun k => by rw [spec_l10Find.j0, if_pos rfl]) (Ev.now _)
  cases hr : readV v with
  | none =>
    have e : poolR v = (0, 0, 0) := by unfold poolR; rw [hr]
    rw [e]
    simp only [readR, Bool.false_eq_true, if_false]
    cases ok <;> exact hbad _
  | some fs =>
    obtain ⟨_, _, hfs⟩ := readV_of hr
    simp only [readR, List.nil_append, if_true]
    cases ok with
    | false =>
      rw [hn rfl, readV_empty] at hr
      cases hr
    | true =>
      simp only [if_true]
      by_cases h3 : fs.length = 3
      · obtain ⟨a, b, c, rfl⟩ := three fs h3
        have ha := hfs a (by simp)
        have hb := hfs b (by simp)
        have hc := hfs c (by simp)
        have L3 : ((([a, b, c] : List ByteArray).length : Nat) : Int) = 3 := rfl
        have e : (((([a, b, c] : List ByteArray).length : Nat) : Int) != 3) = false := rfl
        rw [e]
        have d0 : rdOf ByteArray.empty [a, b, c] 0 = a := rfl
        have d1 : rdOf ByteArray.empty [a, b, c] 1 = b := rfl
        have d2 : rdOf ByteArray.empty [a, b, c] 2 = c := rfl
        refine Ev.step (f := fun k => (spec_l02Of.f k a).bind fun t1 => (spec_l02Of.f k b).bind fun t2 => (spec_l02Of.f k c).bind fun t3 => (spec_PoolOK.f k t1 t2 t3).bind fun t => if t = true then some (t1, t2, t3) else some (0, 0, 0)) (fun k => by
          rw [spec_l10Find.j0, if_neg (by decide), L3, d0, d1, d2, if_pos (show (0 : Int) < 3 by decide)]
          simp only [if_pos (show (1 : Int) < 3 by decide), if_pos (show (2 : Int) < 3 by decide)]) ?_
        refine Ev.bind (l02Of_ev a (by omega)) (Ev.bind (l02Of_ev b (by omega)) (Ev.bind (l02Of_ev c (by omega)) (Ev.bind (specPoolOK_ev _ _ _) ?_)))
        have e2 : poolR v = if poolB (amtV a) (amtV b) (amtV c) = true then (amtV a, amtV b, amtV c) else (0, 0, 0) := by unfold poolR; rw [hr]
        rw [e2]
        cases poolB (amtV a) (amtV b) (amtV c) <;> exact Ev.now _
      · have e : (((fs.length : Nat) : Int) != 3) = true := by rw [bne_iff_ne]; omega
        rw [e, poolR_ne v fs hr h3]
        exact hbad _
theorem poolValue_ev (a b c : Int) (ha : 0 ≤ a ∧ a ≤ 1000000000000000000) (hb : 0 ≤ b ∧ b ≤ 1000000000000000000) (hc : 0 ≤ c ∧ c ≤ 1000000000000000000) : Ev (fun k => impl_Pool_value.f k a b c) (fieldsV [digV a.toNat, digV b.toNat, digV c.toNat]) := by
  unfold impl_Pool_value.f
  rw [amountText_eq a (by omega) (by omega), amountText_eq b (by omega) (by omega), amountText_eq c (by omega) (by omega)]
  simp only [Option.bind_some]
  have s1 := digV_size a.toNat (by omega)
  have s2 := digV_size b.toNat (by omega)
  have s3 := digV_size c.toNat (by omega)
  refine Ev.bind (fields_ev _ (by simp) ?_) (Ev.now _)
  intro x hx
  simp only [List.mem_cons, List.mem_nil_iff, or_false] at hx
  rcases hx with rfl | rfl | rfl <;> omega
theorem poolB_bd {a b c : Int} (h : poolB a b c = true) : (0 ≤ a ∧ a ≤ 1000000000000000000) ∧ (0 ≤ b ∧ b ≤ 1000000000000000000) ∧ (0 ≤ c ∧ c ≤ 1000000000000000000) := by
  unfold poolB someB at h
  simp only [Bool.or_eq_true, Bool.and_eq_true, beq_iff_eq, decide_eq_true_iff] at h
  omega
theorem implPoolAt_ev (l : List IP) (hl : l.length ≤ 1048576) (hv : ∀ x ∈ l, x.f1.size ≤ 1048576) : Ev (fun k => impl_poolAt.f k l) (poolR (getV l (⟨#[112]⟩ : ByteArray)).1) := by
  have hsz := getV_size l (⟨#[112]⟩ : ByteArray) 1048576 hv
  unfold impl_poolAt.f
  refine Ev.bind (implGet_ev l _ hl) ?_
  generalize hg : getV l (⟨#[112]⟩ : ByteArray) = g at *
  obtain ⟨v, ok⟩ := g
  simp only at hsz ⊢
  obtain ⟨x, hx⟩ := readFields_ev v (by omega)
  refine Ev.bind hx ?_
  have hbad : ∀ x4, Ev (fun k => impl_poolAt.j0 k v x4 true) (0, 0, 0) := fun x4 => Ev.step (fun k => by rw [impl_poolAt.j0, if_pos rfl]) (Ev.now _)
  cases hr : readV v with
  | none =>
    have e : poolR v = (0, 0, 0) := by unfold poolR; rw [hr]
    rw [e]
    simp only [readR, Bool.false_eq_true, if_false]
    exact hbad _
  | some fs =>
    obtain ⟨hv1, _, hfs⟩ := readV_of hr
    simp only [readR, List.nil_append, if_true]
    by_cases h3 : fs.length = 3
    · obtain ⟨a, b, c, rfl⟩ := three fs h3
      have ha := hfs a (by simp)
      have hb := hfs b (by simp)
      have hc := hfs c (by simp)
      have L3 : ((([a, b, c] : List ByteArray).length : Nat) : Int) = 3 := rfl
      have e : (((([a, b, c] : List ByteArray).length : Nat) : Int) != 3) = false := rfl
      rw [e]
      obtain ⟨b1, e1⟩ := readAmount_fst a (by omega)
      obtain ⟨b2, e2⟩ := readAmount_fst b (by omega)
      obtain ⟨b3, e3⟩ := readAmount_fst c (by omega)
      have e4 : poolR v = if poolB (amtV a) (amtV b) (amtV c) = true then (amtV a, amtV b, amtV c) else (0, 0, 0) := by unfold poolR; rw [hr]
      have d0 : rdOf ByteArray.empty [a, b, c] 0 = a := rfl
      have d1 : rdOf ByteArray.empty [a, b, c] 1 = b := rfl
      have d2 : rdOf ByteArray.empty [a, b, c] 2 = c := rfl
      refine Ev.step (f := fun k => if poolB (max0 (amtV a)) (max0 (amtV b)) (max0 (amtV c)) = true then ((impl_Pool_value.f k (max0 (amtV a)) (max0 (amtV b)) (max0 (amtV c))).bind fun t => if t.toList = v.toList then some (max0 (amtV a), max0 (amtV b), max0 (amtV c)) else some (0, 0, 0)) else some (0, 0, 0)) (fun k => ?_) ?_
      · rw [impl_poolAt.j0, if_neg (by decide), L3, d0, d1, d2, e1, e2, e3, if_pos (show (0 : Int) < 3 by decide)]
        simp only [Option.bind_some, implPoolOK_eq, if_pos (show (1 : Int) < 3 by decide), if_pos (show (2 : Int) < 3 by decide)]
      · rw [e4]
        by_cases hp : poolB (max0 (amtV a)) (max0 (amtV b)) (max0 (amtV c)) = true
        · simp only [if_pos hp]
          obtain ⟨q1, q2, q3⟩ := poolB_bd hp
          refine Ev.bind (poolValue_ev _ _ _ q1 q2 q3) ?_
          by_cases hval : 0 ≤ amtV a ∧ 0 ≤ amtV b ∧ 0 ≤ amtV c
          · have m1 : max0 (amtV a) = amtV a := if_pos hval.1
            have m2 : max0 (amtV b) = amtV b := if_pos hval.2.1
            have m3 : max0 (amtV c) = amtV c := if_pos hval.2.2
            rw [m1, m2, m3] at hp ⊢
            rw [← (amtV_eq hval.1).1, ← (amtV_eq hval.2.1).1, ← (amtV_eq hval.2.2).1, ← hv1]
            simp only [if_pos hp, if_true]
            exact Ev.now _
          · have hz : max0 (amtV a) = 0 ∧ max0 (amtV b) = 0 ∧ max0 (amtV c) = 0 := by
              have l1 := amtV_low a
              have l2 := amtV_low b
              have l3 := amtV_low c
              unfold poolB someB max0 at hp
              unfold max0
              simp only [Bool.or_eq_true, Bool.and_eq_true, beq_iff_eq, decide_eq_true_iff] at hp
              repeat' split at hp
              all_goals repeat' split
              all_goals omega
            have hp2 : ¬ poolB (amtV a) (amtV b) (amtV c) = true := fun h => hval ⟨(poolB_bd h).1.1, (poolB_bd h).2.1.1, (poolB_bd h).2.2.1⟩
            rw [hz.1, hz.2.1, hz.2.2, if_neg hp2]
            split <;> exact Ev.now _
        · simp only [if_neg hp]
          have hp2 : ¬ poolB (amtV a) (amtV b) (amtV c) = true := fun h => by
            obtain ⟨q1, q2, q3⟩ := poolB_bd h
            apply hp
            have m1 : max0 (amtV a) = amtV a := if_pos q1.1
            have m2 : max0 (amtV b) = amtV b := if_pos q2.1
            have m3 : max0 (amtV c) = amtV c := if_pos q3.1
            rw [m1, m2, m3]
            exact h
          rw [if_neg hp2]
          exact Ev.now _
    · have e : (((fs.length : Nat) : Int) != 3) = true := by rw [bne_iff_ne]; omega
      rw [e, poolR_ne v fs hr h3]
      exact hbad _
end Go.Proofs.YtabmfhnhmoiljaaGreatDoor.U

/- Marks: what the laws write into rows to see whether memory is shared. -/
namespace Go.Proofs.YtabmfhnhmoiljaaGreatDoor.U
open Go Go.RowKit Go.Proofs.YtabmfhnhmoiljaaGreatDoor.Q Go.Proofs.YtabmfhnhmoiljaaGreatDoorW.PrintWords Go.Proofs.YtabmfhnhmoiljaaGreatDoorW.PrintLast Go.Proofs.YtabmfhnhmoiljaaGreatDoorW.PrintMore
set_option linter.unusedVariables false
set_option linter.unusedSimpArgs false

def markV (n : Nat) : ByteArray := if n = 0 then (⟨#[109, 48]⟩ : ByteArray) else (⟨#[109]⟩ : ByteArray) ++ digV n
theorem digV_big {v : Nat} (h : ¬ v < 10) : digV v = digV (v / 10) ++ (⟨#[UInt8.ofNat (48 + v % 10)]⟩ : ByteArray) := by
  apply ByteArray.ext
  unfold digV
  rw [dec_big h]
  simp
theorem mark_go (v : Nat) : ∀ (acc : ByteArray), 1 ≤ v → v ≤ 1000000000000000000 → acc.size + v ≤ 9000000000000000000 → Ev (fun k => laws_markText.l0 k (v : Int) acc) ((⟨#[109]⟩ : ByteArray) ++ (digV v ++ acc)) := by
  induction v using Nat.strongRecOn with
  | _ v ih =>
    intro acc h1 h2 h3
    have e1 : wrap64 (Int.tdiv (v : Int) 10) = ((v / 10 : Nat) : Int) := by rw [tdiv_nn (by omega), wid (by omega) (by omega)]; omega
    have e2 : Int.tmod (v : Int) 10 = ((v % 10 : Nat) : Int) := by rw [tmod_nn (by omega)]; omega
    have sz : (⟨#[UInt8.ofNat (48 + v % 10)]⟩ : ByteArray).size = 1 := rfl
    refine Ev.step (f := fun k => laws_markText.l0 k ((v / 10 : Nat) : Int) ((⟨#[UInt8.ofNat (48 + v % 10)]⟩ : ByteArray) ++ acc)) (fun k => ?_) ?_
    · rw [laws_markText.l0, if_pos (by omega), e1, e2]
      simp only [Option.bind_some, one_digit (v % 10) (by omega)]
      rw [if_pos (by rw [sz]; omega)]
    · have hacc : ((⟨#[UInt8.ofNat (48 + v % 10)]⟩ : ByteArray) ++ acc).size = 1 + acc.size := by rw [ByteArray.size_append, sz]
      by_cases hv : v < 10
      · have e : v / 10 = 0 := by omega
        rw [e]
        refine Ev.step (fun k => ?_) (Ev.now _)
        rw [show ((0 : Nat) : Int) = 0 from rfl, laws_markText.l0, if_neg (by decide), if_pos (by rw [hacc]; omega)]
        have : digV v = (⟨#[UInt8.ofNat (48 + v % 10)]⟩ : ByteArray) := by
          apply ByteArray.ext
          unfold digV
          rw [Lib.decDigits_one hv, Nat.mod_eq_of_lt hv]
        rw [this]
      · have := ih (v / 10) (by omega) ((⟨#[UInt8.ofNat (48 + v % 10)]⟩ : ByteArray) ++ acc) (by omega) (by omega) (by rw [hacc]; omega)
        rw [digV_big hv]
        simp only [ByteArray.append_assoc] at this ⊢
        exact this
theorem markText_ev (n : Nat) (h : n ≤ 1000000000000000000) : Ev (fun k => laws_markText.f k (n : Int)) (markV n) := by
  unfold laws_markText.f markV
  by_cases h0 : n = 0
  · subst h0
    simp only [if_pos (show ((0 : Nat) : Int) ≤ 0 by decide), if_true]
    exact Ev.now _
  · simp only [if_neg (show ¬ (n : Int) ≤ 0 by omega), if_neg h0]
    have e := mark_go n (⟨#[]⟩ : ByteArray) (by omega) h (by show 0 + n ≤ _; omega)
    have z : digV n ++ (⟨#[]⟩ : ByteArray) = digV n := by apply ByteArray.ext; simp
    rw [z] at e
    exact e
/-- The pairs as they are marked, from a number on. -/
def markP (n i : Nat) : IP := ⟨markV (n + 2 * i), markV (n + 2 * i + 1)⟩
def markPs (n : Nat) (l : List IP) : List IP := (List.range l.length).map fun i => markP n i
theorem markPairS_go (N : Nat) (l : List IP) (n : Nat) (hl : l.length = N) (hN : N ≤ 1048576) (hn : n ≤ 1000000) : ∀ (d i : Nat) (o : List IP), i + d = N → o.length = N → (∀ j, j < i → o[j]? = some (markP n j)) →
    Ev (fun k => laws_markPairS.l0 k o ((n + 2 * i : Nat) : Int) (i : Int)) (((n + 2 * N : Nat) : Int), markPs n l) := by
  intro d
  induction d with
  | zero =>
    intro i o hi ho hj
    have e : o = markPs n l := by
      apply List.ext_getElem?
      intro j
      by_cases h : j < i
      · rw [hj j h]; unfold markPs; rw [List.getElem?_map, List.getElem?_range (by omega)]; rfl
      · rw [List.getElem?_eq_none (by omega), List.getElem?_eq_none (by unfold markPs; simp; omega)]
    refine Ev.step (fun k => ?_) (Ev.now _)
    rw [laws_markPairS.l0, if_neg (by omega), e, show i = N by omega]
  | succ d ih =>
    intro i o hi ho hj
    have hlt : i < o.length := by omega
    refine Ev.step (f := fun k => (laws_markText.f k ((n + 2 * i : Nat) : Int)).bind fun t => (laws_markText.f k ((n + 2 * i + 1 : Nat) : Int)).bind fun u => laws_markPairS.l0 k (o.set i ⟨t, u⟩) ((n + 2 * (i + 1) : Nat) : Int) ((i + 1 : Nat) : Int)) (fun k => ?_) ?_
    · have w1 : wrap64 (((n + 2 * i : Nat) : Int) + 1) = ((n + 2 * i + 1 : Nat) : Int) := by rw [wid (by omega) (by omega)]; omega
      have w2 : wrap64 (((n + 2 * i + 1 : Nat) : Int) + 1) = ((n + 2 * (i + 1) : Nat) : Int) := by rw [wid (by omega) (by omega)]; omega
      have w3 : wrap64 ((i : Int) + 1) = ((i + 1 : Nat) : Int) := by rw [wid (by omega) (by omega)]; omega
      rw [laws_markPairS.l0, if_pos (by omega)]
      congr 1
      funext t
      rw [if_pos (by omega), w1, w2, w3]
      simp only [Option.bind_some]
      congr 1
      funext u
      rw [Int.toNat_natCast, List.set_set]
      have : (rd_T51 (o.set i (⟨t, (rd_T51 o (i : Int)).f1⟩ : IP)) (i : Int)).f0 = t := by
        rw [rdI _ i (by rw [List.length_set]; exact hlt), List.getElem_set_self]
      rw [this]
    · refine Ev.bind (markText_ev _ (by omega)) (Ev.bind (markText_ev _ (by omega)) ?_)
      refine ih (i + 1) _ (by omega) (by rw [List.length_set]; exact ho) (fun j hji => ?_)
      rw [List.getElem?_set]
      by_cases h : i = j
      · subst h
        rw [if_pos rfl, if_pos hlt]
        rfl
      · rw [if_neg h]
        exact hj j (by omega)
theorem markPairS_ev (l : List IP) (n : Nat) (hN : l.length ≤ 1048576) (hn : n ≤ 1000000) : Ev (fun k => laws_markPairS.f k l (n : Int)) (((n + 2 * l.length : Nat) : Int), markPs n l) := by
  unfold laws_markPairS.f
  exact markPairS_go l.length l n rfl hN hn l.length 0 l (by omega) rfl (fun j h => by omega)
end Go.Proofs.YtabmfhnhmoiljaaGreatDoor.U

/- Names of accounts and denominations: as the reference and as the program read them. -/
namespace Go.Proofs.YtabmfhnhmoiljaaGreatDoor.U
open Go Go.RowKit Go.Proofs.YtabmfhnhmoiljaaGreatDoor.Q Go.Proofs.YtabmfhnhmoiljaaGreatDoorW.PrintWords Go.Proofs.YtabmfhnhmoiljaaGreatDoorW.PrintLast Go.Proofs.YtabmfhnhmoiljaaGreatDoorW.PrintMore
set_option linter.unusedVariables false
set_option linter.unusedSimpArgs false

def Letter (c : Int) : Prop := (97 ≤ c ∧ c ≤ 122) ∨ (65 ≤ c ∧ c ≤ 90) ∨ c = 95
def Digit (c : Int) : Prop := 48 ≤ c ∧ c ≤ 57
def IsName (x : ByteArray) : Prop := 1 ≤ x.size ∧ x.size ≤ 40 ∧ ∀ j : Int, 0 ≤ j → j < (x.size : Int) → Letter (bt x j) ∨ (j ≠ 0 ∧ Digit (bt x j))
instance (c : Int) : Decidable (Letter c) := by unfold Letter; infer_instance
instance (c : Int) : Decidable (Digit c) := by unfold Digit; infer_instance

theorem nameok_l0 (x : ByteArray) (hn : (x.size : Int) ≤ 140737488351232) (d : Nat) : ∀ i : Int, 0 ≤ i → i ≤ (x.size : Int) → (x.size : Int) - i = d →
    ∃ b, Ev (fun k => impl_NameOK.l0 k x (x.size : Int) i) b ∧ (b = true ↔ (∀ j : Int, i ≤ j → j < (x.size : Int) → Letter (bt x j) ∨ (j ≠ 0 ∧ Digit (bt x j))) ∧ 1 ≤ x.size ∧ x.size ≤ 40) := by
  induction d with
  | zero =>
    intro i h0 h1 hd
    refine ⟨decide (1 ≤ (x.size : Int) ∧ (x.size : Int) ≤ 40), Ev.step (fun k => ?_) (Ev.now _), ?_⟩
    · rw [impl_NameOK.l0, if_neg (by omega)]
      unfold impl_within.f
      by_cases h : (x.size : Int) ≥ 1
      · rw [if_pos h]
        simp only [Option.bind_some]
        congr 1
        exact decide_eq_decide.2 ⟨fun y => ⟨h, y⟩, fun y => y.2⟩
      · rw [if_neg h, decide_eq_false (fun y => h y.1)]
        rfl
    · rw [decide_eq_true_iff]
      exact ⟨fun h => ⟨fun j hj hj' => by omega, by omega, by omega⟩, fun h => by omega⟩
  | succ d ih =>
    intro i h0 h1 hd
    have hlt : i < (x.size : Int) := by omega
    by_cases hg : Letter (bt x i) ∨ (i ≠ 0 ∧ Digit (bt x i))
    · obtain ⟨b, hb, hb'⟩ := ih (i + 1) (by omega) (by omega) (by omega)
      refine ⟨b, Ev.step (fun k => ?_) hb, hb'.trans ⟨fun h => ⟨fun j hj hj' => ?_, h.2⟩, fun h => ⟨fun j hj hj' => h.1 j (by omega) hj', h.2⟩⟩⟩
      · rw [impl_NameOK.l0, if_pos hlt, if_pos h0, if_pos hlt, wid (n := i + 1) (by omega) (by omega)]
        unfold Letter Digit at hg
        generalize bt x i = c at *
        repeat' split
        all_goals first | rfl | (exfalso; omega)
      · by_cases e : j = i
        · subst e; exact hg
        · exact h.1 j (by omega) hj'
    · refine ⟨false, Ev.step (fun k => ?_) (Ev.now _), ⟨(fun h => by cases h), fun h => absurd (h.1 i (Int.le_refl _) hlt) hg⟩⟩
      rw [impl_NameOK.l0, if_pos hlt, if_pos h0, if_pos hlt]
      unfold Letter Digit at hg
      generalize bt x i = c at *
      repeat' split
      all_goals first | rfl | (exfalso; omega)

theorem NameOK_ev (x : ByteArray) (hn : (x.size : Int) ≤ 140737488351232) : ∃ b, Ev (fun k => impl_NameOK.f k x) b ∧ (b = true ↔ IsName x) := by
  obtain ⟨b, hb, hb'⟩ := nameok_l0 x hn x.size 0 (by omega) (by omega) (by omega)
  exact ⟨b, hb, hb'.trans ⟨fun h => ⟨h.2.1, h.2.2, h.1⟩, fun h => ⟨h.2.2, h.1, h.2.1⟩⟩⟩

theorem bool_of_iff {b : Bool} {p : Prop} [Decidable p] (h : b = true ↔ p) : b = decide p := by rw [Bool.eq_iff_iff, h, decide_eq_true_iff]
theorem letter_eq (c : Int) : spec_l00Letter.f c = some (decide (Letter c)) := by
  unfold spec_l00Letter.f
  repeat' split
  all_goals
    refine congrArg some (bool_of_iff ?_)
    unfold Letter
    first
    | exact ⟨fun _ => by omega, fun _ => rfl⟩
    | (rw [beq_iff_eq]; omega)
theorem digit_eq (c : Int) : spec_l00Digit.f c = some (decide (Digit c)) := by
  unfold spec_l00Digit.f
  split
  · refine congrArg some (bool_of_iff ?_)
    unfold Digit
    rw [decide_eq_true_iff]
    omega
  · refine congrArg some (bool_of_iff ?_)
    unfold Digit
    exact ⟨(fun h => by cases h), fun h => by omega⟩

theorem word_l0 (x : ByteArray) (hn : (x.size : Int) ≤ 40) (d : Nat) : ∀ i : Int, 1 ≤ i → i ≤ (x.size : Int) → (x.size : Int) - i = d →
    ∃ b, Ev (fun k => spec_l00Word.l0 k x i) b ∧ (b = true ↔ ∀ j : Int, i ≤ j → j < (x.size : Int) → Letter (bt x j) ∨ (j ≠ 0 ∧ Digit (bt x j))) := by
  induction d with
  | zero =>
    intro i h0 h1 hd
    exact ⟨true, Ev.step (fun k => by rw [spec_l00Word.l0, if_neg (by omega)]) (Ev.now _), ⟨fun _ j hj hj' => by omega, fun _ => rfl⟩⟩
  | succ d ih =>
    intro i h0 h1 hd
    have hlt : i < (x.size : Int) := by omega
    have hstep : ∀ k, spec_l00Word.l0 (k + 1) x i = if decide (Letter (bt x i)) = true then spec_l00Word.l0 k x (i + 1) else if decide (Digit (bt x i)) = true then spec_l00Word.l0 k x (i + 1) else some false := by
      intro k
      rw [spec_l00Word.l0, if_pos hlt, if_pos (by omega), letter_eq, digit_eq, wid (n := i + 1) (by omega) (by omega)]
      rfl
    by_cases hg : Letter (bt x i) ∨ Digit (bt x i)
    · obtain ⟨b, hb, hb'⟩ := ih (i + 1) (by omega) (by omega) (by omega)
      refine ⟨b, Ev.step (fun k => ?_) hb, hb'.trans ⟨fun h j hj hj' => ?_, fun h j hj hj' => h j (by omega) hj'⟩⟩
      · rw [hstep]
        rcases hg with hg | hg
        · rw [if_pos (decide_eq_true hg)]
        · rw [if_pos (decide_eq_true hg)]
          split <;> rfl
      · by_cases e : j = i
        · subst e; exact hg.imp id (fun y => ⟨by omega, y⟩)
        · exact h j (by omega) hj'
    · refine ⟨false, Ev.step (fun k => ?_) (Ev.now _), ⟨(fun h => by cases h), fun h => absurd ((h i (Int.le_refl _) hlt).imp id (fun y => y.2)) hg⟩⟩
      rw [hstep, if_neg (by rw [decide_eq_true_iff]; exact fun y => hg (.inl y)), if_neg (by rw [decide_eq_true_iff]; exact fun y => hg (.inr y))]

theorem Word_ev (x : ByteArray) : ∃ b, Ev (fun k => spec_l00Word.f k x) b ∧ (b = true ↔ IsName x) := by
  unfold spec_l00Word.f
  have hf : Ev (fun k => spec_l00Word.j0 k x true) false := Ev.step (fun k => by rw [spec_l00Word.j0, if_pos rfl]) (Ev.now _)
  by_cases h1 : (x.size : Int) < 1
  · simp only [if_pos h1]
    exact ⟨false, hf, ⟨(fun h => by cases h), fun h => by have := h.1; omega⟩⟩
  simp only [if_neg h1]
  by_cases h2 : (x.size : Int) > 40
  · simp only [if_pos h2]
    exact ⟨false, hf, ⟨(fun h => by cases h), fun h => by have := h.2.1; omega⟩⟩
  simp only [if_neg h2, if_pos (show (0 : Int) < (x.size : Int) by omega), letter_eq, Option.bind_some]
  by_cases h3 : Letter (bt x 0)
  · obtain ⟨b, hb, hb'⟩ := word_l0 x (by omega) (x.size - 1) 1 (by omega) (by omega) (by omega)
    refine ⟨b, ?_, hb'.trans ⟨fun h => ⟨by omega, by omega, fun j hj hj' => ?_⟩, fun h j hj hj' => h.2.2 j (by omega) hj'⟩⟩
    · rw [decide_eq_true h3]
      exact Ev.step (fun k => by rw [Bool.not_true, spec_l00Word.j0, if_neg (by decide)]) hb
    · by_cases e : j = 0
      · subst e; exact .inl h3
      · exact h j (by omega) hj'
  · rw [decide_eq_false h3]
    refine ⟨false, hf, ⟨(fun h => by cases h), fun h => ?_⟩⟩
    rcases h.2.2 0 (by omega) (by omega) with h | h
    · exact absurd h h3
    · exact absurd rfl h.1

noncomputable instance (x : ByteArray) : Decidable (IsName x) := Classical.propDecidable _
/-- A name of at most twelve bytes. -/
noncomputable def nameB (x : ByteArray) : Bool := decide (IsName x ∧ x.size ≤ 12)
noncomputable def peopleB (x : ByteArray) : Bool := nameB x && !impl_isPeople.bad x

theorem DenomOK_ev (x : ByteArray) (hn : (x.size : Int) ≤ 140737488351232) : Ev (fun k => impl_DenomOK.f k x) (nameB x) := by
  obtain ⟨b, hb, hb'⟩ := NameOK_ev x hn
  unfold impl_DenomOK.f
  refine Ev.bind hb ?_
  unfold nameB
  by_cases h : IsName x
  · simp only [hb'.2 h, if_true]
    rw [show decide ((x.size : Int) ≤ 12) = decide (IsName x ∧ x.size ≤ 12) from by rw [Bool.eq_iff_iff, decide_eq_true_iff, decide_eq_true_iff]; exact ⟨fun y => ⟨h, by omega⟩, fun y => by have := y.2; omega⟩]
    exact Ev.now _
  · obtain rfl : b = false := by cases b; rfl; exact absurd (hb'.1 rfl) h
    rw [decide_eq_false (fun y : IsName x ∧ x.size ≤ 12 => h y.1)]
    exact Ev.now _

theorem l05Name_ev (x : ByteArray) : Ev (fun k => spec_l05Name.f k x) (nameB x) := by
  obtain ⟨b, hb, hb'⟩ := Word_ev x
  unfold spec_l05Name.f nameB
  by_cases h12 : (x.size : Int) ≤ 12
  · simp only [if_pos h12]
    have : Ev (fun k => spec_NameOK.f k x) b := by unfold spec_NameOK.f; exact Ev.bind hb (Ev.now _)
    refine Ev.bind this ?_
    rw [show b = decide (IsName x ∧ x.size ≤ 12) from by rw [Bool.eq_iff_iff, decide_eq_true_iff, hb']; exact ⟨fun y => ⟨y, by omega⟩, fun y => y.1⟩]
    exact Ev.now _
  · simp only [if_neg h12]
    rw [decide_eq_false (fun y : IsName x ∧ x.size ≤ 12 => h12 (by have := y.2; omega))]
    exact Ev.now _

theorem l08Name_ev (x : ByteArray) : Ev (fun k => spec_l08Name.f k x) (peopleB x) := by
  unfold spec_l08Name.f
  refine Ev.bind (l05Name_ev x) ?_
  unfold peopleB impl_isPeople.bad
  cases nameB x with
  | false => exact Ev.now _
  | true =>
    simp only [if_true, Bool.true_and]
    by_cases h1 : x.toList = ([101, 115, 99, 114, 111, 119] : List UInt8)
    · simp only [h1, if_true]; exact Ev.now _
    · simp only [if_neg h1]
      by_cases h2 : x.toList = ([111, 114, 100, 101, 114, 115] : List UInt8)
      · simp only [h2, if_true]; exact Ev.now _
      · simp only [if_neg h2]
        by_cases h3 : x.toList = ([116, 97, 107, 101, 115] : List UInt8)
        · simp only [h3, if_true]; exact Ev.now _
        · simp only [if_neg h3, beq_eq_false_iff_ne.2 h1, beq_eq_false_iff_ne.2 h2, beq_eq_false_iff_ne.2 h3, Bool.false_or]
          exact Ev.now _

theorem areNames_go (l : List ByteArray) (hl : l.length < 1000000) (hn : ∀ x ∈ l, (x.size : Int) ≤ 140737488351232) : ∀ (d : Nat) (i : Nat), i + d = l.length →
    Ev (fun k => impl_areNames.l0 k l (l.length : Int) (i : Int)) ((l.drop i).all nameB) := by
  intro d
  induction d with
  | zero =>
    intro i hi
    refine Ev.step (fun k => ?_) (Ev.now _)
    rw [impl_areNames.l0, if_neg (by omega), List.drop_of_length_le (by omega)]
    rfl
  | succ d ih =>
    intro i hi
    have hlt : i < l.length := by omega
    have hx : rdOf ByteArray.empty l (i : Int) = l[i] := by simp [rdOf, List.getD_eq_getElem?_getD, List.getElem?_eq_getElem hlt]
    have h1 := DenomOK_ev l[i] (hn _ (List.getElem_mem hlt))
    have h2 := ih (i + 1) (by omega)
    rw [List.drop_eq_getElem_cons hlt, List.all_cons]
    have hstep : ∀ k, impl_areNames.l0 (k + 1) l (l.length : Int) (i : Int) = (impl_DenomOK.f k l[i]).bind fun t => if t = true then impl_areNames.l0 k l (l.length : Int) ((i + 1 : Nat) : Int) else some false := by
      intro k
      rw [impl_areNames.l0, if_pos (by omega), if_pos (by omega), if_pos (by omega), hx, wid (n := (i : Int) + 1) (by omega) (by omega)]
      rfl
    refine Ev.step hstep (Ev.bind h1 ?_)
    cases nameB l[i] with
    | false => exact Ev.now _
    | true =>
      simp only [if_true, Bool.true_and]
      exact h2
theorem areNames_ev (l : List ByteArray) (hl : l.length < 1000000) (hn : ∀ x ∈ l, (x.size : Int) ≤ 140737488351232) : Ev (fun k => impl_areNames.f k l) (l.all nameB) := by
  have := areNames_go l hl hn l.length 0 (by omega)
  unfold impl_areNames.f
  simpa using this
theorem isPeople_ev (l : List ByteArray) (hl : l.length < 1000000) (hn : ∀ x ∈ l, (x.size : Int) ≤ 140737488351232) : Ev (fun k => impl_isPeople.f k l) (l.all peopleB) := by
  unfold impl_isPeople.f
  refine Ev.bind (areNames_ev l hl hn) ?_
  have e : l.all peopleB = (l.all nameB && !l.any impl_isPeople.bad) := by
    clear hl hn
    induction l with
    | nil => rfl
    | cons a l ih =>
      simp only [List.all_cons, List.any_cons, ih, peopleB]
      cases nameB a <;> cases impl_isPeople.bad a <;> cases l.all nameB <;> cases l.any impl_isPeople.bad <;> rfl
  rw [e]
  cases l.all nameB with
  | false => exact Ev.now _
  | true => simp only [if_true, Bool.true_and]; exact Ev.now _

end Go.Proofs.YtabmfhnhmoiljaaGreatDoor.U

/- What is put into a store, dropped from it, and moved in it: the program and the reference take the same steps. -/
namespace Go.Proofs.YtabmfhnhmoiljaaGreatDoor.U
open Go Go.RowKit Go.Proofs.YtabmfhnhmoiljaaGreatDoor.Q Go.Proofs.YtabmfhnhmoiljaaGreatDoorW.PrintWords Go.Proofs.YtabmfhnhmoiljaaGreatDoorW.PrintLast Go.Proofs.YtabmfhnhmoiljaaGreatDoorW.PrintMore
set_option linter.unusedVariables false
set_option linter.unusedSimpArgs false

/-- Stores as they come up: no more than 400 pairs, each with a key. -/
def Rt (l : List IP) : Prop := l.length ≤ 400 ∧ ∀ x ∈ l, 1 ≤ x.f0.size ∧ x.f0.size ≤ 1000 ∧ x.f1.size ≤ 1000
def putV (l : List IP) (key v : ByteArray) : List IP × Int :=
  if hitB l key = true then (l.set (atOf l key) ⟨(rd_T51 l (atOf l key : Int)).f0, v⟩, 0) else if l.length = 400 then (l, 7) else (l.insertIdx (atOf l key) ⟨key, v⟩, 0)
def dropV (l : List IP) (key : ByteArray) : List IP × Int := if hitB l key = true then (l.eraseIdx (atOf l key), 0) else (l, 5)
theorem hit_lt {l : List IP} {key : ByteArray} (h : hitB l key = true) : atOf l key < l.length := by
  unfold hitB at h
  rw [Bool.and_eq_true, decide_eq_true_iff] at h
  exact h.1
theorem implPut_ev (l : List IP) (key v : ByteArray) (hl : l.length ≤ 1000000) : Ev (fun k => impl_put.f k l key v) (putV l key v) := by
  unfold impl_put.f putV
  simp only [if_pos hl]
  refine Ev.bind (implAt_ev l key (by omega)) ?_
  have hle := atOf_le l key
  simp only [if_pos (show (0 : Int) ≤ (atOf l key : Int) by omega), if_pos (show (atOf l key : Int) ≤ (l.length : Int) by omega), Int.toNat_natCast]
  cases h : hitB l key with
  | true =>
    have := hit_lt h
    simp only [if_true, if_pos (show (atOf l key : Int) < (l.length : Int) by omega)]
    exact Ev.now _
  | false =>
    simp only [Bool.false_eq_true, if_false]
    by_cases h4 : l.length = 400
    · simp only [if_pos h4, if_pos (show (l.length : Int) = 400 by omega)]; exact Ev.now _
    · simp only [if_neg h4, if_neg (show ¬ (l.length : Int) = 400 by omega)]; exact Ev.now _
theorem hit_iff (l : List IP) (key : ByteArray) : (hitB l key = true) ↔ ((atOf l key : Int) < (l.length : Int) ∧ ((rd_T51 l (atOf l key : Int)).f0).toList = key.toList) := by
  unfold hitB
  rw [Bool.and_eq_true, decide_eq_true_iff, beq_iff_eq]
  constructor
  · rintro ⟨h1, h2⟩; exact ⟨by omega, h2⟩
  · rintro ⟨h1, h2⟩; exact ⟨by omega, h2⟩
theorem specPut_ev (l : List IP) (key v : ByteArray) (hl : l.length ≤ 1000000) : Ev (fun k => spec_l03Put.f k l key v) (putV l key v) := by
  unfold spec_l03Put.f putV
  refine Ev.bind (specAt_ev l key (by omega)) ?_
  have hle := atOf_le l key
  simp only [if_pos hl, if_pos (show (0 : Int) ≤ (atOf l key : Int) by omega), if_pos (show (atOf l key : Int) ≤ (l.length : Int) by omega), Int.toNat_natCast]
  by_cases h : hitB l key = true
  · simp only [if_pos h, if_pos ((hit_iff l key).1 h)]; exact Ev.now _
  · simp only [if_neg h, if_neg (fun e => h ((hit_iff l key).2 e))]
    by_cases h4 : l.length = 400
    · simp only [if_pos h4, if_pos (show (l.length : Int) = 400 by omega)]; exact Ev.now _
    · simp only [if_neg h4, if_neg (show ¬ (l.length : Int) = 400 by omega)]; exact Ev.now _
theorem implDrop_ev (l : List IP) (key : ByteArray) (hl : l.length ≤ 1000000) : Ev (fun k => impl_drop.f k l key) (dropV l key) := by
  unfold impl_drop.f dropV
  simp only [if_pos hl]
  refine Ev.bind (implAt_ev l key (by omega)) ?_
  cases h : hitB l key with
  | true =>
    have := hit_lt h
    simp only [if_true, if_pos (show (0 : Int) ≤ (atOf l key : Int) by omega), if_pos (show (atOf l key : Int) < (l.length : Int) by omega), Int.toNat_natCast]
    exact Ev.now _
  | false => simp only [Bool.false_eq_true, if_false]; exact Ev.now _
theorem specDrop_ev (l : List IP) (key : ByteArray) (hl : l.length ≤ 1000000) : Ev (fun k => spec_l03Drop.f k l key) (dropV l key) := by
  unfold spec_l03Drop.f dropV
  refine Ev.bind (specAt_ev l key (by omega)) ?_
  have hle := atOf_le l key
  simp only [if_pos hl, if_pos (show (0 : Int) ≤ (atOf l key : Int) by omega), Int.toNat_natCast]
  by_cases h1 : atOf l key < l.length
  · simp only [if_pos (show (atOf l key : Int) < (l.length : Int) by omega)]
    by_cases h2 : ((rd_T51 l (atOf l key : Int)).f0).toList = key.toList
    · simp only [if_pos h2, if_pos ((hit_iff l key).2 ⟨by omega, h2⟩)]; exact Ev.now _
    · simp only [if_neg h2, if_neg (fun e => h2 ((hit_iff l key).1 e).2)]; exact Ev.now _
  · have hn : ¬ hitB l key = true := fun e => h1 (hit_lt e)
    simp only [if_neg (show ¬ (atOf l key : Int) < (l.length : Int) by omega), if_neg hn, if_pos (show (atOf l key : Int) = (l.length : Int) by omega)]; exact Ev.now _
theorem rdI' (l : List IP) (i : Nat) (h : i < l.length) : rd_T51 l (i : Int) = l[i] := by simp [rd_T51, List.getD_eq_getElem?_getD, List.getElem?_eq_getElem h]
theorem putV_rt {l : List IP} {key v : ByteArray} (h : Rt l) (h1 : 1 ≤ key.size) (h2 : key.size ≤ 1000) (h3 : v.size ≤ 1000) : Rt (putV l key v).1 := by
  unfold putV
  by_cases hh : hitB l key = true
  · rw [if_pos hh]
    have hlt := hit_lt hh
    refine ⟨by rw [List.length_set]; exact h.1, fun x hx => ?_⟩
    rcases List.mem_or_eq_of_mem_set hx with hx | rfl
    · exact h.2 x hx
    · rw [rdI' l _ hlt]
      have := h.2 _ (List.getElem_mem hlt)
      exact ⟨this.1, this.2.1, h3⟩
  · rw [if_neg hh]
    by_cases h4 : l.length = 400
    · rw [if_pos h4]; exact h
    · rw [if_neg h4]
      refine ⟨by rw [List.length_insertIdx_of_le_length (atOf_le l key)]; have := h.1; omega, fun x hx => ?_⟩
      rcases (List.mem_insertIdx (atOf_le l key)).1 hx with rfl | hx
      · exact ⟨h1, h2, h3⟩
      · exact h.2 x hx
theorem dropV_rt {l : List IP} {key : ByteArray} (h : Rt l) : Rt (dropV l key).1 := by
  unfold dropV
  by_cases hh : hitB l key = true
  · rw [if_pos hh]
    refine ⟨Nat.le_trans (by simpa using List.length_eraseIdx_le l (atOf l key)) h.1, fun x hx => h.2 x (List.mem_of_mem_eraseIdx hx)⟩
  · rw [if_neg hh]; exact h
theorem dropV_nil {l : List IP} (h : Rt l) : dropV l (⟨#[]⟩ : ByteArray) = (l, 5) := by
  unfold dropV
  rw [if_neg]
  intro hh
  have hlt := hit_lt hh
  have := (hit_iff l _).1 hh
  rw [rdI' l _ hlt] at this
  have h1 := (h.2 _ (List.getElem_mem hlt)).1
  have h2 : l[atOf l (⟨#[]⟩ : ByteArray)].f0.size = 0 := (toList_nil_iff _).1 (this.2.trans ((toList_nil_iff _).2 rfl))
  omega
/-- The amount at a key. -/
def amtAt (l : List IP) (key : ByteArray) : Int := max0 (amtV (getV l key).1)
theorem amtAt_bd (l : List IP) (key : ByteArray) : 0 ≤ amtAt l key ∧ amtAt l key ≤ 1000000000000000000 := by
  unfold amtAt max0
  by_cases h : 0 ≤ amtV (getV l key).1
  · rw [if_pos h]; exact ⟨h, (amtV_eq h).2⟩
  · rw [if_neg h]; omega
theorem amountAt_ev (l : List IP) (key : ByteArray) (h : Rt l) : Ev (fun k => impl_amountAt.f k l key) (amtAt l key) := by
  unfold impl_amountAt.f amtAt
  refine Ev.bind (implGet_ev l key (by have := h.1; omega)) ?_
  obtain ⟨b, hb⟩ := readAmount_fst (getV l key).1 (Nat.le_trans (getV_size l key 1000 (fun x hx => (h.2 x hx).2.2)) (by decide))
  rw [hb]
  exact Ev.now _
theorem amtV_nil : amtV (⟨#[]⟩ : ByteArray) = -1 := by decide
theorem l05Read_ev (l : List IP) (key : ByteArray) (h : Rt l) : Ev (fun k => spec_l05Read.f k l key) (amtAt l key) := by
  unfold spec_l05Read.f
  refine Ev.bind (specGet_ev l key (by have := h.1; omega)) ?_
  have e : ∀ n : Int, mx 0 n = max0 n := fun n => by unfold mx max0; omega
  cases hf : (getV l key).2 with
  | true =>
    simp only [if_true]
    refine Ev.bind (l02Of_ev _ (Nat.le_trans (getV_size l key 1000 (fun x hx => (h.2 x hx).2.2)) (by decide))) ?_
    rw [e]
    exact Ev.now _
  | false =>
    have : amtAt l key = 0 := by
      unfold amtAt getV at *
      by_cases hh : hitB l key = true
      · rw [if_pos hh] at hf; cases hf
      · rw [if_neg hh, amtV_nil]; rfl
    simp only [Bool.false_eq_true, if_false, this]
    exact Ev.now _
/-- So much more at a key, or fewer. -/
def addV (l : List IP) (key : ByteArray) (n : Int) : List IP × Int :=
  if amtAt l key + n < 0 then (l, 12) else if 1000000000000000000 < amtAt l key + n then (l, 13) else if amtAt l key + n = 0 then ((dropV l key).1, 0) else putV l key (digV (amtAt l key + n).toNat)
theorem isAmount_eq (n : Int) : impl_isAmount.f n = some (decide (0 ≤ n ∧ n ≤ 1000000000000000000)) := by unfold impl_isAmount.f; rw [within_eq]; rfl
theorem putAmount_ev (l : List IP) (key : ByteArray) (n : Int) (hl : l.length ≤ 1000000) (h0 : 0 ≤ n) (h1 : n ≤ 1000000000000000000) : Ev (fun k => impl_putAmount.f k l key n) (if n = 0 then ((dropV l key).1, 0) else putV l key (digV n.toNat)) := by
  unfold impl_putAmount.f
  by_cases hn : n = 0
  · simp only [if_pos hn, if_neg (show ¬ n > 0 by omega)]
    exact Ev.bind (implDrop_ev l key hl) (Ev.now _)
  · simp only [if_neg hn, if_pos (show n > 0 by omega), amountText_eq n h0 (by omega), Option.bind_some]
    exact Ev.bind (implPut_ev l key _ hl) (Ev.now _)
theorem more_ev (l : List IP) (key : ByteArray) (n : Int) (h : Rt l) (h0 : 0 ≤ n) (h1 : n ≤ 1000000000000000000) : Ev (fun k => impl_more.f k l key n) (addV l key n) := by
  unfold impl_more.f addV
  refine Ev.bind (amountAt_ev l key h) ?_
  have hb := amtAt_bd l key
  generalize amtAt l key = a at *
  rw [if_neg (by omega)]
  have hs : Ev (fun k => impl_AddAmount.f k a n) (if 1000000000000000000 < a + n then ((0, 13) : Int × Int) else (a + n, 0)) := by
    unfold impl_AddAmount.f
    simp only [isAmount_eq, Option.bind_some, decide_eq_true hb, decide_eq_true (show 0 ≤ n ∧ n ≤ 1000000000000000000 from ⟨h0, h1⟩), if_true, Bool.not_true]
    refine Ev.step (f := fun _ => some (if 1000000000000000000 < a + n then ((0, 13) : Int × Int) else (a + n, 0))) (fun k => ?_) (Ev.now _)
    rw [impl_AddAmount.j0, if_neg (by decide), wid (n := a + n) (by omega) (by omega)]
    by_cases h2 : 1000000000000000000 < a + n
    · rw [if_pos (by omega), if_pos h2]
    · rw [if_neg (by omega), if_neg h2]
  refine Ev.bind hs ?_
  by_cases h2 : 1000000000000000000 < a + n
  · simp only [if_pos h2, if_neg (show ¬ (13 : Int) = 0 by decide)]; exact Ev.now _
  · simp only [if_neg h2, if_true]
    exact putAmount_ev l key (a + n) (by have := h.1; omega) (by omega) (by omega)
theorem fewer_ev (l : List IP) (key : ByteArray) (n : Int) (h : Rt l) (h0 : 0 ≤ n) (h1 : n ≤ 1000000000000000000) : Ev (fun k => impl_fewer.f k l key n) (addV l key (-n)) := by
  unfold impl_fewer.f addV
  refine Ev.bind (amountAt_ev l key h) ?_
  have hb := amtAt_bd l key
  generalize amtAt l key = a at *
  have hs : Ev (fun k => impl_SubAmount.f k a n) (if a < n then ((0, 12) : Int × Int) else (a - n, 0)) := by
    unfold impl_SubAmount.f
    simp only [isAmount_eq, Option.bind_some, decide_eq_true hb, decide_eq_true (show 0 ≤ n ∧ n ≤ 1000000000000000000 from ⟨h0, h1⟩), if_true, Bool.not_true]
    refine Ev.step (f := fun _ => some (if a < n then ((0, 12) : Int × Int) else (a - n, 0))) (fun k => ?_) (Ev.now _)
    rw [impl_SubAmount.j0, if_neg (by decide), wid (n := a - n) (by omega) (by omega)]
    by_cases h2 : a < n
    · rw [if_pos h2, if_pos h2]
    · rw [if_neg h2, if_neg h2]
  refine Ev.bind hs ?_
  rw [show a + -n = a - n by omega]
  by_cases h2 : a < n
  · simp only [if_pos h2, if_pos (show a - n < 0 by omega)]
    simp only [if_neg (show ¬ (12 : Int) = 0 by decide)]; exact Ev.now _
  · simp only [if_neg h2, if_true, if_neg (show ¬ a - n < 0 by omega), if_neg (show ¬ 1000000000000000000 < a - n by omega)]
    exact putAmount_ev l key (a - n) (by have := h.1; omega) (by omega) (by omega)
theorem l05Write_ev (l : List IP) (key : ByteArray) (n : Int) (hl : l.length ≤ 1000000) (h0 : 0 ≤ n) (h1 : n ≤ 1000000000000000000) : Ev (fun k => spec_l05Write.f k l key n) (if n = 0 then ((dropV l key).1, 0) else putV l key (digV n.toNat)) := by
  unfold spec_l05Write.f
  by_cases hn : n = 0
  · simp only [if_pos hn]
    exact Ev.bind (specDrop_ev l key hl) (Ev.now _)
  · simp only [if_neg hn]
    have e := digits_ev n.toNat (by omega)
    rw [show ((n.toNat : Nat) : Int) = n by omega] at e
    exact Ev.bind e (Ev.bind (specPut_ev l key _ hl) (Ev.now _))
theorem l05Add_ev (l : List IP) (key : ByteArray) (n : Int) (h : Rt l) (h0 : -1000000000000000000 ≤ n) (h1 : n ≤ 1000000000000000000) : Ev (fun k => spec_l05Add.f k l key n) (addV l key n) := by
  unfold spec_l05Add.f addV
  refine Ev.bind (l05Read_ev l key h) ?_
  have hb := amtAt_bd l key
  generalize amtAt l key = a at *
  rw [wid (n := a + n) (by omega) (by omega)]
  by_cases h2 : a + n < 0
  · simp only [if_pos h2]; exact Ev.now _
  · by_cases h3 : 1000000000000000000 < a + n
    · simp only [if_neg h2, if_pos h3]; exact Ev.now _
    · simp only [if_neg h2, if_neg h3]
      exact Ev.bind (l05Write_ev l key (a + n) (by have := h.1; omega) (by omega) (by omega)) (Ev.now _)
theorem digV_small (v : Nat) (h : v ≤ 1000000000000000000) : (digV v).size ≤ 1000 := Nat.le_trans (digV_size v h) (by decide)
theorem addV_rt {l : List IP} {key : ByteArray} {n : Int} (h : Rt l) (h1 : 1 ≤ key.size) (h2 : key.size ≤ 1000) : Rt (addV l key n).1 := by
  unfold addV
  split
  · exact h
  · split
    · exact h
    · split
      · exact dropV_rt h
      · exact putV_rt h h1 h2 (digV_small _ (by omega))
/-- Two changes, whole or not at all. -/
def thenV (l : List IP) (a : List IP × Int) (f : List IP → List IP × Int) : List IP × Int := if a.2 = 0 then (if (f a.1).2 = 0 then ((f a.1).1, 0) else (l, (f a.1).2)) else (l, a.2)
def bKey (d a : ByteArray) : ByteArray := (((⟨#[98, 47]⟩ : ByteArray) ++ d) ++ (⟨#[47]⟩ : ByteArray)) ++ a
def sKey (d : ByteArray) : ByteArray := (⟨#[115, 47]⟩ : ByteArray) ++ d
theorem bKey_size (d a : ByteArray) : (bKey d a).size = 3 + d.size + a.size := by
  unfold bKey
  simp only [ByteArray.size_append]
  have e1 : (⟨#[98, 47]⟩ : ByteArray).size = 2 := rfl
  have e2 : (⟨#[47]⟩ : ByteArray).size = 1 := rfl
  omega
theorem sKey_size (d : ByteArray) : (sKey d).size = 2 + d.size := by
  unfold sKey
  simp only [ByteArray.size_append]
  have e1 : (⟨#[115, 47]⟩ : ByteArray).size = 2 := rfl
  omega
def moveV (l : List IP) (f t d : ByteArray) (n : Int) : List IP × Int := thenV l (addV l (bKey d f) (-n)) (fun m => addV m (bKey d t) n)
def mintV (l : List IP) (a d : ByteArray) (n : Int) : List IP × Int := thenV l (addV l (sKey d) n) (fun m => addV m (bKey d a) n)
def burnV (l : List IP) (a d : ByteArray) (n : Int) : List IP × Int := thenV l (addV l (bKey d a) (-n)) (fun m => addV m (sKey d) (-n))
theorem thenV_rt {l : List IP} {a : List IP × Int} {f : List IP → List IP × Int} (h : Rt l) (h1 : Rt (f a.1).1) : Rt (thenV l a f).1 := by
  unfold thenV
  split
  · split
    · exact h1
    · exact h
  · exact h
theorem all_nil (k : Nat) (l o : List IP) : impl_all.go k l [] o = some (o, 0) := rfl
/-- The program's list of changes, one behind the other. -/
def seqV (l : List IP) : List (List IP → List IP × Int) → List IP → List IP × Int
  | [], o => (o, 0)
  | f :: fs, o => if (f o).2 = 0 then seqV l fs (f o).1 else (l, (f o).2)
theorem go_ev (l : List IP) (hr : Rt l) : ∀ (Fs : List (Nat → List IP → Option (List IP × Int))) (fs : List (List IP → List IP × Int)) (o : List IP), Rt o → Fs.length = fs.length →
    (∀ (i : Nat) F f, Fs[i]? = some F → fs[i]? = some f → ∀ m, Rt m → Ev (fun k => F k m) (f m) ∧ Rt (f m).1) → Ev (fun k => impl_all.go k l (Fs.map fun F => F k) o) (seqV l fs o)
  | [], [], o, _, _, _ => Ev.now _
  | [], _ :: _, _, _, h, _ => by simp at h
  | _ :: _, [], _, _, h, _ => by simp at h
  | F :: Fs, f :: fs, o, ho, hlen, hF => by
    obtain ⟨h1, h2⟩ := hF 0 F f rfl rfl o ho
    unfold seqV
    refine Ev.bind h1 ?_
    by_cases hc : (f o).2 = 0
    · simp only [if_pos hc]
      exact go_ev l hr Fs fs (f o).1 h2 (by simpa using hlen) (fun i G g hG hg => hF (i + 1) G g (by simpa using hG) (by simpa using hg))
    · simp only [if_neg hc]
      refine Ev.bind (implDrop_ev l _ (by have := hr.1; omega)) ?_
      rw [dropV_nil hr]
      exact Ev.now _
theorem all_ev (l : List IP) (hr : Rt l) (Fs : List (Nat → List IP → Option (List IP × Int))) (fs : List (List IP → List IP × Int)) (hlen : Fs.length = fs.length)
    (hF : ∀ (i : Nat) F f, Fs[i]? = some F → fs[i]? = some f → ∀ m, Rt m → Ev (fun k => F k m) (f m) ∧ Rt (f m).1) : Ev (fun k => impl_all.f k l (Fs.map fun F => F k)) (seqV l fs l) := by
  unfold impl_all.f
  refine Ev.bind (implDrop_ev l _ (by have := hr.1; omega)) ?_
  rw [dropV_nil hr]
  exact go_ev l hr Fs fs l hr hlen hF
theorem seq_two (l : List IP) (f g : List IP → List IP × Int) : seqV l [f, g] l = thenV l (f l) g := by
  unfold seqV seqV seqV thenV
  split
  · split
    · rfl
    · rfl
  · rfl
theorem two_cases {α β : Type} {a b : α} {c d : β} {P : α → β → Prop} (h1 : P a c) (h2 : P b d) : ∀ (i : Nat) F f, [a, b][i]? = some F → [c, d][i]? = some f → P F f
  | 0, F, f, hF, hf => by
    simp only [List.getElem?_cons_zero, Option.some.injEq] at hF hf
    subst hF hf
    exact h1
  | 1, F, f, hF, hf => by
    simp only [List.getElem?_cons_succ, List.getElem?_cons_zero, Option.some.injEq] at hF hf
    subst hF hf
    exact h2
  | i + 2, F, f, hF, hf => by simp at hF
theorem implKey05_eq (d a : ByteArray) (h : d.size + a.size ≤ 1000) : impl_balanceKey.f d a = some (bKey d a) := by unfold impl_balanceKey.f bKey; rw [if_pos (by omega)]
theorem specKey05_eq (a d : ByteArray) (h : a.size + d.size ≤ 1000) : spec_l05Key.f a d = some (bKey d a) := by unfold spec_l05Key.f bKey; rw [if_pos (by omega)]
theorem move_ev (l : List IP) (f t d : ByteArray) (n : Int) (h : Rt l) (hf : f.size ≤ 100) (ht : t.size ≤ 100) (hd : d.size ≤ 100) (h0 : 0 ≤ n) (h1 : n ≤ 1000000000000000000) : Ev (fun k => impl_move.F k f t d n l) (moveV l f t d n) := by
  unfold impl_move.F moveV
  rw [← seq_two l (fun m => addV m (bKey d f) (-n)) (fun m => addV m (bKey d t) n)]
  refine all_ev l h [fun k m => (impl_balanceKey.f d f).bind fun key => impl_fewer.f k m key n, fun k m => (impl_balanceKey.f d t).bind fun key => impl_more.f k m key n] _ rfl (two_cases (fun m hm => ⟨?_, ?_⟩) (fun m hm => ⟨?_, ?_⟩))
  · rw [implKey05_eq d f (by omega)]; exact fewer_ev m _ n hm h0 h1
  · exact addV_rt hm (by rw [bKey_size]; omega) (by rw [bKey_size]; omega)
  · rw [implKey05_eq d t (by omega)]; exact more_ev m _ n hm h0 h1
  · exact addV_rt hm (by rw [bKey_size]; omega) (by rw [bKey_size]; omega)
theorem moveV_rt {l : List IP} {f t d : ByteArray} {n : Int} (h : Rt l) (hf : f.size ≤ 100) (ht : t.size ≤ 100) (hd : d.size ≤ 100) : Rt (moveV l f t d n).1 :=
  thenV_rt h (addV_rt (addV_rt h (by rw [bKey_size]; omega) (by rw [bKey_size]; omega)) (by rw [bKey_size]; omega) (by rw [bKey_size]; omega))
theorem l05Move_ev (l : List IP) (f t d : ByteArray) (n : Int) (h : Rt l) (hf : f.size ≤ 100) (ht : t.size ≤ 100) (hd : d.size ≤ 100) (h0 : 0 ≤ n) (h1 : n ≤ 1000000000000000000) : Ev (fun k => spec_l05Move.f k l f t d n) (moveV l f t d n) := by
  unfold spec_l05Move.f moveV thenV
  rw [specKey05_eq f d (by omega), wid (n := -n) (by omega) (by omega)]
  simp only [Option.bind_some]
  refine Ev.bind (l05Add_ev l _ (-n) h (by omega) (by omega)) ?_
  by_cases hc : (addV l (bKey d f) (-n)).2 = 0
  · simp only [if_pos hc, specKey05_eq t d (by omega), Option.bind_some]
    refine Ev.bind (l05Add_ev _ _ n (addV_rt h (by rw [bKey_size]; omega) (by rw [bKey_size]; omega)) (by omega) (by omega)) ?_
    split
    · exact Ev.now _
    · exact Ev.now _
  · simp only [if_neg hc]; exact Ev.now _
theorem rt_store {l : List IP} (h : storeB l = true) (hk : ∀ x ∈ l, (1 ≤ x.f0.size ∧ x.f0.size ≤ 60) ∧ x.f1.size ≤ 1000) : Rt l := by
  unfold storeB at h
  rw [Bool.and_eq_true, decide_eq_true_iff] at h
  exact ⟨h.2, fun x hx => ⟨(hk x hx).1.1, by have := (hk x hx).1.2; omega, (hk x hx).2⟩⟩
end Go.Proofs.YtabmfhnhmoiljaaGreatDoor.U

/- Keys that rise: where a search ends, and which pairs begin so. -/

namespace Go.Proofs.YtabmfhnhmoiljaaGreatDoor.U
open Go Go.RowKit Go.Proofs.YtabmfhnhmoiljaaGreatDoor.Q Go.Proofs.YtabmfhnhmoiljaaGreatDoorW.PrintWords Go.Proofs.YtabmfhnhmoiljaaGreatDoorW.PrintLast Go.Proofs.YtabmfhnhmoiljaaGreatDoorW.PrintMore
set_option linter.unusedVariables false
set_option linter.unusedSimpArgs false

theorem less_cons (a b : UInt8) (x y : List UInt8) : Op.bytesLess (a :: x) (b :: y) = true ↔ a < b ∨ (a = b ∧ Op.bytesLess x y = true) := by
  rw [Op.bytesLess, Bool.or_eq_true, Bool.and_eq_true, decide_eq_true_iff, beq_iff_eq]
theorem less_trans : ∀ a b c : List UInt8, Op.bytesLess a b = true → Op.bytesLess b c = true → Op.bytesLess a c = true
  | _, [], _, h, _ => by rw [Op.bytesLess] at h; cases h
  | _, _ :: _, [], _, h => by rw [Op.bytesLess] at h; cases h
  | [], _ :: _, _ :: _, _, _ => by rw [Op.bytesLess]
  | a :: x, b :: y, c :: z, h1, h2 => by
    rw [less_cons] at *
    rcases h1 with h1 | ⟨rfl, h1⟩
    · rcases h2 with h2 | ⟨rfl, h2⟩
      · exact .inl (UInt8.lt_trans h1 h2)
      · exact .inl h1
    · rcases h2 with h2 | ⟨rfl, h2⟩
      · exact .inl h2
      · exact .inr ⟨rfl, less_trans x y z h1 h2⟩
/-- It begins so. -/
def preL (p x : List UInt8) : Bool := x.take p.length == p
theorem preL_cons (c d : UInt8) (p x : List UInt8) : preL (c :: p) (d :: x) = true ↔ d = c ∧ preL p x = true := by
  unfold preL
  simp
theorem preL_ge : ∀ p x : List UInt8, preL p x = true → Op.bytesLess x p = false
  | [], x, _ => by cases x <;> rw [Op.bytesLess]
  | c :: p, [], h => by simp [preL] at h
  | c :: p, d :: x, h => by
    rw [preL_cons] at h
    obtain ⟨rfl, h⟩ := h
    have := preL_ge p x h
    rw [Bool.eq_false_iff] at *
    intro h2
    rw [less_cons] at h2
    rcases h2 with h2 | ⟨_, h2⟩
    · exact UInt8.lt_irrefl _ h2
    · exact this h2
theorem preL_past : ∀ p x y : List UInt8, Op.bytesLess x p = false → preL p x = false → Op.bytesLess x y = true → preL p y = false
  | [], x, y, _, h, _ => by simp [preL] at h
  | c :: p, [], y, h, _, _ => by rw [Op.bytesLess] at h; cases h
  | c :: p, d :: x, [], _, _, _ => by simp [preL]
  | c :: p, d :: x, e :: y, h1, h2, h3 => by
    rw [Bool.eq_false_iff] at *
    intro h4
    rw [less_cons] at h3
    rw [ne_eq, less_cons] at h1
    rw [preL_cons] at h4
    obtain ⟨rfl, h4⟩ := h4
    rcases h3 with h3 | ⟨rfl, h3⟩
    · exact h1 (.inl h3)
    · have g1 : Op.bytesLess x p = false := by rw [Bool.eq_false_iff]; exact fun h => h1 (.inr ⟨rfl, h⟩)
      have g2 : preL p x = false := by rw [Bool.eq_false_iff]; exact fun h => h2 ((preL_cons _ _ _ _).2 ⟨rfl, h⟩)
      have := preL_past p x y g1 g2 h3
      rw [this] at h4; cases h4
/-- Keys rise. -/
def Rises (l : List IP) : Prop := ∀ i (h : i + 1 < l.length), Op.bytesLess (l[i]'(by omega)).f0.toList l[i + 1].f0.toList = true
theorem Rises.lt {l : List IP} (h : Rises l) : ∀ (d i : Nat) (hd : i + 1 + d < l.length), Op.bytesLess (l[i]'(by omega)).f0.toList (l[i + 1 + d]).f0.toList = true
  | 0, i, hd => h i hd
  | d + 1, i, hd => less_trans _ _ _ (Rises.lt h d i (by omega)) (h (i + 1 + d) (by omega))
theorem Rises.lt' {l : List IP} (h : Rises l) {i j : Nat} (hij : i < j) (hj : j < l.length) : Op.bytesLess (l[i]'(by omega)).f0.toList l[j].f0.toList = true := by
  have := h.lt (j - i - 1) i (by omega)
  have e : i + 1 + (j - i - 1) = j := by omega
  simp only [e] at this
  exact this
theorem fromB_pair (l : List IP) : ∀ (d i j : Nat), fromB l d i = true → i ≤ j → j < i + d → pairB l j = true
  | 0, i, j, _, h1, h2 => by omega
  | d + 1, i, j, h, h1, h2 => by
    rw [fromB, Bool.and_eq_true] at h
    by_cases e : i = j
    · subst e; exact h.1
    · exact fromB_pair l d (i + 1) j h.2 (by omega) (by omega)
theorem storeB_pair {l : List IP} (h : storeB l = true) (i : Nat) (hi : i < l.length) : pairB l i = true := by
  unfold storeB at h
  rw [Bool.and_eq_true] at h
  exact fromB_pair l l.length 0 i h.1 (by omega) (by omega)
theorem storeB_len {l : List IP} (h : storeB l = true) : l.length ≤ 400 := by
  unfold storeB at h
  rw [Bool.and_eq_true, decide_eq_true_iff] at h
  exact h.2
theorem storeB_rises {l : List IP} (h : storeB l = true) : Rises l := by
  intro i hi
  have hp := storeB_pair h (i + 1) hi
  unfold pairB lessB at hp
  rw [Bool.and_eq_true, Bool.and_eq_true, Bool.or_eq_true, decide_eq_true_iff] at hp
  rcases hp.2.2 with h0 | h0
  · omega
  · rw [rdI l (i + 1) hi, show (((i + 1 : Nat) : Int) - 1) = (i : Int) by omega, rdI l i (by omega)] at h0
    exact h0
theorem storeB_key {l : List IP} (h : storeB l = true) : ∀ x ∈ l, (1 ≤ x.f0.size ∧ x.f0.size ≤ 60) ∧ x.f1.size ≤ 1000 := by
  intro x hx
  obtain ⟨i, hi, rfl⟩ := List.getElem_of_mem hx
  have hp := storeB_pair h i hi
  unfold pairB keyB valueB at hp
  rw [Bool.and_eq_true, Bool.and_eq_true, decide_eq_true_iff, decide_eq_true_iff, rdI l i hi] at hp
  exact ⟨hp.1, hp.2.1⟩
theorem atV_spec {l : List IP} (h : Rises l) (key : ByteArray) : ∀ (f i j : Nat), j - i < f → i ≤ j → (hj : j ≤ l.length) →
    (∀ n (hn : n < l.length), n < i → Op.bytesLess l[n].f0.toList key.toList = true) → (∀ n (hn : n < l.length), j ≤ n → Op.bytesLess l[n].f0.toList key.toList = false) →
    (∀ n (hn : n < l.length), n < atV l key f i j → Op.bytesLess l[n].f0.toList key.toList = true) ∧ (∀ n (hn : n < l.length), atV l key f i j ≤ n → Op.bytesLess l[n].f0.toList key.toList = false)
  | 0, i, j, hf, _, _, _, _ => by omega
  | f + 1, i, j, hf, hij, hj, h1, h2 => by
    rw [atV]
    by_cases hlt : i < j
    · rw [if_pos hlt, rdI l ((i + j) / 2) (by omega)]
      split
      · rename_i hm
        refine atV_spec h key f _ _ (by omega) (by omega) hj (fun n hn hni => ?_) h2
        by_cases e : n = (i + j) / 2
        · subst e; exact hm
        · exact less_trans _ _ _ (h.lt' (show n < (i + j) / 2 by omega) (by omega)) hm
      · rename_i hm
        refine atV_spec h key f _ _ (by omega) (by omega) (by omega) h1 (fun n hn hni => ?_)
        by_cases e : n = (i + j) / 2
        · subst e; rw [Bool.eq_false_iff]; exact hm
        · rw [Bool.eq_false_iff]
          intro hc
          exact hm (less_trans _ _ _ (h.lt' (show (i + j) / 2 < n by omega) hn) hc)
    · rw [if_neg hlt]
      exact ⟨h1, fun n hn hni => h2 n hn (by omega)⟩
theorem atOf_spec {l : List IP} (h : Rises l) (key : ByteArray) :
    (∀ n (hn : n < l.length), n < atOf l key → Op.bytesLess l[n].f0.toList key.toList = true) ∧ (∀ n (hn : n < l.length), atOf l key ≤ n → Op.bytesLess l[n].f0.toList key.toList = false) :=
  atV_spec h key (l.length + 1) 0 l.length (by omega) (by omega) (Nat.le_refl _) (fun n _ h => by omega) (fun n hn h => by omega)
end Go.Proofs.YtabmfhnhmoiljaaGreatDoor.U

/- Rows of pairs that are marked and read again. -/
namespace Go.Proofs.YtabmfhnhmoiljaaGreatDoor.U
open Go Go.RowKit Go.Proofs.YtabmfhnhmoiljaaGreatDoor.Q Go.Proofs.YtabmfhnhmoiljaaGreatDoorW.PrintWords Go.Proofs.YtabmfhnhmoiljaaGreatDoorW.PrintLast Go.Proofs.YtabmfhnhmoiljaaGreatDoorW.PrintMore
set_option linter.unusedVariables false
set_option linter.unusedSimpArgs false

theorem wsP (m m' : Nat) (h : m ≤ 9000000000000000000) (e : m' = m + 1) : wrap64 ((m : Int) + 1) = (m' : Int) := by subst e; rw [wid (by omega) (by omega)]; omega
theorem heldPairS_go (l : List IP) (n : Nat) (hN : l.length ≤ 1048576) (hn : n ≤ 1000000) : ∀ (d i : Nat), i + d = l.length →
    Ev (fun k => laws_heldPairS.l0 k (markPs n l) ((n + 2 * i : Nat) : Int) (i : Int)) ((n + 2 * l.length : Nat) : Int) := by
  intro d
  have hlen : (markPs n l).length = l.length := by unfold markPs; simp
  induction d with
  | zero =>
    intro i hi
    refine Ev.step (fun k => ?_) (Ev.now _)
    rw [laws_heldPairS.l0, if_neg (by omega), show i = l.length by omega]
  | succ d ih =>
    intro i hi
    have hlt : i < (markPs n l).length := by omega
    have er : rd_T51 (markPs n l) (i : Int) = markP n i := by
      rw [rdI' _ i hlt]
      simp [markPs]
    refine Ev.step (fun k => by rw [laws_heldPairS.l0, if_pos (by omega), if_pos (by omega), er, wsP (n + 2 * i) (n + 2 * i + 1) (by omega) rfl, wsP (n + 2 * i + 1) (n + 2 * (i + 1)) (by omega) (by omega), wsP i (i + 1) (by omega) rfl]) (Ev.bind (markText_ev _ (by omega)) ?_)
    simp only [markP, if_true]
    refine Ev.bind (markText_ev _ (by omega)) ?_
    simp only [if_true]
    exact ih (i + 1) (by omega)
theorem heldPairS_ev (l : List IP) (n : Nat) (hN : l.length ≤ 1048576) (hn : n ≤ 1000000) : Ev (fun k => laws_heldPairS.f k (markPs n l) (n : Int)) ((n + 2 * l.length : Nat) : Int) := by
  unfold laws_heldPairS.f
  have := heldPairS_go l n hN hn l.length 0 (by omega)
  simpa using this
def chainB (a : ByteArray) : Bool := a.toList == ([120] : List UInt8) || a.toList == ([121] : List UInt8)
theorem chain_size {a : ByteArray} (h : chainB a = true) : a.size = 1 := by
  unfold chainB at h
  rw [Bool.or_eq_true, beq_iff_eq, beq_iff_eq] at h
  have e : a.toList.length = a.size := by rw [Lib.toList_data]; exact size_data a
  rcases h with h | h <;> (rw [h] at e; exact e.symm)
theorem isChain_eq (a : ByteArray) : impl_isChain.f a = some (chainB a) := by
  unfold impl_isChain.f chainB
  by_cases h1 : a.toList = ([120] : List UInt8)
  · rw [if_pos h1]; simp [h1]
  · rw [if_neg h1, beq_eq_false_iff_ne.2 h1, Bool.false_or]
theorem isText_eq (l : List ByteArray) : impl_isText.f l = some (decide (∀ t ∈ l, t.size ≤ 65536)) := by
  unfold impl_isText.f
  simp only [Option.bind_some, Option.some.injEq]
  rw [Bool.eq_iff_iff]
  simp only [Bool.not_eq_true', List.any_eq_false, decide_eq_true_eq]
  constructor
  · intro h t ht; have := h t ht; omega
  · intro h t ht; have := h t ht; omega
theorem rt_of {l : List IP} (h : storeB l = true) : Rt l := rt_store h (fun x hx => ⟨(storeB_key h x hx).1, (storeB_key h x hx).2⟩)
theorem name_small {a : ByteArray} (h : nameB a = true) : a.size ≤ 12 := by unfold nameB at h; rw [decide_eq_true_iff] at h; exact h.2
theorem people_small {a : ByteArray} (h : peopleB a = true) : a.size ≤ 12 := by unfold peopleB at h; rw [Bool.and_eq_true] at h; exact name_small h.1
end Go.Proofs.YtabmfhnhmoiljaaGreatDoor.U

/- Fields: the reference's bytes are the program's text. -/
namespace Go.Proofs.YtabmfhnhmoiljaaGreatDoor.U
open Go Go.RowKit Go.Proofs.YtabmfhnhmoiljaaGreatDoor.Q Go.Proofs.YtabmfhnhmoiljaaGreatDoorW.PrintWords Go.Proofs.YtabmfhnhmoiljaaGreatDoorW.PrintLast Go.Proofs.YtabmfhnhmoiljaaGreatDoorW.PrintMore
set_option linter.unusedVariables false
set_option linter.unusedSimpArgs false

theorem nums_append_str (a b : List Int) : strOfNums (a ++ b) = strOfNums a ++ strOfNums b := by
  apply ByteArray.ext
  simp [strOfNums]
theorem nums_bytesOf (s : ByteArray) : strOfNums (bytesOf s) = s := by
  apply ByteArray.ext
  apply Array.toList_inj.mp
  simp only [strOfNums, bytesOf, List.map_map]
  have : (fun x : UInt8 => (UInt8.ofNat ((x.toNat : Int)).toNat)) = id := by funext x; simp
  first
  | (simp [Function.comp_def, this]; done)
  | (conv => rhs; rw [← List.map_id s.data.toList]
     apply List.map_congr_left
     intro x _
     simp)
/-- One text behind its length, and all of them, as numbers. -/
def fieldN (t : ByteArray) : List Int := [(t.size : Int) / 256 % 256, (t.size : Int) % 256] ++ bytesOf t
def restN : List ByteArray → List Int
  | [] => []
  | t :: ts => fieldN t ++ restN ts
def fieldsN (l : List ByteArray) : List Int := [(l.length : Int) % 256] ++ restN l
theorem fieldN_str (t : ByteArray) : strOfNums (fieldN t) = fieldV t := by unfold fieldN fieldV; rw [nums_append_str, nums_bytesOf]
theorem restN_str : ∀ l : List ByteArray, strOfNums (restN l) = restV l
  | [] => rfl
  | t :: ts => by rw [restN, restV, nums_append_str, fieldN_str, restN_str ts]
theorem fieldsN_str (l : List ByteArray) : strOfNums (fieldsN l) = fieldsV l := by unfold fieldsN fieldsV; rw [nums_append_str, restN_str]
theorem l02Fields_go (l : List ByteArray) (hl : l.length ≤ 1000) (hx : ∀ x ∈ l, x.size ≤ 1048576) : ∀ (d i : Nat) (o : List Int), i + d = l.length → o.length ≤ i * 1048580 + 1048580 →
    Ev (fun k => spec_l02Fields.l0 k l o (i : Int)) (o ++ restN (l.drop i)) := by
  intro d
  induction d with
  | zero =>
    intro i o hi ho
    refine Ev.step (fun k => ?_) (Ev.now _)
    rw [spec_l02Fields.l0, if_neg (by omega), List.drop_of_length_le (by omega), restN, List.append_nil]
  | succ d ih =>
    intro i o hi ho
    have hlt : i < l.length := by omega
    have hr : rdOf ByteArray.empty l (i : Int) = l[i] := by simp [rdOf, List.getD_eq_getElem?_getD, List.getElem?_eq_getElem hlt]
    have hs := hx _ (List.getElem_mem hlt)
    have h3 := ih (i + 1) (o ++ fieldN l[i]) (by omega) (by rw [List.length_append, fieldN, List.length_append, bytesOf_length]; simp only [List.length_cons, List.length_nil]; omega)
    refine Ev.step (f := fun k => spec_l02Fields.l0 k l (o ++ fieldN l[i]) ((i + 1 : Nat) : Int)) (fun k => ?_) ?_
    · rw [spec_l02Fields.l0, if_pos (by omega), if_pos (by omega), hr, if_pos (by omega), wid (n := (i : Int) + 1) (by omega) (by omega), List.append_assoc]
      rfl
    · rw [List.drop_eq_getElem_cons hlt, restN]
      rw [List.append_assoc] at h3
      exact h3
theorem l02Fields_ev (l : List ByteArray) (hl : l.length ≤ 1000) (hx : ∀ x ∈ l, x.size ≤ 1048576) : Ev (fun k => spec_l02Fields.f k l) (fieldsN l) := by
  unfold spec_l02Fields.f fieldsN
  have := l02Fields_go l hl hx l.length 0 [(l.length : Int) % 256] (by omega) (by simp)
  simpa using this
end Go.Proofs.YtabmfhnhmoiljaaGreatDoor.U

/- What is done to a store with a pool: the program's and the reference's. -/
namespace Go.Proofs.YtabmfhnhmoiljaaGreatDoor.U
open Go Go.RowKit Go.Proofs.YtabmfhnhmoiljaaGreatDoor.Q Go.Proofs.YtabmfhnhmoiljaaGreatDoorW.PrintWords Go.Proofs.YtabmfhnhmoiljaaGreatDoorW.PrintLast Go.Proofs.YtabmfhnhmoiljaaGreatDoorW.PrintMore
set_option linter.unusedVariables false
set_option linter.unusedSimpArgs false

theorem implSup_eq (d : ByteArray) (h : d.size ≤ 1000) : impl_supplyKey.f d = some (sKey d) := by unfold impl_supplyKey.f sKey; rw [if_pos (by omega)]
theorem specSup_eq (d : ByteArray) (h : d.size ≤ 1000) : spec_l05Supply.f d = some (sKey d) := by unfold spec_l05Supply.f sKey; rw [if_pos (by omega)]
def otherV (a : ByteArray) : ByteArray := if a.toList = ([120] : List UInt8) then (⟨#[121]⟩ : ByteArray) else (⟨#[120]⟩ : ByteArray)
def vouV (a : ByteArray) : ByteArray := (⟨#[118]⟩ : ByteArray) ++ a
theorem other_size (a : ByteArray) : (otherV a).size = 1 := by unfold otherV; split <;> rfl
theorem vou_size (a : ByteArray) : (vouV a).size = 1 + a.size := by
  unfold vouV
  rw [ByteArray.size_append]
  rfl
theorem implOther_eq (a : ByteArray) : impl_otherName.f a = some (otherV a) := by unfold impl_otherName.f otherV; split <;> rfl
theorem specOther_eq (a : ByteArray) : spec_l07Other.f a = some (otherV a) := by unfold spec_l07Other.f otherV; split <;> rfl
theorem implVou_eq (a : ByteArray) (h : a.size ≤ 1000000) : impl_voucherOf.f a = some (vouV a) := by unfold impl_voucherOf.f vouV; rw [if_pos (by omega)]
theorem clone_ev (l : List IP) (h : Rt l) : slices_Clone_impl_Pair_impl_Pair.f l = some l := by unfold slices_Clone_impl_Pair_impl_Pair.f; rw [if_pos (by have := h.1; omega)]
theorem mint_ev (l : List IP) (a d : ByteArray) (n : Int) (h : Rt l) (ha : a.size ≤ 100) (hd : d.size ≤ 100) (h0 : 0 ≤ n) (h1 : n ≤ 1000000000000000000) : Ev (fun k => impl_mint.F k a d n l) (mintV l a d n) := by
  unfold impl_mint.F mintV
  rw [← seq_two l (fun m => addV m (sKey d) n) (fun m => addV m (bKey d a) n)]
  refine all_ev l h [fun k m => (impl_supplyKey.f d).bind fun key => impl_more.f k m key n, fun k m => (impl_balanceKey.f d a).bind fun key => impl_more.f k m key n] _ rfl (two_cases (fun m hm => ⟨?_, ?_⟩) (fun m hm => ⟨?_, ?_⟩))
  · rw [implSup_eq d (by omega)]; exact more_ev m _ n hm h0 h1
  · exact addV_rt hm (by rw [sKey_size]; omega) (by rw [sKey_size]; omega)
  · rw [implKey05_eq d a (by omega)]; exact more_ev m _ n hm h0 h1
  · exact addV_rt hm (by rw [bKey_size]; omega) (by rw [bKey_size]; omega)
theorem mintV_rt {l : List IP} {a d : ByteArray} {n : Int} (h : Rt l) (ha : a.size ≤ 100) (hd : d.size ≤ 100) : Rt (mintV l a d n).1 :=
  thenV_rt h (addV_rt (addV_rt h (by rw [sKey_size]; omega) (by rw [sKey_size]; omega)) (by rw [bKey_size]; omega) (by rw [bKey_size]; omega))
theorem l05Mint_ev (l : List IP) (a d : ByteArray) (n : Int) (h : Rt l) (ha : a.size ≤ 100) (hd : d.size ≤ 100) (h0 : 0 ≤ n) (h1 : n ≤ 1000000000000000000) : Ev (fun k => spec_l05Mint.f k l a d n) (mintV l a d n) := by
  unfold spec_l05Mint.f mintV thenV
  rw [specSup_eq d (by omega)]
  simp only [Option.bind_some]
  refine Ev.bind (l05Add_ev l _ n h (by omega) (by omega)) ?_
  by_cases hc : (addV l (sKey d) n).2 = 0
  · simp only [if_pos hc, specKey05_eq a d (by omega), Option.bind_some]
    refine Ev.bind (l05Add_ev _ _ n (addV_rt h (by rw [sKey_size]; omega) (by rw [sKey_size]; omega)) (by omega) (by omega)) ?_
    split
    · exact Ev.now _
    · exact Ev.now _
  · simp only [if_neg hc]; exact Ev.now _
theorem burn_ev (l : List IP) (a d : ByteArray) (n : Int) (h : Rt l) (ha : a.size ≤ 100) (hd : d.size ≤ 100) (h0 : 0 ≤ n) (h1 : n ≤ 1000000000000000000) : Ev (fun k => impl_burn.F k a d n l) (burnV l a d n) := by
  unfold impl_burn.F burnV
  rw [← seq_two l (fun m => addV m (bKey d a) (-n)) (fun m => addV m (sKey d) (-n))]
  refine all_ev l h [fun k m => (impl_balanceKey.f d a).bind fun key => impl_fewer.f k m key n, fun k m => (impl_supplyKey.f d).bind fun key => impl_fewer.f k m key n] _ rfl (two_cases (fun m hm => ⟨?_, ?_⟩) (fun m hm => ⟨?_, ?_⟩))
  · rw [implKey05_eq d a (by omega)]; exact fewer_ev m _ n hm h0 h1
  · exact addV_rt hm (by rw [bKey_size]; omega) (by rw [bKey_size]; omega)
  · rw [implSup_eq d (by omega)]; exact fewer_ev m _ n hm h0 h1
  · exact addV_rt hm (by rw [sKey_size]; omega) (by rw [sKey_size]; omega)
theorem burnV_rt {l : List IP} {a d : ByteArray} {n : Int} (h : Rt l) (ha : a.size ≤ 100) (hd : d.size ≤ 100) : Rt (burnV l a d n).1 :=
  thenV_rt h (addV_rt (addV_rt h (by rw [bKey_size]; omega) (by rw [bKey_size]; omega)) (by rw [sKey_size]; omega) (by rw [sKey_size]; omega))
theorem l05Burn_ev (l : List IP) (a d : ByteArray) (n : Int) (h : Rt l) (ha : a.size ≤ 100) (hd : d.size ≤ 100) (h0 : 0 ≤ n) (h1 : n ≤ 1000000000000000000) : Ev (fun k => spec_l05Burn.f k l a d n) (burnV l a d n) := by
  unfold spec_l05Burn.f burnV thenV
  rw [specKey05_eq a d (by omega), wid (n := -n) (by omega) (by omega)]
  simp only [Option.bind_some]
  refine Ev.bind (l05Add_ev l _ (-n) h (by omega) (by omega)) ?_
  by_cases hc : (addV l (bKey d a) (-n)).2 = 0
  · simp only [if_pos hc, specSup_eq d (by omega), Option.bind_some]
    refine Ev.bind (l05Add_ev _ _ (-n) (addV_rt h (by rw [bKey_size]; omega) (by rw [bKey_size]; omega)) (by omega) (by omega)) ?_
    split
    · exact Ev.now _
    · exact Ev.now _
  · simp only [if_neg hc]; exact Ev.now _
abbrev pKey : ByteArray := ⟨#[112]⟩
abbrev poolN : ByteArray := ⟨#[112, 111, 111, 108]⟩
abbrev sharesN : ByteArray := ⟨#[115, 104, 97, 114, 101, 115]⟩
def Amt (a : Int) : Prop := 0 ≤ a ∧ a ≤ 1000000000000000000
def poolTxt (a b c : Int) : ByteArray := fieldsV [digV a.toNat, digV b.toNat, digV c.toNat]
theorem poolTxt_size {a b c : Int} (ha : Amt a) (hb : Amt b) (hc : Amt c) : (poolTxt a b c).size ≤ 1000 := by
  unfold Amt at *
  have s1 := digV_size a.toNat (by omega)
  have s2 := digV_size b.toNat (by omega)
  have s3 := digV_size c.toNat (by omega)
  have e : (ByteArray.empty : ByteArray).size = 0 := rfl
  unfold poolTxt
  simp only [fieldsV, restV, fieldV, ByteArray.size_append, nums_size, List.length_cons, List.length_nil, e]
  omega
theorem putPool_ev (m : List IP) (a b c : Int) (hr : Rt m) (ha : Amt a) (hb : Amt b) (hc : Amt c) : Ev (fun k => impl_putPool.F k a b c m) (putV m pKey (poolTxt a b c)) := by
  unfold impl_putPool.F
  exact Ev.bind (poolValue_ev a b c ha hb hc) (implPut_ev m _ _ (by have := hr.1; omega))
theorem l10Put_ev (m : List IP) (a b c : Int) (hr : Rt m) (ha : Amt a) (hb : Amt b) (hc : Amt c) : Ev (fun k => spec_l10Put.f k m a b c) (putV m pKey (poolTxt a b c)) := by
  unfold Amt at *
  unfold spec_l10Put.f poolTxt
  have s1 := digV_size a.toNat (by omega)
  have s2 := digV_size b.toNat (by omega)
  have s3 := digV_size c.toNat (by omega)
  have d1 := digits_ev a.toNat (by omega)
  have d2 := digits_ev b.toNat (by omega)
  have d3 := digits_ev c.toNat (by omega)
  rw [show ((a.toNat : Nat) : Int) = a by omega] at d1
  rw [show ((b.toNat : Nat) : Int) = b by omega] at d2
  rw [show ((c.toNat : Nat) : Int) = c by omega] at d3
  refine Ev.bind d1 (Ev.bind d2 (Ev.bind d3 (Ev.bind (l02Fields_ev [digV a.toNat, digV b.toNat, digV c.toNat] (by simp) ?_) ?_)))
  · intro x hx
    simp only [List.mem_cons, List.mem_nil_iff, or_false] at hx
    rcases hx with rfl | rfl | rfl <;> omega
  · rw [fieldsN_str]
    exact Ev.bind (specPut_ev m _ _ (by have := hr.1; omega)) (Ev.now _)
/-- One more change ahead. -/
theorem cases_cons {α β : Type} {a : α} {c : β} {Fs : List α} {fs : List β} {Q : α → β → Prop} (h : Q a c) (hs : ∀ (i : Nat) F f, Fs[i]? = some F → fs[i]? = some f → Q F f) : ∀ (i : Nat) F f, (a :: Fs)[i]? = some F → (c :: fs)[i]? = some f → Q F f
  | 0, F, f, hF, hf => by
    simp only [List.getElem?_cons_zero, Option.some.injEq] at hF hf
    subst hF hf
    exact h
  | i + 1, F, f, hF, hf => by
    simp only [List.getElem?_cons_succ] at hF hf
    exact hs i F f hF hf
theorem cases_nil {α β : Type} {Q : α → β → Prop} : ∀ (i : Nat) F f, ([] : List α)[i]? = some F → ([] : List β)[i]? = some f → Q F f := fun i F f hF _ => by simp at hF
/-- An amount goes to the pool, or so much comes from it. -/
def legV (l : List IP) (who d : ByteArray) (n : Int) : List IP × Int := if 0 < n then moveV l who poolN d n else if n < 0 then moveV l poolN who d (-n) else (l, 0)
def sharesV (l : List IP) (who : ByteArray) (n : Int) : List IP × Int := if 0 < n then mintV l who sharesN n else if n < 0 then burnV l who sharesN (-n) else (l, 0)
theorem leg_ev (l : List IP) (who d : ByteArray) (n : Int) (hr : Rt l) (hw : who.size ≤ 100) (hd : d.size ≤ 100) (h0 : -1000000000000000000 ≤ n) (h1 : n ≤ 1000000000000000000) : Ev (fun k => spec_l10Do.one k who d n l) (legV l who d n) := by
  unfold spec_l10Do.one legV
  by_cases c1 : 0 < n
  · simp only [if_pos c1]; exact l05Move_ev l who poolN d n hr hw (by decide) hd (by omega) h1
  · simp only [if_neg c1]
    by_cases c2 : n < 0
    · simp only [if_pos c2]; rw [wid (n := -n) (by omega) (by omega)]; exact l05Move_ev l poolN who d (-n) hr (by decide) hw hd (by omega) (by omega)
    · simp only [if_neg c2]; exact Ev.now _
theorem shares_ev (l : List IP) (who : ByteArray) (n : Int) (hr : Rt l) (hw : who.size ≤ 100) (h0 : -1000000000000000000 ≤ n) (h1 : n ≤ 1000000000000000000) : Ev (fun k => spec_l10Do.two k who n l) (sharesV l who n) := by
  unfold spec_l10Do.two sharesV
  by_cases c1 : 0 < n
  · simp only [if_pos c1]; exact l05Mint_ev l who sharesN n hr hw (by decide) (by omega) h1
  · simp only [if_neg c1]
    by_cases c2 : n < 0
    · simp only [if_pos c2]; rw [wid (n := -n) (by omega) (by omega)]; exact l05Burn_ev l who sharesN (-n) hr hw (by decide) (by omega) (by omega)
    · simp only [if_neg c2]; exact Ev.now _
theorem legV_rt {l : List IP} {who d : ByteArray} {n : Int} (hr : Rt l) (hw : who.size ≤ 100) (hd : d.size ≤ 100) : Rt (legV l who d n).1 := by
  unfold legV
  split
  · exact moveV_rt hr hw (by decide) hd
  · split
    · exact moveV_rt hr (by decide) hw hd
    · exact hr
theorem sharesV_rt {l : List IP} {who : ByteArray} {n : Int} (hr : Rt l) (hw : who.size ≤ 100) : Rt (sharesV l who n).1 := by
  unfold sharesV
  split
  · exact mintV_rt hr hw (by decide)
  · split
    · exact burnV_rt hr hw (by decide)
    · exact hr
theorem legV_pos {l : List IP} {who d : ByteArray} {n : Int} (h : 1 ≤ n) : legV l who d n = moveV l who poolN d n := by unfold legV; rw [if_pos (by omega)]
theorem legV_neg {l : List IP} {who d : ByteArray} {n : Int} (h : 1 ≤ n) : legV l who d (-n) = moveV l poolN who d n := by unfold legV; rw [if_neg (by omega), if_pos (by omega), Int.neg_neg]
theorem sharesV_pos {l : List IP} {who : ByteArray} {n : Int} (h : 1 ≤ n) : sharesV l who n = mintV l who sharesN n := by unfold sharesV; rw [if_pos (by omega)]
theorem sharesV_neg {l : List IP} {who : ByteArray} {n : Int} (h : 1 ≤ n) : sharesV l who (-n) = burnV l who sharesN n := by unfold sharesV; rw [if_neg (by omega), if_pos (by omega), Int.neg_neg]
theorem sharesV_zero {l : List IP} {who : ByteArray} : sharesV l who 0 = (l, 0) := rfl
theorem seq_nil (l o : List IP) : seqV l [] o = (o, 0) := rfl
theorem seq_cons (l o : List IP) (f : List IP → List IP × Int) (fs : List (List IP → List IP × Int)) : seqV l (f :: fs) o = if (f o).2 = 0 then seqV l fs (f o).1 else (l, (f o).2) := rfl
theorem seq_rt {l : List IP} (hl : Rt l) : ∀ (fs : List (List IP → List IP × Int)) (o : List IP), Rt o → (∀ f ∈ fs, ∀ m, Rt m → Rt (f m).1) → Rt (seqV l fs o).1
  | [], o, ho, _ => ho
  | f :: fs, o, ho, hf => by
    rw [seq_cons]
    split
    · exact seq_rt hl fs (f o).1 (hf f (by simp) o ho) (fun g hg => hf g (by simp [hg]))
    · exact hl
/-- What the reference does to a store with a pool. -/
def doV (name : ByteArray) (l : List IP) (who : ByteArray) (dx dy ds a b c : Int) : List IP × Int :=
  seqV l [fun m => legV m who name dx, fun m => legV m who (vouV (otherV name)) dy, fun m => sharesV m who ds, fun m => putV m pKey (poolTxt a b c)] l
theorem pKey_size : pKey.size = 1 := rfl
theorem putP_rt {m : List IP} {a b c : Int} (hr : Rt m) (ha : Amt a) (hb : Amt b) (hc : Amt c) : Rt (putV m pKey (poolTxt a b c)).1 := putV_rt hr (by rw [pKey_size]; omega) (by rw [pKey_size]; omega) (poolTxt_size ha hb hc)
theorem vo_size (name : ByteArray) : (vouV (otherV name)).size = 2 := by rw [vou_size, other_size]
theorem doV_rt {name : ByteArray} {l : List IP} {who : ByteArray} {dx dy ds a b c : Int} (hr : Rt l) (hn : name.size ≤ 100) (hw : who.size ≤ 100) (ha : Amt a) (hb : Amt b) (hc : Amt c) : Rt (doV name l who dx dy ds a b c).1 := by
  unfold doV
  refine seq_rt hr _ l hr ?_
  intro f hf m hm
  simp only [List.mem_cons, List.mem_nil_iff, or_false] at hf
  rcases hf with rfl | rfl | rfl | rfl
  · exact legV_rt hm hw hn
  · exact legV_rt hm hw (by rw [vo_size]; omega)
  · exact sharesV_rt hm hw
  · exact putP_rt hm ha hb hc
theorem fin_ev (l : List IP) (who : ByteArray) (ds a b c : Int) (o : List IP) (hr : Rt o) (hw : who.size ≤ 100) (h0 : -1000000000000000000 ≤ ds) (h1 : ds ≤ 1000000000000000000) (ha : Amt a) (hb : Amt b) (hc : Amt c) :
    Ev (fun k => spec_l10Do.fin k l who ds a b c o) (seqV l [fun m => sharesV m who ds, fun m => putV m pKey (poolTxt a b c)] o) := by
  unfold spec_l10Do.fin
  refine Ev.bind (shares_ev o who ds hr hw h0 h1) ?_
  rw [seq_cons]
  have hm := sharesV_rt (n := ds) hr hw
  generalize sharesV o who ds = q at *
  by_cases hq : q.2 = 0
  · simp only [if_pos hq]
    refine Ev.bind (l10Put_ev q.1 a b c hm ha hb hc) ?_
    rw [seq_cons, seq_nil]
    generalize putV q.1 pKey (poolTxt a b c) = q2
    by_cases hq2 : q2.2 = 0
    · simp only [if_pos hq2]; exact Ev.now _
    · simp only [if_neg hq2]; exact Ev.now _
  · simp only [if_neg hq]; exact Ev.now _
theorem l10Do_ev (name : ByteArray) (l : List IP) (who : ByteArray) (dx dy ds a b c : Int) (hr : Rt l) (hn : name.size ≤ 100) (hw : who.size ≤ 100) (x0 : -1000000000000000000 ≤ dx) (x1 : dx ≤ 1000000000000000000) (y0 : -1000000000000000000 ≤ dy) (y1 : dy ≤ 1000000000000000000) (h0 : -1000000000000000000 ≤ ds) (h1 : ds ≤ 1000000000000000000) (ha : Amt a) (hb : Amt b) (hc : Amt c) :
    Ev (fun k => spec_l10Do.f k name l who dx dy ds a b c) (doV name l who dx dy ds a b c) := by
  unfold spec_l10Do.f doV
  simp only [specOther_eq, Option.bind_some, if_pos (show (otherV name).size ≤ 1000000 by rw [other_size]; omega)]
  show Ev (fun k => (spec_l10Do.one k who name dx l).bind fun q => if q.2 = 0 then ((spec_l10Do.one k who (vouV (otherV name)) dy q.1).bind fun q => if q.2 = 0 then spec_l10Do.fin k l who ds a b c q.1 else some (l, q.2)) else some (l, q.2)) _
  refine Ev.bind (leg_ev l who name dx hr hw hn x0 x1) ?_
  rw [seq_cons]
  have hm := legV_rt (n := dx) hr hw hn
  generalize legV l who name dx = q at *
  by_cases hq : q.2 = 0
  · simp only [if_pos hq]
    have v2 : (vouV (otherV name)).size ≤ 100 := by rw [vo_size]; omega
    refine Ev.bind (leg_ev q.1 who (vouV (otherV name)) dy hm hw v2 y0 y1) ?_
    rw [seq_cons]
    have hm2 := legV_rt (n := dy) hm hw v2
    generalize legV q.1 who (vouV (otherV name)) dy = q2 at *
    by_cases hq2 : q2.2 = 0
    · simp only [if_pos hq2]
      exact fin_ev l who ds a b c q2.1 hm2 hw h0 h1 ha hb hc
    · simp only [if_neg hq2]; exact Ev.now _
  · simp only [if_neg hq]; exact Ev.now _
/-- The pool that stands in a store is right. -/
theorem poolR_right (v : ByteArray) : poolB (poolR v).1 (poolR v).2.1 (poolR v).2.2 = true := by
  unfold poolR
  split
  · split
    · assumption
    · rfl
  · rfl
theorem people1_ev (who : ByteArray) (h : who.size ≤ 1048576) : Ev (fun k => impl_isPeople.f k [who]) (peopleB who) := by
  have e := isPeople_ev [who] (by simp) (by intro x hx; simp only [List.mem_singleton] at hx; subst hx; omega)
  have e2 : [who].all peopleB = peopleB who := by simp only [List.all_cons, List.all_nil, Bool.and_true]
  rwa [e2] at e
theorem amt_of {n : Int} (h0 : 0 ≤ n) (h1 : n ≤ 1000000000000000000) : Amt n := ⟨h0, h1⟩
theorem widI {n : Int} (h0 : -9223372036854775808 ≤ n) (h1 : n ≤ 9223372036854775807) : IntKind.i64.wrap n = n := IntWalk.i64_in n ⟨h0, h1⟩
theorem some_bd {n : Int} (h : someB n = true) : 1 ≤ n ∧ n ≤ 1000000000000000000 := by unfold someB at h; rwa [decide_eq_true_iff] at h
theorem vals_of {l : List IP} (hr : Rt l) : ∀ x ∈ l, x.f1.size ≤ 1048576 := fun x hx => by have := (hr.2 x hx).2.2; omega
end Go.Proofs.YtabmfhnhmoiljaaGreatDoor.U

/- What a name's code is. -/
namespace Go.Proofs.YtabmfhnhmoiljaaGreatDoor.U
open Go Go.RowKit Go.Proofs.YtabmfhnhmoiljaaGreatDoor.Q Go.Proofs.YtabmfhnhmoiljaaGreatDoorW.PrintWords Go.Proofs.YtabmfhnhmoiljaaGreatDoorW.PrintLast Go.Proofs.YtabmfhnhmoiljaaGreatDoorW.PrintMore
set_option linter.unusedVariables false
set_option linter.unusedSimpArgs false

/-- The code of a chain's name, of its store and of texts. -/
def nameC (a : ByteArray) (l : List IP) (ts : List ByteArray) : Int := if a.size ≤ 65536 ∧ l.length ≤ 4096 ∧ (∀ t ∈ ts, t.size ≤ 65536) then (if (chainB a && storeB l) = true then 0 else 1) else 2
theorem nameCode_ev (a : ByteArray) (l : List IP) (ts : List ByteArray) (hl : l.length ≤ 1048576) : Ev (fun k => impl_nameCode.f k a l ts) (nameC a l ts) := by
  unfold impl_nameCode.f nameC
  have e : (∀ t ∈ [a], t.size ≤ 65536) ↔ a.size ≤ 65536 := by simp
  simp only [isText_eq, e, Option.bind_some]
  have bad : Ev (fun k => impl_nameCode.j0 k a l true) 2 := Ev.step (f := fun _ => some 2) (fun k => by rw [impl_nameCode.j0, if_pos rfl]) (Ev.now _)
  by_cases h1 : a.size ≤ 65536
  · rw [decide_eq_true h1]
    simp only [if_true, impl_isList_impl_Pair.f, Option.bind_some]
    by_cases h2 : l.length ≤ 4096
    · have e2 : (decide ((l.length : Int) ≤ 4096)) = true := decide_eq_true (by omega)
      simp only [e2, if_true]
      by_cases h3 : ∀ t ∈ ts, t.size ≤ 65536
      · rw [decide_eq_true h3]
        rw [if_pos ⟨h1, h2, h3⟩]
        refine Ev.step (fun k => by rw [impl_nameCode.j0, if_neg (by decide), isChain_eq]) ?_
        simp only [Option.bind_some]
        cases chainB a with
        | false => exact Ev.now _
        | true =>
          simp only [if_true, Bool.true_and]
          refine Ev.bind (implStoreOK_ev l hl) ?_
          cases storeB l with
          | true => exact Ev.now _
          | false => exact Ev.now _
      · rw [decide_eq_false h3, if_neg (fun e => h3 e.2.2)]; exact bad
    · have e2 : (decide ((l.length : Int) ≤ 4096)) = false := decide_eq_false (by omega)
      simp only [e2, Bool.false_eq_true, if_false]
      rw [if_neg (fun e => h2 e.2.1)]; exact bad
  · rw [decide_eq_false h1, if_neg (fun e => h1 e.1)]
    simp only [Bool.false_eq_true, if_false]; exact bad
theorem l08Code_ev (a : ByteArray) (l : List IP) (hl : l.length ≤ 1048576) (h4 : l.length ≤ 4096) : Ev (fun k => spec_l08Code.f k a l) (if (chainB a && storeB l) = true then 0 else 1) := by
  unfold spec_l08Code.f chainB
  simp only [if_neg (show ¬ (l.length : Int) > 4096 by omega)]
  have hs : Ev (fun k => (spec_StoreOK.f k l).bind fun t => if t = true then some 0 else some 1) (if storeB l = true then (0 : Int) else 1) := by
    refine Ev.bind (specStoreOK_ev l hl) ?_
    cases storeB l with
    | true => exact Ev.now _
    | false => exact Ev.now _
  by_cases h1 : a.toList = ([120] : List UInt8)
  · simp only [if_pos h1, h1, beq_self_eq_true, Bool.true_or, Bool.true_and]; exact hs
  · simp only [if_neg h1, beq_eq_false_iff_ne.2 h1, Bool.false_or]
    by_cases h2 : a.toList = ([121] : List UInt8)
    · simp only [if_pos h2, h2, beq_self_eq_true, Bool.true_and]; exact hs
    · simp only [if_neg h2, beq_eq_false_iff_ne.2 h2, Bool.false_and, Bool.false_eq_true, if_false]; exact Ev.now _
/-- The exported functions' own tests. -/
theorem nameC_cases (a : ByteArray) (l : List IP) (ts : List ByteArray) : nameC a l ts = 0 → chainB a = true ∧ storeB l = true ∧ (∀ t ∈ ts, t.size ≤ 65536) := by
  unfold nameC
  intro h
  split at h
  · rename_i h1
    split at h
    · rename_i h2
      rw [Bool.and_eq_true] at h2
      exact ⟨h2.1, h2.2, h1.2.2⟩
    · cases h
  · cases h
end Go.Proofs.YtabmfhnhmoiljaaGreatDoor.U

/- What the reference's l02MulDiv computes: the quotient of the product, digit by digit. -/
namespace Go.Proofs.YtabmfhnhmoiljaaGreatDoor.U
open Go Go.RowKit Go.Proofs.YtabmfhnhmoiljaaGreatDoor.Q Go.Proofs.YtabmfhnhmoiljaaGreatDoorW.PrintWords Go.Proofs.YtabmfhnhmoiljaaGreatDoorW.PrintLast Go.Proofs.YtabmfhnhmoiljaaGreatDoorW.PrintMore
set_option linter.unusedVariables false
set_option linter.unusedSimpArgs false

theorem l02Wide_eq (a b : Int) (ha : 0 ≤ a) (ha' : a ≤ 1000000000000000000) (hb : 0 ≤ b) (hb' : b ≤ 1000000000000000000) :
    spec_l02Wide.f a b = some (a * b / 1000000000000000000, a * b % 1000000000000000000) := by
  have e := wide_eq a b ha ha' hb hb'
  have hx := Int.emod_nonneg a (by decide : (1000000000 : Int) ≠ 0)
  have hx' := Int.emod_lt_of_pos a (by decide : (0 : Int) < 1000000000)
  have hy := Int.emod_nonneg b (by decide : (1000000000 : Int) ≠ 0)
  have hy' := Int.emod_lt_of_pos b (by decide : (0 : Int) < 1000000000)
  have hu : 0 ≤ a / 1000000000 ∧ a / 1000000000 ≤ 1000000000 := by omega
  have hv : 0 ≤ b / 1000000000 ∧ b / 1000000000 ≤ 1000000000 := by omega
  have m1 := mul_bd (X := 1000000000) (Y := 1000000000) hx (by omega) hy (by omega)
  have m2 := mul_bd (X := 1000000000) (Y := 1000000000) hu.1 hu.2 hy (by omega)
  have m3 := mul_bd (X := 1000000000) (Y := 1000000000) hx (by omega) hv.1 hv.2
  have m4 := mul_bd (X := 1000000000) (Y := 1000000000) hu.1 hu.2 hv.1 hv.2
  unfold spec_l02Wide.f
  rw [tdiv_nn ha, tdiv_nn hb, tmod_nn ha, tmod_nn hb]
  generalize a / 1000000000 = x at *
  generalize a % 1000000000 = y at *
  generalize b / 1000000000 = z at *
  generalize b % 1000000000 = u at *
  rw [e]
  rw [show wrap64 x = x from wid (by omega) (by omega), show wrap64 z = z from wid (by omega) (by omega)]
  generalize x * z = p at *
  generalize x * u = q at *
  generalize y * z = r at *
  generalize y * u = s at *
  rw [show wrap64 p = p from wid (by omega) (by omega), show wrap64 q = q from wid (by omega) (by omega), show wrap64 r = r from wid (by omega) (by omega), show wrap64 s = s from wid (by omega) (by omega)]
  rw [tdiv_nn m1.1, tmod_nn m1.1, show wrap64 (q + r) = q + r from wid (by omega) (by omega)]
  rw [show wrap64 (s / 1000000000) = s / 1000000000 from wid (by omega) (by omega), show wrap64 (q + r + s / 1000000000) = q + r + s / 1000000000 from wid (by omega) (by omega)]
  rw [tdiv_nn (by omega), tmod_nn (by omega)]
  rw [show wrap64 ((q + r + s / 1000000000) / 1000000000) = (q + r + s / 1000000000) / 1000000000 from wid (by omega) (by omega)]
  rw [show wrap64 ((q + r + s / 1000000000) % 1000000000 * 1000000000) = (q + r + s / 1000000000) % 1000000000 * 1000000000 from wid (by omega) (by omega)]
  rw [show wrap64 (p + (q + r + s / 1000000000) / 1000000000) = p + (q + r + s / 1000000000) / 1000000000 from wid (by omega) (by omega)]
  rw [show wrap64 ((q + r + s / 1000000000) % 1000000000 * 1000000000 + s % 1000000000) = (q + r + s / 1000000000) % 1000000000 * 1000000000 + s % 1000000000 from wid (by omega) (by omega)]
  congr 1
  refine Prod.ext ?_ ?_ <;> show _ = _ <;> simp only <;> omega

/-- The ten turns: ten times the rest, by c. -/
theorem l02MulDiv_turns (c low out rest T : Int) (hc : 1 ≤ c) (hc' : c ≤ 1000000000000000000) (hr : 0 ≤ rest) (hr' : rest < c) (hT : 1 ≤ T) (hT' : T ≤ 1000000000000000000) (hl : 0 ≤ low) (hl' : low < 1000000000000000000)
    (ho : 0 ≤ out) (ho' : out ≤ 100000000000000000) {res : Int × Bool}
    (h : Ev (fun k => spec_l02MulDiv.l0 k c low (out * 10 + (10 * rest + low / T % 10) / c) ((10 * rest + low / T % 10) % c) (T / 10)) res) :
    ∀ (d : Nat) (i q r : Int), 0 ≤ i → i + d = 10 → 0 ≤ q → q ≤ i → 0 ≤ r → r < c → r + c * q = i * rest → Ev (fun k => spec_l02MulDiv.l1 k c low out rest T q r i) res := by
  intro d
  induction d with
  | zero =>
    intro i q r hi hd hq hqi hr0 hrc e
    obtain rfl : i = 10 := by omega
    refine Ev.step (f := fun k => spec_l02MulDiv.l0 k c low (out * 10 + (10 * rest + low / T % 10) / c) ((10 * rest + low / T % 10) % c) (T / 10)) (fun k => ?_) h
    rw [spec_l02MulDiv.l1, if_neg (by omega), if_neg (by omega), if_neg (by omega)]
    have hd0 : 0 ≤ low / T := Int.ediv_nonneg hl (by omega)
    have hd1 : low / T ≤ low := Int.ediv_le_self _ hl
    rw [tdiv_nn hl, show wrap64 (low / T) = low / T from wid (by omega) (by omega), tmod_nn hd0]
    have hd2 := Int.emod_nonneg (low / T) (by decide : (10 : Int) ≠ 0)
    have hd3 := Int.emod_lt_of_pos (low / T) (by decide : (0 : Int) < 10)
    generalize low / T % 10 = dg at *
    rw [show wrap64 (r + dg) = r + dg from wid (by omega) (by omega), tdiv_nn (by omega), tmod_nn (by omega), tdiv_nn (by omega)]
    have e3 : 10 * rest + dg = (r + dg) + c * q := by omega
    have hq3 : (10 * rest + dg) / c = (r + dg) / c + q := by rw [e3, Int.add_mul_ediv_left _ _ (by omega)]
    have hm3 : (10 * rest + dg) % c = (r + dg) % c := by rw [e3, Int.add_mul_emod_self_left]
    have hb1 : 0 ≤ (r + dg) / c := Int.ediv_nonneg (by omega) (by omega)
    have hb2 : (r + dg) / c ≤ r + dg := Int.ediv_le_self _ (by omega)
    rw [hq3, hm3]
    have hle : (r + dg) / c ≤ 10 := by
      have : (r + dg) / c < 11 := by
        rw [Int.ediv_lt_iff_lt_mul (by omega)]
        omega
      omega
    rw [show wrap64 ((r + dg) / c) = (r + dg) / c from wid (by omega) (by omega)]
    rw [show wrap64 (q + (r + dg) / c) = (r + dg) / c + q from by rw [wid (by omega) (by omega)]; omega]
    rw [show wrap64 (out * 10) = out * 10 from wid (by omega) (by omega)]
    rw [show wrap64 (out * 10 + ((r + dg) / c + q)) = out * 10 + ((r + dg) / c + q) from wid (by omega) (by omega)]
    rw [show wrap64 (T / 10) = T / 10 from wid (by omega) (by omega)]
  | succ d ih =>
    intro i q r hi hd hq hqi hr0 hrc e
    by_cases hge : r + rest ≥ c
    · refine Ev.step (fun k => ?_) (ih (i + 1) (q + 1) (r + rest - c) (by omega) (by omega) (by omega) (by omega) (by omega) (by omega) (by rw [Int.mul_add, Int.add_mul]; omega))
      rw [spec_l02MulDiv.l1, if_pos (by omega), show wrap64 (r + rest) = r + rest from wid (by omega) (by omega), if_pos hge, show wrap64 (q + 1) = q + 1 from wid (by omega) (by omega), show wrap64 (i + 1) = i + 1 from wid (by omega) (by omega), show wrap64 (r + rest - c) = r + rest - c from wid (by omega) (by omega)]
    · refine Ev.step (fun k => ?_) (ih (i + 1) q (r + rest) (by omega) (by omega) (by omega) (by omega) (by omega) (by omega) (by rw [Int.add_mul]; omega))
      rw [spec_l02MulDiv.l1, if_pos (by omega), show wrap64 (r + rest) = r + rest from wid (by omega) (by omega), if_neg hge, show wrap64 (i + 1) = i + 1 from wid (by omega) (by omega)]

theorem l02MulDiv_digits (c low : Int) (hc : 1 ≤ c) (hc' : c ≤ 1000000000000000000) (hl : 0 ≤ low) (hl' : low < 1000000000000000000) :
    ∀ (j : Nat) (out rest : Int), j ≤ 18 → 0 ≤ rest → rest < c → 0 ≤ out → out < 10 ^ (18 - j) →
      Ev (fun k => spec_l02MulDiv.l0 k c low out rest (if j = 0 then 0 else 10 ^ (j - 1))) (out * 10 ^ j + (rest * 10 ^ j + low % 10 ^ j) / c, true) := by
  intro j
  induction j with
  | zero =>
    intro out rest hj hr hr' ho ho'
    refine Ev.step (f := fun _ => some (out, true)) (fun k => by rw [if_pos rfl, spec_l02MulDiv.l0, if_neg (by omega)]) ?_
    have : (rest * 10 ^ 0 + low % 10 ^ 0) / c = 0 := by
      rw [show (10 : Int) ^ 0 = 1 from rfl, Int.emod_one, Int.mul_one, Int.add_zero]
      exact Int.ediv_eq_zero_of_lt hr hr'
    rw [this]
    rw [show out * 10 ^ 0 + 0 = out from by rw [show (10 : Int) ^ 0 = 1 from rfl]; omega]
    exact Ev.now _
  | succ j ih =>
    intro out rest hj hr hr' ho ho'
    have hT : (1 : Int) ≤ 10 ^ j := by have h_ : (0 : Int) < 10 ^ j := Int.pow_pos (by decide); omega
    have hT2 : ∀ m : Nat, m ≤ 18 → (10 : Int) ^ m ≤ 1000000000000000000 := by decide
    have hT3 : ∀ m : Nat, m ≤ 17 → (10 : Int) ^ m ≤ 100000000000000000 := by decide
    have hTT := hT2 j (by omega)
    have hO := hT3 (18 - (j + 1)) (by omega)
    have hd2 := Int.emod_nonneg (low / 10 ^ j) (by decide : (10 : Int) ≠ 0)
    have hd3 := Int.emod_lt_of_pos (low / 10 ^ j) (by decide : (0 : Int) < 10)
    have hp : (10 : Int) ^ (j + 1) = 10 * 10 ^ j := by rw [Int.pow_succ, Int.mul_comm]
    have hp2 : (10 : Int) ^ (18 - j) = 10 * 10 ^ (18 - (j + 1)) := by rw [show 18 - j = (18 - (j + 1)) + 1 from by omega, Int.pow_succ, Int.mul_comm]
    have key := digit_step c (10 ^ j) out rest low hc hT hr hl
    have hq1 : 0 ≤ (10 * rest + low / 10 ^ j % 10) / c := Int.ediv_nonneg (by omega) (by omega)
    have hq2 : (10 * rest + low / 10 ^ j % 10) / c < 10 := by
      rw [Int.ediv_lt_iff_lt_mul (by omega)]
      omega
    have hm1 := Int.emod_nonneg (10 * rest + low / 10 ^ j % 10) (by omega : c ≠ 0)
    have hm2 := Int.emod_lt_of_pos (10 * rest + low / 10 ^ j % 10) (by omega : 0 < c)
    have := ih (out * 10 + (10 * rest + low / 10 ^ j % 10) / c) ((10 * rest + low / 10 ^ j % 10) % c) (by omega) hm1 hm2 (by omega) (by rw [hp2]; omega)
    rw [key, ← hp] at this
    have hdiv : (if j = 0 then (0 : Int) else 10 ^ (j - 1)) = 10 ^ j / 10 := by
      cases j with
      | zero => rfl
      | succ m => rw [if_neg (by omega), Int.pow_succ, Int.mul_ediv_cancel _ (by decide)]; rfl
    rw [hdiv] at this
    have h1 := l02MulDiv_turns c low out rest (10 ^ j) hc hc' hr hr' hT hTT hl hl' ho (by omega) this 10 0 0 0 (by omega) (by omega) (by omega) (by omega) (by omega) (by omega) (by omega)
    refine Ev.step (fun k => ?_) h1
    rw [if_neg (by omega), spec_l02MulDiv.l0, if_pos (by rw [show j + 1 - 1 = j from rfl]; omega)]
    rfl

/-- The reference's quotient of a product: whole, and whether it is an amount. -/
theorem l02MulDiv_ev (a b c : Int) (ha : 0 ≤ a) (ha' : a ≤ 1000000000000000000) (hb : 0 ≤ b) (hb' : b ≤ 1000000000000000000) (hc : 1 ≤ c) (hc' : c ≤ 1000000000000000000) :
    Ev (fun k => spec_l02MulDiv.f k a b c) (if a * b / c ≤ 1000000000000000000 then (a * b / c, true) else (1000000000000000000, false)) := by
  unfold spec_l02MulDiv.f
  rw [l02Wide_eq a b ha ha' hb hb']
  simp only [Option.bind_some]
  have hP : 0 ≤ a * b := Int.mul_nonneg ha hb
  generalize a * b = P at *
  have e := Int.mul_ediv_add_emod P 1000000000000000000
  have hl := Int.emod_nonneg P (by decide : (1000000000000000000 : Int) ≠ 0)
  have hl' := Int.emod_lt_of_pos P (by decide : (0 : Int) < 1000000000000000000)
  have hh : 0 ≤ P / 1000000000000000000 := Int.ediv_nonneg hP (by decide)
  generalize P / 1000000000000000000 = high at *
  generalize P % 1000000000000000000 = low at *
  by_cases hge : high ≥ c
  · simp only [if_pos hge]
    by_cases heq : high = c
    · simp only [if_pos heq]
      subst heq
      have hq : P / high = 1000000000000000000 + low / high := by
        rw [← e, Int.mul_comm, Int.mul_add_ediv_left _ _ (by omega)]
      by_cases hlt : low < high
      · have h0 : low / high = 0 := Int.ediv_eq_zero_of_lt hl hlt
        rw [hq, h0, if_pos (by omega), decide_eq_true hlt]
        exact Ev.now _
      · have h0 : 1 ≤ low / high := by rw [Int.le_ediv_iff_mul_le (by omega)]; omega
        rw [hq, if_neg (by omega), decide_eq_false hlt]
        exact Ev.now _
    · simp only [if_neg heq]
      have h0 : 1000000000000000001 ≤ P / c := by
        rw [Int.le_ediv_iff_mul_le (by omega)]
        omega
      rw [if_neg (by omega)]
      exact Ev.now _
  · simp only [if_neg hge]
    have := l02MulDiv_digits c low hc hc' hl hl' 18 0 high (by omega) hh (by omega) (by omega) (by decide)
    have hq : P / c ≤ 1000000000000000000 := by
      have : P / c < 1000000000000000001 := by
        rw [Int.ediv_lt_iff_lt_mul (by omega)]
        omega
      omega
    rw [if_pos hq]
    rw [show (0 : Int) * 10 ^ 18 + (high * 10 ^ 18 + low % 10 ^ 18) / c = P / c from by
      rw [show (10 : Int) ^ 18 = 1000000000000000000 from rfl, Int.emod_eq_of_lt hl hl', ← e, Int.mul_comm high]; omega] at this
    exact this
end Go.Proofs.YtabmfhnhmoiljaaGreatDoor.U

/- bits.Div64: the quotient of two words by one, as Knuth divides; and the program's MulDiv by it. -/
namespace Go.Proofs.YtabmfhnhmoiljaaGreatDoor.U
open Go Go.RowKit Go.Proofs.YtabmfhnhmoiljaaGreatDoor.Q Go.Proofs.YtabmfhnhmoiljaaGreatDoorW.PrintWords Go.Proofs.YtabmfhnhmoiljaaGreatDoorW.PrintLast Go.Proofs.YtabmfhnhmoiljaaGreatDoorW.PrintMore
set_option linter.unusedVariables false
set_option linter.unusedSimpArgs false

theorem le_of_prod {Y q Q M : Int} (hY : 1 ≤ Y) (h1 : q * Y ≤ M) (h2 : M < (Q + 1) * Y) : q ≤ Q := by
  refine Int.not_lt.1 fun h => ?_
  have : (Q + 1) * Y ≤ q * Y := Int.mul_le_mul_of_nonneg_right (by omega) (by omega)
  omega
theorem lt_of_prod {Y q Q M : Int} (hY : 1 ≤ Y) (h1 : M < q * Y) (h2 : Q * Y ≤ M) : Q < q := by
  refine Int.not_le.1 fun h => ?_
  have : q * Y ≤ Q * Y := Int.mul_le_mul_of_nonneg_right h (by omega)
  omega

theorem ev_ex {g : Nat → Option (Int × Int)} {a : Int} (h : ∃ b, ∀ k, g (k + 1) = some (a, b)) : ∃ b, Ev g (a, b) := by
  obtain ⟨b, h⟩ := h
  exact ⟨b, Ev.step h (Ev.now _)⟩

/-- What the two loops of Div64 decide: a guess that is too great, and one that is not. -/
theorem guess (Y y1 y0 u v q r Q : Int) (hY : Y = y1 * 4294967296 + y0) (hy1 : 2147483648 ≤ y1) (hy0 : 0 ≤ y0) (hy0' : y0 < 4294967296) (hu : u < Y) (hv : 0 ≤ v) (hv' : v < 4294967296)
    (hQ1 : Q * Y ≤ u * 4294967296 + v) (hQ2 : u * 4294967296 + v < (Q + 1) * Y) (he : q * y1 + r = u) :
    (q * Y ≤ u * 4294967296 + v ↔ q * y0 ≤ r * 4294967296 + v) ∧ (4294967296 ≤ r → q < 4294967296) ∧ Q < 4294967296 := by
  have e1 : q * Y = (u - r) * 4294967296 + q * y0 := by subst hY; rw [← he]; grind
  refine ⟨by rw [e1, Int.sub_mul]; omega, fun hr => ?_, ?_⟩
  · refine Int.not_le.1 fun h => ?_
    have : 4294967296 * y1 ≤ q * y1 := Int.mul_le_mul_of_nonneg_right h (by omega)
    omega
  · refine Int.not_le.1 fun h => ?_
    have : 4294967296 * Y ≤ Q * Y := Int.mul_le_mul_of_nonneg_right h (by omega)
    omega

section
variable (Y s y1 y0 u v : Int)

theorem div_l0 (z : Int) (hY : Y = y1 * 4294967296 + y0) (hy1 : 2147483648 ≤ y1) (hy1' : y1 < 4294967296) (hy0 : 0 ≤ y0) (hy0' : y0 < 4294967296) (hu0 : 0 ≤ u) (hu : u < Y) (hv : 0 ≤ v) (hv' : v < 4294967296) (Q : Int) (hQ0 : 0 ≤ Q)
    (hQ1 : Q * Y ≤ u * 4294967296 + v) (hQ2 : u * 4294967296 + v < (Q + 1) * Y) {res : Int × Int} (h : Ev (fun k => bits_Div64.j2 k Y s y1 y0 u v z Q) res) :
    ∀ (n : Nat) (q r : Int), Q ≤ q → q - Q ≤ n → 0 ≤ r → r < 4294967296 → q * y1 + r = u → q < 17179869184 → Ev (fun k => bits_Div64.l0 k Y s y1 y0 u v z q r) res := by
  intro n
  induction n with
  | zero =>
    intro q r hq hn hr hr' he hb
    obtain rfl : q = Q := by omega
    obtain ⟨g1, g2, g3⟩ := guess Y y1 y0 u v q r q hY hy1 hy0 hy0' hu hv hv' hQ1 hQ2 he
    have m0 := mul_bd (X := 4294967295) (Y := 4294967295) hQ0 (by omega) hy0 (by omega)
    have ht : ¬ IntKind.u64.wrap (q * y0) > IntKind.u64.wrap (IntKind.u64.wrap (4294967296 * r) + v) := by
      rw [u64id m0.1 (by omega), u64id (n := 4294967296 * r) (by omega) (by omega), u64id (n := 4294967296 * r + v) (by omega) (by omega)]
      have := g1.1 hQ1
      omega
    refine Ev.step (fun k => by rw [bits_Div64.l0, if_neg (by omega), decide_eq_false ht]) ?_
    exact Ev.step (fun k => by rw [bits_Div64.j1, if_neg (by decide)]) h
  | succ n ih =>
    intro q r hq hn hr hr' he hb
    obtain ⟨g1, g2, g3⟩ := guess Y y1 y0 u v q r Q hY hy1 hy0 hy0' hu hv hv' hQ1 hQ2 he
    have down : Q < q → Ev (fun k => bits_Div64.j1 k Y s y1 y0 u v z q r true) res := by
      intro hgt
      have he' : (q - 1) * y1 + (r + y1) = u := by rw [Int.sub_mul]; omega
      by_cases hbig : r + y1 ≥ 4294967296
      · obtain ⟨g1', g2', _⟩ := guess Y y1 y0 u v (q - 1) (r + y1) Q hY hy1 hy0 hy0' hu hv hv' hQ1 hQ2 he'
        have hq32 := g2' hbig
        have m0 := mul_bd (X := 4294967295) (Y := 4294967295) (x := q - 1) (by omega) (by omega) hy0 (by omega)
        have hle := le_of_prod (by omega) (g1'.2 (by omega)) hQ2
        obtain rfl : q - 1 = Q := by omega
        refine Ev.step (fun k => ?_) h
        rw [bits_Div64.j1, if_pos rfl, u64id (n := r + y1) (by omega) (by omega), if_pos hbig, u64id (n := q - 1) (by omega) (by omega)]
      · refine Ev.step (fun k => ?_) (ih (q - 1) (r + y1) (by omega) (by omega) (by omega) (by omega) he' (by omega))
        rw [bits_Div64.j1, if_pos rfl, u64id (n := r + y1) (by omega) (by omega), if_neg hbig, u64id (n := q - 1) (by omega) (by omega)]
    by_cases hbig : q ≥ 4294967296
    · exact Ev.step (fun k => by rw [bits_Div64.l0, if_pos hbig]) (down (by omega))
    · have m0 := mul_bd (X := 4294967295) (Y := 4294967295) (x := q) (by omega) (by omega) hy0 (by omega)
      have e1 : IntKind.u64.wrap (q * y0) = q * y0 := u64id m0.1 (by omega)
      have e2 : IntKind.u64.wrap (IntKind.u64.wrap (4294967296 * r) + v) = 4294967296 * r + v := by rw [u64id (n := 4294967296 * r) (by omega) (by omega), u64id (by omega) (by omega)]
      by_cases ht : q * y0 > 4294967296 * r + v
      · refine Ev.step (fun k => by rw [bits_Div64.l0, if_neg hbig, e1, e2, decide_eq_true ht]) (down ?_)
        refine lt_of_prod (Y := Y) (by omega) (Int.not_le.1 fun hh => ?_) hQ1
        have := g1.1 hh
        omega
      · have hle := le_of_prod (by omega) (g1.2 (by omega)) hQ2
        obtain rfl : q = Q := by omega
        refine Ev.step (fun k => by rw [bits_Div64.l0, if_neg hbig, e1, e2, decide_eq_false ht]) ?_
        exact Ev.step (fun k => by rw [bits_Div64.j1, if_neg (by decide)]) h

/-- The second loop: the lower word of the quotient; the rest is left open. -/
theorem div_l1 (hY : Y = y1 * 4294967296 + y0) (hy1 : 2147483648 ≤ y1) (hy1' : y1 < 4294967296) (hy0 : 0 ≤ y0) (hy0' : y0 < 4294967296) (hu0 : 0 ≤ u) (hu : u < Y) (hv : 0 ≤ v) (hv' : v < 4294967296) (Q : Int) (hQ0 : 0 ≤ Q)
    (hQ1 : Q * Y ≤ u * 4294967296 + v) (hQ2 : u * 4294967296 + v < (Q + 1) * Y) (hs : 0 ≤ s) (P : Int) (hP : 0 ≤ P) (hP' : P < 4294967296) :
    ∀ (n : Nat) (q r : Int), Q ≤ q → q - Q ≤ n → 0 ≤ r → r < 4294967296 → q * y1 + r = u → q < 17179869184 → ∃ rem, Ev (fun k => bits_Div64.l1 k Y s y1 y0 v P r u q) (P * 4294967296 + Q, rem) := by
  intro n
  induction n with
  | zero =>
    intro q r hq hn hr hr' he hb
    obtain rfl : q = Q := by omega
    obtain ⟨g1, g2, g3⟩ := guess Y y1 y0 u v q r q hY hy1 hy0 hy0' hu hv hv' hQ1 hQ2 he
    have m0 := mul_bd (X := 4294967295) (Y := 4294967295) hQ0 (by omega) hy0 (by omega)
    have ht : ¬ IntKind.u64.wrap (q * y0) > IntKind.u64.wrap (IntKind.u64.wrap (4294967296 * r) + v) := by
      rw [u64id m0.1 (by omega), u64id (n := 4294967296 * r) (by omega) (by omega), u64id (n := 4294967296 * r + v) (by omega) (by omega)]
      have := g1.1 hQ1
      omega
    obtain ⟨rem, hrem⟩ : ∃ rem, Ev (fun k => bits_Div64.j4 k Y s y1 y0 v P r u q false) (P * 4294967296 + q, rem) := by
      apply ev_ex
      apply Exists.intro
      intro k
      rw [bits_Div64.j4, if_neg (by decide), if_pos hs, u64id (n := P * 4294967296) (by omega) (by omega), u64id (n := P * 4294967296 + q) (by omega) (by omega)]
    exact ⟨rem, Ev.step (fun k => by rw [bits_Div64.l1, if_neg (by omega), decide_eq_false ht]) hrem⟩
  | succ n ih =>
    intro q r hq hn hr hr' he hb
    obtain ⟨g1, g2, g3⟩ := guess Y y1 y0 u v q r Q hY hy1 hy0 hy0' hu hv hv' hQ1 hQ2 he
    have down : Q < q → ∃ rem, Ev (fun k => bits_Div64.j4 k Y s y1 y0 v P r u q true) (P * 4294967296 + Q, rem) := by
      intro hgt
      have he' : (q - 1) * y1 + (r + y1) = u := by rw [Int.sub_mul]; omega
      by_cases hbig : r + y1 ≥ 4294967296
      · obtain ⟨g1', g2', _⟩ := guess Y y1 y0 u v (q - 1) (r + y1) Q hY hy1 hy0 hy0' hu hv hv' hQ1 hQ2 he'
        have hq32 := g2' hbig
        have m0 := mul_bd (X := 4294967295) (Y := 4294967295) (x := q - 1) (by omega) (by omega) hy0 (by omega)
        have hle := le_of_prod (by omega) (g1'.2 (by omega)) hQ2
        obtain rfl : q - 1 = Q := by omega
        apply ev_ex
        apply Exists.intro
        intro k
        rw [bits_Div64.j4, if_pos rfl, u64id (n := r + y1) (by omega) (by omega), if_pos hbig, if_pos hs, u64id (n := q - 1) (by omega) (by omega), u64id (n := P * 4294967296) (by omega) (by omega), u64id (n := P * 4294967296 + (q - 1)) (by omega) (by omega)]
      · obtain ⟨rem, hrem⟩ := ih (q - 1) (r + y1) (by omega) (by omega) (by omega) (by omega) he' (by omega)
        refine ⟨rem, Ev.step (fun k => ?_) hrem⟩
        rw [bits_Div64.j4, if_pos rfl, u64id (n := r + y1) (by omega) (by omega), if_neg hbig, u64id (n := q - 1) (by omega) (by omega)]
    by_cases hbig : q ≥ 4294967296
    · obtain ⟨rem, hrem⟩ := down (by omega)
      exact ⟨rem, Ev.step (fun k => by rw [bits_Div64.l1, if_pos hbig]) hrem⟩
    · have m0 := mul_bd (X := 4294967295) (Y := 4294967295) (x := q) (by omega) (by omega) hy0 (by omega)
      have e1 : IntKind.u64.wrap (q * y0) = q * y0 := u64id m0.1 (by omega)
      have e2 : IntKind.u64.wrap (IntKind.u64.wrap (4294967296 * r) + v) = 4294967296 * r + v := by rw [u64id (n := 4294967296 * r) (by omega) (by omega), u64id (by omega) (by omega)]
      by_cases ht : q * y0 > 4294967296 * r + v
      · obtain ⟨rem, hrem⟩ := down (by
          refine lt_of_prod (Y := Y) (by omega) (Int.not_le.1 fun hh => ?_) hQ1
          have := g1.1 hh
          omega)
        exact ⟨rem, Ev.step (fun k => by rw [bits_Div64.l1, if_neg hbig, e1, e2, decide_eq_true ht]) hrem⟩
      · have hle := le_of_prod (by omega) (g1.2 (by omega)) hQ2
        obtain rfl : q = Q := by omega
        obtain ⟨rem, hrem⟩ : ∃ rem, Ev (fun k => bits_Div64.j4 k Y s y1 y0 v P r u q false) (P * 4294967296 + q, rem) := by
          apply ev_ex
          apply Exists.intro
          intro k
          rw [bits_Div64.j4, if_neg (by decide), if_pos hs, u64id (n := P * 4294967296) (by omega) (by omega), u64id (n := P * 4294967296 + q) (by omega) (by omega)]
        exact ⟨rem, Ev.step (fun k => by rw [bits_Div64.l1, if_neg hbig, e1, e2, decide_eq_false ht]) hrem⟩
end

/-- The first guess: the upper word by the divisor's upper half. -/
theorem first_guess (Y y1 y0 u v Q : Int) (hY : Y = y1 * 4294967296 + y0) (hy1 : 2147483648 ≤ y1) (hy1' : y1 < 4294967296) (hy0 : 0 ≤ y0) (hu0 : 0 ≤ u) (hu64 : u < 18446744073709551616) (hv : 0 ≤ v) (hv' : v < 4294967296) (hQ0 : 0 ≤ Q) (hQ1 : Q * Y ≤ u * 4294967296 + v) :
    Q ≤ u / y1 ∧ 0 ≤ u / y1 ∧ u / y1 < 17179869184 ∧ 0 ≤ u - u / y1 * y1 ∧ u - u / y1 * y1 < 4294967296 ∧ u / y1 * y1 + (u - u / y1 * y1) = u ∧ u / y1 * y1 ≤ u ∧ 0 ≤ u / y1 * y1 := by
  have h1 := knuth_lower Y y1 y0 u v Q hY hy0 hv hv' hQ0 hQ1
  have h2 := Int.mul_ediv_add_emod u y1
  have h3 := Int.emod_nonneg u (by omega : y1 ≠ 0)
  have h4 := Int.emod_lt_of_pos u (by omega : 0 < y1)
  have h5 : 0 ≤ u / y1 := Int.ediv_nonneg hu0 (by omega)
  have h6 : u / y1 < 17179869184 := by rw [Int.ediv_lt_iff_lt_mul (by omega)]; omega
  have h7 : Q ≤ u / y1 := by rw [Int.le_ediv_iff_mul_le (by omega)]; exact h1
  rw [Int.mul_comm] at h2
  have h8 : 0 ≤ u / y1 * y1 := Int.mul_nonneg h5 (by omega)
  refine ⟨h7, h5, h6, ?_, ?_, ?_, ?_, h8⟩ <;> omega

theorem div_main (s Y y1 y0 u v z : Int) (hY : Y = y1 * 4294967296 + y0) (hy1 : 2147483648 ≤ y1) (hy1' : y1 < 4294967296) (hy0 : 0 ≤ y0) (hy0' : y0 < 4294967296) (hu0 : 0 ≤ u) (hu : u < Y) (hv : 0 ≤ v) (hv' : v < 4294967296) (hz : 0 ≤ z) (hz' : z < 4294967296) (hs : 0 ≤ s) :
    ∃ rem, Ev (fun k => bits_Div64.l0 k Y s y1 y0 u v z (u / y1) (u - u / y1 * y1)) (((u * 4294967296 + v) * 4294967296 + z) / Y, rem) := by
  have hY0 : 1 ≤ Y := by omega
  have hYb : Y < 18446744073709551616 := by omega
  have a1 := Int.mul_ediv_add_emod (u * 4294967296 + v) Y
  have a2 := Int.emod_nonneg (u * 4294967296 + v) (by omega : Y ≠ 0)
  have a3 := Int.emod_lt_of_pos (u * 4294967296 + v) (by omega : 0 < Y)
  have a4 : 0 ≤ (u * 4294967296 + v) / Y := Int.ediv_nonneg (by omega) (by omega)
  generalize (u * 4294967296 + v) / Y = Q at *
  generalize hR : (u * 4294967296 + v) % Y = R at *
  rw [Int.mul_comm] at a1
  have hQ1 : Q * Y ≤ u * 4294967296 + v := by omega
  have hQ2 : u * 4294967296 + v < (Q + 1) * Y := by rw [Int.add_mul]; omega
  have b1 := Int.mul_ediv_add_emod (R * 4294967296 + z) Y
  have b2 := Int.emod_nonneg (R * 4294967296 + z) (by omega : Y ≠ 0)
  have b3 := Int.emod_lt_of_pos (R * 4294967296 + z) (by omega : 0 < Y)
  have b4 : 0 ≤ (R * 4294967296 + z) / Y := Int.ediv_nonneg (by omega) (by omega)
  have tot : ((u * 4294967296 + v) * 4294967296 + z) / Y = Q * 4294967296 + (R * 4294967296 + z) / Y := by
    have e : (u * 4294967296 + v) * 4294967296 + z = (R * 4294967296 + z) + Y * (Q * 4294967296) := by rw [← a1]; grind
    rw [e, Int.add_mul_ediv_left _ _ (by omega)]
    omega
  rw [tot]
  clear tot
  generalize (R * 4294967296 + z) / Y = P at *
  generalize (R * 4294967296 + z) % Y = R2 at *
  rw [Int.mul_comm] at b1
  have hP1 : P * Y ≤ R * 4294967296 + z := by omega
  have hP2 : R * 4294967296 + z < (P + 1) * Y := by rw [Int.add_mul]; omega
  obtain ⟨c1, c2, c3, c4, c5, c6, c7, c8⟩ := first_guess Y y1 y0 u v Q hY hy1 hy1' hy0 hu0 (by omega) hv hv' a4 hQ1
  obtain ⟨d1, d2, d3, d4, d5, d6, d7, d8⟩ := first_guess Y y1 y0 R z P hY hy1 hy1' hy0 a2 (by omega) hz hz' b4 hP1
  have q32 := (guess Y y1 y0 u v _ _ Q hY hy1 hy0 hy0' hu hv hv' hQ1 hQ2 c6).2.2
  obtain ⟨rem, hrem⟩ := div_l1 Y s y1 y0 R z hY hy1 hy1' hy0 hy0' a2 a3 hz hz' P b4 hP1 hP2 hs Q a4 q32 (R / y1 - P).toNat (R / y1) (R - R / y1 * y1) d1 (by omega) d4 d5 d6 d3
  refine ⟨rem, ?_⟩
  refine div_l0 Y s y1 y0 u v z hY hy1 hy1' hy0 hy0' hu0 hu hv hv' Q a4 hQ1 hQ2 ?_ (u / y1 - Q).toNat (u / y1) _ c1 (by omega) c4 c5 c6 c3
  have hw : IntKind.u64.wrap (IntKind.u64.wrap (IntKind.u64.wrap (u * 4294967296) + v) - IntKind.u64.wrap (Q * Y)) = R := by
    simp only [u64w]
    omega
  refine Ev.step (fun k => ?_) hrem
  rw [bits_Div64.j2, if_neg (by omega), hw, tdiv_nn a2, u64id (n := R / y1) d2 (by omega), u64id (n := R / y1 * y1) d8 (by omega), u64id (n := R - R / y1 * y1) d4 (by omega)]

end Go.Proofs.YtabmfhnhmoiljaaGreatDoor.U

/- The program's MulDiv: the quotient of a product, through Div64. -/
namespace Go.Proofs.YtabmfhnhmoiljaaGreatDoor.U
open Go Go.RowKit Go.Proofs.YtabmfhnhmoiljaaGreatDoor.Q Go.Proofs.YtabmfhnhmoiljaaGreatDoorW.PrintWords Go.Proofs.YtabmfhnhmoiljaaGreatDoorW.PrintLast Go.Proofs.YtabmfhnhmoiljaaGreatDoorW.PrintMore
set_option linter.unusedVariables false
set_option linter.unusedSimpArgs false

theorem u64_64 (n : Int) (h0 : 0 ≤ n) (h1 : n < 2 ^ 64) : IntKind.u64.wrap n = n := u64id h0 h1

theorem Div64_ev (hi lo y : Int) (h0 : 0 ≤ hi) (h1 : hi < y) (h2 : y < 18446744073709551616) (h3 : 0 ≤ lo) (h4 : lo < 18446744073709551616) :
    ∃ rem, Ev (fun k => bits_Div64.f k hi lo y) ((hi * 18446744073709551616 + lo) / y, rem) := by
  unfold bits_Div64.f
  simp only [if_neg (show ¬ y = 0 by omega), if_neg (show ¬ y ≤ hi by omega)]
  by_cases hz : hi = 0
  · subst hz
    simp only [if_pos rfl]
    rw [tdiv_nn h3, u64id (Int.ediv_nonneg h3 (by omega)) (by have := Int.ediv_le_self y h3; omega)]
    rw [show (0 * 18446744073709551616 + lo) = lo by omega]
    exact ⟨_, Ev.now _⟩
  · simp only [if_neg hz]
    have hyn : y.toNat ≠ 0 := by omega
    have hy64 : y.toNat < 2 ^ 64 := by omega
    obtain ⟨b1, b2, b3⟩ := Lib.bitLenAux_bounds 64 y.toNat hy64 hyn
    have b4 : Lib.bitLen y.toNat ≤ 64 := Lib.bitLen_le _ 64 (Nat.le_refl _) hy64
    have bl : Lib.bitLenAux 64 y.toNat = Lib.bitLen y.toNat := rfl
    rw [bl] at b1 b2 b3
    have hlz : bits_LeadingZeros64.f y = some (64 - (Lib.bitLen y.toNat : Int)) := by unfold bits_LeadingZeros64.f; rw [if_pos ⟨by omega, h2⟩]
    rw [hlz]
    simp only [Option.bind_some]
    generalize Lib.bitLen y.toNat = L at *
    obtain ⟨s, hs⟩ : ∃ s, L + s = 64 := ⟨64 - L, by omega⟩
    have ew : IntKind.u64.wrap (64 - (L : Int)) = (s : Int) := by rw [u64id (by omega) (by omega)]; omega
    rw [ew]
    have ew2 : IntKind.u64.wrap (64 - (s : Int)) = (L : Int) := by rw [u64id (by omega) (by omega)]; omega
    rw [ew2]
    simp only [if_pos (show (0 : Int) ≤ (s : Int) by omega), if_pos (show (0 : Int) ≤ (L : Int) by omega)]
    have hp : (0 : Int) < 2 ^ s := Int.pow_pos (by decide)
    have hD : (0 : Int) < 2 ^ L := Int.pow_pos (by decide)
    have hpD : (2 : Int) ^ s * 2 ^ L = 18446744073709551616 := by rw [← Int.pow_add, show s + L = 64 from by omega]; rfl
    have hL1 : (2 : Int) ^ L = 2 * 2 ^ (L - 1) := by
      obtain ⟨m, rfl⟩ : ∃ m, L = m + 1 := ⟨L - 1, by omega⟩
      rw [Int.pow_succ, Int.mul_comm]; rfl
    have c2 : (2 : Int) ^ (L - 1) ≤ y := by have : ((2 ^ (L - 1) : Nat) : Int) ≤ (y.toNat : Int) := by exact_mod_cast b2
                                            rw [Int.toNat_of_nonneg (by omega)] at this; exact_mod_cast this
    have c3 : y < (2 : Int) ^ L := by have : ((y.toNat : Nat) : Int) < ((2 ^ L : Nat) : Int) := by exact_mod_cast b3
                                      rw [Int.toNat_of_nonneg (by omega)] at this; exact_mod_cast this
    have hshl : ∀ x : Int, shl .u64 x (s : Int) = x * 2 ^ s % 18446744073709551616 := by
      intro x
      unfold shl
      rw [Int.toNat_natCast, Nat.min_eq_left (by simp [IntKind.bits]; omega), u64w]
    have hshr : shr .u64 lo (L : Int) = lo / 2 ^ L := by
      unfold shr
      rw [Int.toNat_natCast, Nat.min_eq_left (by simp [IntKind.bits]; omega)]
    rw [hshl, hshl, hshl, hshr]
    have hmask : ∀ x : Int, 0 ≤ x → x < 18446744073709551616 → Go.bits .and .u64 x 4294967295 = x % 4294967296 := by
      intro x hx hx'
      exact bits_mask .u64 64 (by decide) u64_64 32 (by decide) x hx hx'
    have hjoin : ∀ a b : Int, 0 ≤ a → a % 2 ^ s = 0 → a < 18446744073709551616 → 0 ≤ b → b < 2 ^ s → Go.bits .or .u64 a b = a + b := by
      intro a b ha hm ha' hb hb'
      have : (2 : Int) ^ s ≤ 18446744073709551616 := by have h_ := Int.mul_le_mul_of_nonneg_left (show (1 : Int) ≤ 2 ^ L by omega) (show (0 : Int) ≤ 2 ^ s by omega); rw [hpD] at h_; omega
      exact bits_join .u64 64 (by decide) u64_64 s a b ha hm (by show a < 18446744073709551616; exact ha') hb hb' (by show b < 18446744073709551616; omega)
    generalize hpp : (2 : Int) ^ s = p at *
    generalize (2 : Int) ^ L = D at *
    generalize (2 : Int) ^ (L - 1) = D1 at *
    have y63 : 9223372036854775808 ≤ y * p := by
      have : D1 * p ≤ y * p := Int.mul_le_mul_of_nonneg_right c2 (by omega)
      have e : 2 * (D1 * p) = 18446744073709551616 := by rw [← hpD, hL1]; grind
      omega
    have y64 : y * p < 18446744073709551616 := by
      have : y * p < D * p := Int.mul_lt_mul_of_pos_right c3 hp
      rw [Int.mul_comm D] at this
      omega
    have hip : hi * p ≤ y * p - p := by
      have : (hi + 1) * p ≤ y * p := Int.mul_le_mul_of_nonneg_right (by omega) (by omega)
      rw [Int.add_mul] at this
      omega
    have hip0 : 0 ≤ hi * p := Int.mul_nonneg h0 (by omega)
    have lo1 : 0 ≤ lo / D := Int.ediv_nonneg h3 (by omega)
    have lo2 : lo / D < p := by
      rw [Int.ediv_lt_iff_lt_mul (by omega)]
      omega
    have lo3 : lo * p = lo / D * 18446744073709551616 + lo * p % 18446744073709551616 := by
      have e1 : lo * p / 18446744073709551616 = lo / D := by rw [← hpD, Int.mul_comm lo, Int.mul_ediv_mul_of_pos _ _ hp]
      rw [← e1]
      omega
    rw [Int.emod_eq_of_lt (by omega) y64, Int.emod_eq_of_lt hip0 (by omega)]
    rw [hmask (y * p) (by omega) y64, hmask (lo * p % 18446744073709551616) (by omega) (by omega), hjoin (hi * p) (lo / D) hip0 (Int.mul_emod_left _ _) (by omega) lo1 lo2]
    simp only [if_neg (show ¬ y * p / 4294967296 = 0 by omega)]
    have hq : (hi * 18446744073709551616 + lo) / y = (((hi * p + lo / D) * 4294967296 + lo * p % 18446744073709551616 / 4294967296) * 4294967296 + lo * p % 18446744073709551616 % 4294967296) / (y * p) := by
      have e : ((hi * p + lo / D) * 4294967296 + lo * p % 18446744073709551616 / 4294967296) * 4294967296 + lo * p % 18446744073709551616 % 4294967296 = (hi * 18446744073709551616 + lo) * p := by
        have : hi * 18446744073709551616 * p = hi * p * 18446744073709551616 := by grind
        rw [Int.add_mul (hi * 18446744073709551616) lo p, this]
        generalize lo * p % 18446744073709551616 = m at *
        omega
      rw [e, Int.mul_ediv_mul_of_pos_left _ _ hp]
    rw [hq]
    have d1 : 0 ≤ hi * p + lo / D := by omega
    have d2 : hi * p + lo / D < y * p := by omega
    have d3 : 0 ≤ lo * p % 18446744073709551616 := by omega
    have d4 : lo * p % 18446744073709551616 < 18446744073709551616 := by omega
    generalize hi * p + lo / D = u at *
    generalize lo * p % 18446744073709551616 = w at *
    generalize y * p = Y at *
    have f1 : 0 ≤ u / (Y / 4294967296) := Int.ediv_nonneg d1 (by omega)
    have f2 : u / (Y / 4294967296) ≤ u := Int.ediv_le_self _ d1
    have f3 := Int.mul_ediv_add_emod u (Y / 4294967296)
    have f4 := Int.emod_nonneg u (show Y / 4294967296 ≠ 0 by omega)
    have f5 : 0 ≤ u / (Y / 4294967296) * (Y / 4294967296) := Int.mul_nonneg f1 (by omega)
    rw [Int.mul_comm] at f3
    rw [tdiv_nn d1, u64id (n := u / (Y / 4294967296)) f1 (by omega), u64id (n := u / (Y / 4294967296) * (Y / 4294967296)) f5 (by omega), u64id (n := u - u / (Y / 4294967296) * (Y / 4294967296)) (by omega) (by omega)]
    exact div_main (s : Int) Y (Y / 4294967296) (Y % 4294967296) u (w / 4294967296) (w % 4294967296) (by omega) (by omega) (by omega) (by omega) (by omega) d1 d2 (by omega) (by omega) (by omega) (by omega) (by omega)

/-- The program's MulDiv. -/
theorem MulDiv_ev (a b c : Int) (ha : 0 ≤ a) (ha' : a ≤ 1000000000000000000) (hb : 0 ≤ b) (hb' : b ≤ 1000000000000000000) (hc : 1 ≤ c) (hc' : c ≤ 1000000000000000000) :
    Ev (fun k => impl_MulDiv.f k a b c) (if a * b / c ≤ 1000000000000000000 then (a * b / c, 0) else (0, 13)) := by
  unfold impl_MulDiv.f
  simp only [isAmount_eq, isSome_eq, someB, decide_eq_true (show 0 ≤ a ∧ a ≤ 1000000000000000000 from ⟨ha, ha'⟩), decide_eq_true (show 0 ≤ b ∧ b ≤ 1000000000000000000 from ⟨hb, hb'⟩), decide_eq_true (show 1 ≤ c ∧ c ≤ 1000000000000000000 from ⟨hc, hc'⟩), Option.bind_some, if_true, Bool.not_true]
  have hm := mul_bd ha ha' hb hb'
  have hP0 := hm.1
  have hmul : bits_Mul64.f a b = some (a * b / 18446744073709551616, a * b % 18446744073709551616) := by
    unfold bits_Mul64.f
    rw [if_pos ⟨ha, by omega, hb, by omega⟩]
  have hstep : ∀ k, impl_MulDiv.j0 (k + 1) a b c false = (if a * b / 18446744073709551616 ≥ c then some (0, 13) else (bits_Div64.f k (a * b / 18446744073709551616) (a * b % 18446744073709551616) c).bind fun bt198 => if bt198.1 > 1000000000000000000 then some (0, 13) else some (wrap64 bt198.1, 0)) := by
    intro k
    rw [impl_MulDiv.j0, if_neg (by decide), u64id (n := a) (by omega) (by omega), u64id (n := b) (by omega) (by omega), u64id (n := c) (by omega) (by omega), hmul]
    rfl
  refine Ev.step hstep ?_
  have e := Int.mul_ediv_add_emod (a * b) 18446744073709551616
  generalize a * b = P at *
  have hh : 0 ≤ P / 18446744073709551616 := Int.ediv_nonneg hP0 (by decide)
  by_cases hge : P / 18446744073709551616 ≥ c
  · simp only [if_pos hge]
    have : 1000000000000000001 ≤ P / c := by rw [Int.le_ediv_iff_mul_le (by omega)]; omega
    rw [if_neg (by omega)]
    exact Ev.now _
  · simp only [if_neg hge]
    obtain ⟨rem, hrem⟩ := Div64_ev (P / 18446744073709551616) (P % 18446744073709551616) c hh (by omega) (by omega) (by omega) (by omega)
    rw [show P / 18446744073709551616 * 18446744073709551616 + P % 18446744073709551616 = P from by omega] at hrem
    refine Ev.bind hrem ?_
    have hq0 : 0 ≤ P / c := Int.ediv_nonneg hP0 (by omega)
    by_cases hbig : P / c > 1000000000000000000
    · simp only [if_pos hbig, if_neg (show ¬ P / c ≤ 1000000000000000000 by omega)]
      exact Ev.now _
    · simp only [if_neg hbig, if_pos (show P / c ≤ 1000000000000000000 by omega), wid (n := P / c) (by omega) (by omega)]
      exact Ev.now _

end Go.Proofs.YtabmfhnhmoiljaaGreatDoor.U

/- Coins that are swapped with a pool: what the program and the reference answer. -/
namespace Go.Proofs.YtabmfhnhmoiljaaGreatDoor.U
open Go Go.RowKit Go.Proofs.YtabmfhnhmoiljaaGreatDoor.Q Go.Proofs.YtabmfhnhmoiljaaGreatDoorW.PrintWords Go.Proofs.YtabmfhnhmoiljaaGreatDoorW.PrintLast Go.Proofs.YtabmfhnhmoiljaaGreatDoorW.PrintMore
set_option linter.unusedVariables false
set_option linter.unusedSimpArgs false

theorem some_iff {n : Int} : someB n = true ↔ 1 ≤ n ∧ n ≤ 1000000000000000000 := by unfold someB; rw [decide_eq_true_iff]
theorem l01In_B (n : Int) : spec_l01In.f n 1 1000000000000000000 = some (someB n) := l01In_eq n 1 _
theorem poolB_iff {a b c : Int} : poolB a b c = true ↔ (a = 0 ∧ b = 0 ∧ c = 0) ∨ ((1 ≤ a ∧ a ≤ 1000000000000000000) ∧ (1 ≤ b ∧ b ≤ 1000000000000000000) ∧ 1 ≤ c ∧ c ≤ 1000000000000000000) := by
  unfold poolB
  simp only [Bool.or_eq_true, Bool.and_eq_true, beq_iff_eq, some_iff]

/-! ### a swap -/
def feeV (n : Int) : Int := n * 997 / 1000
def gotV (i o n : Int) : Int := o * feeV n / (i + feeV n)
def swapV (i o n : Int) : Int × Int := if i + n > 1000000000000000000 then (0, 13) else if feeV n = 0 then (0, 17) else if gotV i o n = 0 then (0, 17) else (gotV i o n, 0)
theorem fee_bd {n : Int} (h : 1 ≤ n) : 0 ≤ feeV n ∧ feeV n ≤ n := by unfold feeV; omega
theorem got_bd {i o n : Int} (hi : 1 ≤ i) (ho : 1 ≤ o) (hn : 1 ≤ n) : 0 ≤ gotV i o n ∧ gotV i o n < o := by
  have hf := fee_bd hn
  unfold gotV
  generalize feeV n = f at *
  refine ⟨Int.ediv_nonneg (Int.mul_nonneg (by omega) (by omega)) (by omega), ?_⟩
  rw [Int.ediv_lt_iff_lt_mul (by omega), Int.mul_add]
  have : 1 ≤ o * i := by
    have := Int.mul_le_mul ho hi (by omega : (0 : Int) ≤ 1) (by omega)
    omega
  omega

theorem l10Swap_ev (i o n : Int) (hi : 1 ≤ i) (hi' : i ≤ 1000000000000000000) (ho : 1 ≤ o) (ho' : o ≤ 1000000000000000000) (hn : 1 ≤ n) (hn' : n ≤ 1000000000000000000) :
    Ev (fun k => spec_l10Swap.f k i o n) (swapV i o n) := by
  unfold spec_l10Swap.f swapV
  have hf := fee_bd hn
  have h1 := l02MulDiv_ev n 997 1000 (by omega) hn' (by omega) (by omega) (by omega) (by omega)
  rw [if_pos (by show feeV n ≤ _; omega)] at h1
  refine Ev.bind h1 ?_
  simp only
  rw [wid (n := i + n) (by omega) (by omega)]
  have ef : n * 997 / 1000 = feeV n := rfl
  rw [ef]
  by_cases hov : i + n > 1000000000000000000
  · simp only [if_pos hov]; exact Ev.now _
  simp only [if_neg hov]
  by_cases hz : feeV n = 0
  · simp only [if_pos hz]; exact Ev.now _
  simp only [if_neg hz]
  have hg := got_bd hi ho hn
  have h2 := l02MulDiv_ev o (feeV n) (i + feeV n) (by omega) ho' (by omega) (by omega) (by omega) (by omega)
  have eg : o * feeV n / (i + feeV n) = gotV i o n := rfl
  rw [eg, if_pos (by omega)] at h2
  rw [wid (n := i + feeV n) (by omega) (by omega)]
  refine Ev.bind h2 ?_
  simp only [if_true]
  by_cases hq : gotV i o n = 0
  · simp only [if_pos hq]; exact Ev.now _
  · simp only [if_neg hq]; exact Ev.now _

def quoteSwapV (i o n : Int) : Int × Int := if (someB i && (someB o && someB n)) = true then swapV i o n else (0, 4)
theorem implQuoteSwap_ev (i o n : Int) : Ev (fun k => impl_QuoteSwap.f k i o n) (quoteSwapV i o n) := by
  unfold impl_QuoteSwap.f quoteSwapV
  simp only [isSome_eq, Option.bind_some]
  have hbad : Ev (fun k => impl_QuoteSwap.j0 k i o n true) (0, 4) := Ev.step (fun k => by rw [impl_QuoteSwap.j0, if_pos rfl]) (Ev.now _)
  cases h1 : someB i with
  | false => exact hbad
  | true =>
    cases h2 : someB o with
    | false => exact hbad
    | true =>
      cases h3 : someB n with
      | false => exact hbad
      | true =>
        simp only [Bool.and_true, if_true, Bool.not_true]
        rw [some_iff] at h1 h2 h3
        have hf := fee_bd h3.1
        have ef : n * 997 / 1000 = feeV n := rfl
        have hm1 := MulDiv_ev n 997 1000 (by omega) h3.2 (by omega) (by omega) (by omega) (by omega)
        rw [ef, if_pos (by omega)] at hm1
        unfold swapV
        by_cases hov : i + n > 1000000000000000000
        · simp only [if_pos hov]
          exact Ev.step (fun k => by rw [impl_QuoteSwap.j0, if_neg (by decide), wid (n := i + n) (by omega) (by omega), if_pos hov]) (Ev.now _)
        simp only [if_neg hov]
        have hg := got_bd h1.1 h2.1 h3.1
        have hm2 := MulDiv_ev o (feeV n) (i + feeV n) (by omega) h2.2 (by omega) (by omega) (by omega) (by omega)
        have eg : o * feeV n / (i + feeV n) = gotV i o n := rfl
        rw [eg, if_pos (by omega)] at hm2
        refine Ev.step (f := fun k => (impl_MulDiv.f k n 997 1000).bind fun b1 => (impl_MulDiv.f k o b1.1 (wrap64 (i + b1.1))).bind fun b2 => if b2.1 = 0 then some (0, 17) else some (b2.1, 0)) (fun k => by rw [impl_QuoteSwap.j0, if_neg (by decide), wid (n := i + n) (by omega) (by omega), if_neg hov]) ?_
        refine Ev.bind hm1 ?_
        simp only
        rw [wid (n := i + feeV n) (by omega) (by omega)]
        refine Ev.bind hm2 ?_
        simp only
        by_cases hz : feeV n = 0
        · have : gotV i o n = 0 := by unfold gotV; rw [hz]; simp
          simp only [if_pos hz, if_pos this]
          exact Ev.now _
        · simp only [if_neg hz]
          by_cases hq : gotV i o n = 0
          · simp only [if_pos hq]; exact Ev.now _
          · simp only [if_neg hq]; exact Ev.now _

/-! ### shares -/
theorem quoteSwap_eq {i o n : Int} (h1 : someB i = true) (h2 : someB o = true) (h3 : someB n = true) : quoteSwapV i o n = swapV i o n := by unfold quoteSwapV; rw [if_pos (by rw [h1, h2, h3]; rfl)]
theorem swap_bd {i o n : Int} (h1 : someB i = true) (h2 : someB o = true) (h3 : someB n = true) (h : (swapV i o n).2 = 0) : 1 ≤ (swapV i o n).1 ∧ (swapV i o n).1 < o ∧ i + n ≤ 1000000000000000000 := by
  rw [some_iff] at h1 h2 h3
  have hg := got_bd h1.1 h2.1 h3.1
  unfold swapV at *
  split at h
  · cases h
  · split at h
    · cases h
    · split at h
      · cases h
      · rename_i g1 g2 g3
        rw [if_neg g1, if_neg g2, if_neg g3]
        simp only
        omega
def amB (n : Int) : Bool := decide (0 ≤ n ∧ n ≤ 1000000000000000000)
theorem isAm_B (n : Int) : impl_isAmount.f n = some (amB n) := isAmount_eq n
theorem l02Am_B (n : Int) : spec_l02Amount.f n = some (amB n) := by
  unfold spec_l02Amount.f
  rw [l01In_eq]
  rfl
noncomputable def oneV (name : ByteArray) (l : List IP) (who : ByteArray) (n least A B S : Int) (r : Int × Int) : List IP × Int :=
  if r.2 = 0 then (if r.1 < least then (l, 19) else doV name l who n (-r.1) 0 (A + n) (B - r.1) S) else (l, r.2)
noncomputable def twoV (name : ByteArray) (l : List IP) (who : ByteArray) (n least A B S : Int) (r : Int × Int) : List IP × Int :=
  if r.2 = 0 then (if r.1 < least then (l, 19) else doV name l who (-r.1) n 0 (A - r.1) (B + n) S) else (l, r.2)
noncomputable def swapPV (name : ByteArray) (l : List IP) (who denom : ByteArray) (n least A B S : Int) : List IP × Int :=
  if S = 0 then (l, 5) else (if denom.toList = name.toList then oneV name l who n least A B S (swapV A B n) else (if denom.toList = (vouV (otherV name)).toList then twoV name l who n least A B S (swapV B A n) else (l, 3)))
noncomputable def swapPoolV (name : ByteArray) (l : List IP) (who denom : ByteArray) (n least : Int) : List IP × Int :=
  if peopleB who = true then (if someB n = true then (if amB least = true then swapPV name l who denom n least (poolR (getV l pKey).1).1 (poolR (getV l pKey).1).2.1 (poolR (getV l pKey).1).2.2 else (l, 4)) else (l, 4)) else (l, 4)
theorem pool_all {A B S : Int} (hp : poolB A B S = true) (h : ¬ S = 0) : someB A = true ∧ someB B = true := by
  rw [poolB_iff] at hp
  rw [some_iff, some_iff]
  omega
/-- Three changes of the program, of which the reference has a fourth that does nothing. -/
theorem do_three (name : ByteArray) (l : List IP) (who : ByteArray) (dx dy a b c : Int) : doV name l who dx dy 0 a b c = seqV l [fun m => legV m who name dx, fun m => legV m who (vouV (otherV name)) dy, fun m => putV m pKey (poolTxt a b c)] l := by
  unfold doV
  simp only [seq_cons, sharesV_zero, if_true]
theorem three_in (l : List IP) (who name : ByteArray) (a b A B S : Int) (hr : Rt l) (hn : name.size ≤ 50) (hw : who.size ≤ 100) (ha : 1 ≤ a ∧ a ≤ 1000000000000000000) (hb : 1 ≤ b ∧ b ≤ 1000000000000000000) (qa : Amt A) (qb : Amt B) (qs : Amt S) :
    Ev (fun k => impl_all.f k l [(impl_move.F k who poolN name a), (impl_move.F k poolN who (vouV (otherV name)) b), (impl_putPool.F k A B S)]) (doV name l who a (-b) 0 A B S) := by
  have v2 : (vouV (otherV name)).size ≤ 100 := by rw [vo_size]; omega
  rw [do_three]
  refine all_ev l hr [fun k => impl_move.F k who poolN name a, fun k => impl_move.F k poolN who (vouV (otherV name)) b, fun k => impl_putPool.F k A B S] _ rfl (cases_cons (fun m hm => ⟨?_, ?_⟩) (cases_cons (fun m hm => ⟨?_, ?_⟩) (cases_cons (fun m hm => ⟨?_, ?_⟩) cases_nil)))
  · rw [legV_pos ha.1]; exact move_ev m who poolN name a hm hw (by decide) (by omega) (by omega) ha.2
  · exact legV_rt hm hw (by omega)
  · rw [legV_neg hb.1]; exact move_ev m poolN who _ b hm (by decide) hw v2 (by omega) hb.2
  · exact legV_rt hm hw v2
  · exact putPool_ev m A B S hm qa qb qs
  · exact putP_rt hm qa qb qs
theorem three_out (l : List IP) (who name : ByteArray) (a b A B S : Int) (hr : Rt l) (hn : name.size ≤ 50) (hw : who.size ≤ 100) (ha : 1 ≤ a ∧ a ≤ 1000000000000000000) (hb : 1 ≤ b ∧ b ≤ 1000000000000000000) (qa : Amt A) (qb : Amt B) (qs : Amt S) :
    Ev (fun k => impl_all.f k l [(impl_move.F k poolN who name a), (impl_move.F k who poolN (vouV (otherV name)) b), (impl_putPool.F k A B S)]) (doV name l who (-a) b 0 A B S) := by
  have v2 : (vouV (otherV name)).size ≤ 100 := by rw [vo_size]; omega
  rw [do_three]
  refine all_ev l hr [fun k => impl_move.F k poolN who name a, fun k => impl_move.F k who poolN (vouV (otherV name)) b, fun k => impl_putPool.F k A B S] _ rfl (cases_cons (fun m hm => ⟨?_, ?_⟩) (cases_cons (fun m hm => ⟨?_, ?_⟩) (cases_cons (fun m hm => ⟨?_, ?_⟩) cases_nil)))
  · rw [legV_neg ha.1]; exact move_ev m poolN who name a hm (by decide) hw (by omega) (by omega) ha.2
  · exact legV_rt hm hw (by omega)
  · rw [legV_pos hb.1]; exact move_ev m who poolN _ b hm hw (by decide) v2 (by omega) hb.2
  · exact legV_rt hm hw v2
  · exact putPool_ev m A B S hm qa qb qs
  · exact putP_rt hm qa qb qs
theorem apart {name denom : ByteArray} (hn : name.size ≤ 1) (h : denom.toList = name.toList) : ¬ denom.toList = (vouV (otherV name)).toList := fun h2 => by
  have e := (toList_eq_iff _ _).1 (h.symm.trans h2)
  have v := vo_size name
  rw [← e] at v
  omega
theorem implSwapPool_ev (name : ByteArray) (l : List IP) (who denom : ByteArray) (n least : Int) (hr : Rt l) (hn : name.size ≤ 1) (hw : who.size ≤ 1048576) : Ev (fun k => impl_swapPool.f k name l who denom n least) (swapPoolV name l who denom n least) := by
  unfold impl_swapPool.f swapPoolV
  refine Ev.bind (implPoolAt_ev l (by have := hr.1; omega) (vals_of hr)) ?_
  simp only [implOther_eq, Option.bind_some, implVou_eq (otherV name) (by rw [other_size]; omega)]
  have hB := poolR_right (getV l pKey).1
  generalize poolR (getV l pKey).1 = p at *
  refine Ev.bind (people1_ev who hw) ?_
  cases hp : peopleB who with
  | false => simp only [Bool.false_eq_true, if_false, clone_ev l hr, Option.bind_some]; exact Ev.now _
  | true =>
    have w12 := people_small hp
    simp only [if_true, isSome_eq, Option.bind_some]
    cases hs : someB n with
    | false => simp only [Bool.false_eq_true, if_false, clone_ev l hr, Option.bind_some]; exact Ev.now _
    | true =>
      have n1 := some_bd hs
      simp only [if_true, isAm_B, Option.bind_some]
      cases hl : amB least with
      | false => simp only [Bool.false_eq_true, if_false, clone_ev l hr, Option.bind_some]; exact Ev.now _
      | true =>
        simp only [if_true]
        unfold swapPV
        by_cases h0 : p.2.2 = 0
        · simp only [if_pos h0, clone_ev l hr, Option.bind_some]; exact Ev.now _
        simp only [if_neg h0]
        obtain ⟨k1, k2⟩ := pool_all hB h0
        have kk1 := some_bd k1
        have kk2 := some_bd k2
        obtain ⟨b1, b2, b3⟩ := poolB_bd hB
        by_cases hd : denom.toList = name.toList
        · simp only [if_pos hd, if_neg (apart hn hd)]
          have hQ := implQuoteSwap_ev p.1 p.2.1 n
          rw [quoteSwap_eq k1 k2 hs] at hQ
          refine Ev.bind hQ ?_
          have hbd := swap_bd k1 k2 hs
          generalize swapV p.1 p.2.1 n = r at *
          unfold oneV
          by_cases hc : r.2 = 0
          · obtain ⟨r1, r2, r3⟩ := hbd hc
            simp only [if_pos hc]
            by_cases hlt : r.1 < least
            · simp only [if_pos hlt, clone_ev l hr, Option.bind_some]; exact Ev.now _
            · simp only [if_neg hlt]
              rw [widI (n := p.1 + n) (by omega) (by omega), widI (n := p.2.1 - r.1) (by omega) (by omega)]
              exact Ev.bind (three_in l who name n r.1 _ _ _ hr (by omega) (by omega) n1 (by omega) (amt_of (by omega) (by omega)) (amt_of (by omega) (by omega)) b3) (Ev.now _)
          · simp only [if_neg hc, clone_ev l hr, Option.bind_some]; exact Ev.now _
        · simp only [if_neg hd]
          by_cases hv : denom.toList = (vouV (otherV name)).toList
          · simp only [if_pos hv]
            have hQ := implQuoteSwap_ev p.2.1 p.1 n
            rw [quoteSwap_eq k2 k1 hs] at hQ
            refine Ev.bind hQ ?_
            have hbd := swap_bd k2 k1 hs
            generalize swapV p.2.1 p.1 n = r at *
            unfold twoV
            by_cases hc : r.2 = 0
            · obtain ⟨r1, r2, r3⟩ := hbd hc
              simp only [if_pos hc]
              by_cases hlt : r.1 < least
              · simp only [if_pos hlt, clone_ev l hr, Option.bind_some]; exact Ev.now _
              · simp only [if_neg hlt]
                rw [widI (n := p.1 - r.1) (by omega) (by omega), widI (n := p.2.1 + n) (by omega) (by omega)]
                exact Ev.bind (three_out l who name r.1 n _ _ _ hr (by omega) (by omega) (by omega) n1 (amt_of (by omega) (by omega)) (amt_of (by omega) (by omega)) b3) (Ev.now _)
            · simp only [if_neg hc, clone_ev l hr, Option.bind_some]; exact Ev.now _
          · simp only [if_neg hv, clone_ev l hr, Option.bind_some]; exact Ev.now _
theorem l10SwapPool_ev (name : ByteArray) (l : List IP) (who denom : ByteArray) (n least : Int) (hr : Rt l) (hn : name.size ≤ 1) (hw : who.size ≤ 1048576) : Ev (fun k => spec_l10SwapPool.f k name l who denom n least) (swapPoolV name l who denom n least) := by
  unfold spec_l10SwapPool.f swapPoolV
  refine Ev.bind (l08Name_ev who) ?_
  cases hp : peopleB who with
  | false => simp only [Bool.false_eq_true, if_false]; exact Ev.now _
  | true =>
    have w12 := people_small hp
    simp only [if_true, l01In_B, Option.bind_some]
    cases hs : someB n with
    | false => simp only [Bool.false_eq_true, if_false]; exact Ev.now _
    | true =>
      have n1 := some_bd hs
      simp only [if_true, l02Am_B, Option.bind_some]
      cases hl : amB least with
      | false => simp only [Bool.false_eq_true, if_false]; exact Ev.now _
      | true =>
        simp only [if_true]
        refine Ev.bind (specFind_ev l (by have := hr.1; omega) (vals_of hr)) ?_
        have hB := poolR_right (getV l pKey).1
        generalize poolR (getV l pKey).1 = p at *
        unfold swapPV
        by_cases h0 : p.2.2 = 0
        · simp only [if_pos h0]; exact Ev.now _
        simp only [if_neg h0]
        obtain ⟨k1, k2⟩ := pool_all hB h0
        have kk1 := some_bd k1
        have kk2 := some_bd k2
        obtain ⟨b1, b2, b3⟩ := poolB_bd hB
        by_cases hd : denom.toList = name.toList
        · simp only [if_pos hd]
          refine Ev.bind (l10Swap_ev p.1 p.2.1 n kk1.1 kk1.2 kk2.1 kk2.2 n1.1 n1.2) ?_
          have hbd := swap_bd k1 k2 hs
          generalize swapV p.1 p.2.1 n = r at *
          unfold oneV
          by_cases hc : r.2 = 0
          · obtain ⟨r1, r2, r3⟩ := hbd hc
            simp only [if_pos hc]
            by_cases hlt : r.1 < least
            · simp only [if_pos hlt]; exact Ev.now _
            · simp only [if_neg hlt]
              rw [wid (n := -r.1) (by omega) (by omega), wid (n := p.1 + n) (by omega) (by omega), wid (n := p.2.1 - r.1) (by omega) (by omega)]
              exact Ev.bind (l10Do_ev name l who n (-r.1) 0 _ _ _ hr (by omega) (by omega) (by omega) n1.2 (by omega) (by omega) (by omega) (by omega) (amt_of (by omega) (by omega)) (amt_of (by omega) (by omega)) b3) (Ev.now _)
          · simp only [if_neg hc]; exact Ev.now _
        · simp only [if_neg hd, specOther_eq, Option.bind_some, if_pos (show (otherV name).size ≤ 1000000 by rw [other_size]; omega)]
          rw [show ((⟨#[118]⟩ : ByteArray) ++ otherV name) = vouV (otherV name) from rfl]
          by_cases hv : denom.toList = (vouV (otherV name)).toList
          · simp only [if_pos hv]
            refine Ev.bind (l10Swap_ev p.2.1 p.1 n kk2.1 kk2.2 kk1.1 kk1.2 n1.1 n1.2) ?_
            have hbd := swap_bd k2 k1 hs
            generalize swapV p.2.1 p.1 n = r at *
            unfold twoV
            by_cases hc : r.2 = 0
            · obtain ⟨r1, r2, r3⟩ := hbd hc
              simp only [if_pos hc]
              by_cases hlt : r.1 < least
              · simp only [if_pos hlt]; exact Ev.now _
              · simp only [if_neg hlt]
                rw [wid (n := -r.1) (by omega) (by omega), wid (n := p.1 - r.1) (by omega) (by omega), wid (n := p.2.1 + n) (by omega) (by omega)]
                exact Ev.bind (l10Do_ev name l who (-r.1) n 0 _ _ _ hr (by omega) (by omega) (by omega) (by omega) (by omega) n1.2 (by omega) (by omega) (amt_of (by omega) (by omega)) (amt_of (by omega) (by omega)) b3) (Ev.now _)
            · simp only [if_neg hc]; exact Ev.now _
          · simp only [if_neg hv]; exact Ev.now _
theorem swapPoolV_rt {name : ByteArray} {l : List IP} {who denom : ByteArray} {n least : Int} (hr : Rt l) (hn : name.size ≤ 1) : Rt (swapPoolV name l who denom n least).1 := by
  unfold swapPoolV swapPV
  have hB := poolR_right (getV l pKey).1
  generalize poolR (getV l pKey).1 = p at *
  split
  · rename_i hp
    have w12 := people_small hp
    split
    · rename_i hs
      have n1 := some_bd hs
      split
      · split
        · exact hr
        · rename_i h0
          obtain ⟨k1, k2⟩ := pool_all hB h0
          have kk1 := some_bd k1
          have kk2 := some_bd k2
          obtain ⟨b1, b2, b3⟩ := poolB_bd hB
          split
          · have hbd := swap_bd k1 k2 hs
            generalize swapV p.1 p.2.1 n = r at *
            unfold oneV
            split
            · rename_i hc
              obtain ⟨r1, r2, r3⟩ := hbd hc
              split
              · exact hr
              · exact doV_rt hr (by omega) (by omega) (amt_of (by omega) (by omega)) (amt_of (by omega) (by omega)) b3
            · exact hr
          · split
            · have hbd := swap_bd k2 k1 hs
              generalize swapV p.2.1 p.1 n = r at *
              unfold twoV
              split
              · rename_i hc
                obtain ⟨r1, r2, r3⟩ := hbd hc
                split
                · exact hr
                · exact doV_rt hr (by omega) (by omega) (amt_of (by omega) (by omega)) (amt_of (by omega) (by omega)) b3
              · exact hr
            · exact hr
      · exact hr
    · exact hr
  · exact hr
noncomputable def swapX (name : ByteArray) (l : List IP) (who denom : ByteArray) (n least : Int) : List IP × Int :=
  if nameC name l [who, denom] = 0 then swapPoolV name l who denom n least else ([], nameC name l [who, denom])
theorem swapX_len (name : ByteArray) (l : List IP) (who denom : ByteArray) (n least : Int) : (swapX name l who denom n least).1.length ≤ 400 := by
  unfold swapX
  split
  · rename_i h
    obtain ⟨hc, hs, ht⟩ := nameC_cases _ _ _ h
    exact (swapPoolV_rt (rt_of hs) (by have := chain_size hc; omega)).1
  · exact Nat.zero_le _
theorem SwapPoolX_ev (name : ByteArray) (l : List IP) (who denom : ByteArray) (n least : Int) (hl : l.length ≤ 1048576) (h_who : who.size ≤ 1048576) (h_denom : denom.size ≤ 1048576) : Ev (fun k => impl_SwapPool.f k name l who denom n least) (swapX name l who denom n least) := by
  unfold impl_SwapPool.f swapX
  refine Ev.bind (nameCode_ev name l [who, denom] hl) ?_
  by_cases h : nameC name l [who, denom] = 0
  · obtain ⟨hc, hs, ht⟩ := nameC_cases _ _ _ h
    simp only [if_pos h]
    exact Ev.bind (implSwapPool_ev name l who denom n least (rt_of hs) (by have := chain_size hc; omega) h_who) (Ev.now _)
  · simp only [if_neg h]; exact Ev.now _
theorem specSwapPoolX_ev (name : ByteArray) (l : List IP) (who denom : ByteArray) (n least : Int) (hl : l.length ≤ 1048576) (h_who : who.size ≤ 1048576) (h_denom : denom.size ≤ 1048576) : Ev (fun k => spec_SwapPool.f k name l who denom n least) (swapX name l who denom n least) := by
  unfold spec_SwapPool.f swapX
  have two : ¬ (name.size ≤ 65536 ∧ l.length ≤ 4096 ∧ (∀ z ∈ [who, denom], z.size ≤ 65536)) → Ev (fun _ => some (([] : List IP), (2 : Int))) (if nameC name l [who, denom] = 0 then swapPoolV name l who denom n least else ([], nameC name l [who, denom])) := fun e => by
    have : nameC name l [who, denom] = 2 := by unfold nameC; rw [if_neg e]
    rw [this]; exact Ev.now _
  by_cases h1 : (65536 : Int) < (name.size : Int)
  · simp only [if_pos h1]; exact two (fun e => by have := e.1; omega)
  simp only [if_neg h1]
  by_cases h2 : (4096 : Int) < (l.length : Int)
  · simp only [if_pos h2]; exact two (fun e => by have := e.2.1; omega)
  simp only [if_neg h2]
  by_cases g0 : (65536 : Int) < (who.size : Int)
  · simp only [if_pos g0]; exact two (fun e => by have := e.2.2 who (by simp); omega)
  simp only [if_neg g0]
  by_cases g1 : (65536 : Int) < (denom.size : Int)
  · simp only [if_pos g1]; exact two (fun e => by have := e.2.2 denom (by simp); omega)
  simp only [if_neg g1]
  have hn : nameC name l [who, denom] = if (chainB name && storeB l) = true then 0 else 1 := by
    unfold nameC
    rw [if_pos]
    refine ⟨by omega, by omega, fun z hz => ?_⟩
    simp only [List.mem_cons, List.mem_nil_iff, or_false] at hz
    rcases hz with rfl | rfl <;> omega
  refine Ev.bind (l08Code_ev name l hl (by omega)) ?_
  rw [← hn]
  by_cases h : nameC name l [who, denom] = 0
  · obtain ⟨hc, hs, ht⟩ := nameC_cases _ _ _ h
    have hlen : (swapPoolV name l who denom n least).1.length ≤ 400 := (swapPoolV_rt (rt_of hs) (by have := chain_size hc; omega)).1
    simp only [if_pos h]
    refine Ev.bind (l10SwapPool_ev name l who denom n least (rt_of hs) (by have := chain_size hc; omega) h_who) ?_
    simp only [if_pos (show (swapPoolV name l who denom n least).1.length ≤ 1000000 by omega)]
    exact Ev.now _
  · simp only [if_neg h]; exact Ev.now _
end Go.Proofs.YtabmfhnhmoiljaaGreatDoor.U

/- SwapPool of the program answers what the reference's answers: for every name, store, text and numbers. -/
namespace Go.Proofs.YtabmfhnhmoiljaaGreatDoor.Pure
open Go Go.RowKit Go.Proofs.YtabmfhnhmoiljaaGreatDoor.Q Go.Proofs.YtabmfhnhmoiljaaGreatDoor.U Go.Proofs.YtabmfhnhmoiljaaGreatDoorW.PrintWords Go.Proofs.YtabmfhnhmoiljaaGreatDoorW.PrintLast Go.Proofs.YtabmfhnhmoiljaaGreatDoorW.PrintMore
set_option linter.unusedVariables false
set_option linter.unusedSimpArgs false
theorem FnExactSwapPool (aName : ByteArray) (h_aName : aName.size ≤ maxLen) (aList : List LP) (h_aList : aList.length ≤ maxLen ∧ ∀ x ∈ aList, (x.f0.size ≤ maxLen ∧ x.f1.size ≤ maxLen)) (aWho : ByteArray) (h_aWho : aWho.size ≤ maxLen) (aDenom : ByteArray) (h_aDenom : aDenom.size ≤ maxLen) (aN : Int) (h_aN : (Lit.int .i64 aN).wf = true) (aLeast : Int) (h_aLeast : (Lit.int .i64 aLeast).wf = true) : ∃ k, laws_FnExactSwapPool.f k aName aList aWho aDenom aN aLeast = some true := by
  refine Ev.rounds (?_ : Ev (fun k => laws_FnExactSwapPool.f k aName aList aWho aDenom aN aLeast) true)
  have hm : maxLen = 9223372036854775807 := rfl
  rw [hm] at h_aList
  unfold laws_FnExactSwapPool.f
  by_cases q0 : (aName.size : Int) > 1048576
  · simp only [if_pos q0]; exact Ev.now _
  simp only [if_neg q0]
  by_cases q1 : (aWho.size : Int) > 1048576
  · simp only [if_pos q1]; exact Ev.now _
  simp only [if_neg q1]
  by_cases q2 : (aDenom.size : Int) > 1048576
  · simp only [if_pos q2]; exact Ev.now _
  simp only [if_neg q2]
  obtain ⟨z, e, hz⟩ := szPairS_ev aList 1048576 h_aList.1 h_aList.2 (by decide) (by decide)
  refine Ev.bind e ?_
  by_cases hneg : z < 0
  · simp only [if_pos hneg]; exact Ev.now _
  simp only [if_neg hneg]
  rcases hz with hz | ⟨_, _, hs⟩
  · exact absurd hz hneg
  have hl : (aList.map toP).length ≤ 1048576 := by rw [List.length_map]; exact hs.1
  have hlen := swapX_len aName (aList.map toP) aWho aDenom aN aLeast
  have ti := SwapPoolX_ev aName (aList.map toP) aWho aDenom aN aLeast hl (by omega) (by omega)
  have ts := specSwapPoolX_ev aName (aList.map toP) aWho aDenom aN aLeast hl (by omega) (by omega)
  generalize hX : swapX aName (aList.map toP) aWho aDenom aN aLeast = r at hlen ti ts
  clear hX
  obtain ⟨r0, r1⟩ := r
  simp only at hlen
  have tp := toPairS_ev aList hs.1
  have e0 := eqPairS_ev r0 (by omega)
  have e1 := eqPairS_ev (aList.map toP) hl
  have m1 := markPairS_ev (aList.map toP) 1 hl (by decide)
  have m2 := markPairS_ev r0 1 (by omega) (by decide)
  have hd := heldPairS_ev r0 1 (by omega) (by decide)
  have one : ((1 : Nat) : Int) = 1 := rfl
  rw [one] at m1 m2 hd
  refine Ev.bind tp (Ev.bind ts (Ev.bind tp (Ev.bind ti (Ev.bind e0 ?_))))
  simp only [if_true, bne_self_eq_false, Bool.false_eq_true, if_false]
  refine Ev.step (fun k => by rw [laws_FnExactSwapPool.j0, if_neg (by decide)]) (Ev.bind tp (Ev.bind e1 ?_))
  simp only [if_true]
  refine Ev.bind m1 ?_
  simp only [if_neg (show ¬ ((1 + 2 * (aList.map toP).length : Nat) : Int) < 0 by omega)]
  refine Ev.bind e0 ?_
  simp only [if_true, bne_self_eq_false, Bool.false_eq_true, if_false]
  refine Ev.step (fun k => by rw [laws_FnExactSwapPool.j1, if_neg (by decide)]) (Ev.bind m2 (Ev.bind hd ?_))
  simp only [if_neg (show ¬ ((1 + 2 * r0.length : Nat) : Int) < 0 by omega), if_true]
  refine Ev.bind tp (Ev.bind ti (Ev.bind e0 ?_))
  simp only [if_true, bne_self_eq_false, Bool.false_eq_true, if_false]
  refine Ev.step (fun k => by rw [laws_FnExactSwapPool.j2, if_neg (by decide)]) (Ev.bind hd ?_)
  simp only [if_neg (show ¬ ((1 + 2 * r0.length : Nat) : Int) < 0 by omega), if_true]
  exact Ev.now _
end Go.Proofs.YtabmfhnhmoiljaaGreatDoor.Pure

/- An argument of a law, whatever its type: read whole from what was handed over. -/
namespace Go.Proofs.YtabmfhnhmoiljaaGreatDoor.U
open Go Go.ChangeShapes Go.WideShapes Go.ChangeAt Go.RowKit Go.Proofs.YtabmfhnhmoiljaaGreatDoorW.PrintWords
set_option linter.unusedVariables false
set_option linter.unusedSimpArgs false

theorem addr_add_add (a : Addr) (i j : Nat) : (a.add i).add j = a.add (i + j) := by
  unfold Addr.add
  by_cases h0 : i = 0
  · subst h0; simp
  by_cases h1 : j = 0
  · subst h1; simp
  rw [if_neg h0, if_neg h1, if_neg (by omega)]
  simp only [Nat.add_assoc]
/-- What is handed over as a t can be read as a d. -/
structure Opens {α : Type} (P : Program) (t : TypeId) (d : Kd α) (wf : α → Prop) : Prop where
  out : ∀ {H : Type} (enc : TypeId × Value → H) (w : World) (base : Nat) (sp : Nat → Bool) (held : Bool) (n : Nat) (cs : List Value) (x : DataW H × List MemPlace),
    DataW.trod enc P w base sp held n t cs = some x → ∃ a, d.K w a cs ∧ wf a
theorem Opens.int {P : Program} {t : TypeId} {k : IntKind} (ht : P.underlying t = some (.int k)) : Opens P t (Kd.int k) (fun n => (Lit.int k n).wf = true) := by
  constructor
  intro H enc w base sp held n cs x h
  obtain ⟨m, rfl, rfl, hw⟩ := DataW.trod_int ht h
  exact ⟨m, rfl, hw⟩
theorem Opens.bool {P : Program} {t : TypeId} (ht : P.underlying t = some .bool) : Opens P t Kd.bool (fun _ => True) := by
  constructor
  intro H enc w base sp held n cs x h
  obtain ⟨m, rfl, rfl⟩ := DataW.trod_bool ht h
  exact ⟨m, rfl, trivial⟩
theorem Opens.string {P : Program} {t : TypeId} (ht : P.underlying t = some .string) : Opens P t Kd.string (fun s => s.size ≤ maxLen) := by
  constructor
  intro H enc w base sp held n cs x h
  obtain ⟨m, rfl, rfl, hw⟩ := DataW.trod_string ht h
  exact ⟨m, rfl, hw⟩
theorem all_of_each {α : Type} : ∀ (n : Nat) (p : Nat → α → Prop), (∀ i, i < n → ∃ a, p i a) → ∃ xs : List α, xs.length = n ∧ ∀ i a, xs[i]? = some a → p i a
  | 0, _, _ => ⟨[], rfl, fun i a h => by simp at h⟩
  | n + 1, p, h => by
    obtain ⟨a, ha⟩ := h 0 (by omega)
    obtain ⟨xs, hl, hx⟩ := all_of_each n (fun i => p (i + 1)) (fun i hi => h (i + 1) (by omega))
    refine ⟨a :: xs, by simp [hl], fun i b hb => ?_⟩
    cases i with
    | zero => simp at hb; subst hb; exact ha
    | succ j => exact hx j b (by simpa using hb)
theorem Opens.slice {α : Type} {P : Program} {t e : TypeId} {d : Kd α} {wf : α → Prop} (ht : P.underlying t = some (.slice e)) (hs : P.cellsOf e = d.sz) (hd : Opens P e d wf) :
    Opens P t (Kd.slice e d) (fun xs => xs.length ≤ maxLen ∧ ∀ x ∈ xs, wf x) := by
  constructor
  intro H enc w base sp held n cs x h
  rcases DataW.trod_slice ht h with ⟨rfl, rfl⟩ | ⟨a, len, cap, elems, rest, m, rfl, rfl, rfl, hb, hl, hm, hlen, hel, _, _⟩
  · exact ⟨[], ⟨none, 0, rfl, by simp, rfl, by simp, by simp⟩, by simp, by simp⟩
  obtain ⟨xs, hxl, hx⟩ := all_of_each len (fun i y => wf y ∧ ∃ c, c.length = d.sz ∧ d.K w y c ∧ ∀ j u, c[j]? = some u → w.cell? (a.add (i * d.sz + j)) = some u) (fun i hi => by
    have h1 := hel i hi
    rw [List.getElem?_eq_getElem (by omega)] at h1
    obtain ⟨c, hc, hy⟩ := Option.bind_eq_some_iff.mp h1
    obtain ⟨_, hcl, hcell⟩ := World.cells?_some hc
    obtain ⟨y, hk, hw⟩ := hd.out _ _ _ _ _ _ _ _ hy
    refine ⟨y, hw, c, by omega, hk, fun j u hu => ?_⟩
    have hj : j < P.cellsOf e := by
      rcases Nat.lt_or_ge j c.length with h' | h'
      · omega
      · rw [List.getElem?_eq_none h'] at hu; cases hu
    have h2 := hcell j hj
    rw [hu] at h2
    rw [← hs, ← h2, addr_add_add])
  subst hxl
  refine ⟨xs, ⟨some a, cap, rfl, hl, rfl, by have : maxLen = 9223372036854775807 := rfl; omega, fun _ => ⟨a, rfl, fun j p hp => (hx j p hp).2⟩⟩, by omega, fun x hxm => ?_⟩
  obtain ⟨i, hi, rfl⟩ := List.getElem_of_mem hxm
  exact (hx i _ (List.getElem?_eq_getElem hi)).1
/-- The fields of a struct, from a cell on. -/
structure OpensF {α : Type} (P : Program) (fs : List Field) (off : Nat) (d : Kd α) (wf : α → Prop) : Prop where
  out : ∀ {H : Type} (enc : TypeId × Value → H) (w : World) (base : Nat) (sp : Nat → Bool) (held : Bool) (n : Nat) (cs : List Value),
    cs.length = off + d.sz → (∀ f ∈ fs, ∃ y, DataW.trod enc P w base sp held n f.type ((cs.drop f.offset).take (P.cellsOf f.type)) = some y) → ∃ a, d.K w a (cs.drop off) ∧ wf a
theorem OpensF.one {α : Type} {P : Program} {f : Field} {d : Kd α} {wf : α → Prop} (hd : Opens P f.type d wf) (hs : P.cellsOf f.type = d.sz) : OpensF P [f] f.offset d wf := by
  constructor
  intro H enc w base sp held n cs hl hf
  obtain ⟨y, hy⟩ := hf f (by simp)
  rw [List.take_of_length_le (by rw [List.length_drop]; omega)] at hy
  exact hd.out _ _ _ _ _ _ _ _ hy
theorem OpensF.cons {α β : Type} {P : Program} {f : Field} {fs : List Field} {d : Kd α} {d1 : Kd β} {wf : α → Prop} {wf1 : β → Prop} (hd : Opens P f.type d wf) (hs : P.cellsOf f.type = d.sz) (h1 : OpensF P fs (f.offset + d.sz) d1 wf1) :
    OpensF P (f :: fs) f.offset (Kd.pair d d1) (fun p => wf p.1 ∧ wf1 p.2) := by
  constructor
  intro H enc w base sp held n cs hl hf
  have hl' : cs.length = f.offset + (d.sz + d1.sz) := hl
  obtain ⟨y, hy⟩ := hf f (by simp)
  obtain ⟨a, ha, wa⟩ := hd.out _ _ _ _ _ _ _ _ hy
  obtain ⟨b, hb, wb⟩ := h1.out enc w base sp held n cs (by omega) (fun g hg => hf g (by simp [hg]))
  refine ⟨(a, b), ⟨_, _, ?_, ha, hb⟩, wa, wb⟩
  rw [hs, ← List.drop_drop, List.take_append_drop]
theorem Opens.struct {α : Type} {P : Program} {t : TypeId} {fs : Array Field} {d : Kd α} {wf : α → Prop} (ht : P.underlying t = some (.struct fs)) (hs : P.cellsOf t = d.sz) (hf : OpensF P fs.toList 0 d wf) : Opens P t d wf := by
  constructor
  intro H enc w base sp held n cs x h
  obtain ⟨xs, m, rfl, rfl, hl, hxl, hx⟩ := DataW.trod_struct ht h
  have := hf.out enc w base sp held m cs (by omega) (fun f hfm => by
    obtain ⟨i, hi, rfl⟩ := List.getElem_of_mem hfm
    have hi' : i < fs.size := by simpa using hi
    refine ⟨xs[i]'(by omega), ?_⟩
    rw [hx i _ (by simp [hi'])]
    rw [List.getElem?_eq_getElem])
  simpa using this
theorem Opens.iso {α β : Type} {P : Program} {t : TypeId} {d : Kd α} {wf : α → Prop} {f : β → α} (h : Opens P t d wf) (g : ∀ a, ∃ b, f b = a) : Opens P t (Kd.iso d f) (fun b => wf (f b)) := by
  constructor
  intro H enc w base sp held n cs x hx
  obtain ⟨a, ha, wa⟩ := h.out enc w base sp held n cs x hx
  obtain ⟨b, rfl⟩ := g a
  exact ⟨b, ha, wa⟩
end Go.Proofs.YtabmfhnhmoiljaaGreatDoor.U
