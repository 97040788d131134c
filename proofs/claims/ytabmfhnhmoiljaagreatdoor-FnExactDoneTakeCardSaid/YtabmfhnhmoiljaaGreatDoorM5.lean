/- Parts of the proof: what single Go functions compute, each with its walk, and plain laws over these. -/
import Derived.Test.YtabmfhnhmoiljaaGreatDoorM1
import Derived.Test.YtabmfhnhmoiljaaGreatDoorM3
import Derived.Test.YtabmfhnhmoiljaaGreatDoorM2
import Derived.Test.YtabmfhnhmoiljaaGreatDoorM4
import Derived.WalkKit
import Derived.ProofKit
import Derived.OpenShut
import Derived.ShutString
import Derived.ChangeOld
import Derived.Below
import Derived.ChangeArms
import Derived.DataReads
import Derived.Test.YtabmfhnhmoiljaaGreatDoorVWords
/- What a take's data tell: the program's reading is the reference's. -/
namespace Go.Proofs.YtabmfhnhmoiljaaGreatDoor.U
open Go Go.RowKit Go.Proofs.YtabmfhnhmoiljaaGreatDoor.Q Go.Proofs.YtabmfhnhmoiljaaGreatDoorW.PrintWords Go.Proofs.YtabmfhnhmoiljaaGreatDoorW.PrintLast Go.Proofs.YtabmfhnhmoiljaaGreatDoorW.PrintMore
set_option linter.unusedVariables false
set_option linter.unusedSimpArgs false

abbrev Tk := ByteArray × ByteArray × ByteArray × Int
noncomputable def takeO (a : ByteArray) : Option Tk :=
  match readV a with
  | some [h, i, m, t, n] => if (h.toList == ([107] : List UInt8) && takeB i m t (amtV n)) = true then some (i, m, t, amtV n) else none
  | _ => none
/-- A take and whether it is one. -/
def takR (x : Tk) : Option Tk → ByteArray × ByteArray × ByteArray × Int × Bool
  | some (a, b, c, d) => (a, b, c, d, true)
  | none => (x.1, x.2.1, x.2.2.1, x.2.2.2, false)
theorem takR_some {x : Tk} {o : Option Tk} {r : ByteArray × ByteArray × ByteArray × Int × Bool} (h : takR x o = r) : (r.2.2.2.2 = true → o = some (r.1, r.2.1, r.2.2.1, r.2.2.2.1)) ∧ (r.2.2.2.2 = false → o = none) := by
  subst h
  cases o with
  | none => exact ⟨fun h => by simp [takR] at h, fun _ => rfl⟩
  | some y => obtain ⟨a, b, c, d⟩ := y; exact ⟨fun _ => rfl, fun h => by simp [takR] at h⟩
theorem take_five {α : Type} (l : List α) (h : l.length = 5) : ∃ x y z u v, l = [x, y, z, u, v] := by
  match l, h with
  | [x, y, z, u, v], _ => exact ⟨x, y, z, u, v, rfl⟩
theorem takeO_ne (a : ByteArray) (l : List ByteArray) (h : readV a = some l) (hl : l.length ≠ 5) : takeO a = none := by
  unfold takeO
  rw [h]
  match l with
  | [] => rfl
  | [_] => rfl
  | [_, _] => rfl
  | [_, _, _] => rfl
  | [_, _, _, _] => rfl
  | [_, _, _, _, _] => exact absurd rfl hl
  | _ :: _ :: _ :: _ :: _ :: _ :: _ => rfl
theorem someB_max0 (n : Int) : someB (max0 n) = someB n := by
  unfold someB max0
  by_cases h : 0 ≤ n
  · rw [if_pos h]
  · rw [if_neg h, decide_eq_false (by omega), decide_eq_false (by omega)]
theorem takeB_max0 (i m t : ByteArray) (n : Int) : takeB i m t (max0 n) = takeB i m t n := by unfold takeB; rw [someB_max0]
theorem implTakeOf_ev (a : ByteArray) (ha : a.size ≤ 1048576) : ∃ x, Ev (fun k => impl_takeOf.f k a) (takR x (takeO a)) := by
  unfold impl_takeOf.f
  obtain ⟨x, hx⟩ := readFields_ev a (by omega)
  have hbad : ∀ x4, Ev (fun k => impl_takeOf.j0 k x4 true) ((⟨#[]⟩ : ByteArray), (⟨#[]⟩ : ByteArray), (⟨#[]⟩ : ByteArray), 0, false) := fun x4 => Ev.step (fun k => by rw [impl_takeOf.j0, if_pos rfl]) (Ev.now _)
  have hbad2 : takeO a = none → ∀ x4, ∃ x, Ev (fun k => impl_takeOf.j0 k x4 true) (takR x (takeO a)) := fun e x4 => ⟨((⟨#[]⟩ : ByteArray), (⟨#[]⟩ : ByteArray), (⟨#[]⟩ : ByteArray), 0), by rw [e]; exact hbad x4⟩
  cases hr : readV a with
  | none =>
    have e : takeO a = none := by unfold takeO; rw [hr]
    obtain ⟨y, hy⟩ := hbad2 e x
    refine ⟨y, Ev.bind hx ?_⟩
    rw [hr]
    simp only [readR, Bool.false_eq_true, if_false]
    exact hy
  | some fs =>
    obtain ⟨hv1, _, hfs⟩ := readV_of hr
    by_cases h5 : fs.length = 5
    · obtain ⟨h, i, m, t, n, rfl⟩ := take_five fs h5
      have hi := hfs i (by simp)
      have hm := hfs m (by simp)
      have ht := hfs t (by simp)
      have hn := hfs n (by simp)
      have L5 : ((([h, i, m, t, n] : List ByteArray).length : Nat) : Int) = 5 := rfl
      have e2 : takeO a = if (h.toList == ([107] : List UInt8) && takeB i m t (amtV n)) = true then some (i, m, t, amtV n) else none := by unfold takeO; rw [hr]
      have d0 : rdOf ByteArray.empty [h, i, m, t, n] 0 = h := rfl
      have d1 : rdOf ByteArray.empty [h, i, m, t, n] 1 = i := rfl
      have d2 : rdOf ByteArray.empty [h, i, m, t, n] 2 = m := rfl
      have d3 : rdOf ByteArray.empty [h, i, m, t, n] 3 = t := rfl
      have d4 : rdOf ByteArray.empty [h, i, m, t, n] 4 = n := rfl
      by_cases hk : h.toList = ([107] : List UInt8)
      · obtain ⟨b, hb⟩ := readAmount_fst n (by omega)
        refine ⟨(i, m, t, max0 (amtV n)), Ev.bind hx ?_⟩
        rw [hr]
        simp only [readR, List.nil_append, if_true, L5, if_pos (show (0 : Int) < 5 by decide), d0, hk, bne_self_eq_false]
        refine Ev.step (f := fun k => (impl_take_isRight.f k i m t (max0 (amtV n))).bind fun q => some (i, m, t, max0 (amtV n), q)) (fun k => by
          rw [impl_takeOf.j0, if_neg (by decide), L5, d1, d2, d3, d4, if_pos (show (4 : Int) < 5 by decide), hb]
          simp only [Option.bind_some, if_pos (show (1 : Int) < 5 by decide), if_pos (show (2 : Int) < 5 by decide), if_pos (show (3 : Int) < 5 by decide)]) ?_
        refine Ev.bind (takeRight_ev i m t _ (by omega) (by omega) (by omega)) ?_
        rw [takeB_max0, e2, hk]
        simp only [beq_self_eq_true, Bool.true_and]
        cases hT : takeB i m t (amtV n) with
        | false => exact Ev.now _
        | true =>
          have := (takeB_parts hT).2.2.2
          have e3 : max0 (amtV n) = amtV n := by unfold max0; rw [if_pos (by omega)]
          rw [e3]
          exact Ev.now _
      · have e : takeO a = none := by rw [e2, beq_eq_false_iff_ne.2 hk]; rfl
        obtain ⟨y, hy⟩ := hbad2 e [h, i, m, t, n]
        refine ⟨y, Ev.bind hx ?_⟩
        rw [hr]
        simp only [readR, List.nil_append, if_true, L5, if_pos (show (0 : Int) < 5 by decide), d0, bne_iff_ne.2 hk]
        exact hy
    · have e : takeO a = none := takeO_ne a fs hr h5
      obtain ⟨y, hy⟩ := hbad2 e fs
      refine ⟨y, Ev.bind hx ?_⟩
      rw [hr]
      have hne : ¬ (((readR x [] (some fs)).1.length : Nat) : Int) = 5 := by simp only [readR, List.nil_append]; omega
      simp only [if_neg hne]
      simp only [readR, List.nil_append, if_true]
      exact hy
theorem l09ReadTake_ev (a : ByteArray) (ha : a.size ≤ 1048576) : ∃ x, Ev (fun k => spec_l09ReadTake.f k a) (takR x (takeO a)) := by
  unfold spec_l09ReadTake.f
  obtain ⟨x, hx⟩ := l02Read_ev a (by omega)
  have hb : ∀ b : Bool, b = false → takeO a = none → ∃ x, Ev (fun _ => some ((⟨#[]⟩ : ByteArray), (⟨#[]⟩ : ByteArray), (⟨#[]⟩ : ByteArray), (0 : Int), false)) (takR x (takeO a)) := fun _ _ e => ⟨((⟨#[]⟩ : ByteArray), (⟨#[]⟩ : ByteArray), (⟨#[]⟩ : ByteArray), 0), by rw [e]; exact Ev.now _⟩
  cases hr : readV a with
  | none =>
    have e : takeO a = none := by unfold takeO; rw [hr]
    obtain ⟨y, hy⟩ := hb false rfl e
    refine ⟨y, Ev.bind hx ?_⟩
    rw [hr]
    simp only [readR, Bool.false_eq_true, if_false]
    exact hy
  | some fs =>
    obtain ⟨hv1, _, hfs⟩ := readV_of hr
    by_cases h5 : fs.length = 5
    · obtain ⟨h, i, m, t, n, rfl⟩ := take_five fs h5
      have hn := hfs n (by simp)
      have L5 : ((([h, i, m, t, n] : List ByteArray).length : Nat) : Int) = 5 := rfl
      have e2 : takeO a = if (h.toList == ([107] : List UInt8) && takeB i m t (amtV n)) = true then some (i, m, t, amtV n) else none := by unfold takeO; rw [hr]
      have d0 : rdOf ByteArray.empty [h, i, m, t, n] 0 = h := rfl
      have d1 : rdOf ByteArray.empty [h, i, m, t, n] 1 = i := rfl
      have d2 : rdOf ByteArray.empty [h, i, m, t, n] 2 = m := rfl
      have d3 : rdOf ByteArray.empty [h, i, m, t, n] 3 = t := rfl
      have d4 : rdOf ByteArray.empty [h, i, m, t, n] 4 = n := rfl
      have bad : (h.toList == ([107] : List UInt8) && takeB i m t (amtV n)) = false → takeO a = none := fun e => by rw [e2, e]; rfl
      have go : ∃ x, Ev (fun k => if (5 : Int) = 5 then (if (0 : Int) < 5 then (if h.toList = ([107] : List UInt8) then (if (1 : Int) < 5 then ((spec_l05Name.f k i).bind fun t329 => (if t329 = true then (if (2 : Int) < 5 then ((spec_l08Name.f k m).bind fun t331 => (if t331 = true then (if (3 : Int) < 5 then ((spec_l08Name.f k t).bind fun t333 => (if t333 = true then (if (4 : Int) < 5 then ((spec_l02Of.f k n).bind fun t335 => (some (i, m, t, t335, decide (t335 > 0)))) else (none)) else (some ((⟨#[]⟩ : ByteArray), (⟨#[]⟩ : ByteArray), (⟨#[]⟩ : ByteArray), (0 : Int), false)))) else (none)) else (some ((⟨#[]⟩ : ByteArray), (⟨#[]⟩ : ByteArray), (⟨#[]⟩ : ByteArray), 0, false)))) else (none)) else (some ((⟨#[]⟩ : ByteArray), (⟨#[]⟩ : ByteArray), (⟨#[]⟩ : ByteArray), 0, false)))) else (none)) else (some ((⟨#[]⟩ : ByteArray), (⟨#[]⟩ : ByteArray), (⟨#[]⟩ : ByteArray), 0, false))) else (none)) else (some ((⟨#[]⟩ : ByteArray), (⟨#[]⟩ : ByteArray), (⟨#[]⟩ : ByteArray), 0, false))) (takR x (takeO a)) := by
        simp only [if_true, show (0 : Int) < 5 by decide, show (1 : Int) < 5 by decide, show (2 : Int) < 5 by decide, show (3 : Int) < 5 by decide, show (4 : Int) < 5 by decide]
        by_cases hk : h.toList = ([107] : List UInt8)
        · simp only [if_pos hk]
          cases h1 : nameB i with
          | false =>
            obtain ⟨y, hy⟩ := hb false rfl (bad (by unfold takeB; rw [h1]; simp))
            refine ⟨y, Ev.bind (l05Name_ev i) ?_⟩
            rw [h1]
            simp only [Bool.false_eq_true, if_false]
            exact hy
          | true =>
            cases h2 : peopleB m with
            | false =>
              obtain ⟨y, hy⟩ := hb false rfl (bad (by unfold takeB; rw [h1, h2]; simp))
              refine ⟨y, Ev.bind (l05Name_ev i) ?_⟩
              rw [h1]
              simp only [if_true]
              refine Ev.bind (l08Name_ev m) ?_
              rw [h2]
              simp only [Bool.false_eq_true, if_false]
              exact hy
            | true =>
              cases h3 : peopleB t with
              | false =>
                obtain ⟨y, hy⟩ := hb false rfl (bad (by unfold takeB; rw [h1, h2, h3]; simp))
                refine ⟨y, Ev.bind (l05Name_ev i) ?_⟩
                rw [h1]
                simp only [if_true]
                refine Ev.bind (l08Name_ev m) ?_
                rw [h2]
                simp only [if_true]
                refine Ev.bind (l08Name_ev t) ?_
                rw [h3]
                simp only [Bool.false_eq_true, if_false]
                exact hy
              | true =>
                refine ⟨(i, m, t, amtV n), Ev.bind (l05Name_ev i) ?_⟩
                rw [h1]
                simp only [if_true]
                refine Ev.bind (l08Name_ev m) ?_
                rw [h2]
                simp only [if_true]
                refine Ev.bind (l08Name_ev t) ?_
                rw [h3]
                simp only [if_true]
                refine Ev.bind (l02Of_ev n (by omega)) ?_
                have e3 : takeB i m t (amtV n) = decide (amtV n > 0) := by
                  unfold takeB someB
                  rw [h1, h2, h3, Bool.true_and, Bool.true_and, Bool.true_and, decide_eq_decide]
                  constructor
                  · rintro ⟨a1, a2⟩; omega
                  · intro a1; exact ⟨by omega, (amtV_eq (a := n) (by omega)).2⟩
                rw [e2, e3, hk]
                simp only [beq_self_eq_true, Bool.true_and]
                cases decide (amtV n > 0) with
                | false => exact Ev.now _
                | true => exact Ev.now _
        · simp only [if_neg hk]
          exact hb false rfl (bad (by rw [beq_eq_false_iff_ne.2 hk]; rfl))
      obtain ⟨y, hy⟩ := go
      refine ⟨y, Ev.bind hx ?_⟩
      rw [hr]
      simp only [readR, List.nil_append, if_true, L5, d0, d1, d2, d3, d4]
      simp only [if_true] at hy
      exact hy
    · obtain ⟨y, hy⟩ := hb false rfl (takeO_ne a fs hr h5)
      refine ⟨y, Ev.bind hx ?_⟩
      rw [hr]
      have hne : ¬ (((readR x [] (some fs)).1.length : Nat) : Int) = 5 := by simp only [readR, List.nil_append]; omega
      simp only [if_neg hne]
      simp only [readR, List.nil_append, if_true]
      exact hy
theorem takeO_parts {a : ByteArray} {y : Tk} (h : takeO a = some y) : takeB y.1 y.2.1 y.2.2.1 y.2.2.2 = true := by
  unfold takeO at h
  split at h
  · split at h
    · rename_i h2
      rw [Bool.and_eq_true] at h2
      injection h with h
      subst h
      exact h2.2
    · cases h
  · cases h
noncomputable def doneV (name : ByteArray) (l : List IP) (data : ByteArray) (ok : Bool) : List IP × Int :=
  match takeO data with
  | some y => moveV l takesB (if ok = true then y.2.1 else y.2.2.1) name y.2.2.2
  | none => (l, 3)
theorem implDoneTake_ev (name : ByteArray) (l : List IP) (data : ByteArray) (ok : Bool) (hr : Rt l) (hn : name.size ≤ 100) (hd : data.size ≤ 1048576) : Ev (fun k => impl_doneTake.f k name l data ok) (doneV name l data ok) := by
  unfold impl_doneTake.f doneV
  obtain ⟨x, hx⟩ := implTakeOf_ev data hd
  obtain ⟨g1, g2⟩ := takR_some (x := x) (o := takeO data) rfl
  refine Ev.bind hx ?_
  generalize takR x (takeO data) = r at *
  cases hb : r.2.2.2.2 with
  | false =>
    rw [g2 hb]
    simp only [Bool.false_eq_true, if_false]
    unfold slices_Clone_impl_Pair_impl_Pair.f
    rw [if_pos (by have := hr.1; omega)]
    exact Ev.now _
  | true =>
    have ht := takeO_parts (g1 hb)
    obtain ⟨p1, p2, p3, p4, p5⟩ := takeB_parts ht
    have a2 := people_small p2
    have a3 := people_small p3
    simp only at a2 a3 p4 p5
    rw [g1 hb]
    simp only [if_true]
    cases ok with
    | true => simp only [if_true]; exact Ev.bind (move_ev l takesB r.2.1 name _ hr (by decide) (by omega) hn (by omega) p5) (Ev.now _)
    | false => simp only [Bool.false_eq_true, if_false]; exact Ev.bind (move_ev l takesB r.2.2.1 name _ hr (by decide) (by omega) hn (by omega) p5) (Ev.now _)
theorem l09Done_ev (name : ByteArray) (l : List IP) (data : ByteArray) (ok : Bool) (hr : Rt l) (hn : name.size ≤ 100) (hd : data.size ≤ 1048576) : Ev (fun k => spec_l09Done.f k name l data ok) (doneV name l data ok) := by
  unfold spec_l09Done.f doneV
  obtain ⟨x, hx⟩ := l09ReadTake_ev data hd
  obtain ⟨g1, g2⟩ := takR_some (x := x) (o := takeO data) rfl
  refine Ev.bind hx ?_
  generalize takR x (takeO data) = r at *
  cases hb : r.2.2.2.2 with
  | false =>
    rw [g2 hb]
    simp only [Bool.false_eq_true, if_false]
    exact Ev.now _
  | true =>
    have ht := takeO_parts (g1 hb)
    obtain ⟨p1, p2, p3, p4, p5⟩ := takeB_parts ht
    have a2 := people_small p2
    have a3 := people_small p3
    simp only at a2 a3 p4 p5
    rw [g1 hb]
    simp only [if_true]
    cases ok with
    | true => simp only [if_true]; exact Ev.bind (l05Move_ev l takesB r.2.1 name _ hr (by decide) (by omega) hn (by omega) p5) (Ev.now _)
    | false => simp only [Bool.false_eq_true, if_false]; exact Ev.bind (l05Move_ev l takesB r.2.2.1 name _ hr (by decide) (by omega) hn (by omega) p5) (Ev.now _)
theorem doneV_rt {name : ByteArray} {l : List IP} {data : ByteArray} {ok : Bool} (hr : Rt l) (hn : name.size ≤ 100) : Rt (doneV name l data ok).1 := by
  unfold doneV
  split
  · rename_i y hy
    obtain ⟨p1, p2, p3, p4, p5⟩ := takeB_parts (takeO_parts hy)
    have a2 := people_small p2
    have a3 := people_small p3
    exact moveV_rt hr (by decide) (by split <;> omega) hn
  · exact hr
noncomputable def doneX (name : ByteArray) (l : List IP) (data : ByteArray) (ok : Bool) : List IP × Int :=
  if nameC name l [data] = 0 then doneV name l data ok else ([], nameC name l [data])
theorem doneX_len (name : ByteArray) (l : List IP) (data : ByteArray) (ok : Bool) : (doneX name l data ok).1.length ≤ 400 := by
  unfold doneX
  split
  · rename_i h
    obtain ⟨hc, hs, ht⟩ := nameC_cases _ _ _ h
    exact (doneV_rt (rt_of hs) (by rw [chain_size hc]; decide)).1
  · exact Nat.zero_le _
theorem implDoneTakeX_ev (name : ByteArray) (l : List IP) (data : ByteArray) (ok : Bool) (hl : l.length ≤ 1048576) (h1 : data.size ≤ 1048576) : Ev (fun k => impl_DoneTake.f k name l data ok) (doneX name l data ok) := by
  unfold impl_DoneTake.f doneX
  refine Ev.bind (nameCode_ev name l [data] hl) ?_
  by_cases h : nameC name l [data] = 0
  · obtain ⟨hc, hs, ht⟩ := nameC_cases _ _ _ h
    simp only [if_pos h]
    exact Ev.bind (implDoneTake_ev name l data ok (rt_of hs) (by rw [chain_size hc]; decide) h1) (Ev.now _)
  · simp only [if_neg h]; exact Ev.now _
theorem specDoneTakeX_ev (name : ByteArray) (l : List IP) (data : ByteArray) (ok : Bool) (hl : l.length ≤ 1048576) (h0 : data.size ≤ 1048576) : Ev (fun k => spec_DoneTake.f k name l data ok) (doneX name l data ok) := by
  unfold spec_DoneTake.f doneX
  have two : ¬ (name.size ≤ 65536 ∧ l.length ≤ 4096 ∧ (∀ t ∈ [data], t.size ≤ 65536)) → Ev (fun _ => some (([] : List IP), (2 : Int))) (if nameC name l [data] = 0 then doneV name l data ok else ([], nameC name l [data])) := fun e => by
    have : nameC name l [data] = 2 := by unfold nameC; rw [if_neg e]
    rw [this]; exact Ev.now _
  by_cases h1 : (65536 : Int) < (name.size : Int)
  · simp only [if_pos h1]; exact two (fun e => by have := e.1; omega)
  simp only [if_neg h1]
  by_cases h2 : (4096 : Int) < (l.length : Int)
  · simp only [if_pos h2]; exact two (fun e => by have := e.2.1; omega)
  simp only [if_neg h2]
  by_cases h3 : (65536 : Int) < (data.size : Int)
  · simp only [if_pos h3]; exact two (fun e => by have := e.2.2 data (by simp); omega)
  simp only [if_neg h3]
  have hn : nameC name l [data] = if (chainB name && storeB l) = true then 0 else 1 := by
    unfold nameC
    rw [if_pos]
    refine ⟨by omega, by omega, fun t ht => ?_⟩
    simp only [List.mem_singleton] at ht
    subst ht
    omega
  refine Ev.bind (l08Code_ev name l hl (by omega)) ?_
  rw [← hn]
  by_cases h : nameC name l [data] = 0
  · obtain ⟨hc, hs, ht⟩ := nameC_cases _ _ _ h
    have hlen := (doneV_rt (name := name) (data := data) (ok := ok) (rt_of hs) (by rw [chain_size hc]; decide)).1
    simp only [if_pos h]
    refine Ev.bind (l09Done_ev name l data ok (rt_of hs) (by rw [chain_size hc]; decide) h0) ?_
    simp only [if_pos (show (doneV name l data ok).1.length ≤ 1000000 by omega)]
    exact Ev.now _
  · simp only [if_neg h]; exact Ev.now _
end Go.Proofs.YtabmfhnhmoiljaaGreatDoor.U

/- DoneTake of the program answers what the reference's answers: for every name, store, text and flag. -/
namespace Go.Proofs.YtabmfhnhmoiljaaGreatDoor.Pure
open Go Go.RowKit Go.Proofs.YtabmfhnhmoiljaaGreatDoor.Q Go.Proofs.YtabmfhnhmoiljaaGreatDoor.U Go.Proofs.YtabmfhnhmoiljaaGreatDoorW.PrintWords Go.Proofs.YtabmfhnhmoiljaaGreatDoorW.PrintLast Go.Proofs.YtabmfhnhmoiljaaGreatDoorW.PrintMore
set_option linter.unusedVariables false
set_option linter.unusedSimpArgs false
theorem FnExactDoneTake (aName : ByteArray) (h_aName : aName.size ≤ maxLen) (aList : List LP) (h_aList : aList.length ≤ maxLen ∧ ∀ x ∈ aList, (x.f0.size ≤ maxLen ∧ x.f1.size ≤ maxLen)) (aData : ByteArray) (h_aData : aData.size ≤ maxLen) (aOk : Bool) (h_aOk : True) : ∃ k, laws_FnExactDoneTake.f k aName aList aData aOk = some true := by
  refine Ev.rounds (?_ : Ev (fun k => laws_FnExactDoneTake.f k aName aList aData aOk) true)
  have hm : maxLen = 9223372036854775807 := rfl
  rw [hm] at h_aList
  unfold laws_FnExactDoneTake.f
  by_cases q0 : (aName.size : Int) > 1048576
  · simp only [if_pos q0]; exact Ev.now _
  simp only [if_neg q0]
  by_cases q1 : (aData.size : Int) > 1048576
  · simp only [if_pos q1]; exact Ev.now _
  simp only [if_neg q1]
  obtain ⟨z, e, hz⟩ := szPairS_ev aList 1048576 h_aList.1 h_aList.2 (by decide) (by decide)
  refine Ev.bind e ?_
  by_cases hneg : z < 0
  · simp only [if_pos hneg]; exact Ev.now _
  simp only [if_neg hneg]
  rcases hz with hz | ⟨_, _, hs⟩
  · exact absurd hz hneg
  have hl : (aList.map toP).length ≤ 1048576 := by rw [List.length_map]; exact hs.1
  have hlen := doneX_len aName (aList.map toP) aData aOk
  have ti := implDoneTakeX_ev aName (aList.map toP) aData aOk hl (by omega)
  have ts := specDoneTakeX_ev aName (aList.map toP) aData aOk hl (by omega)
  generalize hX : doneX aName (aList.map toP) aData aOk = r at hlen ti ts
  clear hX
  obtain ⟨r0, r1⟩ := r
  simp only at hlen
  have tp := toPairS_ev aList hs.1
  have e0 := eqPairS_ev r0 (by omega)
  have e1 := eqPairS_ev (aList.map toP) hl
  have m1 := markPairS_ev (aList.map toP) 1 hl (by decide)
  have m2 := markPairS_ev r0 1 (by omega) (by decide)
  have hd := heldPairS_ev r0 1 (by omega) (by decide)
  have one : ((1 : Nat) : Int) = 1 := rfl
  rw [one] at m1 m2 hd
  refine Ev.bind tp (Ev.bind ts (Ev.bind tp (Ev.bind ti (Ev.bind e0 ?_))))
  simp only [if_true, bne_self_eq_false]
  refine Ev.step (fun k => by rw [laws_FnExactDoneTake.j0, if_neg (by decide)]) (Ev.bind tp (Ev.bind e1 ?_))
  simp only [if_true]
  refine Ev.bind m1 ?_
  simp only [if_neg (show ¬ ((1 + 2 * (aList.map toP).length : Nat) : Int) < 0 by omega)]
  refine Ev.bind e0 ?_
  simp only [if_true, bne_self_eq_false]
  refine Ev.step (fun k => by rw [laws_FnExactDoneTake.j1, if_neg (by decide)]) (Ev.bind m2 (Ev.bind hd ?_))
  simp only [if_neg (show ¬ ((1 + 2 * r0.length : Nat) : Int) < 0 by omega), if_true]
  refine Ev.bind tp (Ev.bind ti (Ev.bind e0 ?_))
  simp only [if_true, bne_self_eq_false]
  refine Ev.step (fun k => by rw [laws_FnExactDoneTake.j2, if_neg (by decide)]) (Ev.bind hd ?_)
  simp only [if_neg (show ¬ ((1 + 2 * r0.length : Nat) : Int) < 0 by omega), if_true]
  exact Ev.now _
end Go.Proofs.YtabmfhnhmoiljaaGreatDoor.Pure

/- An argument of a law, whatever its type: read whole from what was handed over. -/
namespace Go.Proofs.YtabmfhnhmoiljaaGreatDoor.U
open Go Go.ChangeShapes Go.WideShapes Go.ChangeAt Go.RowKit Go.Proofs.YtabmfhnhmoiljaaGreatDoorW.PrintWords
set_option linter.unusedVariables false
set_option linter.unusedSimpArgs false

theorem addr_add_add (a : Addr) (i j : Nat) : (a.add i).add j = a.add (i + j) := by
  unfold Addr.add
  by_cases h0 : i = 0
  · subst h0; simp
  by_cases h1 : j = 0
  · subst h1; simp
  rw [if_neg h0, if_neg h1, if_neg (by omega)]
  simp only [Nat.add_assoc]
/-- What is handed over as a t can be read as a d. -/
structure Opens {α : Type} (P : Program) (t : TypeId) (d : Kd α) (wf : α → Prop) : Prop where
  out : ∀ {H : Type} (enc : TypeId × Value → H) (w : World) (base : Nat) (sp : Nat → Bool) (held : Bool) (n : Nat) (cs : List Value) (x : DataW H × List MemPlace),
    DataW.trod enc P w base sp held n t cs = some x → ∃ a, d.K w a cs ∧ wf a
theorem Opens.int {P : Program} {t : TypeId} {k : IntKind} (ht : P.underlying t = some (.int k)) : Opens P t (Kd.int k) (fun n => (Lit.int k n).wf = true) := by
  constructor
  intro H enc w base sp held n cs x h
  obtain ⟨m, rfl, rfl, hw⟩ := DataW.trod_int ht h
  exact ⟨m, rfl, hw⟩
theorem Opens.bool {P : Program} {t : TypeId} (ht : P.underlying t = some .bool) : Opens P t Kd.bool (fun _ => True) := by
  constructor
  intro H enc w base sp held n cs x h
  obtain ⟨m, rfl, rfl⟩ := DataW.trod_bool ht h
  exact ⟨m, rfl, trivial⟩
theorem Opens.string {P : Program} {t : TypeId} (ht : P.underlying t = some .string) : Opens P t Kd.string (fun s => s.size ≤ maxLen) := by
  constructor
  intro H enc w base sp held n cs x h
  obtain ⟨m, rfl, rfl, hw⟩ := DataW.trod_string ht h
  exact ⟨m, rfl, hw⟩
theorem all_of_each {α : Type} : ∀ (n : Nat) (p : Nat → α → Prop), (∀ i, i < n → ∃ a, p i a) → ∃ xs : List α, xs.length = n ∧ ∀ i a, xs[i]? = some a → p i a
  | 0, _, _ => ⟨[], rfl, fun i a h => by simp at h⟩
  | n + 1, p, h => by
    obtain ⟨a, ha⟩ := h 0 (by omega)
    obtain ⟨xs, hl, hx⟩ := all_of_each n (fun i => p (i + 1)) (fun i hi => h (i + 1) (by omega))
    refine ⟨a :: xs, by simp [hl], fun i b hb => ?_⟩
    cases i with
    | zero => simp at hb; subst hb; exact ha
    | succ j => exact hx j b (by simpa using hb)
theorem Opens.slice {α : Type} {P : Program} {t e : TypeId} {d : Kd α} {wf : α → Prop} (ht : P.underlying t = some (.slice e)) (hs : P.cellsOf e = d.sz) (hd : Opens P e d wf) :
    Opens P t (Kd.slice e d) (fun xs => xs.length ≤ maxLen ∧ ∀ x ∈ xs, wf x) := by
  constructor
  intro H enc w base sp held n cs x h
  rcases DataW.trod_slice ht h with ⟨rfl, rfl⟩ | ⟨a, len, cap, elems, rest, m, rfl, rfl, rfl, hb, hl, hm, hlen, hel, _, _⟩
  · exact ⟨[], ⟨none, 0, rfl, by simp, rfl, by simp, by simp⟩, by simp, by simp⟩
  obtain ⟨xs, hxl, hx⟩ := all_of_each len (fun i y => wf y ∧ ∃ c, c.length = d.sz ∧ d.K w y c ∧ ∀ j u, c[j]? = some u → w.cell? (a.add (i * d.sz + j)) = some u) (fun i hi => by
    have h1 := hel i hi
    rw [List.getElem?_eq_getElem (by omega)] at h1
    obtain ⟨c, hc, hy⟩ := Option.bind_eq_some_iff.mp h1
    obtain ⟨_, hcl, hcell⟩ := World.cells?_some hc
    obtain ⟨y, hk, hw⟩ := hd.out _ _ _ _ _ _ _ _ hy
    refine ⟨y, hw, c, by omega, hk, fun j u hu => ?_⟩
    have hj : j < P.cellsOf e := by
      rcases Nat.lt_or_ge j c.length with h' | h'
      · omega
      · rw [List.getElem?_eq_none h'] at hu; cases hu
    have h2 := hcell j hj
    rw [hu] at h2
    rw [← hs, ← h2, addr_add_add])
  subst hxl
  refine ⟨xs, ⟨some a, cap, rfl, hl, rfl, by have : maxLen = 9223372036854775807 := rfl; omega, fun _ => ⟨a, rfl, fun j p hp => (hx j p hp).2⟩⟩, by omega, fun x hxm => ?_⟩
  obtain ⟨i, hi, rfl⟩ := List.getElem_of_mem hxm
  exact (hx i _ (List.getElem?_eq_getElem hi)).1
/-- The fields of a struct, from a cell on. -/
structure OpensF {α : Type} (P : Program) (fs : List Field) (off : Nat) (d : Kd α) (wf : α → Prop) : Prop where
  out : ∀ {H : Type} (enc : TypeId × Value → H) (w : World) (base : Nat) (sp : Nat → Bool) (held : Bool) (n : Nat) (cs : List Value),
    cs.length = off + d.sz → (∀ f ∈ fs, ∃ y, DataW.trod enc P w base sp held n f.type ((cs.drop f.offset).take (P.cellsOf f.type)) = some y) → ∃ a, d.K w a (cs.drop off) ∧ wf a
theorem OpensF.one {α : Type} {P : Program} {f : Field} {d : Kd α} {wf : α → Prop} (hd : Opens P f.type d wf) (hs : P.cellsOf f.type = d.sz) : OpensF P [f] f.offset d wf := by
  constructor
  intro H enc w base sp held n cs hl hf
  obtain ⟨y, hy⟩ := hf f (by simp)
  rw [List.take_of_length_le (by rw [List.length_drop]; omega)] at hy
  exact hd.out _ _ _ _ _ _ _ _ hy
theorem OpensF.cons {α β : Type} {P : Program} {f : Field} {fs : List Field} {d : Kd α} {d1 : Kd β} {wf : α → Prop} {wf1 : β → Prop} (hd : Opens P f.type d wf) (hs : P.cellsOf f.type = d.sz) (h1 : OpensF P fs (f.offset + d.sz) d1 wf1) :
    OpensF P (f :: fs) f.offset (Kd.pair d d1) (fun p => wf p.1 ∧ wf1 p.2) := by
  constructor
  intro H enc w base sp held n cs hl hf
  have hl' : cs.length = f.offset + (d.sz + d1.sz) := hl
  obtain ⟨y, hy⟩ := hf f (by simp)
  obtain ⟨a, ha, wa⟩ := hd.out _ _ _ _ _ _ _ _ hy
  obtain ⟨b, hb, wb⟩ := h1.out enc w base sp held n cs (by omega) (fun g hg => hf g (by simp [hg]))
  refine ⟨(a, b), ⟨_, _, ?_, ha, hb⟩, wa, wb⟩
  rw [hs, ← List.drop_drop, List.take_append_drop]
theorem Opens.struct {α : Type} {P : Program} {t : TypeId} {fs : Array Field} {d : Kd α} {wf : α → Prop} (ht : P.underlying t = some (.struct fs)) (hs : P.cellsOf t = d.sz) (hf : OpensF P fs.toList 0 d wf) : Opens P t d wf := by
  constructor
  intro H enc w base sp held n cs x h
  obtain ⟨xs, m, rfl, rfl, hl, hxl, hx⟩ := DataW.trod_struct ht h
  have := hf.out enc w base sp held m cs (by omega) (fun f hfm => by
    obtain ⟨i, hi, rfl⟩ := List.getElem_of_mem hfm
    have hi' : i < fs.size := by simpa using hi
    refine ⟨xs[i]'(by omega), ?_⟩
    rw [hx i _ (by simp [hi'])]
    rw [List.getElem?_eq_getElem])
  simpa using this
theorem Opens.iso {α β : Type} {P : Program} {t : TypeId} {d : Kd α} {wf : α → Prop} {f : β → α} (h : Opens P t d wf) (g : ∀ a, ∃ b, f b = a) : Opens P t (Kd.iso d f) (fun b => wf (f b)) := by
  constructor
  intro H enc w base sp held n cs x hx
  obtain ⟨a, ha, wa⟩ := h.out enc w base sp held n cs x hx
  obtain ⟨b, rfl⟩ := g a
  exact ⟨b, ha, wa⟩
end Go.Proofs.YtabmfhnhmoiljaaGreatDoor.U
