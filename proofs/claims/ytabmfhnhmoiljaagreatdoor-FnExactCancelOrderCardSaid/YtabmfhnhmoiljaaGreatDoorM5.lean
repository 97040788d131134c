/- Parts of the proof: what single Go functions compute, each with its walk, and plain laws over these. -/
import Derived.Test.YtabmfhnhmoiljaaGreatDoorM0
import Derived.Test.YtabmfhnhmoiljaaGreatDoorM1
import Derived.Test.YtabmfhnhmoiljaaGreatDoorM3
import Derived.Lib.AtoiAllCases
import Derived.Test.YtabmfhnhmoiljaaGreatDoorM4
import Derived.Test.YtabmfhnhmoiljaaGreatDoorM2
import Derived.Lib.Strings
import Derived.Lib.Bytealg
import Derived.Sort.Walk0
import Derived.WalkKit
import Derived.ProofKit
import Derived.OpenShut
import Derived.ShutString
import Derived.ChangeOld
import Derived.Below
import Derived.ChangeArms
import Derived.DataReads
import Derived.Test.YtabmfhnhmoiljaaGreatDoorVWords
/- Amounts: the number that a text tells, as the program and as the reference read it. -/
namespace Go.Proofs.YtabmfhnhmoiljaaGreatDoor.U
open Go Go.RowKit Go.Proofs.YtabmfhnhmoiljaaGreatDoor.Q Go.Proofs.YtabmfhnhmoiljaaGreatDoorW.PrintWords Go.Proofs.YtabmfhnhmoiljaaGreatDoorW.PrintLast Go.Proofs.YtabmfhnhmoiljaaGreatDoorW.PrintMore
set_option linter.unusedVariables false
set_option linter.unusedSimpArgs false

theorem nd_small (j v : Nat) (h : v < 10 ^ (j + 1)) : Lib.nDigits v ≤ j + 1 := by
  induction j generalizing v with
  | zero => rw [Lib.nDigits, dif_pos (by simpa using h)]; omega
  | succ j ih =>
    rw [Lib.nDigits]
    split
    · omega
    · have := ih (v / 10) (by rw [Nat.pow_succ] at h; omega); omega
theorem digV_size (v : Nat) (h : v ≤ 1000000000000000000) : (digV v).size ≤ 19 := by
  show (Lib.decDigits v).toArray.size ≤ 19
  rw [List.size_toArray, Lib.decDigits_length]
  exact nd_small 18 v (by omega)
theorem dec_big {v : Nat} (h : ¬ v < 10) : Lib.decDigits v = Lib.decDigits (v / 10) ++ [UInt8.ofNat (48 + v % 10)] := by
  conv => lhs; rw [Lib.decDigits, dif_neg h]
theorem chr_nat (d : Nat) (h : d < 10) : (UInt8.ofNat (48 + d)).toNat = 48 + d := by
  rw [UInt8.toNat_ofNat']; omega

/-- Digits, one behind the other, onto what those ahead tell. -/
def telD (x : Nat) : List UInt8 → Option Nat
  | [] => some x
  | c :: r => if c.toNat < 48 ∨ 57 < c.toNat then none else if (1000000000000000000 - (c.toNat - 48)) / 10 < x then none else telD (x * 10 + (c.toNat - 48)) r
theorem telD_append (l r : List UInt8) : ∀ x, telD x (l ++ r) = (telD x l).bind fun y => telD y r := by
  induction l with
  | nil => intro x; rfl
  | cons c l ih =>
    intro x
    simp only [List.cons_append, telD]
    split
    · rfl
    · split
      · rfl
      · exact ih _
theorem telD_one (x d : Nat) (hd : d < 10) (h : x * 10 + d ≤ 1000000000000000000) : telD x [UInt8.ofNat (48 + d)] = some (x * 10 + d) := by
  simp only [telD, chr_nat d hd]
  rw [if_neg (by omega), if_neg (by omega)]
  congr 1; omega
theorem telD_dec (v : Nat) (h : v ≤ 1000000000000000000) : telD 0 (Lib.decDigits v) = some v := by
  induction v using Nat.strongRecOn with
  | _ v ih =>
    by_cases hv : v < 10
    · rw [Lib.decDigits_one hv, telD_one 0 v hv (by omega)]; congr 1; omega
    · rw [dec_big hv, telD_append, ih (v / 10) (by omega) (by omega)]
      show telD (v / 10) _ = _
      rw [telD_one _ _ (by omega) (by omega)]; congr 1; omega
/-- No needless naught ahead. -/
def plainB (l : List UInt8) : Bool := decide (l ≠ []) && (decide (l.length = 1) || decide (l.head? ≠ some 48))
theorem snoc_cases {α : Type} (l : List α) : l = [] ∨ ∃ (i : List α) (c : α), l = i ++ [c] := by
  rcases List.eq_nil_or_concat l with h | ⟨i, c, h⟩
  · exact .inl h
  · exact .inr ⟨i, c, by rw [h, List.concat_eq_append]⟩
theorem telD_snoc {l : List UInt8} {c : UInt8} {n : Nat} (h : telD 0 (l ++ [c]) = some n) :
    ∃ m, telD 0 l = some m ∧ 48 ≤ c.toNat ∧ c.toNat ≤ 57 ∧ n = m * 10 + (c.toNat - 48) ∧ n ≤ 1000000000000000000 := by
  rw [telD_append] at h
  obtain ⟨m, h1, h2⟩ := Option.bind_eq_some_iff.mp h
  refine ⟨m, h1, ?_⟩
  simp only [telD] at h2
  split at h2
  · cases h2
  · split at h2
    · cases h2
    · injection h2 with h2
      omega
theorem dec_of_telD (k : Nat) : ∀ (l : List UInt8) (n : Nat), l.length = k → plainB l = true → telD 0 l = some n → l = Lib.decDigits n ∧ n ≤ 1000000000000000000 := by
  induction k with
  | zero =>
    intro l n hl hp h
    have : l = [] := List.length_eq_zero_iff.1 hl
    subst this
    simp [plainB] at hp
  | succ k ih =>
    intro l n hl hp h
    rcases snoc_cases l with rfl | ⟨i, c, rfl⟩
    · simp at hl
    obtain ⟨m, h1, h2, h3, h4, h5⟩ := telD_snoc h
    refine ⟨?_, h5⟩
    by_cases hi : i = []
    · subst hi
      simp only [telD, Option.some.injEq] at h1
      subst h1
      rw [Lib.decDigits_one (by omega), h4]
      simp only [List.nil_append, List.cons.injEq, and_true]
      apply UInt8.toNat_inj.1
      rw [chr_nat _ (by omega)]; omega
    · have hne : i.head? ≠ some 48 := by
        simp only [plainB, Bool.and_eq_true, Bool.or_eq_true, decide_eq_true_iff] at hp
        rcases hp.2 with hp | hp
        · rw [List.length_append, List.length_singleton] at hp
          exact absurd (List.length_eq_zero_iff.1 (by omega)) hi
        · cases i with
          | nil => exact absurd rfl hi
          | cons a i => simpa using hp
      obtain ⟨e, _⟩ := ih i m (by rw [List.length_append, List.length_singleton] at hl; omega) (by simp only [plainB, Bool.and_eq_true, Bool.or_eq_true, decide_eq_true_iff]; exact ⟨hi, .inr hne⟩) h1
      have hm : m ≠ 0 := by
        rintro rfl
        rw [e, Lib.decDigits_one (by omega)] at hne
        exact hne rfl
      rw [dec_big (v := n) (by omega)]
      have e1 : n / 10 = m := by omega
      have e2 : n % 10 = c.toNat - 48 := by omega
      rw [e1, e2, ← e]
      congr 2
      apply UInt8.toNat_inj.1
      rw [chr_nat _ (by omega)]; omega
theorem dec_head (v : Nat) : ∃ d r, d < 10 ∧ Lib.decDigits v = UInt8.ofNat (48 + d) :: r := by
  induction v using Nat.strongRecOn with
  | _ v ih =>
    by_cases hv : v < 10
    · exact ⟨v, [], hv, Lib.decDigits_one hv⟩
    · obtain ⟨d, r, hd, e⟩ := ih (v / 10) (by omega)
      exact ⟨d, r ++ [UInt8.ofNat (48 + v % 10)], hd, by rw [dec_big hv, e]; rfl⟩
theorem dec_plain (v : Nat) : plainB (Lib.decDigits v) = true := by
  have hne : Lib.decDigits v ≠ [] := fun e => by
    have h := Lib.decDigits_length v
    rw [e] at h
    have := Lib.nDigits_pos v
    simp at h; omega
  have hd : Lib.nDigits v = 1 ∨ (Lib.decDigits v).head? ≠ some 48 := by
    induction v using Nat.strongRecOn with
    | _ v ih =>
      by_cases hv : v < 10
      · exact .inl (Lib.nDigits_small hv)
      · right
        obtain ⟨d, r, hd, e⟩ := dec_head (v / 10)
        by_cases hv2 : v / 10 < 10
        · rw [dec_big hv, Lib.decDigits_one hv2]
          simp only [List.cons_append, List.head?_cons, ne_eq, Option.some.injEq]
          intro e
          have := congrArg UInt8.toNat e
          rw [chr_nat _ hv2] at this
          have e48 : (48 : UInt8).toNat = 48 := rfl
          omega
        · rcases ih (v / 10) (by omega) (by rw [e]; simp) with h | h
          · rw [Lib.nDigits_big hv2] at h
            have := Lib.nDigits_pos (v / 10 / 10)
            omega
          · rw [e] at h
            rw [dec_big hv, e]
            exact h
  simp only [plainB, Bool.and_eq_true, Bool.or_eq_true, decide_eq_true_iff]
  refine ⟨hne, ?_⟩
  rcases hd with h | h
  · left; rw [Lib.decDigits_length, h]
  · exact .inr h
/-- The amount of a text, where it tells one. -/
def amtO (a : ByteArray) : Option Nat := if plainB a.data.toList = true then telD 0 a.data.toList else none
theorem amtO_iff (a : ByteArray) (n : Nat) : amtO a = some n ↔ a = digV n ∧ n ≤ 1000000000000000000 := by
  unfold amtO
  constructor
  · intro h
    split at h
    · rename_i hp
      obtain ⟨e, hn⟩ := dec_of_telD _ _ n rfl hp h
      refine ⟨?_, hn⟩
      apply ByteArray.ext
      apply Array.toList_inj.mp
      rw [e]
      rfl
    · cases h
  · rintro ⟨rfl, hn⟩
    have e : (digV n).data.toList = Lib.decDigits n := rfl
    rw [e, if_pos (dec_plain n)]
    exact telD_dec n hn
def amtV (a : ByteArray) : Int := match amtO a with | some n => (n : Int) | none => -1
theorem amtV_digV (n : Nat) (h : n ≤ 1000000000000000000) : amtV (digV n) = n := by
  unfold amtV
  rw [(amtO_iff _ n).2 ⟨rfl, h⟩]
theorem amtV_eq {a : ByteArray} (h : 0 ≤ amtV a) : a = digV (amtV a).toNat ∧ amtV a ≤ 1000000000000000000 := by
  unfold amtV at *
  cases e : amtO a with
  | none => rw [e] at h; simp at h
  | some n =>
    obtain ⟨h1, h2⟩ := (amtO_iff a n).1 e
    exact ⟨by simpa using h1, by simp only; omega⟩
theorem amtV_low (a : ByteArray) : -1 ≤ amtV a := by
  unfold amtV
  split <;> omega

/-! ### the program's -/
theorem parse_append (l r : List UInt8) : ∀ x, Lib.parseUint10 x (l ++ r) = match Lib.parseUint10 x l with | .ok u => Lib.parseUint10 u r | .syntax => .syntax | .range => .range := by
  induction l with
  | nil => intro x; rfl
  | cons c l ih =>
    intro x
    simp only [List.cons_append, Lib.parseUint10]
    split
    · split
      · rfl
      · split
        · rfl
        · exact ih _
    · rfl
theorem parse_one (x d : Nat) (hd : d < 10) (h : x * 10 + d < 9223372036854775808) : Lib.parseUint10 x [UInt8.ofNat (48 + d)] = .ok (x * 10 + d) := by
  simp only [Lib.parseUint10, chr_nat d hd]
  rw [if_pos (by omega), if_neg (by omega), if_neg (by omega)]
  congr 1; omega
theorem parse_dec (v : Nat) (h : v < 9223372036854775808) : Lib.parseUint10 0 (Lib.decDigits v) = .ok v := by
  induction v using Nat.strongRecOn with
  | _ v ih =>
    by_cases hv : v < 10
    · rw [Lib.decDigits_one hv, parse_one 0 v hv (by omega)]; congr 1; omega
    · rw [dec_big hv, parse_append, ih (v / 10) (by omega) (by omega)]
      show Lib.parseUint10 (v / 10) _ = _
      rw [parse_one _ _ (by omega) (by omega)]; congr 1; omega
theorem atoi_dec (v : Nat) (h : v < 9223372036854775808) : Lib.atoiAll (Lib.decDigits v) = .ok (v : Int) := by
  obtain ⟨d, r, hd, e⟩ := dec_head v
  have h1 := parse_dec v h
  rw [e] at h1 ⊢
  rw [Lib.atoiAll_plain _ _ (by rw [chr_nat d hd]; omega) (by rw [chr_nat d hd]; omega)]
  unfold Lib.parseMag
  rw [if_neg (by simp), h1]
  simp only [Lib.signless]
  rw [if_neg (by omega)]
theorem toList_eq_iff (a b : ByteArray) : a.toList = b.toList ↔ a = b := by
  constructor
  · intro h
    rw [ByteArray.toList_eq, ByteArray.toList_eq] at h
    exact ByteArray.ext (Array.toList_inj.mp h)
  · rintro rfl; rfl
theorem readAmount_eq (a : ByteArray) (hs : a.size ≤ 281474976710656) : impl_readAmount.f a = some (if 0 ≤ amtV a then (amtV a, true) else (0, false)) := by
  unfold impl_readAmount.f
  rw [if_pos hs]
  by_cases h : 0 ≤ amtV a
  · obtain ⟨e, hn⟩ := amtV_eq h
    rw [if_pos h]
    generalize amtV a = n at *
    have e1 : Lib.atoiAll a.data.toList = .ok n := by
      have := atoi_dec n.toNat (by omega)
      rw [e]
      rw [show ((n.toNat : Nat) : Int) = n by omega] at this
      exact this
    rw [e1]
    simp only [if_pos h, if_pos hn]
    rw [itoa_eq n h, ← e, if_pos rfl]
  · rw [if_neg h]
    cases hh : Lib.atoiAll a.data.toList with
    | «syntax» => rfl
    | range => rfl
    | ok v =>
      simp only
      by_cases h0 : 0 ≤ v
      · rw [if_pos h0]
        by_cases h1 : v ≤ 1000000000000000000
        · rw [if_pos h1, itoa_eq v h0]
          by_cases h2 : (digV v.toNat).toList = a.toList
          · exfalso
            have e := (toList_eq_iff _ _).1 h2
            apply h
            rw [← e, amtV_digV _ (by omega)]
            omega
          · rw [if_neg h2]
        · rw [if_neg h1]
      · rw [if_neg h0]

/-! ### the reference's -/
theorem bt_get (a : ByteArray) (i : Nat) (h : i < a.size) : bt a (i : Int) = ((a.data.toList[i]'(by rw [Array.length_toList]; exact h)).toNat : Int) := by
  unfold bt
  rw [dif_pos (by simpa using h)]
  simp
  rfl
def telI (x : Nat) (l : List UInt8) : Int := match telD x l with | some n => (n : Int) | none => -1
theorem l02Of_go (a : ByteArray) (hs : a.size ≤ 19) : ∀ (d i x : Nat), i + d = a.size → x ≤ 1000000000000000000 → Ev (fun k => spec_l02Of.l0 k a (x : Int) (i : Int)) (telI x (a.data.toList.drop i)) := by
  intro d
  induction d with
  | zero =>
    intro i x hi hx
    refine Ev.step (fun k => ?_) (Ev.now _)
    rw [spec_l02Of.l0, if_neg (by omega), List.drop_of_length_le (by rw [Array.length_toList]; show a.size ≤ i; omega)]
    rfl
  | succ d ih =>
    intro i x hi hx
    have hlt : i < a.size := by omega
    have hb := bt_get a i hlt
    have hl : i < a.data.toList.length := by rw [Array.length_toList]; exact hlt
    rw [List.drop_eq_getElem_cons hl]
    generalize a.data.toList[i] = c at *
    have hc := UInt8.toNat_lt c
    unfold telI
    simp only [telD]
    by_cases h1 : c.toNat < 48 ∨ 57 < c.toNat
    · rw [if_pos h1]
      refine Ev.step (f := fun k => spec_l02Of.j2 k a (x : Int) (i : Int) true) (fun k => ?_) (Ev.step (fun k => by rw [spec_l02Of.j2, if_pos rfl]) (Ev.now _))
      rw [spec_l02Of.l0, if_pos (by omega), if_pos (by omega), hb]
      by_cases h2 : c.toNat < 48
      · rw [if_pos (by omega)]
      · rw [if_neg (by omega), decide_eq_true (by omega)]
    · rw [if_neg h1]
      refine Ev.step (f := fun k => spec_l02Of.j2 k a (x : Int) (i : Int) false) (fun k => ?_) ?_
      · rw [spec_l02Of.l0, if_pos (by omega), if_pos (by omega), hb, if_neg (by omega), decide_eq_false (by omega)]
      · have e1 : ((c.toNat : Int) - 48) % 256 = ((c.toNat - 48 : Nat) : Int) := by omega
        by_cases h3 : (1000000000000000000 - (c.toNat - 48)) / 10 < x
        · rw [if_pos h3]
          refine Ev.step (fun k => ?_) (Ev.now _)
          rw [spec_l02Of.j2, if_neg (by decide), if_pos (by omega), if_pos (by omega), hb, e1, if_pos (by omega)]
        · rw [if_neg h3]
          have := ih (i + 1) (x * 10 + (c.toNat - 48)) (by omega) (by omega)
          refine Ev.step (fun k => ?_) this
          rw [spec_l02Of.j2, if_neg (by decide), if_pos (by omega), if_pos (by omega), hb, e1, if_neg (by omega), wid (n := (x : Int) * 10) (by omega) (by omega), wid (n := (x : Int) * 10 + _) (by omega) (by omega), wid (n := (i : Int) + 1) (by omega) (by omega)]
          rfl
theorem l02Of_ev (a : ByteArray) (hs : a.size ≤ 9223372036854775807) : Ev (fun k => spec_l02Of.f k a) (amtV a) := by
  have hbad : amtV a = -1 → Ev (fun k => spec_l02Of.j0 k a true) (amtV a) := fun e => by
    rw [e]; exact Ev.step (fun k => by rw [spec_l02Of.j0, if_pos rfl]) (Ev.now _)
  have hln : a.data.toList.length = a.size := by rw [Array.length_toList]; rfl
  have hbig : 19 < a.size → amtV a = -1 := fun h => by
    by_cases h0 : 0 ≤ amtV a
    · obtain ⟨e, hn⟩ := amtV_eq h0
      have := digV_size (amtV a).toNat (by omega)
      rw [← e] at this
      omega
    · have := amtV_low a; omega
  have hgo : Ev (fun k => spec_l02Of.l0 k a 0 0) (telI 0 a.data.toList) ∨ 19 < a.size := by
    by_cases h : 19 < a.size
    · exact .inr h
    · exact .inl (by have := l02Of_go a (by omega) a.size 0 0 (by omega) (by omega); simpa using this)
  unfold spec_l02Of.f spec_l01In.f
  by_cases h1 : (a.size : Int) ≥ 1
  · simp only [if_pos h1, Option.bind_some]
    by_cases h2 : (a.size : Int) ≤ 19
    · simp only [decide_eq_true h2, if_true]
      have hg : Ev (fun k => spec_l02Of.l0 k a 0 0) (telI 0 a.data.toList) := by
        rcases hgo with h | h
        · exact h
        · omega
      by_cases h3 : (a.size : Int) > 1
      · simp only [if_pos h3, if_pos (show (0 : Int) < (a.size : Int) by omega)]
        have hb := bt_get a 0 (by omega)
        have hh : a.data.toList.head? = some (a.data.toList[0]'(by omega)) := by rw [List.head?_eq_getElem?, List.getElem?_eq_getElem]
        by_cases h4 : a.data.toList[0]'(by omega) = 48
        · have e : (bt a 0 == 48) = true := by rw [beq_iff_eq]; have := hb; rw [h4] at this; exact this
          simp only [e]
          refine hbad ?_
          unfold amtV amtO
          rw [if_neg]
          simp only [plainB, Bool.and_eq_true, Bool.or_eq_true, decide_eq_true_iff, hh, h4]
          rintro ⟨_, h | h⟩
          · omega
          · exact h rfl
        · have e : (bt a 0 == 48) = false := by
            rw [beq_eq_false_iff_ne]
            intro h5
            apply h4
            apply UInt8.toNat_inj.1
            have e48 : (48 : UInt8).toNat = 48 := rfl
            have := hb.symm.trans h5
            omega
          simp only [e]
          refine Ev.step (fun k => by rw [spec_l02Of.j0, if_neg (by decide)]) ?_
          have e2 : amtV a = telI 0 a.data.toList := by
            unfold amtV amtO telI
            rw [if_pos]
            simp only [plainB, Bool.and_eq_true, Bool.or_eq_true, decide_eq_true_iff, hh]
            refine ⟨fun e0 => ?_, .inr (fun e0 => h4 (Option.some.inj e0))⟩
            rw [e0] at hln; simp at hln; omega
          rw [e2]
          exact hg
      · simp only [if_neg h3]
        refine Ev.step (fun k => by rw [spec_l02Of.j0, if_neg (by decide)]) ?_
        have e2 : amtV a = telI 0 a.data.toList := by
          unfold amtV amtO telI
          rw [if_pos]
          simp only [plainB, Bool.and_eq_true, Bool.or_eq_true, decide_eq_true_iff]
          refine ⟨fun e0 => ?_, .inl (by omega)⟩
          rw [e0] at hln; simp at hln; omega
        rw [e2]
        exact hg
    · simp only [decide_eq_false h2, Bool.false_eq_true, if_false]
      exact hbad (hbig (by omega))
  · simp only [if_neg h1, Option.bind_some, Bool.false_eq_true, if_false]
    refine hbad ?_
    unfold amtV amtO
    have : a.data.toList = [] := List.length_eq_zero_iff.1 (by omega)
    rw [this]
    rfl
end Go.Proofs.YtabmfhnhmoiljaaGreatDoor.U

/- Fields: how the program writes texts in line. -/
namespace Go.Proofs.YtabmfhnhmoiljaaGreatDoor.U
open Go Go.RowKit Go.Proofs.YtabmfhnhmoiljaaGreatDoor.Q Go.Proofs.YtabmfhnhmoiljaaGreatDoorW.PrintWords Go.Proofs.YtabmfhnhmoiljaaGreatDoorW.PrintLast Go.Proofs.YtabmfhnhmoiljaaGreatDoorW.PrintMore
set_option linter.unusedVariables false
set_option linter.unusedSimpArgs false

theorem w00 : wrap64 (0 - 1) = -1 := by rw [wid (n := 0 - 1) (by decide) (by decide)]; rfl
theorem w10 : wrap64 (1 - 1) = 0 := by rw [wid (n := 1 - 1) (by decide) (by decide)]; rfl
theorem w21 : wrap64 (2 - 1) = 1 := by rw [wid (n := 2 - 1) (by decide) (by decide)]; rfl
theorem number_end (n : Int) (l : List Int) : Ev (fun k => impl_number.l0 k n l (-1)) (strOfNums l) := Ev.step (fun k => by rw [impl_number.l0, if_neg (by decide)]) (Ev.now _)
theorem number1_ev (n : Int) : Ev (fun k => impl_number.f k n 1) (strOfNums [n % 256]) := by
  unfold impl_number.f
  simp only [if_pos (show (0 : Int) ≤ 1 by omega), if_pos (show (1 : Int).toNat ≤ 281474976710656 by decide), w10, show List.replicate (1 : Int).toNat (0 : Int) = [0] from rfl]
  refine Ev.step (fun k => ?_) (number_end (n / 256) [n % 256])
  rw [impl_number.l0, if_pos (by decide), if_pos (by decide), if_pos (by decide), w00]
  rfl
theorem number2_ev (n : Int) : Ev (fun k => impl_number.f k n 2) (strOfNums [n / 256 % 256, n % 256]) := by
  unfold impl_number.f
  simp only [if_pos (show (0 : Int) ≤ 2 by omega), if_pos (show (2 : Int).toNat ≤ 281474976710656 by decide), w21, show List.replicate (2 : Int).toNat (0 : Int) = [0, 0] from rfl]
  refine Ev.step (f := fun k => impl_number.l0 k (n / 256) [0, n % 256] 0) (fun k => ?_) (Ev.step (fun k => ?_) (number_end (n / 256 / 256) [n / 256 % 256, n % 256]))
  · rw [impl_number.l0, if_pos (by decide), if_pos (by decide), if_pos (by decide), w10]
    rfl
  · rw [impl_number.l0, if_pos (by decide), if_pos (by decide), if_pos (by simp), w00]
    rfl
/-- One text behind its length. -/
def fieldV (t : ByteArray) : ByteArray := strOfNums [(t.size : Int) / 256 % 256, (t.size : Int) % 256] ++ t
def restV : List ByteArray → ByteArray
  | [] => ByteArray.empty
  | t :: ts => fieldV t ++ restV ts
def fieldsV (l : List ByteArray) : ByteArray := strOfNums [(l.length : Int) % 256] ++ restV l
theorem nums_size (l : List Int) : (strOfNums l).size = l.length := by simp [strOfNums, ByteArray.size]
theorem fields_go (l : List ByteArray) (M : Nat) (hl : l.length ≤ 1000) (hM : M ≤ 4611686018427387904) (hx : ∀ x ∈ l, x.size ≤ 1048576) : ∀ (d i : Nat) (o : ByteArray), i + d = l.length → o.size ≤ i * 1048580 + 1048580 →
    Ev (fun k => impl_fields.l0 k o l (l.length : Int) (i : Int)) (o ++ restV (l.drop i)) := by
  intro d
  induction d with
  | zero =>
    intro i o hi ho
    refine Ev.step (fun k => ?_) (Ev.now _)
    rw [impl_fields.l0, if_neg (by omega), List.drop_of_length_le (by omega)]
    simp [restV]
  | succ d ih =>
    intro i o hi ho
    have hlt : i < l.length := by omega
    have hr : rdOf ByteArray.empty l (i : Int) = l[i] := by simp [rdOf, List.getD_eq_getElem?_getD, List.getElem?_eq_getElem hlt]
    have hs := hx _ (List.getElem_mem hlt)
    refine Ev.step (f := fun k => (impl_number.f k (l[i].size : Int) 2).bind fun t => if t.size + l[i].size ≤ 9223372036854775807 then (if o.size + (t ++ l[i]).size ≤ 9223372036854775807 then impl_fields.l0 k (o ++ (t ++ l[i])) l (l.length : Int) ((i + 1 : Nat) : Int) else none) else none) (fun k => ?_) ?_
    · rw [impl_fields.l0, if_pos (by omega), if_pos (by omega), if_pos (by omega), hr, wid (n := (i : Int) + 1) (by omega) (by omega)]
      rfl
    · refine Ev.bind (number2_ev _) ?_
      have h1 : (strOfNums [(l[i].size : Int) / 256 % 256, (l[i].size : Int) % 256]).size = 2 := by rw [nums_size]; rfl
      have h2 : (strOfNums [(l[i].size : Int) / 256 % 256, (l[i].size : Int) % 256] ++ l[i]).size = 2 + l[i].size := by rw [ByteArray.size_append, h1]
      simp only [h1, h2, if_pos (show 2 + l[i].size ≤ 9223372036854775807 by omega), if_pos (show o.size + (2 + l[i].size) ≤ 9223372036854775807 by omega)]
      have h3 := ih (i + 1) (o ++ fieldV l[i]) (by omega) (by rw [ByteArray.size_append]; show o.size + (fieldV l[i]).size ≤ _; unfold fieldV; rw [h2]; omega)
      rw [List.drop_eq_getElem_cons hlt, restV]
      rw [ByteArray.append_assoc] at h3
      exact h3
theorem fields_ev (l : List ByteArray) (hl : l.length ≤ 1000) (hx : ∀ x ∈ l, x.size ≤ 1048576) : Ev (fun k => impl_fields.f k l) (fieldsV l) := by
  unfold impl_fields.f fieldsV
  refine Ev.bind (number1_ev _) ?_
  have := fields_go l 0 hl (by omega) hx l.length 0 (strOfNums [(l.length : Int) % 256]) (by omega) (by rw [nums_size]; simp)
  simpa using this
end Go.Proofs.YtabmfhnhmoiljaaGreatDoor.U

/- Fields that are read back from a text: as the program and as the reference read them. -/
namespace Go.Proofs.YtabmfhnhmoiljaaGreatDoor.U
open Go Go.RowKit Go.Proofs.YtabmfhnhmoiljaaGreatDoor.Q Go.Proofs.YtabmfhnhmoiljaaGreatDoorW.PrintWords Go.Proofs.YtabmfhnhmoiljaaGreatDoorW.PrintLast Go.Proofs.YtabmfhnhmoiljaaGreatDoorW.PrintMore
set_option linter.unusedVariables false
set_option linter.unusedSimpArgs false

theorem size_data (a : ByteArray) : a.data.toList.length = a.size := by rw [Array.length_toList]; rfl
theorem ext_list {a b : ByteArray} (h : a.data.toList = b.data.toList) : a = b := ByteArray.ext (Array.toList_inj.mp h)
theorem extract_list (a : ByteArray) (i j : Nat) : (a.extract i j).data.toList = (a.data.toList.take j).drop i := by
  rw [ByteArray.data_extract, Array.toList_extract]
  simp [List.extract_eq_take_drop, List.drop_take]
theorem bt_list (a : ByteArray) (i : Nat) (h : i < a.size) : bt a (i : Int) = ((a.data.toList.getD i 0).toNat : Int) := by
  unfold bt
  rw [dif_pos (by simpa using h), List.getD_eq_getElem?_getD, List.getElem?_eq_getElem (by rw [size_data]; exact h)]
  simp
  rfl
theorem size_ext (a : ByteArray) (i j : Nat) : (a.extract i j).size = min j a.size - i := by
  rw [← size_data, extract_list, List.length_drop, List.length_take, size_data]
theorem ext_ext (a : ByteArray) (p i j : Nat) : (a.extract p a.size).extract i j = a.extract (p + i) (p + j) := by
  apply ext_list
  rw [extract_list, extract_list, extract_list, List.take_of_length_le (i := a.size) (by rw [size_data]; exact Nat.le_refl _)]
  rw [List.take_drop, List.drop_drop]
theorem ext_cap (a : ByteArray) (i j : Nat) (h : a.size ≤ j) : a.extract i j = a.extract i a.size := by
  apply ext_list
  rw [extract_list, extract_list, List.take_of_length_le (by rw [size_data]; exact h), List.take_of_length_le (by rw [size_data]; exact Nat.le_refl _)]
theorem bt_ext (a : ByteArray) (p j i : Nat) (h : p + i < min j a.size) : bt (a.extract p j) (i : Int) = bt a ((p + i : Nat) : Int) := by
  rw [bt_list _ _ (by rw [size_ext]; omega), bt_list _ _ (by omega), extract_list]
  congr 2
  rw [List.getD_eq_getElem?_getD, List.getD_eq_getElem?_getD, List.getElem?_drop, List.getElem?_take, if_pos (by omega)]

/-- The first two bytes' number. -/
def hd2 (s : ByteArray) : Nat := (bt s 0 * 256 + bt s 1).toNat
def readN : Nat → ByteArray → Option (List ByteArray)
  | 0, s => if s.size = 0 then some [] else none
  | n + 1, s => if s.size < 2 then none else if 1000 < hd2 s then none else if s.size < 2 + hd2 s then none else (readN n (s.extract (2 + hd2 s) s.size)).map (s.extract 2 (2 + hd2 s) :: ·)
def readV (a : ByteArray) : Option (List ByteArray) := if a.size = 0 then none else if 40 < bt a 0 then none else readN (bt a 0).toNat (a.extract 1 a.size)
/-- What a reader answers. -/
def readR (x : List ByteArray) (out : List ByteArray) : Option (List ByteArray) → List ByteArray × Bool
  | some l => (out ++ l, true)
  | none => (x, false)

theorem hd2_bd (s : ByteArray) : hd2 s ≤ 65535 ∧ ((hd2 s : Nat) : Int) = bt s 0 * 256 + bt s 1 := by
  have h0 := bt_range s 0
  have h1 := bt_range s 1
  unfold hd2
  omega
theorem numberOf_ev (s : ByteArray) (h : s.size = 2) : Ev (fun k => impl_numberOf.f k s) (hd2 s : Int) := by
  have h0 := bt_range s 0
  have h1 := bt_range s 1
  rw [(hd2_bd s).2]
  unfold impl_numberOf.f
  rw [show ((s.size : Nat) : Int) = 2 by omega]
  refine Ev.step (f := fun k => impl_numberOf.l0 k s (bt s 0) 2 1) (fun k => ?_) (Ev.step (f := fun k => impl_numberOf.l0 k s (bt s 0 * 256 + bt s 1) 2 2) (fun k => ?_) (Ev.step (fun k => ?_) (Ev.now _)))
  · rw [impl_numberOf.l0, if_pos (by decide), if_pos (by decide), if_pos (by omega)]
    rw [wid (n := 0 * 256) (by decide) (by decide), wid (n := bt s 0) (by omega) (by omega), wid (by omega) (by omega), wid (n := 0 + 1) (by decide) (by decide)]
    congr 1; omega
  · rw [impl_numberOf.l0, if_pos (by decide), if_pos (by decide), if_pos (by omega)]
    rw [wid (n := bt s 0 * 256) (by omega) (by omega), wid (n := bt s 1) (by omega) (by omega), wid (by omega) (by omega), wid (n := 1 + 1) (by decide) (by decide)]
    rfl
  · rw [impl_numberOf.l0, if_neg (by decide)]
set_option maxHeartbeats 2000000 in
theorem readFields_go (N : Nat) (hN : N ≤ 40) : ∀ (d i : Nat) (out : List ByteArray) (s : ByteArray), i + d = N → out.length ≤ i → s.size ≤ 9223372036854000000 →
    ∃ x, Ev (fun k => impl_readFields.l0 k out s (N : Int) (i : Int)) (readR x out (readN d s)) := by
  intro d
  induction d with
  | zero =>
    intro i out s hi ho hs
    refine ⟨out, Ev.step (fun k => ?_) (Ev.now _)⟩
    rw [impl_readFields.l0, if_neg (by omega), readN]
    by_cases h : s.size = 0
    · have e : s.toList = [] := by rw [ByteArray.toList_eq]; exact List.length_eq_zero_iff.1 (by rw [size_data]; exact h)
      rw [if_pos h, e]
      simp [readR]
    · have e : (s.toList == []) = false := by
        rw [beq_eq_false_iff_ne]
        intro e
        rw [ByteArray.toList_eq] at e
        apply h
        rw [← size_data, e]; rfl
      rw [if_neg h, e]
      rfl
  | succ d ih =>
    intro i out s hi ho hs
    have hb := hd2_bd s
    rw [readN]
    by_cases h1 : s.size < 2
    · refine ⟨[], ?_⟩
      rw [if_pos h1]
      refine Ev.step (fun k => ?_) (Ev.now _)
      rw [impl_readFields.l0, if_pos (by omega), if_pos (by omega)]
      rfl
    rw [if_neg h1]
    have hz : (s.extract 0 2).size = 2 := by rw [size_ext]; omega
    have e2 : hd2 (s.extract 0 2) = hd2 s := by
      unfold hd2
      have a0 := bt_ext s 0 2 0 (by omega)
      have a1 := bt_ext s 0 2 1 (by omega)
      simp only [Nat.zero_add] at a0 a1
      rw [show ((0 : Nat) : Int) = 0 from rfl] at a0
      rw [show ((1 : Nat) : Int) = 1 from rfl] at a1
      rw [a0, a1]
    have hn := numberOf_ev (s.extract 0 2) hz
    rw [e2] at hn
    clear e2 hz
    generalize hd2 s = m at *
    have key : ∀ (x : List ByteArray) (r : List ByteArray × Bool), Ev (fun k => if (m : Int) > 1000 then (some (([] : List ByteArray), false)) else (if (s.size : Int) < 2 + (m : Int) then (some (([] : List ByteArray), false)) else impl_readFields.l0 k (out ++ [s.extract 2 (2 + m)]) (s.extract (2 + m) s.size) (N : Int) ((i + 1 : Nat) : Int))) r →
        Ev (fun k => impl_readFields.l0 k out s (N : Int) (i : Int)) r := by
      intro x r hr
      refine Ev.step (f := fun k => (impl_numberOf.f k (s.extract 0 2)).bind fun t => if t > 1000 then (some (([] : List ByteArray), false)) else (if (s.size : Int) < (wrap64 (2 + t)) then (some (([] : List ByteArray), false)) else (if 2 ≤ (wrap64 (2 + t)) then (if (wrap64 (2 + t)) ≤ (s.size : Int) then (if out.length < 8796093022208 then (if 0 ≤ (wrap64 (2 + t)) then (impl_readFields.l0 k (out ++ [s.extract 2 ((wrap64 (2 + t)) : Int).toNat]) (s.extract ((wrap64 (2 + t)) : Int).toNat s.size) (N : Int) (wrap64 ((i : Int) + 1))) else (none)) else (none)) else (none)) else (none)))) (fun k => ?_) (Ev.bind hn ?_)
      · rw [impl_readFields.l0, if_pos (by omega), if_neg (by omega), if_pos (by decide), if_pos (by omega)]
      · have ew : wrap64 (2 + (m : Int)) = 2 + (m : Int) := wid (by omega) (by omega)
        have ei : wrap64 ((i : Int) + 1) = ((i + 1 : Nat) : Int) := by rw [wid (by omega) (by omega)]; rfl
        rw [ew, ei]
        refine Ev.congr (fun k => ?_) hr
        by_cases c1 : (m : Int) > 1000
        · rw [if_pos c1, if_pos c1]
        rw [if_neg c1, if_neg c1]
        by_cases c2 : (s.size : Int) < 2 + (m : Int)
        · rw [if_pos c2, if_pos c2]
        rw [if_neg c2, if_neg c2, if_pos (by omega), if_pos (by omega), if_pos (by omega), if_pos (by omega)]
        rw [show (2 + (m : Int)).toNat = 2 + m by omega]
    by_cases h2 : 1000 < m
    · rw [if_pos h2]
      exact ⟨[], key [] _ (by simp only [if_pos (show (m : Int) > 1000 by omega)]; exact Ev.now _)⟩
    rw [if_neg h2]
    by_cases h3 : s.size < 2 + m
    · rw [if_pos h3]
      exact ⟨[], key [] _ (by simp only [if_neg (show ¬ (m : Int) > 1000 by omega), if_pos (show (s.size : Int) < 2 + (m : Int) by omega)]; exact Ev.now _)⟩
    rw [if_neg h3]
    obtain ⟨x, hx⟩ := ih (i + 1) (out ++ [s.extract 2 (2 + m)]) (s.extract (2 + m) s.size) (by omega) (by rw [List.length_append, List.length_singleton]; omega) (by rw [size_ext]; omega)
    refine ⟨x, key x _ ?_⟩
    simp only [if_neg (show ¬ (m : Int) > 1000 by omega), if_neg (show ¬ (s.size : Int) < 2 + (m : Int) by omega)]
    have e : readR x (out ++ [s.extract 2 (2 + m)]) (readN d (s.extract (2 + m) s.size)) = readR x out ((readN d (s.extract (2 + m) s.size)).map (s.extract 2 (2 + m) :: ·)) := by
      cases readN d (s.extract (2 + m) s.size) with
      | none => rfl
      | some l => simp [readR]
    rw [← e]
    exact hx
theorem toList_nil_iff (a : ByteArray) : a.toList = ([] : List UInt8) ↔ a.size = 0 := by
  rw [ByteArray.toList_eq]
  constructor
  · intro h; rw [← size_data, h]; rfl
  · intro h; exact List.length_eq_zero_iff.1 (by rw [size_data]; exact h)
theorem readFields_ev (a : ByteArray) (hs : a.size ≤ 9223372036854000000) : ∃ x, Ev (fun k => impl_readFields.f k a) (readR x [] (readV a)) := by
  have h0 := bt_range a 0
  unfold impl_readFields.f readV
  by_cases h1 : a.size = 0
  · refine ⟨[], ?_⟩
    simp only [if_pos ((toList_nil_iff a).2 h1), if_pos h1]
    exact Ev.step (fun k => by rw [impl_readFields.j0, if_pos rfl]; rfl) (Ev.now _)
  simp only [if_neg (mt (toList_nil_iff a).1 h1), if_neg h1, if_pos (show (0 : Int) < (a.size : Int) by omega)]
  by_cases h2 : 40 < bt a 0
  · refine ⟨[], ?_⟩
    simp only [if_pos h2, decide_eq_true (show bt a 0 > 40 from h2)]
    exact Ev.step (fun k => by rw [impl_readFields.j0, if_pos rfl]; rfl) (Ev.now _)
  simp only [if_neg h2, decide_eq_false (show ¬ bt a 0 > 40 from h2)]
  obtain ⟨x, hx⟩ := readFields_go (bt a 0).toNat (by omega) (bt a 0).toNat 0 [] (a.extract 1 a.size) (by omega) (by simp) (by rw [size_ext]; omega)
  refine ⟨x, Ev.step (fun k => ?_) hx⟩
  rw [impl_readFields.j0, if_neg (by decide), if_pos (by omega), if_pos (by omega), wid (n := bt a 0) (by omega) (by omega), show (((bt a 0).toNat : Nat) : Int) = bt a 0 by omega]
  rfl

set_option maxHeartbeats 2000000 in
theorem l02Read_go (a : ByteArray) (hs : a.size ≤ 9223372036854000000) : ∀ (d p : Nat) (out : List ByteArray), d ≤ 40 → out.length + d ≤ 40 → p ≤ a.size →
    ∃ x, Ev (fun k => spec_l02Read.l0 k a out (p : Int) (d : Int)) (readR x out (readN d (a.extract p a.size))) := by
  intro d
  induction d with
  | zero =>
    intro p out hd ho hp
    rw [readN, size_ext]
    by_cases h : p = a.size
    · rw [if_pos (by omega)]
      refine ⟨[], Ev.step (fun k => ?_) (Ev.now _)⟩
      rw [spec_l02Read.l0, if_neg (by decide), if_pos (by omega)]
      simp [readR]
    · rw [if_neg (by omega)]
      refine ⟨[], Ev.step (fun k => ?_) (Ev.now _)⟩
      rw [spec_l02Read.l0, if_neg (by decide), if_neg (by omega)]
      rfl
  | succ d ih =>
    intro p out hd ho hp
    have hsz : (a.extract p a.size).size = a.size - p := by rw [size_ext]; omega
    rw [readN, hsz]
    by_cases h1 : a.size - p < 2
    · rw [if_pos h1]
      refine ⟨[], Ev.step (fun k => ?_) (Ev.now _)⟩
      rw [spec_l02Read.l0, if_pos (by omega), wid (n := (p : Int) + 2) (by omega) (by omega), if_pos (by omega)]
      rfl
    rw [if_neg h1]
    have hb := hd2_bd (a.extract p a.size)
    have b0 := bt_ext a p a.size 0 (by omega)
    have b1 := bt_ext a p a.size 1 (by omega)
    have r0 := bt_range a (p : Int)
    have r1 := bt_range a ((p + 1 : Nat) : Int)
    have em : bt a (p : Int) * 256 + bt a ((p + 1 : Nat) : Int) = (hd2 (a.extract p a.size) : Int) := by
      rw [hb.2]
      have e0 : bt (a.extract p a.size) 0 = bt a (p : Int) := b0
      have e1 : bt (a.extract p a.size) 1 = bt a ((p + 1 : Nat) : Int) := b1
      rw [e0, e1]
    generalize hm : hd2 (a.extract p a.size) = m at *
    have ep1 : (p : Int) + 1 = ((p + 1 : Nat) : Int) := by omega
    have key : ∀ k, spec_l02Read.l0 (k + 1) a out (p : Int) ((d + 1 : Nat) : Int) = if 1000 < m then some (([] : List ByteArray), false) else if a.size < p + 2 + m then some (([] : List ByteArray), false) else spec_l02Read.l0 k a (out ++ [a.extract (p + 2) (p + 2 + m)]) ((p + 2 + m : Nat) : Int) (d : Int) := by
      intro k
      rw [spec_l02Read.l0, if_pos (by omega), wid (n := (p : Int) + 2) (by omega) (by omega), if_neg (by omega), if_pos (by omega), if_pos (by omega), wid (n := (p : Int) + 1) (by omega) (by omega), if_pos (by omega), if_pos (by omega),
        wid (n := bt a (p : Int)) (by omega) (by omega), ep1, wid (n := bt a ((p + 1 : Nat) : Int)) (by omega) (by omega), wid (n := bt a (p : Int) * 256) (by omega) (by omega), em, wid (n := (m : Int)) (by omega) (by omega)]
      by_cases c1 : 1000 < m
      · rw [if_pos (by omega), if_pos c1]
      rw [if_neg (by omega), if_neg c1, wid (n := (p : Int) + 2 + (m : Int)) (by omega) (by omega)]
      by_cases c2 : a.size < p + 2 + m
      · rw [if_pos (by omega), if_pos c2]
      rw [if_neg (by omega), if_neg c2, if_pos (by omega), if_pos (by omega), if_pos (by omega), if_pos (by omega), wid (n := 2 + (m : Int)) (by omega) (by omega), wid (n := (p : Int) + (2 + (m : Int))) (by omega) (by omega), wid (by omega) (by omega)]
      rw [show ((p : Int) + 2).toNat = p + 2 by omega, show ((p : Int) + 2 + (m : Int)).toNat = p + 2 + m by omega, show (p : Int) + (2 + (m : Int)) = ((p + 2 + m : Nat) : Int) by omega, show (((d + 1 : Nat) : Int) - 1) = (d : Int) by omega]
    by_cases h2 : 1000 < m
    · rw [if_pos h2]
      exact ⟨[], Ev.step (fun k => by rw [key k, if_pos h2]; rfl) (Ev.now _)⟩
    rw [if_neg h2]
    by_cases h3 : a.size - p < 2 + m
    · rw [if_pos h3]
      exact ⟨[], Ev.step (fun k => by rw [key k, if_neg h2, if_pos (by omega)]; rfl) (Ev.now _)⟩
    rw [if_neg h3]
    obtain ⟨x, hx⟩ := ih (p + 2 + m) (out ++ [a.extract (p + 2) (p + 2 + m)]) (by omega) (by rw [List.length_append, List.length_singleton]; omega) (by omega)
    refine ⟨x, Ev.step (f := fun k => spec_l02Read.l0 k a (out ++ [a.extract (p + 2) (p + 2 + m)]) ((p + 2 + m : Nat) : Int) (d : Int)) (fun k => by rw [key k, if_neg h2, if_neg (by omega)]) ?_⟩
    have ea : (a.extract p a.size).extract 2 (2 + m) = a.extract (p + 2) (p + 2 + m) := by rw [ext_ext, Nat.add_assoc]
    have eb : (a.extract p a.size).extract (2 + m) (a.size - p) = a.extract (p + 2 + m) a.size := by rw [ext_ext, show p + (a.size - p) = a.size by omega, Nat.add_assoc]
    rw [ea, eb]
    have e : readR x (out ++ [a.extract (p + 2) (p + 2 + m)]) (readN d (a.extract (p + 2 + m) a.size)) = readR x out ((readN d (a.extract (p + 2 + m) a.size)).map (a.extract (p + 2) (p + 2 + m) :: ·)) := by
      cases readN d (a.extract (p + 2 + m) a.size) with
      | none => rfl
      | some l => simp [readR]
    rw [← e]
    exact hx
theorem l02Read_ev (a : ByteArray) (hs : a.size ≤ 9223372036854000000) : ∃ x, Ev (fun k => spec_l02Read.f k a) (readR x [] (readV a)) := by
  have h0 := bt_range a 0
  unfold spec_l02Read.f readV
  simp only [Option.bind_some]
  by_cases h1 : a.size = 0
  · refine ⟨[], ?_⟩
    simp only [if_pos ((toList_nil_iff a).2 h1), if_pos h1]
    exact Ev.step (fun k => by rw [spec_l02Read.j0, if_pos rfl]; rfl) (Ev.now _)
  simp only [if_neg (mt (toList_nil_iff a).1 h1), if_neg h1, if_pos (show (0 : Int) < (a.size : Int) by omega)]
  by_cases h2 : 40 < bt a 0
  · refine ⟨[], ?_⟩
    simp only [if_pos h2, decide_eq_true (show bt a 0 > 40 from h2)]
    exact Ev.step (fun k => by rw [spec_l02Read.j0, if_pos rfl]; rfl) (Ev.now _)
  simp only [if_neg h2, decide_eq_false (show ¬ bt a 0 > 40 from h2)]
  obtain ⟨x, hx⟩ := l02Read_go a hs (bt a 0).toNat 1 [] (by omega) (by simp; omega) (by omega)
  refine ⟨x, Ev.step (fun k => ?_) hx⟩
  rw [spec_l02Read.j0, if_neg (by decide), if_pos (by omega), wid (n := bt a 0) (by omega) (by omega), show (((bt a 0).toNat : Nat) : Int) = bt a 0 by omega]
  rfl

/-! ### what is read is written so -/
theorem ofNat_nat (c : UInt8) (n : Int) (h : n = (c.toNat : Int)) : UInt8.ofNat n.toNat = c := by
  subst h
  simp
theorem restV_of (n : Nat) : ∀ (s : ByteArray) (l : List ByteArray), readN n s = some l → s = restV l ∧ l.length = n ∧ ∀ x ∈ l, x.size ≤ 1000 := by
  induction n with
  | zero =>
    intro s l h
    rw [readN] at h
    split at h
    · rename_i h0
      injection h with h
      subst h
      exact ⟨ext_list (List.length_eq_zero_iff.1 (by rw [size_data]; exact h0)), rfl, by simp⟩
    · cases h
  | succ n ih =>
    intro s l h
    rw [readN] at h
    split at h
    · cases h
    rename_i h1
    split at h
    · cases h
    rename_i h2
    split at h
    · cases h
    rename_i h3
    obtain ⟨l', h4, rfl⟩ := Option.map_eq_some_iff.1 h
    obtain ⟨e1, e2, e3⟩ := ih _ _ h4
    have hsz : (s.extract 2 (2 + hd2 s)).size = hd2 s := by rw [size_ext]; omega
    refine ⟨?_, by rw [List.length_cons, e2], ?_⟩
    · rw [restV, ← e1]
      have hb := hd2_bd s
      have r0 := bt_range s 0
      have r1 := bt_range s 1
      have b0 := bt_list s 0 (by omega)
      have b1 := bt_list s 1 (by omega)
      apply ext_list
      rw [ByteArray.data_append, Array.toList_append]
      unfold fieldV
      rw [ByteArray.data_append, Array.toList_append, extract_list, extract_list, hsz, List.take_of_length_le (i := s.size) (by rw [size_data]; exact Nat.le_refl _)]
      have hl := size_data s
      match hd : s.data.toList with
      | [] => rw [hd] at hl; simp at hl; omega
      | [_] => rw [hd] at hl; simp at hl; omega
      | c0 :: c1 :: r =>
        rw [hd] at b0 b1
        simp only [List.getD_cons_zero, List.getD_cons_succ] at b0 b1
        have c0b := UInt8.toNat_lt c0
        have c1b := UInt8.toNat_lt c1
        have f0 : bt s 0 = (c0.toNat : Int) := b0
        have f1 : bt s 1 = (c1.toNat : Int) := b1
        have g0 : (hd2 s : Int) / 256 % 256 = (c0.toNat : Int) := by rw [hb.2, f0, f1]; omega
        have g1 : (hd2 s : Int) % 256 = (c1.toNat : Int) := by rw [hb.2, f0, f1]; omega
        rw [g0, g1]
        have hr : (strOfNums [(c0.toNat : Int), (c1.toNat : Int)]).data.toList = [c0, c1] := by simp [strOfNums]
        rw [hr]
        rw [show 2 + hd2 s = hd2 s + 1 + 1 by omega]
        simp
    · intro x hx
      rcases List.mem_cons.1 hx with rfl | hx
      · rw [hsz]; omega
      · exact e3 x hx
theorem readV_of {a : ByteArray} {l : List ByteArray} (h : readV a = some l) : a = fieldsV l ∧ l.length ≤ 40 ∧ ∀ x ∈ l, x.size ≤ 1000 := by
  unfold readV at h
  split at h
  · cases h
  rename_i h1
  split at h
  · cases h
  rename_i h2
  obtain ⟨e1, e2, e3⟩ := restV_of _ _ _ h
  have r0 := bt_range a 0
  have b0 := bt_list a 0 (by omega)
  refine ⟨?_, by omega, e3⟩
  unfold fieldsV
  rw [← e1, e2]
  apply ext_list
  rw [ByteArray.data_append, Array.toList_append, extract_list, List.take_of_length_le (i := a.size) (by rw [size_data]; exact Nat.le_refl _)]
  have hl := size_data a
  match hd : a.data.toList with
  | [] => rw [hd] at hl; simp at hl; omega
  | c0 :: r =>
    rw [hd] at b0
    simp only [List.getD_cons_zero] at b0
    have c0b := UInt8.toNat_lt c0
    have f0 : bt a 0 = (c0.toNat : Int) := b0
    have g0 : (((bt a 0).toNat : Nat) : Int) % 256 = (c0.toNat : Int) := by rw [f0]; omega
    rw [g0]
    have hr : (strOfNums [(c0.toNat : Int)]).data.toList = [c0] := by simp [strOfNums]
    rw [hr]
    simp
end Go.Proofs.YtabmfhnhmoiljaaGreatDoor.U

/- A store is a row of pairs: its size, its copy, whether it stands, and what is found in it. -/
namespace Go.Proofs.YtabmfhnhmoiljaaGreatDoor.U
open Go Go.RowKit Go.Proofs.YtabmfhnhmoiljaaGreatDoor.Q Go.Proofs.YtabmfhnhmoiljaaGreatDoorW.PrintWords Go.Proofs.YtabmfhnhmoiljaaGreatDoorW.PrintLast Go.Proofs.YtabmfhnhmoiljaaGreatDoorW.PrintMore
set_option linter.unusedVariables false
set_option linter.unusedSimpArgs false

abbrev LP := S49
abbrev IP := S51
def toP (x : LP) : IP := ⟨x.f0, x.f1⟩
theorem rdL (l : List LP) (i : Nat) (h : i < l.length) : rd_T49 l (i : Int) = l[i] := by simp [rd_T49, List.getD_eq_getElem?_getD, List.getElem?_eq_getElem h]
theorem rdI (l : List IP) (i : Nat) (h : i < l.length) : rd_T51 l (i : Int) = l[i] := by simp [rd_T51, List.getD_eq_getElem?_getD, List.getElem?_eq_getElem h]

theorem szPair_ok (a b : ByteArray) (n : Int) (ha : a.size ≤ 9223372036854775807) (hb : b.size ≤ 9223372036854775807) (h0 : 0 ≤ n) (h1 : n ≤ 1048576) :
    ∃ z, laws_szPair.f a b n = some z ∧ (z < 0 ∨ (0 ≤ z ∧ z ≤ n ∧ a.size ≤ 1048576 ∧ b.size ≤ 1048576)) := by
  unfold laws_szPair.f
  rw [wid (n := n - (a.size : Int)) (by omega) (by omega)]
  by_cases c1 : n - (a.size : Int) < 0
  · exact ⟨-1, by rw [if_pos c1], .inl (by decide)⟩
  rw [if_neg c1, wid (n := n - (a.size : Int) - (b.size : Int)) (by omega) (by omega)]
  by_cases c2 : n - (a.size : Int) - (b.size : Int) < 0
  · exact ⟨-1, by rw [if_pos c2], .inl (by decide)⟩
  exact ⟨_, by rw [if_neg c2], .inr (by omega)⟩
/-- All pairs are short. -/
def Short (l : List LP) : Prop := l.length ≤ 1048576 ∧ ∀ x ∈ l, x.f0.size ≤ 1048576 ∧ x.f1.size ≤ 1048576
theorem szPairS_go (l : List LP) (hl : l.length ≤ 1048576) (hx : ∀ x ∈ l, x.f0.size ≤ 9223372036854775807 ∧ x.f1.size ≤ 9223372036854775807) : ∀ (d i : Nat) (n : Int), i + d = l.length → 0 ≤ n → n ≤ 1048576 →
    ∃ z, Ev (fun k => laws_szPairS.l0 k l n (i : Int)) z ∧ (z < 0 ∨ (0 ≤ z ∧ z ≤ n ∧ ∀ x ∈ l.drop i, x.f0.size ≤ 1048576 ∧ x.f1.size ≤ 1048576)) := by
  intro d
  induction d with
  | zero =>
    intro i n hi h0 h1
    refine ⟨n, Ev.step (fun k => ?_) (Ev.now _), .inr ⟨h0, Int.le_refl _, ?_⟩⟩
    · rw [laws_szPairS.l0, if_neg (by omega)]
    · rw [List.drop_of_length_le (by omega)]; simp
  | succ d ih =>
    intro i n hi h0 h1
    have hlt : i < l.length := by omega
    obtain ⟨z1, e1, hz1⟩ := szPair_ok l[i].f0 l[i].f1 n (hx _ (List.getElem_mem hlt)).1 (hx _ (List.getElem_mem hlt)).2 h0 h1
    have hstep : ∀ k, laws_szPairS.l0 (k + 1) l n (i : Int) = if z1 < 0 then some (-1) else laws_szPairS.l0 k l z1 ((i + 1 : Nat) : Int) := by
      intro k
      rw [laws_szPairS.l0, if_pos (by omega), if_pos (by omega), rdL l i hlt, e1, wid (n := (i : Int) + 1) (by omega) (by omega)]
      rfl
    by_cases hn : z1 < 0
    · exact ⟨-1, Ev.step hstep (by simp only [if_pos hn]; exact Ev.now _), .inl (by decide)⟩
    rcases hz1 with hz1 | ⟨hz0, hzn, ha, hb⟩
    · exact absurd hz1 hn
    obtain ⟨z, e2, hz⟩ := ih (i + 1) z1 (by omega) hz0 (by omega)
    refine ⟨z, Ev.step hstep (by simp only [if_neg hn]; exact e2), ?_⟩
    rcases hz with hz | ⟨hz1, hz2, hz3⟩
    · exact .inl hz
    refine .inr ⟨hz1, by omega, ?_⟩
    rw [List.drop_eq_getElem_cons hlt]
    intro x hxm
    rcases List.mem_cons.1 hxm with rfl | hxm
    · exact ⟨ha, hb⟩
    · exact hz3 x hxm
theorem szPairS_ev (l : List LP) (n : Int) (hl : l.length ≤ 9223372036854775807) (hx : ∀ x ∈ l, x.f0.size ≤ 9223372036854775807 ∧ x.f1.size ≤ 9223372036854775807) (h0 : 0 ≤ n) (h1 : n ≤ 1048576) :
    ∃ z, Ev (fun k => laws_szPairS.f k l n) z ∧ (z < 0 ∨ (0 ≤ z ∧ z ≤ n ∧ Short l)) := by
  unfold laws_szPairS.f
  rw [wid (n := n - (l.length : Int)) (by omega) (by omega)]
  by_cases c1 : n - (l.length : Int) < 0
  · exact ⟨-1, by simp only [if_pos c1]; exact Ev.now _, .inl (by decide)⟩
  simp only [if_neg c1]
  obtain ⟨z, e, hz⟩ := szPairS_go l (by omega) hx l.length 0 (n - (l.length : Int)) (by omega) (by omega) (by omega)
  refine ⟨z, e, ?_⟩
  rcases hz with hz | ⟨hz1, hz2, hz3⟩
  · exact .inl hz
  · exact .inr ⟨hz1, by omega, by omega, by simpa using hz3⟩

theorem toPairS_go (l : List LP) (hl : l.length ≤ 1048576) : ∀ (d i : Nat) (o : List IP), i + d = l.length → o.length = l.length → (∀ j, j < i → o[j]? = (l.map toP)[j]?) →
    Ev (fun k => laws_toPairS.l0 k l o (i : Int)) (l.map toP) := by
  intro d
  induction d with
  | zero =>
    intro i o hi ho hj
    have e : o = l.map toP := by
      apply List.ext_getElem?
      intro j
      by_cases h : j < i
      · exact hj j h
      · rw [List.getElem?_eq_none (by omega), List.getElem?_eq_none (by simp; omega)]
    refine Ev.step (fun k => ?_) (Ev.now _)
    rw [laws_toPairS.l0, if_neg (by omega), e]
  | succ d ih =>
    intro i o hi ho hj
    have hlt : i < l.length := by omega
    refine Ev.step (f := fun k => laws_toPairS.l0 k l (o.set i (toP l[i])) ((i + 1 : Nat) : Int)) (fun k => ?_) (ih (i + 1) (o.set i (toP l[i])) (by omega) (by simpa using ho) ?_)
    · rw [laws_toPairS.l0, if_pos (by omega), if_pos (by omega), rdL l i hlt]
      simp only [laws_toPair.f, Option.bind_some]
      rw [if_pos (by omega), wid (n := (i : Int) + 1) (by omega) (by omega)]
      rfl
    · intro j hji
      rw [List.getElem?_set]
      by_cases h : i = j
      · subst h
        rw [if_pos rfl, if_pos (by omega)]
        simp [hlt]
      · rw [if_neg h]
        exact hj j (by omega)
theorem toPairS_ev (l : List LP) (hl : l.length ≤ 1048576) : Ev (fun k => laws_toPairS.f k l) (l.map toP) := by
  unfold laws_toPairS.f
  simp only [if_pos (show (0 : Int) ≤ (l.length : Int) by omega), if_pos (show (l.length : Int).toNat ≤ 8796093022208 by omega)]
  exact toPairS_go l hl l.length 0 _ (by omega) (by simp) (by simp)
theorem eqPair_self (a b : ByteArray) : laws_eqPair.f a b a b = some true := by unfold laws_eqPair.f; rw [if_pos rfl, if_pos rfl]
theorem eqPairS_go (l : List IP) (hl : l.length ≤ 1048576) : ∀ (d i : Nat), i + d = l.length → Ev (fun k => laws_eqPairS.l0 k l l (i : Int)) true := by
  intro d
  induction d with
  | zero =>
    intro i hi
    exact Ev.step (fun k => by rw [laws_eqPairS.l0, if_neg (by omega)]) (Ev.now _)
  | succ d ih =>
    intro i hi
    refine Ev.step (f := fun k => laws_eqPairS.l0 k l l ((i + 1 : Nat) : Int)) (fun k => ?_) (ih (i + 1) (by omega))
    rw [laws_eqPairS.l0, if_pos (by omega), if_pos (by omega), if_pos (by omega), eqPair_self, wid (n := (i : Int) + 1) (by omega) (by omega)]
    rfl
theorem eqPairS_ev (l : List IP) (hl : l.length ≤ 1048576) : Ev (fun k => laws_eqPairS.f k l l) true := by
  unfold laws_eqPairS.f
  simp only [if_true]
  exact eqPairS_go l hl l.length 0 (by omega)

/-! ### whether it stands -/
def keyB (x : ByteArray) : Bool := decide (1 ≤ x.size ∧ x.size ≤ 60)
def valueB (x : ByteArray) : Bool := decide (x.size ≤ 1000)
def lessB (l : List IP) (i : Nat) : Bool := decide (i = 0) || Op.bytesLess ((rd_T51 l ((i : Int) - 1)).f0).toList ((rd_T51 l (i : Int)).f0).toList
def pairB (l : List IP) (i : Nat) : Bool := keyB (rd_T51 l (i : Int)).f0 && (valueB (rd_T51 l (i : Int)).f1 && lessB l i)
def fromB (l : List IP) : Nat → Nat → Bool
  | 0, _ => true
  | d + 1, i => pairB l i && fromB l d (i + 1)
/-- The store stands: keys and values are in their bounds, keys rise, and there are at most 400. -/
def storeB (l : List IP) : Bool := fromB l l.length 0 && decide (l.length ≤ 400)
theorem implKey_eq (x : ByteArray) : impl_isKey.f x = some (keyB x) := by
  unfold impl_isKey.f impl_within.f keyB
  by_cases h : (x.size : Int) ≥ 1
  · simp only [if_pos h, Option.bind_some]; congr 1; rw [decide_eq_decide]; omega
  · simp only [if_neg h, Option.bind_some]; congr 1; rw [eq_comm, decide_eq_false_iff_not]; omega
theorem specKey_eq (x : ByteArray) : spec_l03Key.f x = some (keyB x) := by
  unfold spec_l03Key.f spec_l01In.f keyB
  by_cases h : (x.size : Int) ≥ 1
  · simp only [if_pos h, Option.bind_some]; congr 1; rw [decide_eq_decide]; omega
  · simp only [if_neg h, Option.bind_some]; congr 1; rw [eq_comm, decide_eq_false_iff_not]; omega
theorem implValue_eq (x : ByteArray) : impl_isValue.f x = some (valueB x) := by
  unfold impl_isValue.f valueB; congr 1; rw [decide_eq_decide]; omega
theorem specPair_eq (x y : ByteArray) : spec_l03Pair.f x y = some (keyB x && valueB y) := by
  unfold spec_l03Pair.f valueB
  rw [specKey_eq]
  simp only [Option.bind_some]
  cases keyB x with
  | false => rfl
  | true => simp only [if_true, Bool.true_and]; congr 1; rw [decide_eq_decide]; omega
theorem specStore_go (l : List IP) (hl : l.length ≤ 1048576) : ∀ (d i : Nat), i + d = l.length → Ev (fun k => spec_StoreOK.l0 k l (i : Int)) (fromB l d i) := by
  intro d
  induction d with
  | zero =>
    intro i hi
    exact Ev.step (fun k => by rw [spec_StoreOK.l0, if_neg (by omega)]; rfl) (Ev.now _)
  | succ d ih =>
    intro i hi
    have hstep : ∀ k, spec_StoreOK.l0 (k + 1) l (i : Int) = if pairB l i = true then spec_StoreOK.l0 k l ((i + 1 : Nat) : Int) else some false := by
      intro k
      rw [spec_StoreOK.l0, if_pos (by omega), if_pos (by omega), specPair_eq]
      simp only [Option.bind_some, pairB, lessB]
      rw [wid (n := (i : Int) + 1) (by omega) (by omega)]
      rcases Bool.eq_false_or_eq_true (keyB (rd_T51 l (i : Int)).f0) with hk | hk
      · rcases Bool.eq_false_or_eq_true (valueB (rd_T51 l (i : Int)).f1) with hv | hv
        · simp only [hk, hv, Bool.true_and, Bool.and_self, if_true]
          by_cases h0 : i = 0
          · subst h0; simp
          · rw [if_pos (show (i : Int) > 0 by omega), wid (n := (i : Int) - 1) (by omega) (by omega), if_pos (by omega), if_pos (by omega), decide_eq_false h0, Bool.false_or]
            rfl
        · simp only [hk, hv, Bool.true_and, Bool.and_false, Bool.false_and, Bool.false_eq_true, if_false, if_true]
      · simp only [hk, Bool.false_and, Bool.false_eq_true, if_false]
    have h2 := ih (i + 1) (by omega)
    refine Ev.step hstep ?_
    rw [fromB]
    cases pairB l i with
    | false => exact Ev.now _
    | true => simp only [if_true, Bool.true_and]; exact h2
theorem specStoreOK_ev (l : List IP) (hl : l.length ≤ 1048576) : Ev (fun k => spec_StoreOK.f k l) (storeB l) := by
  unfold spec_StoreOK.f storeB
  by_cases h1 : (l.length : Int) > 4096
  · simp only [if_pos h1, decide_eq_false (show ¬ l.length ≤ 400 by omega), Bool.and_false]; exact Ev.now _
  simp only [if_neg h1]
  by_cases h2 : (l.length : Int) > 400
  · simp only [if_pos h2, decide_eq_false (show ¬ l.length ≤ 400 by omega), Bool.and_false]; exact Ev.now _
  simp only [if_neg h2, decide_eq_true (show l.length ≤ 400 by omega), Bool.and_true]
  exact specStore_go l hl l.length 0 (by omega)
theorem implStore_go (l : List IP) (hl : l.length ≤ 1048576) : ∀ (d i : Nat), i + d = l.length → Ev (fun k => impl_StoreOK.l0 k l l (l.length : Int) (i : Int)) (fromB l d i && decide (l.length ≤ 400)) := by
  intro d
  induction d with
  | zero =>
    intro i hi
    refine Ev.step (fun k => ?_) (Ev.now _)
    rw [impl_StoreOK.l0, if_neg (by omega), fromB, Bool.true_and]
    congr 1; rw [decide_eq_decide]; omega
  | succ d ih =>
    intro i hi
    have hstep : ∀ k, impl_StoreOK.l0 (k + 1) l l (l.length : Int) (i : Int) = if pairB l i = true then impl_StoreOK.l0 k l l (l.length : Int) ((i + 1 : Nat) : Int) else some false := by
      intro k
      rw [impl_StoreOK.l0, if_pos (by omega), if_pos (by omega), if_pos (by omega), implKey_eq, implValue_eq]
      simp only [Option.bind_some, pairB, lessB]
      rw [wid (n := (i : Int) + 1) (by omega) (by omega)]
      rcases Bool.eq_false_or_eq_true (keyB (rd_T51 l (i : Int)).f0) with hk | hk
      · rcases Bool.eq_false_or_eq_true (valueB (rd_T51 l (i : Int)).f1) with hv | hv
        · simp only [hk, hv, Bool.true_and, Bool.and_self, if_true]
          by_cases h0 : i = 0
          · subst h0; simp
          · rw [if_pos (show (i : Int) > 0 by omega), wid (n := (i : Int) - 1) (by omega) (by omega), if_pos (by omega), if_pos (by omega), decide_eq_false h0, Bool.false_or]
            rfl
        · simp only [hk, hv, Bool.true_and, Bool.and_false, Bool.false_and, Bool.false_eq_true, if_false, if_true]
      · simp only [hk, Bool.false_and, Bool.false_eq_true, if_false]
    have h2 := ih (i + 1) (by omega)
    refine Ev.step hstep ?_
    rw [fromB]
    cases pairB l i with
    | false => exact Ev.now _
    | true => simp only [if_true, Bool.true_and]; exact h2
theorem implStoreOK_ev (l : List IP) (hl : l.length ≤ 1048576) : Ev (fun k => impl_StoreOK.f k l) (storeB l) := by
  unfold impl_StoreOK.f storeB
  exact implStore_go l hl l.length 0 (by omega)
/-- The code of a store, no texts being too long. -/
def storeV (l : List IP) : Int := if l.length ≤ 4096 then (if storeB l = true then 0 else 1) else 2
theorem storeCode_ev (l : List IP) (ts : List ByteArray) (hl : l.length ≤ 1048576) :
    Ev (fun k => impl_storeCode.f k l ts) (if l.length ≤ 4096 ∧ (ts.any fun t => decide ((t.size : Int) > 65536)) = false then (if storeB l = true then 0 else 1) else 2) := by
  unfold impl_storeCode.f impl_isList_impl_Pair.f impl_isText.f
  simp only [Option.bind_some]
  have hbad : Ev (fun k => impl_storeCode.j0 k l true) 2 := Ev.step (fun k => by rw [impl_storeCode.j0, if_pos rfl]) (Ev.now _)
  by_cases h1 : l.length ≤ 4096
  · rw [decide_eq_true (show (l.length : Int) ≤ 4096 by omega)]
    simp only [if_true]
    cases h2 : (ts.any fun t => decide ((t.size : Int) > 65536)) with
    | true => simp only [Bool.not_true, Bool.not_false, Bool.true_eq_false, and_false, if_false]; exact hbad
    | false =>
      simp only [Bool.not_false, Bool.not_true, h1, and_true, if_true]
      refine Ev.step (fun k => by rw [impl_storeCode.j0, if_neg (by decide)]) (Ev.bind (implStoreOK_ev l hl) ?_)
      cases storeB l with
      | false => exact Ev.now _
      | true => simp only [if_true]; exact Ev.now _
  · rw [decide_eq_false (show ¬ (l.length : Int) ≤ 4096 by omega), if_neg (by simp [h1])]
    exact hbad
end Go.Proofs.YtabmfhnhmoiljaaGreatDoor.U

/- What is found in a store: the reference's search and the program's take the same steps. -/
namespace Go.Proofs.YtabmfhnhmoiljaaGreatDoor.U
open Go Go.RowKit Go.Proofs.YtabmfhnhmoiljaaGreatDoor.Q Go.Proofs.YtabmfhnhmoiljaaGreatDoorW.PrintWords Go.Proofs.YtabmfhnhmoiljaaGreatDoorW.PrintLast Go.Proofs.YtabmfhnhmoiljaaGreatDoorW.PrintMore
set_option linter.unusedVariables false
set_option linter.unusedSimpArgs false

theorem cmp_neg : ∀ a b : List UInt8, Lib.compareBytes a b < 0 ↔ Op.bytesLess a b = true
  | [], [] => by simp [Lib.compareBytes, Op.bytesLess]
  | [], _ :: _ => by simp [Lib.compareBytes, Op.bytesLess]
  | _ :: _, [] => by simp [Lib.compareBytes, Op.bytesLess]
  | a :: x, b :: y => by
    rw [Lib.compareBytes, Op.bytesLess]
    by_cases h1 : a < b
    · simp [h1]
    · by_cases h2 : b < a
      · have h3 : ¬ a = b := fun e => by subst e; exact h1 h2
        simp [h1, h2, h3]
      · have h3 : a = b := UInt8.le_antisymm (UInt8.not_lt.1 h2) (UInt8.not_lt.1 h1)
        subst h3
        simp [h1, cmp_neg x y]
theorem cmp_zero : ∀ a b : List UInt8, Lib.compareBytes a b = 0 ↔ a = b
  | [], [] => by simp [Lib.compareBytes]
  | [], _ :: _ => by simp [Lib.compareBytes]
  | _ :: _, [] => by simp [Lib.compareBytes]
  | a :: x, b :: y => by
    rw [Lib.compareBytes]
    by_cases h1 : a < b
    · have h3 : ¬ a = b := fun e => by subst e; exact UInt8.lt_irrefl _ h1
      simp [h1, h3]
    · by_cases h2 : b < a
      · have h3 : ¬ a = b := fun e => by subst e; exact h1 h2
        simp [h1, h2, h3]
      · have h3 : a = b := UInt8.le_antisymm (UInt8.not_lt.1 h2) (UInt8.not_lt.1 h1)
        subst h3
        simp [h1, cmp_zero x y]
/-- Where a key's search ends. -/
def atV (l : List IP) (key : ByteArray) : Nat → Nat → Nat → Nat
  | 0, i, _ => i
  | f + 1, i, j => if i < j then (if Op.bytesLess ((rd_T51 l (((i + j) / 2 : Nat) : Int)).f0).toList key.toList = true then atV l key f ((i + j) / 2 + 1) j else atV l key f i ((i + j) / 2)) else i
theorem atV_bd (l : List IP) (key : ByteArray) : ∀ (f i j : Nat), i ≤ j → i ≤ atV l key f i j ∧ atV l key f i j ≤ j
  | 0, i, j, h => ⟨Nat.le_refl _, h⟩
  | f + 1, i, j, h => by
    rw [atV]
    by_cases h1 : i < j
    · rw [if_pos h1]
      split
      · have := atV_bd l key f ((i + j) / 2 + 1) j (by omega); omega
      · have := atV_bd l key f i ((i + j) / 2) (by omega); omega
    · rw [if_neg h1]; omega
theorem specAt_go (l : List IP) (key : ByteArray) (hl : l.length ≤ 1048576) : ∀ (f i j : Nat), j - i < f → i ≤ j → j ≤ l.length → Ev (fun k => spec_l03At.l0 k l key (i : Int) (j : Int)) (atV l key f i j : Int)
  | 0, i, j, h, _, _ => by omega
  | f + 1, i, j, h, hij, hj => by
    rw [atV]
    by_cases h1 : i < j
    · rw [if_pos h1]
      have e1 : wrap64 (Int.tdiv (wrap64 ((i : Int) + (j : Int))) 2) = (((i + j) / 2 : Nat) : Int) := by
        rw [wid (n := (i : Int) + (j : Int)) (by omega) (by omega), tdiv_nn (by omega), wid (by omega) (by omega)]; omega
      have hstep : ∀ k, spec_l03At.l0 (k + 1) l key (i : Int) (j : Int) = if Op.bytesLess ((rd_T51 l (((i + j) / 2 : Nat) : Int)).f0).toList key.toList = true then spec_l03At.l0 k l key (((i + j) / 2 + 1 : Nat) : Int) (j : Int) else spec_l03At.l0 k l key (i : Int) (((i + j) / 2 : Nat) : Int) := by
        intro k
        rw [spec_l03At.l0, if_pos (by omega), e1, if_pos (by omega), if_pos (by omega), wid (n := (((i + j) / 2 : Nat) : Int) + 1) (by omega) (by omega)]
        rfl
      refine Ev.step hstep ?_
      split
      · exact specAt_go l key hl f _ _ (by omega) (by omega) hj
      · exact specAt_go l key hl f _ _ (by omega) (by omega) (by omega)
    · rw [if_neg h1]
      exact Ev.step (fun k => by rw [spec_l03At.l0, if_neg (by omega)]) (Ev.now _)
theorem implAt_go (l : List IP) (key : ByteArray) (hl : l.length ≤ 1048576) : ∀ (f i j : Nat), j - i < f → i ≤ j → j ≤ l.length → Ev (fun k => impl_pairAt.l0 k l key (i : Int) (j : Int)) (atV l key f i j : Int)
  | 0, i, j, h, _, _ => by omega
  | f + 1, i, j, h, hij, hj => by
    rw [atV]
    by_cases h1 : i < j
    · rw [if_pos h1]
      have e1 : ((i : Int) + (j : Int)) / 2 = (((i + j) / 2 : Nat) : Int) := by omega
      have hstep : ∀ k, impl_pairAt.l0 (k + 1) l key (i : Int) (j : Int) = if Op.bytesLess ((rd_T51 l (((i + j) / 2 : Nat) : Int)).f0).toList key.toList = true then impl_pairAt.l0 k l key (((i + j) / 2 + 1 : Nat) : Int) (j : Int) else impl_pairAt.l0 k l key (i : Int) (((i + j) / 2 : Nat) : Int) := by
        intro k
        rw [impl_pairAt.l0, if_pos (by omega), e1, if_pos (by omega), if_pos (by omega), Lib.toList_data, Lib.toList_data]
        by_cases hb : Op.bytesLess ((rd_T51 l (((i + j) / 2 : Nat) : Int)).f0).data.toList key.data.toList = true
        · rw [if_pos hb, if_pos ((cmp_neg _ _).2 hb)]; rfl
        · rw [if_neg hb, if_neg (fun e => hb ((cmp_neg _ _).1 e))]
      refine Ev.step hstep ?_
      split
      · exact implAt_go l key hl f _ _ (by omega) (by omega) hj
      · exact implAt_go l key hl f _ _ (by omega) (by omega) (by omega)
    · rw [if_neg h1]
      exact Ev.step (fun k => by rw [impl_pairAt.l0, if_neg (by omega)]) (Ev.now _)
def atOf (l : List IP) (key : ByteArray) : Nat := atV l key (l.length + 1) 0 l.length
theorem atOf_le (l : List IP) (key : ByteArray) : atOf l key ≤ l.length := (atV_bd l key _ 0 l.length (by omega)).2
theorem specAt_ev (l : List IP) (key : ByteArray) (hl : l.length ≤ 1048576) : Ev (fun k => spec_l03At.f k l key) (atOf l key : Int) := specAt_go l key hl (l.length + 1) 0 l.length (by omega) (by omega) (by omega)
def hitB (l : List IP) (key : ByteArray) : Bool := decide (atOf l key < l.length) && (((rd_T51 l (atOf l key : Int)).f0).toList == key.toList)
theorem implAt_ev (l : List IP) (key : ByteArray) (hl : l.length ≤ 1048576) : Ev (fun k => impl_pairAt.f k l key) ((atOf l key : Int), hitB l key) := by
  unfold impl_pairAt.f
  refine Ev.bind (implAt_go l key hl (l.length + 1) 0 l.length (by omega) (by omega) (by omega)) ?_
  have hle := atOf_le l key
  have e : impl_pairAt.hit l key (atOf l key : Int) = hitB l key := by
    unfold impl_pairAt.hit hitB
    congr 1
    · rw [decide_eq_decide]; omega
    · rw [Lib.toList_data, Lib.toList_data, Bool.eq_iff_iff, beq_iff_eq, beq_iff_eq]
      exact cmp_zero _ _
  rw [show atV l key (l.length + 1) 0 l.length = atOf l key from rfl]
  simp only [if_pos (show (l.length : Int) < 1000000000000 by omega), if_pos (show (0 : Int) ≤ (atOf l key : Int) by omega), if_pos (show (atOf l key : Int) ≤ (l.length : Int) by omega), e]
  exact Ev.now _
/-- What is found, and whether. -/
def getV (l : List IP) (key : ByteArray) : ByteArray × Bool := if hitB l key = true then ((rd_T51 l (atOf l key : Int)).f1, true) else ((⟨#[]⟩ : ByteArray), false)
theorem specGet_ev (l : List IP) (key : ByteArray) (hl : l.length ≤ 1048576) : Ev (fun k => spec_l03Get.f k l key) (getV l key) := by
  unfold spec_l03Get.f getV hitB
  refine Ev.bind (specAt_ev l key hl) ?_
  by_cases h1 : atOf l key < l.length
  · simp only [if_pos (show (atOf l key : Int) < (l.length : Int) by omega), if_pos (show (0 : Int) ≤ (atOf l key : Int) by omega), decide_eq_true h1, Bool.true_and]
    by_cases h2 : ((rd_T51 l (atOf l key : Int)).f0).toList = key.toList
    · simp only [h2, beq_self_eq_true, if_true]; exact Ev.now _
    · simp only [if_neg h2, beq_eq_false_iff_ne.2 h2, Bool.false_eq_true, if_false]; exact Ev.now _
  · simp only [if_neg (show ¬ (atOf l key : Int) < (l.length : Int) by omega), decide_eq_false h1, Bool.false_and, Bool.false_eq_true, if_false]; exact Ev.now _
theorem implGet_ev (l : List IP) (key : ByteArray) (hl : l.length ≤ 1048576) : Ev (fun k => impl_get.f k l key) (getV l key) := by
  unfold impl_get.f getV
  refine Ev.bind (implAt_ev l key hl) ?_
  cases h : hitB l key with
  | false => simp only [Bool.false_eq_true, if_false]; exact Ev.now _
  | true =>
    have h1 : atOf l key < l.length := by
      unfold hitB at h
      rw [Bool.and_eq_true, decide_eq_true_iff] at h
      exact h.1
    simp only [if_true, if_pos (show (0 : Int) ≤ (atOf l key : Int) by omega), if_pos (show (atOf l key : Int) < (l.length : Int) by omega)]
    exact Ev.now _
end Go.Proofs.YtabmfhnhmoiljaaGreatDoor.U

/- Fields that are written are read back; amounts and bounds as both sides read them. -/
namespace Go.Proofs.YtabmfhnhmoiljaaGreatDoor.U
open Go Go.RowKit Go.Proofs.YtabmfhnhmoiljaaGreatDoor.Q Go.Proofs.YtabmfhnhmoiljaaGreatDoorW.PrintWords Go.Proofs.YtabmfhnhmoiljaaGreatDoorW.PrintLast Go.Proofs.YtabmfhnhmoiljaaGreatDoorW.PrintMore
set_option linter.unusedVariables false
set_option linter.unusedSimpArgs false

def someB (n : Int) : Bool := decide (1 ≤ n ∧ n ≤ 1000000000000000000)
def max0 (n : Int) : Int := if 0 ≤ n then n else 0
theorem within_eq (n a b : Int) : impl_within.f n a b = some (decide (a ≤ n ∧ n ≤ b)) := by
  unfold impl_within.f
  by_cases h : n ≥ a
  · rw [if_pos h]; congr 1; rw [decide_eq_decide]; omega
  · rw [if_neg h]; congr 1; rw [eq_comm, decide_eq_false_iff_not]; omega
theorem l01In_eq (n a b : Int) : spec_l01In.f n a b = some (decide (a ≤ n ∧ n ≤ b)) := by
  unfold spec_l01In.f
  by_cases h : n ≥ a
  · rw [if_pos h]; congr 1; rw [decide_eq_decide]; omega
  · rw [if_neg h]; congr 1; rw [eq_comm, decide_eq_false_iff_not]; omega
theorem isSome_eq (n : Int) : impl_isSome.f n = some (someB n) := by unfold impl_isSome.f; rw [within_eq]; rfl
theorem amountText_eq (n : Int) (h0 : 0 ≤ n) (h1 : n ≤ 9223372036854775807) : impl_amountText.f n = some (digV n.toNat) := by
  unfold impl_amountText.f strconv_Itoa.f
  rw [if_pos (by omega), if_pos h1, itoa_eq n h0]
  rfl
theorem readAmount_fst (a : ByteArray) (hs : a.size ≤ 281474976710656) : ∃ b, impl_readAmount.f a = some (max0 (amtV a), b) := by
  rw [readAmount_eq a hs]
  unfold max0
  by_cases h : 0 ≤ amtV a
  · rw [if_pos h, if_pos h]; exact ⟨_, rfl⟩
  · rw [if_neg h, if_neg h]; exact ⟨_, rfl⟩
theorem getV_size (l : List IP) (key : ByteArray) (B : Nat) (h : ∀ x ∈ l, x.f1.size ≤ B) : (getV l key).1.size ≤ B := by
  unfold getV
  split
  · rename_i hh
    unfold hitB at hh
    rw [Bool.and_eq_true, decide_eq_true_iff] at hh
    rw [rdI l _ hh.1]
    exact h _ (List.getElem_mem hh.1)
  · exact Nat.zero_le _
theorem getV_none (l : List IP) (key : ByteArray) (h : (getV l key).2 = false) : (getV l key).1 = ⟨#[]⟩ := by
  unfold getV at *
  split
  · rename_i hh; rw [if_pos hh] at h; cases h
  · rfl
theorem readV_empty : readV (⟨#[]⟩ : ByteArray) = none := by unfold readV; rw [if_pos (by rfl)]

/-! ### what is written is read back -/
theorem ofNums2 (n : Nat) (h : n ≤ 65535) : ∃ a b : UInt8, strOfNums [(n : Int) / 256 % 256, (n : Int) % 256] = ⟨#[a, b]⟩ ∧ (a.toNat : Int) * 256 + b.toNat = n := by
  refine ⟨UInt8.ofNat (n / 256), UInt8.ofNat (n % 256), ?_, ?_⟩
  · have e1 : ((n : Int) / 256 % 256).toNat = n / 256 := by omega
    have e2 : ((n : Int) % 256).toNat = n % 256 := by omega
    simp [strOfNums, e1, e2]
  · rw [UInt8.toNat_ofNat', UInt8.toNat_ofNat']; omega
theorem readN_restV : ∀ (l : List ByteArray), (∀ x ∈ l, x.size ≤ 1000) → readN l.length (restV l) = some l
  | [], _ => by rw [List.length_nil, readN]; rfl
  | x :: xs, h => by
    have hx := h x (by simp)
    obtain ⟨a, b, e, hab⟩ := ofNums2 x.size (by omega)
    have ih := readN_restV xs (fun y hy => h y (by simp [hy]))
    have hl : (restV (x :: xs)).data.toList = a :: b :: (x.data.toList ++ (restV xs).data.toList) := by
      rw [restV, fieldV, e]
      simp
    have hsz : (restV (x :: xs)).size = 2 + x.size + (restV xs).size := by
      rw [← size_data, hl, List.length_cons, List.length_cons, List.length_append, size_data, size_data]; omega
    generalize restV (x :: xs) = s at *
    have b0 := bt_list s 0 (by omega)
    have b1 := bt_list s 1 (by omega)
    rw [hl] at b0 b1
    simp only [List.getD_cons_zero, List.getD_cons_succ] at b0 b1
    have f0 : bt s 0 = (a.toNat : Int) := b0
    have f1 : bt s 1 = (b.toNat : Int) := b1
    have hh : hd2 s = x.size := by
      have := (hd2_bd s).2
      rw [f0, f1, hab] at this
      omega
    rw [List.length_cons, readN, hh, if_neg (by omega), if_neg (by omega), if_neg (by omega)]
    have e1 : s.extract 2 (2 + x.size) = x := by
      apply ext_list
      rw [extract_list, hl, show 2 + x.size = x.size + 1 + 1 by omega]
      simp only [List.take_succ_cons, List.drop_succ_cons, List.drop_zero]
      exact List.take_left' (size_data x)
    have e2 : s.extract (2 + x.size) s.size = restV xs := by
      apply ext_list
      rw [extract_list, List.take_of_length_le (by rw [size_data]; exact Nat.le_refl _), hl, show 2 + x.size = x.size + 1 + 1 by omega]
      simp only [List.drop_succ_cons]
      exact List.drop_left' (size_data x)
    rw [e1, e2, ih]
    rfl
theorem readV_fieldsV (l : List ByteArray) (hl : l.length ≤ 40) (hx : ∀ x ∈ l, x.size ≤ 1000) : readV (fieldsV l) = some l := by
  have hlist : (fieldsV l).data.toList = UInt8.ofNat l.length :: (restV l).data.toList := by
    unfold fieldsV
    have : ((l.length : Int) % 256).toNat = l.length := by omega
    simp [strOfNums, this]
  have hsz : (fieldsV l).size = 1 + (restV l).size := by rw [← size_data, hlist, List.length_cons, size_data]; omega
  have e2 : (fieldsV l).extract 1 (fieldsV l).size = restV l := by
    apply ext_list
    rw [extract_list, List.take_of_length_le (by rw [size_data]; exact Nat.le_refl _), hlist]
    rfl
  have b0 := bt_list (fieldsV l) 0 (by omega)
  rw [hlist] at b0
  simp only [List.getD_cons_zero] at b0
  have f0 : bt (fieldsV l) 0 = (l.length : Int) := by
    refine (show bt (fieldsV l) 0 = _ from b0).trans ?_
    rw [UInt8.toNat_ofNat']; omega
  unfold readV
  rw [if_neg (by omega), f0, if_neg (by omega), e2, Int.toNat_natCast]
  exact readN_restV l hx
theorem fieldsV_inj {l l' : List ByteArray} (hl : l.length ≤ 40) (hx : ∀ x ∈ l, x.size ≤ 1000) (hl' : l'.length ≤ 40) (hx' : ∀ x ∈ l', x.size ≤ 1000) (h : fieldsV l = fieldsV l') : l = l' := by
  have h1 := readV_fieldsV l hl hx
  have h2 := readV_fieldsV l' hl' hx'
  rw [h, h2] at h1
  exact (Option.some.inj h1).symm

end Go.Proofs.YtabmfhnhmoiljaaGreatDoor.U

/- Names of accounts and denominations: as the reference and as the program read them. -/
namespace Go.Proofs.YtabmfhnhmoiljaaGreatDoor.U
open Go Go.RowKit Go.Proofs.YtabmfhnhmoiljaaGreatDoor.Q Go.Proofs.YtabmfhnhmoiljaaGreatDoorW.PrintWords Go.Proofs.YtabmfhnhmoiljaaGreatDoorW.PrintLast Go.Proofs.YtabmfhnhmoiljaaGreatDoorW.PrintMore
set_option linter.unusedVariables false
set_option linter.unusedSimpArgs false

def Letter (c : Int) : Prop := (97 ≤ c ∧ c ≤ 122) ∨ (65 ≤ c ∧ c ≤ 90) ∨ c = 95
def Digit (c : Int) : Prop := 48 ≤ c ∧ c ≤ 57
def IsName (x : ByteArray) : Prop := 1 ≤ x.size ∧ x.size ≤ 40 ∧ ∀ j : Int, 0 ≤ j → j < (x.size : Int) → Letter (bt x j) ∨ (j ≠ 0 ∧ Digit (bt x j))
instance (c : Int) : Decidable (Letter c) := by unfold Letter; infer_instance
instance (c : Int) : Decidable (Digit c) := by unfold Digit; infer_instance

theorem nameok_l0 (x : ByteArray) (hn : (x.size : Int) ≤ 140737488351232) (d : Nat) : ∀ i : Int, 0 ≤ i → i ≤ (x.size : Int) → (x.size : Int) - i = d →
    ∃ b, Ev (fun k => impl_NameOK.l0 k x (x.size : Int) i) b ∧ (b = true ↔ (∀ j : Int, i ≤ j → j < (x.size : Int) → Letter (bt x j) ∨ (j ≠ 0 ∧ Digit (bt x j))) ∧ 1 ≤ x.size ∧ x.size ≤ 40) := by
  induction d with
  | zero =>
    intro i h0 h1 hd
    refine ⟨decide (1 ≤ (x.size : Int) ∧ (x.size : Int) ≤ 40), Ev.step (fun k => ?_) (Ev.now _), ?_⟩
    · rw [impl_NameOK.l0, if_neg (by omega)]
      unfold impl_within.f
      by_cases h : (x.size : Int) ≥ 1
      · rw [if_pos h]
        simp only [Option.bind_some]
        congr 1
        exact decide_eq_decide.2 ⟨fun y => ⟨h, y⟩, fun y => y.2⟩
      · rw [if_neg h, decide_eq_false (fun y => h y.1)]
        rfl
    · rw [decide_eq_true_iff]
      exact ⟨fun h => ⟨fun j hj hj' => by omega, by omega, by omega⟩, fun h => by omega⟩
  | succ d ih =>
    intro i h0 h1 hd
    have hlt : i < (x.size : Int) := by omega
    by_cases hg : Letter (bt x i) ∨ (i ≠ 0 ∧ Digit (bt x i))
    · obtain ⟨b, hb, hb'⟩ := ih (i + 1) (by omega) (by omega) (by omega)
      refine ⟨b, Ev.step (fun k => ?_) hb, hb'.trans ⟨fun h => ⟨fun j hj hj' => ?_, h.2⟩, fun h => ⟨fun j hj hj' => h.1 j (by omega) hj', h.2⟩⟩⟩
      · rw [impl_NameOK.l0, if_pos hlt, if_pos h0, if_pos hlt, wid (n := i + 1) (by omega) (by omega)]
        unfold Letter Digit at hg
        generalize bt x i = c at *
        repeat' split
        all_goals first | rfl | (exfalso; omega)
      · by_cases e : j = i
        · subst e; exact hg
        · exact h.1 j (by omega) hj'
    · refine ⟨false, Ev.step (fun k => ?_) (Ev.now _), ⟨(fun h => by cases h), fun h => absurd (h.1 i (Int.le_refl _) hlt) hg⟩⟩
      rw [impl_NameOK.l0, if_pos hlt, if_pos h0, if_pos hlt]
      unfold Letter Digit at hg
      generalize bt x i = c at *
      repeat' split
      all_goals first | rfl | (exfalso; omega)

theorem NameOK_ev (x : ByteArray) (hn : (x.size : Int) ≤ 140737488351232) : ∃ b, Ev (fun k => impl_NameOK.f k x) b ∧ (b = true ↔ IsName x) := by
  obtain ⟨b, hb, hb'⟩ := nameok_l0 x hn x.size 0 (by omega) (by omega) (by omega)
  exact ⟨b, hb, hb'.trans ⟨fun h => ⟨h.2.1, h.2.2, h.1⟩, fun h => ⟨h.2.2, h.1, h.2.1⟩⟩⟩

theorem bool_of_iff {b : Bool} {p : Prop} [Decidable p] (h : b = true ↔ p) : b = decide p := by rw [Bool.eq_iff_iff, h, decide_eq_true_iff]
theorem letter_eq (c : Int) : spec_l00Letter.f c = some (decide (Letter c)) := by
  unfold spec_l00Letter.f
  repeat' split
  all_goals
    refine congrArg some (bool_of_iff ?_)
    unfold Letter
    first
    | exact ⟨fun _ => by omega, fun _ => rfl⟩
    | (rw [beq_iff_eq]; omega)
theorem digit_eq (c : Int) : spec_l00Digit.f c = some (decide (Digit c)) := by
  unfold spec_l00Digit.f
  split
  · refine congrArg some (bool_of_iff ?_)
    unfold Digit
    rw [decide_eq_true_iff]
    omega
  · refine congrArg some (bool_of_iff ?_)
    unfold Digit
    exact ⟨(fun h => by cases h), fun h => by omega⟩

theorem word_l0 (x : ByteArray) (hn : (x.size : Int) ≤ 40) (d : Nat) : ∀ i : Int, 1 ≤ i → i ≤ (x.size : Int) → (x.size : Int) - i = d →
    ∃ b, Ev (fun k => spec_l00Word.l0 k x i) b ∧ (b = true ↔ ∀ j : Int, i ≤ j → j < (x.size : Int) → Letter (bt x j) ∨ (j ≠ 0 ∧ Digit (bt x j))) := by
  induction d with
  | zero =>
    intro i h0 h1 hd
    exact ⟨true, Ev.step (fun k => by rw [spec_l00Word.l0, if_neg (by omega)]) (Ev.now _), ⟨fun _ j hj hj' => by omega, fun _ => rfl⟩⟩
  | succ d ih =>
    intro i h0 h1 hd
    have hlt : i < (x.size : Int) := by omega
    have hstep : ∀ k, spec_l00Word.l0 (k + 1) x i = if decide (Letter (bt x i)) = true then spec_l00Word.l0 k x (i + 1) else if decide (Digit (bt x i)) = true then spec_l00Word.l0 k x (i + 1) else some false := by
      intro k
      rw [spec_l00Word.l0, if_pos hlt, if_pos (by omega), letter_eq, digit_eq, wid (n := i + 1) (by omega) (by omega)]
      rfl
    by_cases hg : Letter (bt x i) ∨ Digit (bt x i)
    · obtain ⟨b, hb, hb'⟩ := ih (i + 1) (by omega) (by omega) (by omega)
      refine ⟨b, Ev.step (fun k => ?_) hb, hb'.trans ⟨fun h j hj hj' => ?_, fun h j hj hj' => h j (by omega) hj'⟩⟩
      · rw [hstep]
        rcases hg with hg | hg
        · rw [if_pos (decide_eq_true hg)]
        · rw [if_pos (decide_eq_true hg)]
          split <;> rfl
      · by_cases e : j = i
        · subst e; exact hg.imp id (fun y => ⟨by omega, y⟩)
        · exact h j (by omega) hj'
    · refine ⟨false, Ev.step (fun k => ?_) (Ev.now _), ⟨(fun h => by cases h), fun h => absurd ((h i (Int.le_refl _) hlt).imp id (fun y => y.2)) hg⟩⟩
      rw [hstep, if_neg (by rw [decide_eq_true_iff]; exact fun y => hg (.inl y)), if_neg (by rw [decide_eq_true_iff]; exact fun y => hg (.inr y))]

theorem Word_ev (x : ByteArray) : ∃ b, Ev (fun k => spec_l00Word.f k x) b ∧ (b = true ↔ IsName x) := by
  unfold spec_l00Word.f
  have hf : Ev (fun k => spec_l00Word.j0 k x true) false := Ev.step (fun k => by rw [spec_l00Word.j0, if_pos rfl]) (Ev.now _)
  by_cases h1 : (x.size : Int) < 1
  · simp only [if_pos h1]
    exact ⟨false, hf, ⟨(fun h => by cases h), fun h => by have := h.1; omega⟩⟩
  simp only [if_neg h1]
  by_cases h2 : (x.size : Int) > 40
  · simp only [if_pos h2]
    exact ⟨false, hf, ⟨(fun h => by cases h), fun h => by have := h.2.1; omega⟩⟩
  simp only [if_neg h2, if_pos (show (0 : Int) < (x.size : Int) by omega), letter_eq, Option.bind_some]
  by_cases h3 : Letter (bt x 0)
  · obtain ⟨b, hb, hb'⟩ := word_l0 x (by omega) (x.size - 1) 1 (by omega) (by omega) (by omega)
    refine ⟨b, ?_, hb'.trans ⟨fun h => ⟨by omega, by omega, fun j hj hj' => ?_⟩, fun h j hj hj' => h.2.2 j (by omega) hj'⟩⟩
    · rw [decide_eq_true h3]
      exact Ev.step (fun k => by rw [Bool.not_true, spec_l00Word.j0, if_neg (by decide)]) hb
    · by_cases e : j = 0
      · subst e; exact .inl h3
      · exact h j (by omega) hj'
  · rw [decide_eq_false h3]
    refine ⟨false, hf, ⟨(fun h => by cases h), fun h => ?_⟩⟩
    rcases h.2.2 0 (by omega) (by omega) with h | h
    · exact absurd h h3
    · exact absurd rfl h.1

noncomputable instance (x : ByteArray) : Decidable (IsName x) := Classical.propDecidable _
/-- A name of at most twelve bytes. -/
noncomputable def nameB (x : ByteArray) : Bool := decide (IsName x ∧ x.size ≤ 12)
noncomputable def peopleB (x : ByteArray) : Bool := nameB x && !impl_isPeople.bad x

theorem DenomOK_ev (x : ByteArray) (hn : (x.size : Int) ≤ 140737488351232) : Ev (fun k => impl_DenomOK.f k x) (nameB x) := by
  obtain ⟨b, hb, hb'⟩ := NameOK_ev x hn
  unfold impl_DenomOK.f
  refine Ev.bind hb ?_
  unfold nameB
  by_cases h : IsName x
  · simp only [hb'.2 h, if_true]
    rw [show decide ((x.size : Int) ≤ 12) = decide (IsName x ∧ x.size ≤ 12) from by rw [Bool.eq_iff_iff, decide_eq_true_iff, decide_eq_true_iff]; exact ⟨fun y => ⟨h, by omega⟩, fun y => by have := y.2; omega⟩]
    exact Ev.now _
  · obtain rfl : b = false := by cases b; rfl; exact absurd (hb'.1 rfl) h
    rw [decide_eq_false (fun y : IsName x ∧ x.size ≤ 12 => h y.1)]
    exact Ev.now _

theorem l05Name_ev (x : ByteArray) : Ev (fun k => spec_l05Name.f k x) (nameB x) := by
  obtain ⟨b, hb, hb'⟩ := Word_ev x
  unfold spec_l05Name.f nameB
  by_cases h12 : (x.size : Int) ≤ 12
  · simp only [if_pos h12]
    have : Ev (fun k => spec_NameOK.f k x) b := by unfold spec_NameOK.f; exact Ev.bind hb (Ev.now _)
    refine Ev.bind this ?_
    rw [show b = decide (IsName x ∧ x.size ≤ 12) from by rw [Bool.eq_iff_iff, decide_eq_true_iff, hb']; exact ⟨fun y => ⟨y, by omega⟩, fun y => y.1⟩]
    exact Ev.now _
  · simp only [if_neg h12]
    rw [decide_eq_false (fun y : IsName x ∧ x.size ≤ 12 => h12 (by have := y.2; omega))]
    exact Ev.now _

theorem l08Name_ev (x : ByteArray) : Ev (fun k => spec_l08Name.f k x) (peopleB x) := by
  unfold spec_l08Name.f
  refine Ev.bind (l05Name_ev x) ?_
  unfold peopleB impl_isPeople.bad
  cases nameB x with
  | false => exact Ev.now _
  | true =>
    simp only [if_true, Bool.true_and]
    by_cases h1 : x.toList = ([101, 115, 99, 114, 111, 119] : List UInt8)
    · simp only [h1, if_true]; exact Ev.now _
    · simp only [if_neg h1]
      by_cases h2 : x.toList = ([111, 114, 100, 101, 114, 115] : List UInt8)
      · simp only [h2, if_true]; exact Ev.now _
      · simp only [if_neg h2]
        by_cases h3 : x.toList = ([116, 97, 107, 101, 115] : List UInt8)
        · simp only [h3, if_true]; exact Ev.now _
        · simp only [if_neg h3, beq_eq_false_iff_ne.2 h1, beq_eq_false_iff_ne.2 h2, beq_eq_false_iff_ne.2 h3, Bool.false_or]
          exact Ev.now _

theorem areNames_go (l : List ByteArray) (hl : l.length < 1000000) (hn : ∀ x ∈ l, (x.size : Int) ≤ 140737488351232) : ∀ (d : Nat) (i : Nat), i + d = l.length →
    Ev (fun k => impl_areNames.l0 k l (l.length : Int) (i : Int)) ((l.drop i).all nameB) := by
  intro d
  induction d with
  | zero =>
    intro i hi
    refine Ev.step (fun k => ?_) (Ev.now _)
    rw [impl_areNames.l0, if_neg (by omega), List.drop_of_length_le (by omega)]
    rfl
  | succ d ih =>
    intro i hi
    have hlt : i < l.length := by omega
    have hx : rdOf ByteArray.empty l (i : Int) = l[i] := by simp [rdOf, List.getD_eq_getElem?_getD, List.getElem?_eq_getElem hlt]
    have h1 := DenomOK_ev l[i] (hn _ (List.getElem_mem hlt))
    have h2 := ih (i + 1) (by omega)
    rw [List.drop_eq_getElem_cons hlt, List.all_cons]
    have hstep : ∀ k, impl_areNames.l0 (k + 1) l (l.length : Int) (i : Int) = (impl_DenomOK.f k l[i]).bind fun t => if t = true then impl_areNames.l0 k l (l.length : Int) ((i + 1 : Nat) : Int) else some false := by
      intro k
      rw [impl_areNames.l0, if_pos (by omega), if_pos (by omega), if_pos (by omega), hx, wid (n := (i : Int) + 1) (by omega) (by omega)]
      rfl
    refine Ev.step hstep (Ev.bind h1 ?_)
    cases nameB l[i] with
    | false => exact Ev.now _
    | true =>
      simp only [if_true, Bool.true_and]
      exact h2
theorem areNames_ev (l : List ByteArray) (hl : l.length < 1000000) (hn : ∀ x ∈ l, (x.size : Int) ≤ 140737488351232) : Ev (fun k => impl_areNames.f k l) (l.all nameB) := by
  have := areNames_go l hl hn l.length 0 (by omega)
  unfold impl_areNames.f
  simpa using this
theorem isPeople_ev (l : List ByteArray) (hl : l.length < 1000000) (hn : ∀ x ∈ l, (x.size : Int) ≤ 140737488351232) : Ev (fun k => impl_isPeople.f k l) (l.all peopleB) := by
  unfold impl_isPeople.f
  refine Ev.bind (areNames_ev l hl hn) ?_
  have e : l.all peopleB = (l.all nameB && !l.any impl_isPeople.bad) := by
    clear hl hn
    induction l with
    | nil => rfl
    | cons a l ih =>
      simp only [List.all_cons, List.any_cons, ih, peopleB]
      cases nameB a <;> cases impl_isPeople.bad a <;> cases l.all nameB <;> cases l.any impl_isPeople.bad <;> rfl
  rw [e]
  cases l.all nameB with
  | false => exact Ev.now _
  | true => simp only [if_true, Bool.true_and]; exact Ev.now _

end Go.Proofs.YtabmfhnhmoiljaaGreatDoor.U

/- Marks: what the laws write into rows to see whether memory is shared. -/
namespace Go.Proofs.YtabmfhnhmoiljaaGreatDoor.U
open Go Go.RowKit Go.Proofs.YtabmfhnhmoiljaaGreatDoor.Q Go.Proofs.YtabmfhnhmoiljaaGreatDoorW.PrintWords Go.Proofs.YtabmfhnhmoiljaaGreatDoorW.PrintLast Go.Proofs.YtabmfhnhmoiljaaGreatDoorW.PrintMore
set_option linter.unusedVariables false
set_option linter.unusedSimpArgs false

def markV (n : Nat) : ByteArray := if n = 0 then (⟨#[109, 48]⟩ : ByteArray) else (⟨#[109]⟩ : ByteArray) ++ digV n
theorem digV_big {v : Nat} (h : ¬ v < 10) : digV v = digV (v / 10) ++ (⟨#[UInt8.ofNat (48 + v % 10)]⟩ : ByteArray) := by
  apply ByteArray.ext
  unfold digV
  rw [dec_big h]
  simp
theorem mark_go (v : Nat) : ∀ (acc : ByteArray), 1 ≤ v → v ≤ 1000000000000000000 → acc.size + v ≤ 9000000000000000000 → Ev (fun k => laws_markText.l0 k (v : Int) acc) ((⟨#[109]⟩ : ByteArray) ++ (digV v ++ acc)) := by
  induction v using Nat.strongRecOn with
  | _ v ih =>
    intro acc h1 h2 h3
    have e1 : wrap64 (Int.tdiv (v : Int) 10) = ((v / 10 : Nat) : Int) := by rw [tdiv_nn (by omega), wid (by omega) (by omega)]; omega
    have e2 : Int.tmod (v : Int) 10 = ((v % 10 : Nat) : Int) := by rw [tmod_nn (by omega)]; omega
    have sz : (⟨#[UInt8.ofNat (48 + v % 10)]⟩ : ByteArray).size = 1 := rfl
    refine Ev.step (f := fun k => laws_markText.l0 k ((v / 10 : Nat) : Int) ((⟨#[UInt8.ofNat (48 + v % 10)]⟩ : ByteArray) ++ acc)) (fun k => ?_) ?_
    · rw [laws_markText.l0, if_pos (by omega), e1, e2]
      simp only [Option.bind_some, one_digit (v % 10) (by omega)]
      rw [if_pos (by rw [sz]; omega)]
    · have hacc : ((⟨#[UInt8.ofNat (48 + v % 10)]⟩ : ByteArray) ++ acc).size = 1 + acc.size := by rw [ByteArray.size_append, sz]
      by_cases hv : v < 10
      · have e : v / 10 = 0 := by omega
        rw [e]
        refine Ev.step (fun k => ?_) (Ev.now _)
        rw [show ((0 : Nat) : Int) = 0 from rfl, laws_markText.l0, if_neg (by decide), if_pos (by rw [hacc]; omega)]
        have : digV v = (⟨#[UInt8.ofNat (48 + v % 10)]⟩ : ByteArray) := by
          apply ByteArray.ext
          unfold digV
          rw [Lib.decDigits_one hv, Nat.mod_eq_of_lt hv]
        rw [this]
      · have := ih (v / 10) (by omega) ((⟨#[UInt8.ofNat (48 + v % 10)]⟩ : ByteArray) ++ acc) (by omega) (by omega) (by rw [hacc]; omega)
        rw [digV_big hv]
        simp only [ByteArray.append_assoc] at this ⊢
        exact this
theorem markText_ev (n : Nat) (h : n ≤ 1000000000000000000) : Ev (fun k => laws_markText.f k (n : Int)) (markV n) := by
  unfold laws_markText.f markV
  by_cases h0 : n = 0
  · subst h0
    simp only [if_pos (show ((0 : Nat) : Int) ≤ 0 by decide), if_true]
    exact Ev.now _
  · simp only [if_neg (show ¬ (n : Int) ≤ 0 by omega), if_neg h0]
    have e := mark_go n (⟨#[]⟩ : ByteArray) (by omega) h (by show 0 + n ≤ _; omega)
    have z : digV n ++ (⟨#[]⟩ : ByteArray) = digV n := by apply ByteArray.ext; simp
    rw [z] at e
    exact e
/-- The pairs as they are marked, from a number on. -/
def markP (n i : Nat) : IP := ⟨markV (n + 2 * i), markV (n + 2 * i + 1)⟩
def markPs (n : Nat) (l : List IP) : List IP := (List.range l.length).map fun i => markP n i
theorem markPairS_go (N : Nat) (l : List IP) (n : Nat) (hl : l.length = N) (hN : N ≤ 1048576) (hn : n ≤ 1000000) : ∀ (d i : Nat) (o : List IP), i + d = N → o.length = N → (∀ j, j < i → o[j]? = some (markP n j)) →
    Ev (fun k => laws_markPairS.l0 k o ((n + 2 * i : Nat) : Int) (i : Int)) (((n + 2 * N : Nat) : Int), markPs n l) := by
  intro d
  induction d with
  | zero =>
    intro i o hi ho hj
    have e : o = markPs n l := by
      apply List.ext_getElem?
      intro j
      by_cases h : j < i
      · rw [hj j h]; unfold markPs; rw [List.getElem?_map, List.getElem?_range (by omega)]; rfl
      · rw [List.getElem?_eq_none (by omega), List.getElem?_eq_none (by unfold markPs; simp; omega)]
    refine Ev.step (fun k => ?_) (Ev.now _)
    rw [laws_markPairS.l0, if_neg (by omega), e, show i = N by omega]
  | succ d ih =>
    intro i o hi ho hj
    have hlt : i < o.length := by omega
    refine Ev.step (f := fun k => (laws_markText.f k ((n + 2 * i : Nat) : Int)).bind fun t => (laws_markText.f k ((n + 2 * i + 1 : Nat) : Int)).bind fun u => laws_markPairS.l0 k (o.set i ⟨t, u⟩) ((n + 2 * (i + 1) : Nat) : Int) ((i + 1 : Nat) : Int)) (fun k => ?_) ?_
    · have w1 : wrap64 (((n + 2 * i : Nat) : Int) + 1) = ((n + 2 * i + 1 : Nat) : Int) := by rw [wid (by omega) (by omega)]; omega
      have w2 : wrap64 (((n + 2 * i + 1 : Nat) : Int) + 1) = ((n + 2 * (i + 1) : Nat) : Int) := by rw [wid (by omega) (by omega)]; omega
      have w3 : wrap64 ((i : Int) + 1) = ((i + 1 : Nat) : Int) := by rw [wid (by omega) (by omega)]; omega
      rw [laws_markPairS.l0, if_pos (by omega)]
      congr 1
      funext t
      rw [if_pos (by omega), w1, w2, w3]
      simp only [Option.bind_some]
      congr 1
      funext u
      rw [Int.toNat_natCast, List.set_set]
      have : (rd_T51 (o.set i (⟨t, (rd_T51 o (i : Int)).f1⟩ : IP)) (i : Int)).f0 = t := by
        rw [rdI _ i (by rw [List.length_set]; exact hlt), List.getElem_set_self]
      rw [this]
    · refine Ev.bind (markText_ev _ (by omega)) (Ev.bind (markText_ev _ (by omega)) ?_)
      refine ih (i + 1) _ (by omega) (by rw [List.length_set]; exact ho) (fun j hji => ?_)
      rw [List.getElem?_set]
      by_cases h : i = j
      · subst h
        rw [if_pos rfl, if_pos hlt]
        rfl
      · rw [if_neg h]
        exact hj j (by omega)
theorem markPairS_ev (l : List IP) (n : Nat) (hN : l.length ≤ 1048576) (hn : n ≤ 1000000) : Ev (fun k => laws_markPairS.f k l (n : Int)) (((n + 2 * l.length : Nat) : Int), markPs n l) := by
  unfold laws_markPairS.f
  exact markPairS_go l.length l n rfl hN hn l.length 0 l (by omega) rfl (fun j h => by omega)
end Go.Proofs.YtabmfhnhmoiljaaGreatDoor.U

/- What is put into a store, dropped from it, and moved in it: the program and the reference take the same steps. -/
namespace Go.Proofs.YtabmfhnhmoiljaaGreatDoor.U
open Go Go.RowKit Go.Proofs.YtabmfhnhmoiljaaGreatDoor.Q Go.Proofs.YtabmfhnhmoiljaaGreatDoorW.PrintWords Go.Proofs.YtabmfhnhmoiljaaGreatDoorW.PrintLast Go.Proofs.YtabmfhnhmoiljaaGreatDoorW.PrintMore
set_option linter.unusedVariables false
set_option linter.unusedSimpArgs false

/-- Stores as they come up: no more than 400 pairs, each with a key. -/
def Rt (l : List IP) : Prop := l.length ≤ 400 ∧ ∀ x ∈ l, 1 ≤ x.f0.size ∧ x.f0.size ≤ 1000 ∧ x.f1.size ≤ 1000
def putV (l : List IP) (key v : ByteArray) : List IP × Int :=
  if hitB l key = true then (l.set (atOf l key) ⟨(rd_T51 l (atOf l key : Int)).f0, v⟩, 0) else if l.length = 400 then (l, 7) else (l.insertIdx (atOf l key) ⟨key, v⟩, 0)
def dropV (l : List IP) (key : ByteArray) : List IP × Int := if hitB l key = true then (l.eraseIdx (atOf l key), 0) else (l, 5)
theorem hit_lt {l : List IP} {key : ByteArray} (h : hitB l key = true) : atOf l key < l.length := by
  unfold hitB at h
  rw [Bool.and_eq_true, decide_eq_true_iff] at h
  exact h.1
theorem implPut_ev (l : List IP) (key v : ByteArray) (hl : l.length ≤ 1000000) : Ev (fun k => impl_put.f k l key v) (putV l key v) := by
  unfold impl_put.f putV
  simp only [if_pos hl]
  refine Ev.bind (implAt_ev l key (by omega)) ?_
  have hle := atOf_le l key
  simp only [if_pos (show (0 : Int) ≤ (atOf l key : Int) by omega), if_pos (show (atOf l key : Int) ≤ (l.length : Int) by omega), Int.toNat_natCast]
  cases h : hitB l key with
  | true =>
    have := hit_lt h
    simp only [if_true, if_pos (show (atOf l key : Int) < (l.length : Int) by omega)]
    exact Ev.now _
  | false =>
    simp only [Bool.false_eq_true, if_false]
    by_cases h4 : l.length = 400
    · simp only [if_pos h4, if_pos (show (l.length : Int) = 400 by omega)]; exact Ev.now _
    · simp only [if_neg h4, if_neg (show ¬ (l.length : Int) = 400 by omega)]; exact Ev.now _
theorem hit_iff (l : List IP) (key : ByteArray) : (hitB l key = true) ↔ ((atOf l key : Int) < (l.length : Int) ∧ ((rd_T51 l (atOf l key : Int)).f0).toList = key.toList) := by
  unfold hitB
  rw [Bool.and_eq_true, decide_eq_true_iff, beq_iff_eq]
  constructor
  · rintro ⟨h1, h2⟩; exact ⟨by omega, h2⟩
  · rintro ⟨h1, h2⟩; exact ⟨by omega, h2⟩
theorem specPut_ev (l : List IP) (key v : ByteArray) (hl : l.length ≤ 1000000) : Ev (fun k => spec_l03Put.f k l key v) (putV l key v) := by
  unfold spec_l03Put.f putV
  refine Ev.bind (specAt_ev l key (by omega)) ?_
  have hle := atOf_le l key
  simp only [if_pos hl, if_pos (show (0 : Int) ≤ (atOf l key : Int) by omega), if_pos (show (atOf l key : Int) ≤ (l.length : Int) by omega), Int.toNat_natCast]
  by_cases h : hitB l key = true
  · simp only [if_pos h, if_pos ((hit_iff l key).1 h)]; exact Ev.now _
  · simp only [if_neg h, if_neg (fun e => h ((hit_iff l key).2 e))]
    by_cases h4 : l.length = 400
    · simp only [if_pos h4, if_pos (show (l.length : Int) = 400 by omega)]; exact Ev.now _
    · simp only [if_neg h4, if_neg (show ¬ (l.length : Int) = 400 by omega)]; exact Ev.now _
theorem implDrop_ev (l : List IP) (key : ByteArray) (hl : l.length ≤ 1000000) : Ev (fun k => impl_drop.f k l key) (dropV l key) := by
  unfold impl_drop.f dropV
  simp only [if_pos hl]
  refine Ev.bind (implAt_ev l key (by omega)) ?_
  cases h : hitB l key with
  | true =>
    have := hit_lt h
    simp only [if_true, if_pos (show (0 : Int) ≤ (atOf l key : Int) by omega), if_pos (show (atOf l key : Int) < (l.length : Int) by omega), Int.toNat_natCast]
    exact Ev.now _
  | false => simp only [Bool.false_eq_true, if_false]; exact Ev.now _
theorem specDrop_ev (l : List IP) (key : ByteArray) (hl : l.length ≤ 1000000) : Ev (fun k => spec_l03Drop.f k l key) (dropV l key) := by
  unfold spec_l03Drop.f dropV
  refine Ev.bind (specAt_ev l key (by omega)) ?_
  have hle := atOf_le l key
  simp only [if_pos hl, if_pos (show (0 : Int) ≤ (atOf l key : Int) by omega), Int.toNat_natCast]
  by_cases h1 : atOf l key < l.length
  · simp only [if_pos (show (atOf l key : Int) < (l.length : Int) by omega)]
    by_cases h2 : ((rd_T51 l (atOf l key : Int)).f0).toList = key.toList
    · simp only [if_pos h2, if_pos ((hit_iff l key).2 ⟨by omega, h2⟩)]; exact Ev.now _
    · simp only [if_neg h2, if_neg (fun e => h2 ((hit_iff l key).1 e).2)]; exact Ev.now _
  · have hn : ¬ hitB l key = true := fun e => h1 (hit_lt e)
    simp only [if_neg (show ¬ (atOf l key : Int) < (l.length : Int) by omega), if_neg hn, if_pos (show (atOf l key : Int) = (l.length : Int) by omega)]; exact Ev.now _
theorem rdI' (l : List IP) (i : Nat) (h : i < l.length) : rd_T51 l (i : Int) = l[i] := by simp [rd_T51, List.getD_eq_getElem?_getD, List.getElem?_eq_getElem h]
theorem putV_rt {l : List IP} {key v : ByteArray} (h : Rt l) (h1 : 1 ≤ key.size) (h2 : key.size ≤ 1000) (h3 : v.size ≤ 1000) : Rt (putV l key v).1 := by
  unfold putV
  by_cases hh : hitB l key = true
  · rw [if_pos hh]
    have hlt := hit_lt hh
    refine ⟨by rw [List.length_set]; exact h.1, fun x hx => ?_⟩
    rcases List.mem_or_eq_of_mem_set hx with hx | rfl
    · exact h.2 x hx
    · rw [rdI' l _ hlt]
      have := h.2 _ (List.getElem_mem hlt)
      exact ⟨this.1, this.2.1, h3⟩
  · rw [if_neg hh]
    by_cases h4 : l.length = 400
    · rw [if_pos h4]; exact h
    · rw [if_neg h4]
      refine ⟨by rw [List.length_insertIdx_of_le_length (atOf_le l key)]; have := h.1; omega, fun x hx => ?_⟩
      rcases (List.mem_insertIdx (atOf_le l key)).1 hx with rfl | hx
      · exact ⟨h1, h2, h3⟩
      · exact h.2 x hx
theorem dropV_rt {l : List IP} {key : ByteArray} (h : Rt l) : Rt (dropV l key).1 := by
  unfold dropV
  by_cases hh : hitB l key = true
  · rw [if_pos hh]
    refine ⟨Nat.le_trans (by simpa using List.length_eraseIdx_le l (atOf l key)) h.1, fun x hx => h.2 x (List.mem_of_mem_eraseIdx hx)⟩
  · rw [if_neg hh]; exact h
theorem dropV_nil {l : List IP} (h : Rt l) : dropV l (⟨#[]⟩ : ByteArray) = (l, 5) := by
  unfold dropV
  rw [if_neg]
  intro hh
  have hlt := hit_lt hh
  have := (hit_iff l _).1 hh
  rw [rdI' l _ hlt] at this
  have h1 := (h.2 _ (List.getElem_mem hlt)).1
  have h2 : l[atOf l (⟨#[]⟩ : ByteArray)].f0.size = 0 := (toList_nil_iff _).1 (this.2.trans ((toList_nil_iff _).2 rfl))
  omega
/-- The amount at a key. -/
def amtAt (l : List IP) (key : ByteArray) : Int := max0 (amtV (getV l key).1)
theorem amtAt_bd (l : List IP) (key : ByteArray) : 0 ≤ amtAt l key ∧ amtAt l key ≤ 1000000000000000000 := by
  unfold amtAt max0
  by_cases h : 0 ≤ amtV (getV l key).1
  · rw [if_pos h]; exact ⟨h, (amtV_eq h).2⟩
  · rw [if_neg h]; omega
theorem amountAt_ev (l : List IP) (key : ByteArray) (h : Rt l) : Ev (fun k => impl_amountAt.f k l key) (amtAt l key) := by
  unfold impl_amountAt.f amtAt
  refine Ev.bind (implGet_ev l key (by have := h.1; omega)) ?_
  obtain ⟨b, hb⟩ := readAmount_fst (getV l key).1 (Nat.le_trans (getV_size l key 1000 (fun x hx => (h.2 x hx).2.2)) (by decide))
  rw [hb]
  exact Ev.now _
theorem amtV_nil : amtV (⟨#[]⟩ : ByteArray) = -1 := by decide
theorem l05Read_ev (l : List IP) (key : ByteArray) (h : Rt l) : Ev (fun k => spec_l05Read.f k l key) (amtAt l key) := by
  unfold spec_l05Read.f
  refine Ev.bind (specGet_ev l key (by have := h.1; omega)) ?_
  have e : ∀ n : Int, mx 0 n = max0 n := fun n => by unfold mx max0; omega
  cases hf : (getV l key).2 with
  | true =>
    simp only [if_true]
    refine Ev.bind (l02Of_ev _ (Nat.le_trans (getV_size l key 1000 (fun x hx => (h.2 x hx).2.2)) (by decide))) ?_
    rw [e]
    exact Ev.now _
  | false =>
    have : amtAt l key = 0 := by
      unfold amtAt getV at *
      by_cases hh : hitB l key = true
      · rw [if_pos hh] at hf; cases hf
      · rw [if_neg hh, amtV_nil]; rfl
    simp only [Bool.false_eq_true, if_false, this]
    exact Ev.now _
/-- So much more at a key, or fewer. -/
def addV (l : List IP) (key : ByteArray) (n : Int) : List IP × Int :=
  if amtAt l key + n < 0 then (l, 12) else if 1000000000000000000 < amtAt l key + n then (l, 13) else if amtAt l key + n = 0 then ((dropV l key).1, 0) else putV l key (digV (amtAt l key + n).toNat)
theorem isAmount_eq (n : Int) : impl_isAmount.f n = some (decide (0 ≤ n ∧ n ≤ 1000000000000000000)) := by unfold impl_isAmount.f; rw [within_eq]; rfl
theorem putAmount_ev (l : List IP) (key : ByteArray) (n : Int) (hl : l.length ≤ 1000000) (h0 : 0 ≤ n) (h1 : n ≤ 1000000000000000000) : Ev (fun k => impl_putAmount.f k l key n) (if n = 0 then ((dropV l key).1, 0) else putV l key (digV n.toNat)) := by
  unfold impl_putAmount.f
  by_cases hn : n = 0
  · simp only [if_pos hn, if_neg (show ¬ n > 0 by omega)]
    exact Ev.bind (implDrop_ev l key hl) (Ev.now _)
  · simp only [if_neg hn, if_pos (show n > 0 by omega), amountText_eq n h0 (by omega), Option.bind_some]
    exact Ev.bind (implPut_ev l key _ hl) (Ev.now _)
theorem more_ev (l : List IP) (key : ByteArray) (n : Int) (h : Rt l) (h0 : 0 ≤ n) (h1 : n ≤ 1000000000000000000) : Ev (fun k => impl_more.f k l key n) (addV l key n) := by
  unfold impl_more.f addV
  refine Ev.bind (amountAt_ev l key h) ?_
  have hb := amtAt_bd l key
  generalize amtAt l key = a at *
  rw [if_neg (by omega)]
  have hs : Ev (fun k => impl_AddAmount.f k a n) (if 1000000000000000000 < a + n then ((0, 13) : Int × Int) else (a + n, 0)) := by
    unfold impl_AddAmount.f
    simp only [isAmount_eq, Option.bind_some, decide_eq_true hb, decide_eq_true (show 0 ≤ n ∧ n ≤ 1000000000000000000 from ⟨h0, h1⟩), if_true, Bool.not_true]
    refine Ev.step (f := fun _ => some (if 1000000000000000000 < a + n then ((0, 13) : Int × Int) else (a + n, 0))) (fun k => ?_) (Ev.now _)
    rw [impl_AddAmount.j0, if_neg (by decide), wid (n := a + n) (by omega) (by omega)]
    by_cases h2 : 1000000000000000000 < a + n
    · rw [if_pos (by omega), if_pos h2]
    · rw [if_neg (by omega), if_neg h2]
  refine Ev.bind hs ?_
  by_cases h2 : 1000000000000000000 < a + n
  · simp only [if_pos h2, if_neg (show ¬ (13 : Int) = 0 by decide)]; exact Ev.now _
  · simp only [if_neg h2, if_true]
    exact putAmount_ev l key (a + n) (by have := h.1; omega) (by omega) (by omega)
theorem fewer_ev (l : List IP) (key : ByteArray) (n : Int) (h : Rt l) (h0 : 0 ≤ n) (h1 : n ≤ 1000000000000000000) : Ev (fun k => impl_fewer.f k l key n) (addV l key (-n)) := by
  unfold impl_fewer.f addV
  refine Ev.bind (amountAt_ev l key h) ?_
  have hb := amtAt_bd l key
  generalize amtAt l key = a at *
  have hs : Ev (fun k => impl_SubAmount.f k a n) (if a < n then ((0, 12) : Int × Int) else (a - n, 0)) := by
    unfold impl_SubAmount.f
    simp only [isAmount_eq, Option.bind_some, decide_eq_true hb, decide_eq_true (show 0 ≤ n ∧ n ≤ 1000000000000000000 from ⟨h0, h1⟩), if_true, Bool.not_true]
    refine Ev.step (f := fun _ => some (if a < n then ((0, 12) : Int × Int) else (a - n, 0))) (fun k => ?_) (Ev.now _)
    rw [impl_SubAmount.j0, if_neg (by decide), wid (n := a - n) (by omega) (by omega)]
    by_cases h2 : a < n
    · rw [if_pos h2, if_pos h2]
    · rw [if_neg h2, if_neg h2]
  refine Ev.bind hs ?_
  rw [show a + -n = a - n by omega]
  by_cases h2 : a < n
  · simp only [if_pos h2, if_pos (show a - n < 0 by omega)]
    simp only [if_neg (show ¬ (12 : Int) = 0 by decide)]; exact Ev.now _
  · simp only [if_neg h2, if_true, if_neg (show ¬ a - n < 0 by omega), if_neg (show ¬ 1000000000000000000 < a - n by omega)]
    exact putAmount_ev l key (a - n) (by have := h.1; omega) (by omega) (by omega)
theorem l05Write_ev (l : List IP) (key : ByteArray) (n : Int) (hl : l.length ≤ 1000000) (h0 : 0 ≤ n) (h1 : n ≤ 1000000000000000000) : Ev (fun k => spec_l05Write.f k l key n) (if n = 0 then ((dropV l key).1, 0) else putV l key (digV n.toNat)) := by
  unfold spec_l05Write.f
  by_cases hn : n = 0
  · simp only [if_pos hn]
    exact Ev.bind (specDrop_ev l key hl) (Ev.now _)
  · simp only [if_neg hn]
    have e := digits_ev n.toNat (by omega)
    rw [show ((n.toNat : Nat) : Int) = n by omega] at e
    exact Ev.bind e (Ev.bind (specPut_ev l key _ hl) (Ev.now _))
theorem l05Add_ev (l : List IP) (key : ByteArray) (n : Int) (h : Rt l) (h0 : -1000000000000000000 ≤ n) (h1 : n ≤ 1000000000000000000) : Ev (fun k => spec_l05Add.f k l key n) (addV l key n) := by
  unfold spec_l05Add.f addV
  refine Ev.bind (l05Read_ev l key h) ?_
  have hb := amtAt_bd l key
  generalize amtAt l key = a at *
  rw [wid (n := a + n) (by omega) (by omega)]
  by_cases h2 : a + n < 0
  · simp only [if_pos h2]; exact Ev.now _
  · by_cases h3 : 1000000000000000000 < a + n
    · simp only [if_neg h2, if_pos h3]; exact Ev.now _
    · simp only [if_neg h2, if_neg h3]
      exact Ev.bind (l05Write_ev l key (a + n) (by have := h.1; omega) (by omega) (by omega)) (Ev.now _)
theorem digV_small (v : Nat) (h : v ≤ 1000000000000000000) : (digV v).size ≤ 1000 := Nat.le_trans (digV_size v h) (by decide)
theorem addV_rt {l : List IP} {key : ByteArray} {n : Int} (h : Rt l) (h1 : 1 ≤ key.size) (h2 : key.size ≤ 1000) : Rt (addV l key n).1 := by
  unfold addV
  split
  · exact h
  · split
    · exact h
    · split
      · exact dropV_rt h
      · exact putV_rt h h1 h2 (digV_small _ (by omega))
/-- Two changes, whole or not at all. -/
def thenV (l : List IP) (a : List IP × Int) (f : List IP → List IP × Int) : List IP × Int := if a.2 = 0 then (if (f a.1).2 = 0 then ((f a.1).1, 0) else (l, (f a.1).2)) else (l, a.2)
def bKey (d a : ByteArray) : ByteArray := (((⟨#[98, 47]⟩ : ByteArray) ++ d) ++ (⟨#[47]⟩ : ByteArray)) ++ a
def sKey (d : ByteArray) : ByteArray := (⟨#[115, 47]⟩ : ByteArray) ++ d
theorem bKey_size (d a : ByteArray) : (bKey d a).size = 3 + d.size + a.size := by
  unfold bKey
  simp only [ByteArray.size_append]
  have e1 : (⟨#[98, 47]⟩ : ByteArray).size = 2 := rfl
  have e2 : (⟨#[47]⟩ : ByteArray).size = 1 := rfl
  omega
theorem sKey_size (d : ByteArray) : (sKey d).size = 2 + d.size := by
  unfold sKey
  simp only [ByteArray.size_append]
  have e1 : (⟨#[115, 47]⟩ : ByteArray).size = 2 := rfl
  omega
def moveV (l : List IP) (f t d : ByteArray) (n : Int) : List IP × Int := thenV l (addV l (bKey d f) (-n)) (fun m => addV m (bKey d t) n)
def mintV (l : List IP) (a d : ByteArray) (n : Int) : List IP × Int := thenV l (addV l (sKey d) n) (fun m => addV m (bKey d a) n)
def burnV (l : List IP) (a d : ByteArray) (n : Int) : List IP × Int := thenV l (addV l (bKey d a) (-n)) (fun m => addV m (sKey d) (-n))
theorem thenV_rt {l : List IP} {a : List IP × Int} {f : List IP → List IP × Int} (h : Rt l) (h1 : Rt (f a.1).1) : Rt (thenV l a f).1 := by
  unfold thenV
  split
  · split
    · exact h1
    · exact h
  · exact h
theorem all_nil (k : Nat) (l o : List IP) : impl_all.go k l [] o = some (o, 0) := rfl
/-- The program's list of changes, one behind the other. -/
def seqV (l : List IP) : List (List IP → List IP × Int) → List IP → List IP × Int
  | [], o => (o, 0)
  | f :: fs, o => if (f o).2 = 0 then seqV l fs (f o).1 else (l, (f o).2)
theorem go_ev (l : List IP) (hr : Rt l) : ∀ (Fs : List (Nat → List IP → Option (List IP × Int))) (fs : List (List IP → List IP × Int)) (o : List IP), Rt o → Fs.length = fs.length →
    (∀ (i : Nat) F f, Fs[i]? = some F → fs[i]? = some f → ∀ m, Rt m → Ev (fun k => F k m) (f m) ∧ Rt (f m).1) → Ev (fun k => impl_all.go k l (Fs.map fun F => F k) o) (seqV l fs o)
  | [], [], o, _, _, _ => Ev.now _
  | [], _ :: _, _, _, h, _ => by simp at h
  | _ :: _, [], _, _, h, _ => by simp at h
  | F :: Fs, f :: fs, o, ho, hlen, hF => by
    obtain ⟨h1, h2⟩ := hF 0 F f rfl rfl o ho
    unfold seqV
    refine Ev.bind h1 ?_
    by_cases hc : (f o).2 = 0
    · simp only [if_pos hc]
      exact go_ev l hr Fs fs (f o).1 h2 (by simpa using hlen) (fun i G g hG hg => hF (i + 1) G g (by simpa using hG) (by simpa using hg))
    · simp only [if_neg hc]
      refine Ev.bind (implDrop_ev l _ (by have := hr.1; omega)) ?_
      rw [dropV_nil hr]
      exact Ev.now _
theorem all_ev (l : List IP) (hr : Rt l) (Fs : List (Nat → List IP → Option (List IP × Int))) (fs : List (List IP → List IP × Int)) (hlen : Fs.length = fs.length)
    (hF : ∀ (i : Nat) F f, Fs[i]? = some F → fs[i]? = some f → ∀ m, Rt m → Ev (fun k => F k m) (f m) ∧ Rt (f m).1) : Ev (fun k => impl_all.f k l (Fs.map fun F => F k)) (seqV l fs l) := by
  unfold impl_all.f
  refine Ev.bind (implDrop_ev l _ (by have := hr.1; omega)) ?_
  rw [dropV_nil hr]
  exact go_ev l hr Fs fs l hr hlen hF
theorem seq_two (l : List IP) (f g : List IP → List IP × Int) : seqV l [f, g] l = thenV l (f l) g := by
  unfold seqV seqV seqV thenV
  split
  · split
    · rfl
    · rfl
  · rfl
theorem two_cases {α β : Type} {a b : α} {c d : β} {P : α → β → Prop} (h1 : P a c) (h2 : P b d) : ∀ (i : Nat) F f, [a, b][i]? = some F → [c, d][i]? = some f → P F f
  | 0, F, f, hF, hf => by
    simp only [List.getElem?_cons_zero, Option.some.injEq] at hF hf
    subst hF hf
    exact h1
  | 1, F, f, hF, hf => by
    simp only [List.getElem?_cons_succ, List.getElem?_cons_zero, Option.some.injEq] at hF hf
    subst hF hf
    exact h2
  | i + 2, F, f, hF, hf => by simp at hF
theorem implKey05_eq (d a : ByteArray) (h : d.size + a.size ≤ 1000) : impl_balanceKey.f d a = some (bKey d a) := by unfold impl_balanceKey.f bKey; rw [if_pos (by omega)]
theorem specKey05_eq (a d : ByteArray) (h : a.size + d.size ≤ 1000) : spec_l05Key.f a d = some (bKey d a) := by unfold spec_l05Key.f bKey; rw [if_pos (by omega)]
theorem move_ev (l : List IP) (f t d : ByteArray) (n : Int) (h : Rt l) (hf : f.size ≤ 100) (ht : t.size ≤ 100) (hd : d.size ≤ 100) (h0 : 0 ≤ n) (h1 : n ≤ 1000000000000000000) : Ev (fun k => impl_move.F k f t d n l) (moveV l f t d n) := by
  unfold impl_move.F moveV
  rw [← seq_two l (fun m => addV m (bKey d f) (-n)) (fun m => addV m (bKey d t) n)]
  refine all_ev l h [fun k m => (impl_balanceKey.f d f).bind fun key => impl_fewer.f k m key n, fun k m => (impl_balanceKey.f d t).bind fun key => impl_more.f k m key n] _ rfl (two_cases (fun m hm => ⟨?_, ?_⟩) (fun m hm => ⟨?_, ?_⟩))
  · rw [implKey05_eq d f (by omega)]; exact fewer_ev m _ n hm h0 h1
  · exact addV_rt hm (by rw [bKey_size]; omega) (by rw [bKey_size]; omega)
  · rw [implKey05_eq d t (by omega)]; exact more_ev m _ n hm h0 h1
  · exact addV_rt hm (by rw [bKey_size]; omega) (by rw [bKey_size]; omega)
theorem moveV_rt {l : List IP} {f t d : ByteArray} {n : Int} (h : Rt l) (hf : f.size ≤ 100) (ht : t.size ≤ 100) (hd : d.size ≤ 100) : Rt (moveV l f t d n).1 :=
  thenV_rt h (addV_rt (addV_rt h (by rw [bKey_size]; omega) (by rw [bKey_size]; omega)) (by rw [bKey_size]; omega) (by rw [bKey_size]; omega))
theorem l05Move_ev (l : List IP) (f t d : ByteArray) (n : Int) (h : Rt l) (hf : f.size ≤ 100) (ht : t.size ≤ 100) (hd : d.size ≤ 100) (h0 : 0 ≤ n) (h1 : n ≤ 1000000000000000000) : Ev (fun k => spec_l05Move.f k l f t d n) (moveV l f t d n) := by
  unfold spec_l05Move.f moveV thenV
  rw [specKey05_eq f d (by omega), wid (n := -n) (by omega) (by omega)]
  simp only [Option.bind_some]
  refine Ev.bind (l05Add_ev l _ (-n) h (by omega) (by omega)) ?_
  by_cases hc : (addV l (bKey d f) (-n)).2 = 0
  · simp only [if_pos hc, specKey05_eq t d (by omega), Option.bind_some]
    refine Ev.bind (l05Add_ev _ _ n (addV_rt h (by rw [bKey_size]; omega) (by rw [bKey_size]; omega)) (by omega) (by omega)) ?_
    split
    · exact Ev.now _
    · exact Ev.now _
  · simp only [if_neg hc]; exact Ev.now _
theorem rt_store {l : List IP} (h : storeB l = true) (hk : ∀ x ∈ l, (1 ≤ x.f0.size ∧ x.f0.size ≤ 60) ∧ x.f1.size ≤ 1000) : Rt l := by
  unfold storeB at h
  rw [Bool.and_eq_true, decide_eq_true_iff] at h
  exact ⟨h.2, fun x hx => ⟨(hk x hx).1.1, by have := (hk x hx).1.2; omega, (hk x hx).2⟩⟩
end Go.Proofs.YtabmfhnhmoiljaaGreatDoor.U

/- Keys that rise: where a search ends, and which pairs begin so. -/

namespace Go.Proofs.YtabmfhnhmoiljaaGreatDoor.U
open Go Go.RowKit Go.Proofs.YtabmfhnhmoiljaaGreatDoor.Q Go.Proofs.YtabmfhnhmoiljaaGreatDoorW.PrintWords Go.Proofs.YtabmfhnhmoiljaaGreatDoorW.PrintLast Go.Proofs.YtabmfhnhmoiljaaGreatDoorW.PrintMore
set_option linter.unusedVariables false
set_option linter.unusedSimpArgs false

theorem less_cons (a b : UInt8) (x y : List UInt8) : Op.bytesLess (a :: x) (b :: y) = true ↔ a < b ∨ (a = b ∧ Op.bytesLess x y = true) := by
  rw [Op.bytesLess, Bool.or_eq_true, Bool.and_eq_true, decide_eq_true_iff, beq_iff_eq]
theorem less_trans : ∀ a b c : List UInt8, Op.bytesLess a b = true → Op.bytesLess b c = true → Op.bytesLess a c = true
  | _, [], _, h, _ => by rw [Op.bytesLess] at h; cases h
  | _, _ :: _, [], _, h => by rw [Op.bytesLess] at h; cases h
  | [], _ :: _, _ :: _, _, _ => by rw [Op.bytesLess]
  | a :: x, b :: y, c :: z, h1, h2 => by
    rw [less_cons] at *
    rcases h1 with h1 | ⟨rfl, h1⟩
    · rcases h2 with h2 | ⟨rfl, h2⟩
      · exact .inl (UInt8.lt_trans h1 h2)
      · exact .inl h1
    · rcases h2 with h2 | ⟨rfl, h2⟩
      · exact .inl h2
      · exact .inr ⟨rfl, less_trans x y z h1 h2⟩
/-- It begins so. -/
def preL (p x : List UInt8) : Bool := x.take p.length == p
theorem preL_cons (c d : UInt8) (p x : List UInt8) : preL (c :: p) (d :: x) = true ↔ d = c ∧ preL p x = true := by
  unfold preL
  simp
theorem preL_ge : ∀ p x : List UInt8, preL p x = true → Op.bytesLess x p = false
  | [], x, _ => by cases x <;> rw [Op.bytesLess]
  | c :: p, [], h => by simp [preL] at h
  | c :: p, d :: x, h => by
    rw [preL_cons] at h
    obtain ⟨rfl, h⟩ := h
    have := preL_ge p x h
    rw [Bool.eq_false_iff] at *
    intro h2
    rw [less_cons] at h2
    rcases h2 with h2 | ⟨_, h2⟩
    · exact UInt8.lt_irrefl _ h2
    · exact this h2
theorem preL_past : ∀ p x y : List UInt8, Op.bytesLess x p = false → preL p x = false → Op.bytesLess x y = true → preL p y = false
  | [], x, y, _, h, _ => by simp [preL] at h
  | c :: p, [], y, h, _, _ => by rw [Op.bytesLess] at h; cases h
  | c :: p, d :: x, [], _, _, _ => by simp [preL]
  | c :: p, d :: x, e :: y, h1, h2, h3 => by
    rw [Bool.eq_false_iff] at *
    intro h4
    rw [less_cons] at h3
    rw [ne_eq, less_cons] at h1
    rw [preL_cons] at h4
    obtain ⟨rfl, h4⟩ := h4
    rcases h3 with h3 | ⟨rfl, h3⟩
    · exact h1 (.inl h3)
    · have g1 : Op.bytesLess x p = false := by rw [Bool.eq_false_iff]; exact fun h => h1 (.inr ⟨rfl, h⟩)
      have g2 : preL p x = false := by rw [Bool.eq_false_iff]; exact fun h => h2 ((preL_cons _ _ _ _).2 ⟨rfl, h⟩)
      have := preL_past p x y g1 g2 h3
      rw [this] at h4; cases h4
/-- Keys rise. -/
def Rises (l : List IP) : Prop := ∀ i (h : i + 1 < l.length), Op.bytesLess (l[i]'(by omega)).f0.toList l[i + 1].f0.toList = true
theorem Rises.lt {l : List IP} (h : Rises l) : ∀ (d i : Nat) (hd : i + 1 + d < l.length), Op.bytesLess (l[i]'(by omega)).f0.toList (l[i + 1 + d]).f0.toList = true
  | 0, i, hd => h i hd
  | d + 1, i, hd => less_trans _ _ _ (Rises.lt h d i (by omega)) (h (i + 1 + d) (by omega))
theorem Rises.lt' {l : List IP} (h : Rises l) {i j : Nat} (hij : i < j) (hj : j < l.length) : Op.bytesLess (l[i]'(by omega)).f0.toList l[j].f0.toList = true := by
  have := h.lt (j - i - 1) i (by omega)
  have e : i + 1 + (j - i - 1) = j := by omega
  simp only [e] at this
  exact this
theorem fromB_pair (l : List IP) : ∀ (d i j : Nat), fromB l d i = true → i ≤ j → j < i + d → pairB l j = true
  | 0, i, j, _, h1, h2 => by omega
  | d + 1, i, j, h, h1, h2 => by
    rw [fromB, Bool.and_eq_true] at h
    by_cases e : i = j
    · subst e; exact h.1
    · exact fromB_pair l d (i + 1) j h.2 (by omega) (by omega)
theorem storeB_pair {l : List IP} (h : storeB l = true) (i : Nat) (hi : i < l.length) : pairB l i = true := by
  unfold storeB at h
  rw [Bool.and_eq_true] at h
  exact fromB_pair l l.length 0 i h.1 (by omega) (by omega)
theorem storeB_len {l : List IP} (h : storeB l = true) : l.length ≤ 400 := by
  unfold storeB at h
  rw [Bool.and_eq_true, decide_eq_true_iff] at h
  exact h.2
theorem storeB_rises {l : List IP} (h : storeB l = true) : Rises l := by
  intro i hi
  have hp := storeB_pair h (i + 1) hi
  unfold pairB lessB at hp
  rw [Bool.and_eq_true, Bool.and_eq_true, Bool.or_eq_true, decide_eq_true_iff] at hp
  rcases hp.2.2 with h0 | h0
  · omega
  · rw [rdI l (i + 1) hi, show (((i + 1 : Nat) : Int) - 1) = (i : Int) by omega, rdI l i (by omega)] at h0
    exact h0
theorem storeB_key {l : List IP} (h : storeB l = true) : ∀ x ∈ l, (1 ≤ x.f0.size ∧ x.f0.size ≤ 60) ∧ x.f1.size ≤ 1000 := by
  intro x hx
  obtain ⟨i, hi, rfl⟩ := List.getElem_of_mem hx
  have hp := storeB_pair h i hi
  unfold pairB keyB valueB at hp
  rw [Bool.and_eq_true, Bool.and_eq_true, decide_eq_true_iff, decide_eq_true_iff, rdI l i hi] at hp
  exact ⟨hp.1, hp.2.1⟩
theorem atV_spec {l : List IP} (h : Rises l) (key : ByteArray) : ∀ (f i j : Nat), j - i < f → i ≤ j → (hj : j ≤ l.length) →
    (∀ n (hn : n < l.length), n < i → Op.bytesLess l[n].f0.toList key.toList = true) → (∀ n (hn : n < l.length), j ≤ n → Op.bytesLess l[n].f0.toList key.toList = false) →
    (∀ n (hn : n < l.length), n < atV l key f i j → Op.bytesLess l[n].f0.toList key.toList = true) ∧ (∀ n (hn : n < l.length), atV l key f i j ≤ n → Op.bytesLess l[n].f0.toList key.toList = false)
  | 0, i, j, hf, _, _, _, _ => by omega
  | f + 1, i, j, hf, hij, hj, h1, h2 => by
    rw [atV]
    by_cases hlt : i < j
    · rw [if_pos hlt, rdI l ((i + j) / 2) (by omega)]
      split
      · rename_i hm
        refine atV_spec h key f _ _ (by omega) (by omega) hj (fun n hn hni => ?_) h2
        by_cases e : n = (i + j) / 2
        · subst e; exact hm
        · exact less_trans _ _ _ (h.lt' (show n < (i + j) / 2 by omega) (by omega)) hm
      · rename_i hm
        refine atV_spec h key f _ _ (by omega) (by omega) (by omega) h1 (fun n hn hni => ?_)
        by_cases e : n = (i + j) / 2
        · subst e; rw [Bool.eq_false_iff]; exact hm
        · rw [Bool.eq_false_iff]
          intro hc
          exact hm (less_trans _ _ _ (h.lt' (show (i + j) / 2 < n by omega) hn) hc)
    · rw [if_neg hlt]
      exact ⟨h1, fun n hn hni => h2 n hn (by omega)⟩
theorem atOf_spec {l : List IP} (h : Rises l) (key : ByteArray) :
    (∀ n (hn : n < l.length), n < atOf l key → Op.bytesLess l[n].f0.toList key.toList = true) ∧ (∀ n (hn : n < l.length), atOf l key ≤ n → Op.bytesLess l[n].f0.toList key.toList = false) :=
  atV_spec h key (l.length + 1) 0 l.length (by omega) (by omega) (Nat.le_refl _) (fun n _ h => by omega) (fun n hn h => by omega)
end Go.Proofs.YtabmfhnhmoiljaaGreatDoor.U

/- Rows of pairs that are marked and read again. -/
namespace Go.Proofs.YtabmfhnhmoiljaaGreatDoor.U
open Go Go.RowKit Go.Proofs.YtabmfhnhmoiljaaGreatDoor.Q Go.Proofs.YtabmfhnhmoiljaaGreatDoorW.PrintWords Go.Proofs.YtabmfhnhmoiljaaGreatDoorW.PrintLast Go.Proofs.YtabmfhnhmoiljaaGreatDoorW.PrintMore
set_option linter.unusedVariables false
set_option linter.unusedSimpArgs false

theorem wsP (m m' : Nat) (h : m ≤ 9000000000000000000) (e : m' = m + 1) : wrap64 ((m : Int) + 1) = (m' : Int) := by subst e; rw [wid (by omega) (by omega)]; omega
theorem heldPairS_go (l : List IP) (n : Nat) (hN : l.length ≤ 1048576) (hn : n ≤ 1000000) : ∀ (d i : Nat), i + d = l.length →
    Ev (fun k => laws_heldPairS.l0 k (markPs n l) ((n + 2 * i : Nat) : Int) (i : Int)) ((n + 2 * l.length : Nat) : Int) := by
  intro d
  have hlen : (markPs n l).length = l.length := by unfold markPs; simp
  induction d with
  | zero =>
    intro i hi
    refine Ev.step (fun k => ?_) (Ev.now _)
    rw [laws_heldPairS.l0, if_neg (by omega), show i = l.length by omega]
  | succ d ih =>
    intro i hi
    have hlt : i < (markPs n l).length := by omega
    have er : rd_T51 (markPs n l) (i : Int) = markP n i := by
      rw [rdI' _ i hlt]
      simp [markPs]
    refine Ev.step (fun k => by rw [laws_heldPairS.l0, if_pos (by omega), if_pos (by omega), er, wsP (n + 2 * i) (n + 2 * i + 1) (by omega) rfl, wsP (n + 2 * i + 1) (n + 2 * (i + 1)) (by omega) (by omega), wsP i (i + 1) (by omega) rfl]) (Ev.bind (markText_ev _ (by omega)) ?_)
    simp only [markP, if_true]
    refine Ev.bind (markText_ev _ (by omega)) ?_
    simp only [if_true]
    exact ih (i + 1) (by omega)
theorem heldPairS_ev (l : List IP) (n : Nat) (hN : l.length ≤ 1048576) (hn : n ≤ 1000000) : Ev (fun k => laws_heldPairS.f k (markPs n l) (n : Int)) ((n + 2 * l.length : Nat) : Int) := by
  unfold laws_heldPairS.f
  have := heldPairS_go l n hN hn l.length 0 (by omega)
  simpa using this
def chainB (a : ByteArray) : Bool := a.toList == ([120] : List UInt8) || a.toList == ([121] : List UInt8)
theorem chain_size {a : ByteArray} (h : chainB a = true) : a.size = 1 := by
  unfold chainB at h
  rw [Bool.or_eq_true, beq_iff_eq, beq_iff_eq] at h
  have e : a.toList.length = a.size := by rw [Lib.toList_data]; exact size_data a
  rcases h with h | h <;> (rw [h] at e; exact e.symm)
theorem isChain_eq (a : ByteArray) : impl_isChain.f a = some (chainB a) := by
  unfold impl_isChain.f chainB
  by_cases h1 : a.toList = ([120] : List UInt8)
  · rw [if_pos h1]; simp [h1]
  · rw [if_neg h1, beq_eq_false_iff_ne.2 h1, Bool.false_or]
theorem isText_eq (l : List ByteArray) : impl_isText.f l = some (decide (∀ t ∈ l, t.size ≤ 65536)) := by
  unfold impl_isText.f
  simp only [Option.bind_some, Option.some.injEq]
  rw [Bool.eq_iff_iff]
  simp only [Bool.not_eq_true', List.any_eq_false, decide_eq_true_eq]
  constructor
  · intro h t ht; have := h t ht; omega
  · intro h t ht; have := h t ht; omega
theorem rt_of {l : List IP} (h : storeB l = true) : Rt l := rt_store h (fun x hx => ⟨(storeB_key h x hx).1, (storeB_key h x hx).2⟩)
theorem name_small {a : ByteArray} (h : nameB a = true) : a.size ≤ 12 := by unfold nameB at h; rw [decide_eq_true_iff] at h; exact h.2
theorem people_small {a : ByteArray} (h : peopleB a = true) : a.size ≤ 12 := by unfold peopleB at h; rw [Bool.and_eq_true] at h; exact name_small h.1
end Go.Proofs.YtabmfhnhmoiljaaGreatDoor.U

/- Fields: the reference's bytes are the program's text. -/
namespace Go.Proofs.YtabmfhnhmoiljaaGreatDoor.U
open Go Go.RowKit Go.Proofs.YtabmfhnhmoiljaaGreatDoor.Q Go.Proofs.YtabmfhnhmoiljaaGreatDoorW.PrintWords Go.Proofs.YtabmfhnhmoiljaaGreatDoorW.PrintLast Go.Proofs.YtabmfhnhmoiljaaGreatDoorW.PrintMore
set_option linter.unusedVariables false
set_option linter.unusedSimpArgs false

theorem nums_append_str (a b : List Int) : strOfNums (a ++ b) = strOfNums a ++ strOfNums b := by
  apply ByteArray.ext
  simp [strOfNums]
theorem nums_bytesOf (s : ByteArray) : strOfNums (bytesOf s) = s := by
  apply ByteArray.ext
  apply Array.toList_inj.mp
  simp only [strOfNums, bytesOf, List.map_map]
  have : (fun x : UInt8 => (UInt8.ofNat ((x.toNat : Int)).toNat)) = id := by funext x; simp
  first
  | (simp [Function.comp_def, this]; done)
  | (conv => rhs; rw [← List.map_id s.data.toList]
     apply List.map_congr_left
     intro x _
     simp)
/-- One text behind its length, and all of them, as numbers. -/
def fieldN (t : ByteArray) : List Int := [(t.size : Int) / 256 % 256, (t.size : Int) % 256] ++ bytesOf t
def restN : List ByteArray → List Int
  | [] => []
  | t :: ts => fieldN t ++ restN ts
def fieldsN (l : List ByteArray) : List Int := [(l.length : Int) % 256] ++ restN l
theorem fieldN_str (t : ByteArray) : strOfNums (fieldN t) = fieldV t := by unfold fieldN fieldV; rw [nums_append_str, nums_bytesOf]
theorem restN_str : ∀ l : List ByteArray, strOfNums (restN l) = restV l
  | [] => rfl
  | t :: ts => by rw [restN, restV, nums_append_str, fieldN_str, restN_str ts]
theorem fieldsN_str (l : List ByteArray) : strOfNums (fieldsN l) = fieldsV l := by unfold fieldsN fieldsV; rw [nums_append_str, restN_str]
theorem l02Fields_go (l : List ByteArray) (hl : l.length ≤ 1000) (hx : ∀ x ∈ l, x.size ≤ 1048576) : ∀ (d i : Nat) (o : List Int), i + d = l.length → o.length ≤ i * 1048580 + 1048580 →
    Ev (fun k => spec_l02Fields.l0 k l o (i : Int)) (o ++ restN (l.drop i)) := by
  intro d
  induction d with
  | zero =>
    intro i o hi ho
    refine Ev.step (fun k => ?_) (Ev.now _)
    rw [spec_l02Fields.l0, if_neg (by omega), List.drop_of_length_le (by omega), restN, List.append_nil]
  | succ d ih =>
    intro i o hi ho
    have hlt : i < l.length := by omega
    have hr : rdOf ByteArray.empty l (i : Int) = l[i] := by simp [rdOf, List.getD_eq_getElem?_getD, List.getElem?_eq_getElem hlt]
    have hs := hx _ (List.getElem_mem hlt)
    have h3 := ih (i + 1) (o ++ fieldN l[i]) (by omega) (by rw [List.length_append, fieldN, List.length_append, bytesOf_length]; simp only [List.length_cons, List.length_nil]; omega)
    refine Ev.step (f := fun k => spec_l02Fields.l0 k l (o ++ fieldN l[i]) ((i + 1 : Nat) : Int)) (fun k => ?_) ?_
    · rw [spec_l02Fields.l0, if_pos (by omega), if_pos (by omega), hr, if_pos (by omega), wid (n := (i : Int) + 1) (by omega) (by omega), List.append_assoc]
      rfl
    · rw [List.drop_eq_getElem_cons hlt, restN]
      rw [List.append_assoc] at h3
      exact h3
theorem l02Fields_ev (l : List ByteArray) (hl : l.length ≤ 1000) (hx : ∀ x ∈ l, x.size ≤ 1048576) : Ev (fun k => spec_l02Fields.f k l) (fieldsN l) := by
  unfold spec_l02Fields.f fieldsN
  have := l02Fields_go l hl hx l.length 0 [(l.length : Int) % 256] (by omega) (by simp)
  simpa using this
end Go.Proofs.YtabmfhnhmoiljaaGreatDoor.U

/- Orders that are put: the program's and the reference's. -/
namespace Go.Proofs.YtabmfhnhmoiljaaGreatDoor.U
open Go Go.RowKit Go.Proofs.YtabmfhnhmoiljaaGreatDoor.Q Go.Proofs.YtabmfhnhmoiljaaGreatDoorW.PrintWords Go.Proofs.YtabmfhnhmoiljaaGreatDoorW.PrintLast Go.Proofs.YtabmfhnhmoiljaaGreatDoorW.PrintMore
set_option linter.unusedVariables false
set_option linter.unusedSimpArgs false

def openT : ByteArray := ⟨#[111, 112, 101, 110]⟩
def closedT : ByteArray := ⟨#[99, 108, 111, 115, 101, 100]⟩
def isOpen (st : ByteArray) : Bool := st.toList == ([111, 112, 101, 110] : List UInt8)
def isClosed (st : ByteArray) : Bool := st.toList == ([99, 108, 111, 115, 101, 100] : List UInt8)
/-- What makes an order a right one. -/
noncomputable def rightB (id m : ByteArray) (s w l : Int) (o : Bool) : Bool := nameB id && (peopleB m && (someB s && (someB w && (decide (0 ≤ l ∧ l ≤ s) && (decide (l > 0) == o)))))
theorem specOrderOK_ev (id m : ByteArray) (s w l : Int) (o : Bool) : Ev (fun k => spec_OrderOK.f k id m s w l o) (rightB id m s w l o) := by
  unfold spec_OrderOK.f rightB
  refine Ev.bind (l05Name_ev id) ?_
  cases nameB id with
  | false => exact Ev.now _
  | true =>
    simp only [if_true, Bool.true_and]
    refine Ev.bind (l08Name_ev m) ?_
    cases peopleB m with
    | false => exact Ev.now _
    | true =>
      simp only [if_true, Bool.true_and, l01In_eq, Option.bind_some]
      unfold someB
      cases decide (1 ≤ s ∧ s ≤ 1000000000000000000) with
      | false => exact Ev.now _
      | true =>
        cases decide (1 ≤ w ∧ w ≤ 1000000000000000000) with
        | false => exact Ev.now _
        | true =>
          simp only [if_true, Bool.true_and]
          by_cases hl : 0 ≤ l ∧ l ≤ s
          · simp only [decide_eq_true hl, if_true, Bool.true_and]
            cases o with
            | true =>
              simp only [if_true]
              cases decide (l > 0) <;> exact Ev.now _
            | false =>
              simp only [Bool.false_eq_true, if_false]
              by_cases h0 : l = 0
              · subst h0; exact Ev.now _
              · rw [if_neg h0, decide_eq_true (show l > 0 by omega)]; exact Ev.now _
          · simp only [decide_eq_false hl, Bool.false_eq_true, if_false, Bool.false_and]; exact Ev.now _
theorem one_small {x : ByteArray} (h : x.size ≤ 1048576) : ∀ y ∈ [x], (y.size : Int) ≤ 140737488351232 := by
  intro y hy
  rw [List.mem_singleton] at hy
  subst hy
  omega
theorem implOrderOK_ev (id m : ByteArray) (s w l : Int) (o : Bool) (hi : id.size ≤ 1048576) (hm : m.size ≤ 1048576) : Ev (fun k => impl_OrderOK.f k id m s w l o) (rightB id m s w l o) := by
  unfold impl_OrderOK.f rightB
  refine Ev.bind (areNames_ev [id] (by simp) (one_small hi)) ?_
  rw [List.all_cons, List.all_nil, Bool.and_true]
  cases nameB id with
  | false => exact Ev.now _
  | true =>
    simp only [if_true, Bool.true_and]
    refine Ev.bind (isPeople_ev [m] (by simp) (one_small hm)) ?_
    rw [List.all_cons, List.all_nil, Bool.and_true]
    cases peopleB m with
    | false => exact Ev.now _
    | true =>
      simp only [if_true, Bool.true_and, isSome_eq, within_eq, Option.bind_some]
      cases someB s with
      | false => exact Ev.now _
      | true =>
        cases someB w with
        | false => exact Ev.now _
        | true =>
          simp only [if_true, Bool.true_and]
          cases decide (0 ≤ l ∧ l ≤ s) <;> exact Ev.now _
theorem stateT_size (o : Bool) : (if o = true then openT else closedT).size ≤ 1000 := by cases o <;> decide
theorem orderValue_ev (id m : ByteArray) (s w l : Int) (o : Bool) (hm : m.size ≤ 1000) (hs : 0 ≤ s ∧ s ≤ 1000000000000000000) (hw : 0 ≤ w ∧ w ≤ 1000000000000000000) (hl : 0 ≤ l ∧ l ≤ 1000000000000000000) :
    Ev (fun k => impl_Order_value.f k id m s w l o) (fieldsV [m, digV s.toNat, digV w.toNat, digV l.toNat, if o = true then openT else closedT]) := by
  have s1 := digV_size s.toNat (by omega)
  have s2 := digV_size w.toNat (by omega)
  have s3 := digV_size l.toNat (by omega)
  have key : ∀ t : ByteArray, t.size ≤ 1000 → Ev (fun k => impl_Order_value.j0 k t id m s w l o) (fieldsV [m, digV s.toNat, digV w.toNat, digV l.toNat, t]) := by
    intro t ht
    refine Ev.step (f := fun k => (impl_fields.f k [m, digV s.toNat, digV w.toNat, digV l.toNat, t]).bind fun t419 => some t419) (fun k => by rw [impl_Order_value.j0, amountText_eq s (by omega) (by omega), amountText_eq w (by omega) (by omega), amountText_eq l (by omega) (by omega)]; simp only [Option.bind_some]) ?_
    refine Ev.bind (fields_ev _ (by simp) ?_) (Ev.now _)
    intro x hx
    simp only [List.mem_cons, List.mem_nil_iff, or_false] at hx
    rcases hx with rfl | rfl | rfl | rfl | rfl <;> omega
  unfold impl_Order_value.f
  cases o with
  | true => simp only [if_true]; exact key openT (by decide)
  | false => simp only [Bool.false_eq_true, if_false]; exact key closedT (by decide)
theorem rightB_bd {id m : ByteArray} {s w l : Int} {o : Bool} (h : rightB id m s w l o = true) : (1 ≤ s ∧ s ≤ 1000000000000000000) ∧ (1 ≤ w ∧ w ≤ 1000000000000000000) ∧ (0 ≤ l ∧ l ≤ s) := by
  unfold rightB someB at h
  simp only [Bool.and_eq_true, decide_eq_true_iff] at h
  exact ⟨h.2.2.1, h.2.2.2.1, h.2.2.2.2.1⟩
def okey (id : ByteArray) : ByteArray := (⟨#[111, 47]⟩ : ByteArray) ++ id
theorem l09Key_eq (id : ByteArray) (h : id.size ≤ 1048576) : spec_l09Key.f id = some (okey id) := by
  unfold spec_l09Key.f okey
  rw [if_pos (by omega)]
theorem orderKey_eq (id : ByteArray) (h : id.size ≤ 1048576) : impl_orderKey.f id = some (okey id) := by
  unfold impl_orderKey.f okey
  rw [if_pos (by omega)]
abbrev ordersB : ByteArray := ⟨#[111, 114, 100, 101, 114, 115]⟩
theorem okey_size (id : ByteArray) : (okey id).size = 2 + id.size := by
  unfold okey
  rw [ByteArray.size_append]
  rfl
/-- An order's text. -/
def ordTxt (m : ByteArray) (s w l : Int) (o : Bool) : ByteArray := fieldsV [m, digV s.toNat, digV w.toNat, digV l.toNat, if o = true then openT else closedT]
theorem ordTxt_size {m : ByteArray} {s w l : Int} {o : Bool} (hm : m.size ≤ 100) (hs : 0 ≤ s ∧ s ≤ 1000000000000000000) (hw : 0 ≤ w ∧ w ≤ 1000000000000000000) (hl : 0 ≤ l ∧ l ≤ 1000000000000000000) : (ordTxt m s w l o).size ≤ 1000 := by
  have s1 := digV_size s.toNat (by omega)
  have s2 := digV_size w.toNat (by omega)
  have s3 := digV_size l.toNat (by omega)
  have s4 : (if o = true then openT else closedT).size ≤ 100 := by cases o <;> decide
  have e : (ByteArray.empty : ByteArray).size = 0 := rfl
  unfold ordTxt
  simp only [fieldsV, restV, fieldV, ByteArray.size_append, nums_size, List.length_cons, List.length_nil, e]
  omega
theorem l09Bytes_ev (id m : ByteArray) (s w l : Int) (o : Bool) (hm : m.size ≤ 1000) (hs : 0 ≤ s ∧ s ≤ 1000000000000000000) (hw : 0 ≤ w ∧ w ≤ 1000000000000000000) (hl : 0 ≤ l ∧ l ≤ 1000000000000000000) :
    Ev (fun k => spec_l09Bytes.f k id m s w l o) (ordTxt m s w l o) := by
  have s1 := digV_size s.toNat (by omega)
  have s2 := digV_size w.toNat (by omega)
  have s3 := digV_size l.toNat (by omega)
  have d1 := digits_ev s.toNat (by omega)
  have d2 := digits_ev w.toNat (by omega)
  have d3 := digits_ev l.toNat (by omega)
  rw [show ((s.toNat : Nat) : Int) = s by omega] at d1
  rw [show ((w.toNat : Nat) : Int) = w by omega] at d2
  rw [show ((l.toNat : Nat) : Int) = l by omega] at d3
  have key : ∀ t : ByteArray, t.size ≤ 1000 → Ev (fun k => spec_l09Bytes.j0 k t id m s w l o) (fieldsV [m, digV s.toNat, digV w.toNat, digV l.toNat, t]) := by
    intro t ht
    refine Ev.step (f := fun k => (spec_l00Digits.f k s).bind fun t1 => (spec_l00Digits.f k w).bind fun t2 => (spec_l00Digits.f k l).bind fun t3 => (spec_l02Fields.f k [m, t1, t2, t3, t]).bind fun t4 => some (strOfNums t4)) (fun k => by rw [spec_l09Bytes.j0]) ?_
    refine Ev.bind d1 (Ev.bind d2 (Ev.bind d3 (Ev.bind (l02Fields_ev [m, digV s.toNat, digV w.toNat, digV l.toNat, t] (by simp) ?_) ?_)))
    · intro x hx
      simp only [List.mem_cons, List.mem_nil_iff, or_false] at hx
      rcases hx with rfl | rfl | rfl | rfl | rfl <;> omega
    · rw [fieldsN_str]; exact Ev.now _
  unfold spec_l09Bytes.f ordTxt
  cases o with
  | true => simp only [if_true]; exact key openT (by decide)
  | false => simp only [Bool.false_eq_true, if_false]; exact key closedT (by decide)
theorem right_small {id m : ByteArray} {s w l : Int} {o : Bool} (h : rightB id m s w l o = true) : id.size ≤ 12 ∧ m.size ≤ 12 := by
  unfold rightB at h
  simp only [Bool.and_eq_true] at h
  exact ⟨name_small h.1, people_small h.2.1⟩
theorem cloneO_ev (l : List IP) (h : Rt l) : slices_Clone_impl_Pair_impl_Pair.f l = some l := by
  unfold slices_Clone_impl_Pair_impl_Pair.f
  rw [if_pos (by have := h.1; omega)]
theorem putOrder_ev (m : List IP) (id mk : ByteArray) (s w l : Int) (o : Bool) (hr : Rt m) (hi : id.size ≤ 100) (hm : mk.size ≤ 100) (hs : 0 ≤ s ∧ s ≤ 1000000000000000000) (hw : 0 ≤ w ∧ w ≤ 1000000000000000000) (hl : 0 ≤ l ∧ l ≤ 1000000000000000000) :
    Ev (fun k => impl_putOrder.F k id mk s w l o m) (putV m (okey id) (ordTxt mk s w l o)) := by
  unfold impl_putOrder.F
  rw [orderKey_eq id (by omega)]
  simp only [Option.bind_some]
  exact Ev.bind (orderValue_ev id mk s w l o (by omega) hs hw hl) (implPut_ev m _ _ (by have := hr.1; omega))
/-- Coins that move, and an order that is put behind. -/
def stepO (l : List IP) (f t d : ByteArray) (n : Int) (id mk : ByteArray) (s w lf : Int) (o : Bool) : List IP × Int := thenV l (moveV l f t d n) (fun m => putV m (okey id) (ordTxt mk s w lf o))
theorem stepO_rt {l : List IP} {f t d : ByteArray} {n : Int} {id mk : ByteArray} {s w lf : Int} {o : Bool} (h : Rt l) (hf : f.size ≤ 100) (ht : t.size ≤ 100) (hd : d.size ≤ 100) (hi : id.size ≤ 100) (hm : mk.size ≤ 100) (hs : 0 ≤ s ∧ s ≤ 1000000000000000000) (hw : 0 ≤ w ∧ w ≤ 1000000000000000000) (hl : 0 ≤ lf ∧ lf ≤ 1000000000000000000) : Rt (stepO l f t d n id mk s w lf o).1 :=
  thenV_rt h (putV_rt (moveV_rt h hf ht hd) (by rw [okey_size]; omega) (by rw [okey_size]; omega) (ordTxt_size hm hs hw hl))
theorem stepO_ev (l : List IP) (f t d : ByteArray) (n : Int) (id mk : ByteArray) (s w lf : Int) (o : Bool) (h : Rt l) (hf : f.size ≤ 100) (ht : t.size ≤ 100) (hd : d.size ≤ 100) (hn : 0 ≤ n ∧ n ≤ 1000000000000000000) (hi : id.size ≤ 100) (hm : mk.size ≤ 100) (hs : 0 ≤ s ∧ s ≤ 1000000000000000000) (hw : 0 ≤ w ∧ w ≤ 1000000000000000000) (hl : 0 ≤ lf ∧ lf ≤ 1000000000000000000) :
    Ev (fun k => impl_all.f k l [(impl_move.F k f t d n), (impl_putOrder.F k id mk s w lf o)]) (stepO l f t d n id mk s w lf o) := by
  unfold stepO
  rw [← seq_two l (fun m => moveV m f t d n) (fun m => putV m (okey id) (ordTxt mk s w lf o))]
  refine all_ev l h [fun k => impl_move.F k f t d n, fun k => impl_putOrder.F k id mk s w lf o] _ rfl (two_cases (fun m hr => ⟨?_, ?_⟩) (fun m hr => ⟨?_, ?_⟩))
  · exact move_ev m f t d n hr hf ht hd hn.1 hn.2
  · exact moveV_rt hr hf ht hd
  · exact putOrder_ev m id mk s w lf o hr hi hm hs hw hl
  · exact putV_rt hr (by rw [okey_size]; omega) (by rw [okey_size]; omega) (ordTxt_size hm hs hw hl)
end Go.Proofs.YtabmfhnhmoiljaaGreatDoor.U

/- Orders that are read and found. -/
namespace Go.Proofs.YtabmfhnhmoiljaaGreatDoor.U
open Go Go.RowKit Go.Proofs.YtabmfhnhmoiljaaGreatDoor.Q Go.Proofs.YtabmfhnhmoiljaaGreatDoorW.PrintWords Go.Proofs.YtabmfhnhmoiljaaGreatDoorW.PrintLast Go.Proofs.YtabmfhnhmoiljaaGreatDoorW.PrintMore
set_option linter.unusedVariables false
set_option linter.unusedSimpArgs false

abbrev Ord := ByteArray × ByteArray × Int × Int × Int × Bool
noncomputable def orderO (id v : ByteArray) : Option Ord :=
  match readV v with
  | some [m, s, w, l, st] => if (rightB id m (amtV s) (amtV w) (amtV l) (isOpen st) && (isOpen st || isClosed st)) = true then some (id, m, amtV s, amtV w, amtV l, isOpen st) else none
  | _ => none
/-- An order and whether it is one. -/
def ordR (x : Ord) : Option Ord → ByteArray × ByteArray × Int × Int × Int × Bool × Bool
  | some (a, b, c, d, e, f) => (a, b, c, d, e, f, true)
  | none => (x.1, x.2.1, x.2.2.1, x.2.2.2.1, x.2.2.2.2.1, x.2.2.2.2.2, false)
theorem isOpen_eq (st : ByteArray) : isOpen st = true ↔ st = openT := by
  unfold isOpen
  rw [beq_iff_eq, show ([111, 112, 101, 110] : List UInt8) = openT.toList by decide +kernel]
  exact toList_eq_iff _ _
theorem isClosed_eq (st : ByteArray) : isClosed st = true ↔ st = closedT := by
  unfold isClosed
  rw [beq_iff_eq, show ([99, 108, 111, 115, 101, 100] : List UInt8) = closedT.toList by decide +kernel]
  exact toList_eq_iff _ _
theorem five {α : Type} (l : List α) (h : l.length = 5) : ∃ x y z u v, l = [x, y, z, u, v] := by
  match l, h with
  | [x, y, z, u, v], _ => exact ⟨x, y, z, u, v, rfl⟩
theorem orderO_ne (id v : ByteArray) (l : List ByteArray) (h : readV v = some l) (hl : l.length ≠ 5) : orderO id v = none := by
  unfold orderO
  rw [h]
  match l with
  | [] => rfl
  | [_] => rfl
  | [_, _] => rfl
  | [_, _, _] => rfl
  | [_, _, _, _] => rfl
  | [_, _, _, _, _] => exact absurd rfl hl
  | _ :: _ :: _ :: _ :: _ :: _ :: _ => rfl
theorem specRead_ev (id v : ByteArray) (hv : v.size ≤ 1048576) : ∃ x, Ev (fun k => spec_l09Read.f k id v) (ordR x (orderO id v)) := by
  unfold spec_l09Read.f
  obtain ⟨x, hx⟩ := l02Read_ev v (by omega)
  have hbad : ∀ x4, Ev (fun k => spec_l09Read.j0 k id x4 true) ((⟨#[]⟩ : ByteArray), (⟨#[]⟩ : ByteArray), 0, 0, 0, false, false) := fun x4 => Ev.step (fun k => by rw [spec_l09Read.j0, if_pos rfl]) (Ev.now _)
  have hbad2 : orderO id v = none → ∀ x4, ∃ x, Ev (fun k => spec_l09Read.j0 k id x4 true) (ordR x (orderO id v)) := fun e x4 => ⟨((⟨#[]⟩ : ByteArray), (⟨#[]⟩ : ByteArray), 0, 0, 0, false), by rw [e]; exact hbad x4⟩
  cases hr : readV v with
  | none =>
    have e : orderO id v = none := by unfold orderO; rw [hr]
    obtain ⟨y, hy⟩ := hbad2 e x
    refine ⟨y, Ev.bind hx ?_⟩
    rw [hr]
    simp only [readR, Bool.false_eq_true, if_false]
    exact hy
  | some fs =>
    obtain ⟨hv1, _, hfs⟩ := readV_of hr
    by_cases h5 : fs.length = 5
    · obtain ⟨m, s, w, l, st, rfl⟩ := five fs h5
      have hs := hfs s (by simp)
      have hw := hfs w (by simp)
      have hl := hfs l (by simp)
      have L5 : ((([m, s, w, l, st] : List ByteArray).length : Nat) : Int) = 5 := rfl
      have e : (((([m, s, w, l, st] : List ByteArray).length : Nat) : Int) != 5) = false := rfl
      have e2 : orderO id v = if (rightB id m (amtV s) (amtV w) (amtV l) (isOpen st) && (isOpen st || isClosed st)) = true then some (id, m, amtV s, amtV w, amtV l, isOpen st) else none := by unfold orderO; rw [hr]
      refine ⟨(id, m, amtV s, amtV w, amtV l, isOpen st), Ev.bind hx ?_⟩
      rw [hr]
      simp only [readR, List.nil_append, if_true, e]
      have d0 : rdOf ByteArray.empty [m, s, w, l, st] 0 = m := rfl
      have d1 : rdOf ByteArray.empty [m, s, w, l, st] 1 = s := rfl
      have d2 : rdOf ByteArray.empty [m, s, w, l, st] 2 = w := rfl
      have d3 : rdOf ByteArray.empty [m, s, w, l, st] 3 = l := rfl
      have d4 : rdOf ByteArray.empty [m, s, w, l, st] 4 = st := rfl
      refine Ev.step (f := fun k => (spec_l02Of.f k s).bind fun t1 => (spec_l02Of.f k w).bind fun t2 => (spec_l02Of.f k l).bind fun t3 => (spec_OrderOK.f k id m t1 t2 t3 (st.toList == ([111, 112, 101, 110] : List UInt8))).bind fun t => if t = true then (if st.toList = ([111, 112, 101, 110] : List UInt8) then some (id, m, t1, t2, t3, (st.toList == ([111, 112, 101, 110] : List UInt8)), true) else some (id, m, t1, t2, t3, (st.toList == ([111, 112, 101, 110] : List UInt8)), (st.toList == ([99, 108, 111, 115, 101, 100] : List UInt8)))) else some (id, m, t1, t2, t3, (st.toList == ([111, 112, 101, 110] : List UInt8)), false)) (fun k => by
        rw [spec_l09Read.j0, if_neg (by decide), L5, d0, d1, d2, d3, d4, if_pos (show (0 : Int) < 5 by decide), if_pos (show (1 : Int) < 5 by decide)]
        simp only [if_pos (show (2 : Int) < 5 by decide), if_pos (show (3 : Int) < 5 by decide), if_pos (show (4 : Int) < 5 by decide)]) ?_
      refine Ev.bind (l02Of_ev s (by omega)) ?_
      refine Ev.bind (l02Of_ev w (by omega)) (Ev.bind (l02Of_ev l (by omega)) (Ev.bind (specOrderOK_ev id m _ _ _ _) ?_))
      rw [e2]
      rw [show (st.toList == ([111, 112, 101, 110] : List UInt8)) = isOpen st from rfl]
      cases h1 : rightB id m (amtV s) (amtV w) (amtV l) (isOpen st) with
      | false => simp only [Bool.false_and, Bool.false_eq_true, if_false]; exact Ev.now _
      | true =>
        simp only [if_true, Bool.true_and]
        by_cases ho : st.toList = ([111, 112, 101, 110] : List UInt8)
        · have : isOpen st = true := by unfold isOpen; rw [beq_iff_eq]; exact ho
          simp only [if_pos ho, this, Bool.true_or, if_true]
          exact Ev.now _
        · have : isOpen st = false := by unfold isOpen; rw [beq_eq_false_iff_ne]; exact ho
          simp only [if_neg ho, this, Bool.false_or]
          rw [show (st.toList == ([99, 108, 111, 115, 101, 100] : List UInt8)) = isClosed st from rfl]
          cases isClosed st with
          | true => simp only [if_true]; exact Ev.now _
          | false => simp only [Bool.false_eq_true, if_false]; exact Ev.now _
    · have e : (((fs.length : Nat) : Int) != 5) = true := by rw [bne_iff_ne]; omega
      obtain ⟨y, hy⟩ := hbad2 (orderO_ne id v fs hr h5) fs
      refine ⟨y, Ev.bind hx ?_⟩
      rw [hr]
      simp only [readR, List.nil_append, if_true, e]
      exact hy
theorem implOrderOf_ev (id v : ByteArray) (hi : id.size ≤ 1048576) (hv : v.size ≤ 1048576) : ∃ x, Ev (fun k => impl_orderOf.f k id v) (ordR x (orderO id v)) := by
  unfold impl_orderOf.f
  obtain ⟨x, hx⟩ := readFields_ev v (by omega)
  have hbad : ∀ x4, Ev (fun k => impl_orderOf.j0 k id v x4 true) ((⟨#[]⟩ : ByteArray), (⟨#[]⟩ : ByteArray), 0, 0, 0, false, false) := fun x4 => Ev.step (fun k => by rw [impl_orderOf.j0, if_pos rfl]) (Ev.now _)
  have hbad2 : orderO id v = none → ∀ x4, ∃ x, Ev (fun k => impl_orderOf.j0 k id v x4 true) (ordR x (orderO id v)) := fun e x4 => ⟨((⟨#[]⟩ : ByteArray), (⟨#[]⟩ : ByteArray), 0, 0, 0, false), by rw [e]; exact hbad x4⟩
  cases hr : readV v with
  | none =>
    have e : orderO id v = none := by unfold orderO; rw [hr]
    obtain ⟨y, hy⟩ := hbad2 e x
    refine ⟨y, Ev.bind hx ?_⟩
    rw [hr]
    simp only [readR, Bool.false_eq_true, if_false]
    exact hy
  | some fs =>
    obtain ⟨hv1, _, hfs⟩ := readV_of hr
    by_cases h5 : fs.length = 5
    · obtain ⟨m, s, w, l, st, rfl⟩ := five fs h5
      have hm := hfs m (by simp)
      have hs := hfs s (by simp)
      have hw := hfs w (by simp)
      have hl := hfs l (by simp)
      have hst := hfs st (by simp)
      have L5 : ((([m, s, w, l, st] : List ByteArray).length : Nat) : Int) = 5 := rfl
      have e : (((([m, s, w, l, st] : List ByteArray).length : Nat) : Int) != 5) = false := rfl
      have e2 : orderO id v = if (rightB id m (amtV s) (amtV w) (amtV l) (isOpen st) && (isOpen st || isClosed st)) = true then some (id, m, amtV s, amtV w, amtV l, isOpen st) else none := by unfold orderO; rw [hr]
      refine ⟨(id, m, max0 (amtV s), max0 (amtV w), max0 (amtV l), isOpen st), Ev.bind hx ?_⟩
      rw [hr]
      simp only [readR, List.nil_append, if_true, e]
      have d0 : rdOf ByteArray.empty [m, s, w, l, st] 0 = m := rfl
      have d1 : rdOf ByteArray.empty [m, s, w, l, st] 1 = s := rfl
      have d2 : rdOf ByteArray.empty [m, s, w, l, st] 2 = w := rfl
      have d3 : rdOf ByteArray.empty [m, s, w, l, st] 3 = l := rfl
      have d4 : rdOf ByteArray.empty [m, s, w, l, st] 4 = st := rfl
      obtain ⟨b1, e1⟩ := readAmount_fst s (by omega)
      obtain ⟨b2, e2'⟩ := readAmount_fst w (by omega)
      obtain ⟨b3, e3⟩ := readAmount_fst l (by omega)
      refine Ev.step (f := fun k => (impl_OrderOK.f k id m (max0 (amtV s)) (max0 (amtV w)) (max0 (amtV l)) (isOpen st)).bind fun t437 => if t437 = true then ((impl_Order_value.f k id m (max0 (amtV s)) (max0 (amtV w)) (max0 (amtV l)) (isOpen st)).bind fun t438 => (some (id, m, max0 (amtV s), max0 (amtV w), max0 (amtV l), isOpen st, (t438.toList == v.toList)))) else (some (id, m, max0 (amtV s), max0 (amtV w), max0 (amtV l), isOpen st, false))) (fun k => ?_) ?_
      · rw [impl_orderOf.j0, if_neg (by decide), L5, d0, d1, d2, d3, d4, e1, e2', e3, if_pos (show (0 : Int) < 5 by decide), if_pos (show (4 : Int) < 5 by decide), if_pos (show (1 : Int) < 5 by decide)]
        simp only [Option.bind_some, if_pos (show (2 : Int) < 5 by decide), if_pos (show (3 : Int) < 5 by decide)]
        rfl
      refine Ev.bind (implOrderOK_ev id m _ _ _ _ hi (by omega)) ?_
      rw [e2]
      by_cases h1 : rightB id m (max0 (amtV s)) (max0 (amtV w)) (max0 (amtV l)) (isOpen st) = true
      · simp only [if_pos h1]
        obtain ⟨q1, q2, q3⟩ := rightB_bd h1
        refine Ev.bind (orderValue_ev id m _ _ _ _ hm (by omega) (by omega) (by omega)) ?_
        have hsV : 0 ≤ amtV s := by unfold max0 at q1; split at q1 <;> omega
        have hwV : 0 ≤ amtV w := by unfold max0 at q2; split at q2 <;> omega
        have m1 : max0 (amtV s) = amtV s := if_pos hsV
        have m2 : max0 (amtV w) = amtV w := if_pos hwV
        by_cases hval : 0 ≤ amtV l ∧ (isOpen st || isClosed st) = true
        · have m3 : max0 (amtV l) = amtV l := if_pos hval.1
          have est : (if isOpen st = true then openT else closedT) = st := by
            cases ho : isOpen st with
            | true => simp only [if_true]; exact ((isOpen_eq st).1 ho).symm
            | false =>
              have hc := hval.2
              rw [ho, Bool.false_or] at hc
              simp only [Bool.false_eq_true, if_false]
              exact ((isClosed_eq st).1 hc).symm
          rw [m1, m2, m3] at h1 ⊢
          rw [est, ← (amtV_eq hsV).1, ← (amtV_eq hwV).1, ← (amtV_eq hval.1).1, ← hv1, h1, hval.2]
          simp only [Bool.and_self, if_true, beq_self_eq_true]
          exact Ev.now _
        · have hno : (rightB id m (amtV s) (amtV w) (amtV l) (isOpen st) && (isOpen st || isClosed st)) = false := by
            rw [Bool.eq_false_iff]
            intro h
            rw [Bool.and_eq_true] at h
            exact hval ⟨(rightB_bd h.1).2.2.1, h.2⟩
          have hne : ((fieldsV [m, digV (max0 (amtV s)).toNat, digV (max0 (amtV w)).toNat, digV (max0 (amtV l)).toNat, if isOpen st = true then openT else closedT]).toList == v.toList) = false := by
            rw [beq_eq_false_iff_ne]
            intro h
            have h2 := (toList_eq_iff _ _).1 h
            rw [hv1] at h2
            have s1 := digV_size (max0 (amtV s)).toNat (by omega)
            have s2 := digV_size (max0 (amtV w)).toNat (by omega)
            have s3 := digV_size (max0 (amtV l)).toNat (by omega)
            have s4 := stateT_size (isOpen st)
            have h3 := fieldsV_inj (by simp) (by
              intro y hy
              simp only [List.mem_cons, List.mem_nil_iff, or_false] at hy
              rcases hy with rfl | rfl | rfl | rfl | rfl <;> omega) (by simp) hfs h2
            simp only [List.cons.injEq, and_true] at h3
            obtain ⟨_, _, _, h4, h5⟩ := h3
            apply hval
            refine ⟨?_, ?_⟩
            · rw [← h4, amtV_digV _ (by omega)]; omega
            · cases ho : isOpen st with
              | true => rfl
              | false =>
                rw [ho] at h5
                simp only [Bool.false_eq_true, if_false] at h5
                rw [Bool.false_or]
                exact (isClosed_eq st).2 h5.symm
          simp only [hno, hne, Bool.false_eq_true, if_false]
          exact Ev.now _
      · simp only [if_neg h1]
        have hno : (rightB id m (amtV s) (amtV w) (amtV l) (isOpen st) && (isOpen st || isClosed st)) = false := by
          rw [Bool.eq_false_iff]
          intro h
          rw [Bool.and_eq_true] at h
          obtain ⟨q1, q2, q3⟩ := rightB_bd h.1
          apply h1
          have m1 : max0 (amtV s) = amtV s := if_pos (by omega)
          have m2 : max0 (amtV w) = amtV w := if_pos (by omega)
          have m3 : max0 (amtV l) = amtV l := if_pos q3.1
          rw [m1, m2, m3]
          exact h.1
        simp only [hno, Bool.false_eq_true, if_false]
        exact Ev.now _
    · have e : (((fs.length : Nat) : Int) != 5) = true := by rw [bne_iff_ne]; omega
      obtain ⟨y, hy⟩ := hbad2 (orderO_ne id v fs hr h5) fs
      refine ⟨y, Ev.bind hx ?_⟩
      rw [hr]
      simp only [readR, List.nil_append, if_true, e]
      exact hy
def nilO : Ord := ((⟨#[]⟩ : ByteArray), (⟨#[]⟩ : ByteArray), 0, 0, 0, false)
theorem orderO_empty (id : ByteArray) : orderO id (⟨#[]⟩ : ByteArray) = none := by unfold orderO; rw [readV_empty]
theorem specFindO_ev (l : List IP) (id : ByteArray) (hl : l.length ≤ 1048576) (hv : ∀ x ∈ l, x.f1.size ≤ 1048576) (hi : id.size ≤ 1048576) : ∃ x, Ev (fun k => spec_l09Find.f k l id) (ordR x (orderO id (getV l (okey id)).1)) := by
  unfold spec_l09Find.f
  rw [l09Key_eq id hi]
  simp only [Option.bind_some]
  have hn := getV_none l (okey id)
  have hsz := getV_size l (okey id) 1048576 hv
  have hg := specGet_ev l (okey id) hl
  generalize getV l (okey id) = g at *
  obtain ⟨v, ok⟩ := g
  cases ok with
  | false =>
    have : v = ⟨#[]⟩ := hn rfl
    subst this
    refine ⟨nilO, Ev.bind hg ?_⟩
    rw [orderO_empty]
    simp only [Bool.false_eq_true, if_false]
    exact Ev.now _
  | true =>
    obtain ⟨x, hx⟩ := specRead_ev id v hsz
    refine ⟨x, Ev.bind hg ?_⟩
    simp only [if_true]
    exact Ev.bind hx (Ev.now _)
theorem implAtO_ev (l : List IP) (id : ByteArray) (hl : l.length ≤ 1048576) (hv : ∀ x ∈ l, x.f1.size ≤ 1048576) (hi : id.size ≤ 1048576) : ∃ x, Ev (fun k => impl_orderAt.f k l id) (ordR x (orderO id (getV l (okey id)).1)) := by
  unfold impl_orderAt.f
  rw [orderKey_eq id hi]
  simp only [Option.bind_some]
  have hn := getV_none l (okey id)
  have hsz := getV_size l (okey id) 1048576 hv
  have hg := implGet_ev l (okey id) hl
  generalize getV l (okey id) = g at *
  obtain ⟨v, ok⟩ := g
  obtain ⟨x, hx⟩ := implOrderOf_ev id v hi hsz
  cases ok with
  | false =>
    have : v = ⟨#[]⟩ := hn rfl
    subst this
    rw [orderO_empty] at *
    refine ⟨x, Ev.bind hg (Ev.bind hx ?_)⟩
    simp only [Bool.false_eq_true, if_false]
    exact Ev.now _
  | true =>
    refine ⟨x, Ev.bind hg (Ev.bind hx ?_)⟩
    simp only [if_true]
    exact Ev.now _
theorem ordR_some {x : Ord} {o : Option Ord} {r : ByteArray × ByteArray × Int × Int × Int × Bool × Bool} (h : ordR x o = r) : (r.2.2.2.2.2.2 = true → o = some (r.1, r.2.1, r.2.2.1, r.2.2.2.1, r.2.2.2.2.1, r.2.2.2.2.2.1)) ∧ (r.2.2.2.2.2.2 = false → o = none) := by
  subst h
  cases o with
  | none => exact ⟨fun h => by simp [ordR] at h, fun _ => rfl⟩
  | some y => obtain ⟨a, b, c, d, e, f⟩ := y; exact ⟨fun _ => rfl, fun h => by simp [ordR] at h⟩
theorem orderO_right {id v : ByteArray} {y : Ord} (h : orderO id v = some y) : y.1 = id ∧ rightB id y.2.1 y.2.2.1 y.2.2.2.1 y.2.2.2.2.1 y.2.2.2.2.2 = true := by
  unfold orderO at h
  split at h
  · split at h
    · rename_i h1
      rw [Bool.and_eq_true] at h1
      cases h
      exact ⟨rfl, h1.1⟩
    · cases h
  · cases h
end Go.Proofs.YtabmfhnhmoiljaaGreatDoor.U

/- A key that is in a store stays there when others are put and dropped. -/

namespace Go.Proofs.YtabmfhnhmoiljaaGreatDoor.U
open Go Go.RowKit Go.Proofs.YtabmfhnhmoiljaaGreatDoor.Q Go.Proofs.YtabmfhnhmoiljaaGreatDoorW.PrintWords Go.Proofs.YtabmfhnhmoiljaaGreatDoorW.PrintLast Go.Proofs.YtabmfhnhmoiljaaGreatDoorW.PrintMore
set_option linter.unusedVariables false
set_option linter.unusedSimpArgs false

theorem less_irr (a : List UInt8) : Op.bytesLess a a = false := preL_ge a a (by unfold preL; rw [beq_iff_eq]; exact List.take_length)
theorem less_tot : ∀ a b : List UInt8, Op.bytesLess a b = false → a = b ∨ Op.bytesLess b a = true
  | [], [], _ => .inl rfl
  | [], _ :: _, h => by rw [Op.bytesLess] at h; cases h
  | _ :: _, [], _ => .inr (by rw [Op.bytesLess])
  | a :: x, b :: y, h => by
    rw [Bool.eq_false_iff, ne_eq, less_cons] at h
    rw [less_cons]
    by_cases e : a = b
    · subst e
      have h1 : Op.bytesLess x y = false := by rw [Bool.eq_false_iff]; exact fun g => h (.inr ⟨rfl, g⟩)
      rcases less_tot x y h1 with rfl | h2
      · exact .inl rfl
      · exact .inr (.inr ⟨rfl, h2⟩)
    · refine .inr (.inl ?_)
      have h1 : ¬ a < b := fun g => h (.inl g)
      rcases UInt8.lt_or_le b a with g | g
      · exact g
      · exact absurd (UInt8.lt_of_le_of_ne g e) h1
def Stays (l : List IP) (key : ByteArray) : Prop := Rises l ∧ ∃ x ∈ l, x.f0 = key
theorem hit_stays {l : List IP} {key : ByteArray} (h : Stays l key) : hitB l key = true := by
  obtain ⟨hr, x, hx, hk⟩ := h
  obtain ⟨i, hi, rfl⟩ := List.getElem_of_mem hx
  have hs := atOf_spec hr key
  have h1 : ¬ i < atOf l key := fun g => by
    have := hs.1 i hi g
    rw [hk, less_irr] at this
    cases this
  have h2 : ¬ atOf l key < i := fun g => by
    have g1 := hs.2 (atOf l key) (by omega) (Nat.le_refl _)
    have g2 := hr.lt' g hi
    rw [hk, g1] at g2
    cases g2
  have e : atOf l key = i := by omega
  rw [hit_iff, e, rdI' l i hi, hk]
  exact ⟨by omega, rfl⟩
theorem stays_hit {l : List IP} {key : ByteArray} (hr : Rises l) (h : hitB l key = true) : Stays l key := by
  have hlt := hit_lt h
  have h2 := ((hit_iff l key).1 h).2
  rw [rdI' l _ hlt] at h2
  exact ⟨hr, _, List.getElem_mem hlt, (toList_eq_iff _ _).1 h2⟩
theorem set_f0 (l : List IP) (i : Nat) (v : ByteArray) (hi : i < l.length) (j : Nat) (hj : j < (l.set i ⟨l[i].f0, v⟩).length) : (l.set i ⟨l[i].f0, v⟩)[j].f0 = (l[j]'(by rw [List.length_set] at hj; exact hj)).f0 := by
  rw [List.getElem_set]
  split
  · rename_i e; subst e; rfl
  · rfl
theorem rises_set {l : List IP} (h : Rises l) (i : Nat) (v : ByteArray) (hi : i < l.length) : Rises (l.set i ⟨l[i].f0, v⟩) := by
  intro j hj
  rw [set_f0 l i v hi, set_f0 l i v hi]
  exact h j (by rw [List.length_set] at hj; exact hj)
theorem rises_erase {l : List IP} (h : Rises l) (i : Nat) (hi : i < l.length) : Rises (l.eraseIdx i) := by
  intro j hj
  rw [List.length_eraseIdx_of_lt hi] at hj
  rw [List.getElem_eraseIdx, List.getElem_eraseIdx]
  split
  · split
    · exact h j (by omega)
    · exact h.lt' (by omega) (by omega)
  · split
    · omega
    · exact h (j + 1) (by omega)
theorem rises_insert {l : List IP} (h : Rises l) (key v : ByteArray) (hn : ¬ hitB l key = true) : Rises (l.insertIdx (atOf l key) ⟨key, v⟩) := by
  have hs := atOf_spec h key
  have hle := atOf_le l key
  have after : ∀ n (hn : n < l.length), atOf l key ≤ n → Op.bytesLess key.toList l[n].f0.toList = true := by
    intro n hn2 hge
    have g0 : Op.bytesLess key.toList l[atOf l key].f0.toList = true := by
      rcases less_tot _ _ (hs.2 (atOf l key) (by omega) (Nat.le_refl _)) with e | g
      · exact absurd ((hit_iff l key).2 ⟨by omega, by rw [rdI' l _ (by omega)]; exact e⟩) hn
      · exact g
    by_cases e : atOf l key = n
    · simp only [e] at g0; exact g0
    · exact less_trans _ _ _ g0 (h.lt' (by omega) hn2)
  intro j hj
  rw [List.length_insertIdx_of_le_length hle] at hj
  rw [List.getElem_insertIdx, List.getElem_insertIdx]
  split
  · split
    · exact h j (by omega)
    · split
      · exact hs.1 j (by omega) (by omega)
      · omega
  · split
    · rw [dif_neg (by omega), dif_neg (by omega)]
      exact after _ _ (by omega)
    · rw [dif_neg (by omega), dif_neg (by omega)]
      have := h (j - 1) (by omega)
      have e : j - 1 + 1 = j + 1 - 1 := by omega
      simp only [e] at this
      exact this
theorem putV_stays {l : List IP} {key k v : ByteArray} (h : Stays l key) : Stays (putV l k v).1 key := by
  obtain ⟨hr, x, hx, hk⟩ := h
  unfold putV
  by_cases hh : hitB l k = true
  · have hlt := hit_lt hh
    rw [if_pos hh, rdI' l _ hlt]
    obtain ⟨i, hi, rfl⟩ := List.getElem_of_mem hx
    refine ⟨rises_set hr _ v hlt, _, List.getElem_mem (n := i) (by rw [List.length_set]; exact hi), ?_⟩
    rw [set_f0 l _ v hlt]
    exact hk
  · rw [if_neg hh]
    by_cases h4 : l.length = 400
    · rw [if_pos h4]; exact ⟨hr, x, hx, hk⟩
    · rw [if_neg h4]
      exact ⟨rises_insert hr k v hh, x, (List.mem_insertIdx (atOf_le l k)).2 (.inr hx), hk⟩
theorem dropV_stays {l : List IP} {key k : ByteArray} (hne : k ≠ key) (h : Stays l key) : Stays (dropV l k).1 key := by
  obtain ⟨hr, x, hx, hk⟩ := h
  unfold dropV
  by_cases hh : hitB l k = true
  · have hlt := hit_lt hh
    rw [if_pos hh]
    obtain ⟨i, hi, rfl⟩ := List.getElem_of_mem hx
    refine ⟨rises_erase hr _ hlt, _, List.mem_eraseIdx_iff_getElem.2 ⟨i, hi, fun e => ?_, rfl⟩, hk⟩
    have h2 := ((hit_iff l k).1 hh).2
    rw [rdI' l _ hlt] at h2
    subst e
    exact hne ((toList_eq_iff _ _).1 h2 ▸ hk)
  · rw [if_neg hh]; exact ⟨hr, x, hx, hk⟩
theorem addV_stays {l : List IP} {key k : ByteArray} {n : Int} (hne : k ≠ key) (h : Stays l key) : Stays (addV l k n).1 key := by
  unfold addV
  split
  · exact h
  · split
    · exact h
    · split
      · exact dropV_stays hne h
      · exact putV_stays h
theorem moveV_stays {l : List IP} {f t d key : ByteArray} {n : Int} (h1 : bKey d f ≠ key) (h2 : bKey d t ≠ key) (h : Stays l key) : Stays (moveV l f t d n).1 key := by
  unfold moveV thenV
  split
  · split
    · exact addV_stays h2 (addV_stays h1 h)
    · exact h
  · exact h
end Go.Proofs.YtabmfhnhmoiljaaGreatDoor.U

/- Orders that are cancelled: what the program and the reference answer. -/
namespace Go.Proofs.YtabmfhnhmoiljaaGreatDoor.U
open Go Go.RowKit Go.Proofs.YtabmfhnhmoiljaaGreatDoor.Q Go.Proofs.YtabmfhnhmoiljaaGreatDoorW.PrintWords Go.Proofs.YtabmfhnhmoiljaaGreatDoorW.PrintLast Go.Proofs.YtabmfhnhmoiljaaGreatDoorW.PrintMore
set_option linter.unusedVariables false
set_option linter.unusedSimpArgs false

theorem bKey_okey (d a id : ByteArray) : bKey d a ≠ okey id := by
  intro h
  have h2 := congrArg (fun x : ByteArray => x.data.toList.head?) h
  simp [bKey, okey, ByteArray.append_eq] at h2
noncomputable def cancelV (name : ByteArray) (l : List IP) (id maker : ByteArray) : List IP × Int :=
  match orderO id (getV l (okey id)).1 with
  | some y => if y.2.1.toList = maker.toList then (if y.2.2.2.2.2 = true then stepO l ordersB maker name y.2.2.2.2.1 id y.2.1 y.2.2.1 y.2.2.2.1 0 false else (l, 16)) else (l, 18)
  | none => (l, 5)
theorem list_eq {a b : ByteArray} (h : a.toList = b.toList) : a = b := (toList_eq_iff _ _).1 h
theorem implCancelOrder_ev (name : ByteArray) (l : List IP) (id maker : ByteArray) (hr : Rt l) (hn : name.size ≤ 50) (h1 : id.size ≤ 1048576) : Ev (fun k => impl_cancelOrder.f k name l id maker) (cancelV name l id maker) := by
  unfold impl_cancelOrder.f cancelV
  obtain ⟨z, hz⟩ := implAtO_ev l id (by have := hr.1; omega) (fun x hx => by have := (hr.2 x hx).2.2; omega) h1
  obtain ⟨k1, k2⟩ := ordR_some (x := z) (o := orderO id (getV l (okey id)).1) rfl
  refine Ev.bind hz ?_
  generalize ordR z (orderO id (getV l (okey id)).1) = s at *
  cases hc : s.2.2.2.2.2.2 with
  | false => rw [k2 hc]; simp only [Bool.false_eq_true, if_false, cloneO_ev l hr, Option.bind_some]; exact Ev.now _
  | true =>
    have hoo := k1 hc
    obtain ⟨e1, hR⟩ := orderO_right hoo
    obtain ⟨q1, q2, q3⟩ := rightB_bd hR
    obtain ⟨b1, b2⟩ := right_small hR
    simp only at e1 q1 q2 q3 b2
    rw [hoo]
    simp only [if_true]
    by_cases h2 : s.2.1.toList = maker.toList
    · have em := list_eq h2
      simp only [if_pos h2]
      cases ho : s.2.2.2.2.2.1 with
      | false => simp only [Bool.false_eq_true, if_false, cloneO_ev l hr, Option.bind_some]; exact Ev.now _
      | true =>
        simp only [if_true, e1]
        exact Ev.bind (stepO_ev l ordersB maker name s.2.2.2.2.1 id s.2.1 s.2.2.1 s.2.2.2.1 0 false hr (by decide) (by rw [← em]; omega) (by omega) (by omega) (by omega) (by omega) (by omega) (by omega) (by omega)) (Ev.now _)
    · simp only [if_neg h2, cloneO_ev l hr, Option.bind_some]; exact Ev.now _
theorem l09Cancel_ev (name : ByteArray) (l : List IP) (id maker : ByteArray) (hr : Rt l) (hR0 : Rises l) (hn : name.size ≤ 50) (h1 : id.size ≤ 1048576) : Ev (fun k => spec_l09Cancel.f k name l id maker) (cancelV name l id maker) := by
  unfold spec_l09Cancel.f cancelV
  obtain ⟨z, hz⟩ := specFindO_ev l id (by have := hr.1; omega) (fun x hx => by have := (hr.2 x hx).2.2; omega) h1
  obtain ⟨k1, k2⟩ := ordR_some (x := z) (o := orderO id (getV l (okey id)).1) rfl
  refine Ev.bind hz ?_
  generalize ordR z (orderO id (getV l (okey id)).1) = s at *
  cases hc : s.2.2.2.2.2.2 with
  | false => rw [k2 hc]; simp only [Bool.false_eq_true, if_false]; exact Ev.now _
  | true =>
    have hoo := k1 hc
    obtain ⟨e1, hR⟩ := orderO_right hoo
    obtain ⟨q1, q2, q3⟩ := rightB_bd hR
    obtain ⟨b1, b2⟩ := right_small hR
    have hst : Stays l (okey id) := by
      refine stays_hit hR0 ?_
      cases hh : hitB l (okey id) with
      | true => rfl
      | false =>
        unfold getV at hoo
        rw [hh] at hoo
        simp only [Bool.false_eq_true, if_false] at hoo
        rw [orderO_empty] at hoo
        cases hoo
    simp only at e1 q1 q2 q3 b2
    rw [hoo]
    simp only [if_true]
    by_cases h2 : s.2.1.toList = maker.toList
    · have em := list_eq h2
      simp only [if_pos h2]
      cases ho : s.2.2.2.2.2.1 with
      | false => simp only [Bool.false_eq_true, if_false]; exact Ev.now _
      | true =>
        simp only [if_true, l09Key_eq id h1, Option.bind_some]
        refine Ev.bind (l05Move_ev l ordersB maker name s.2.2.2.2.1 hr (by decide) (by rw [← em]; omega) (by omega) (by omega) (by omega)) ?_
        have hm := moveV_rt (l := l) (f := ordersB) (t := maker) (d := name) (n := s.2.2.2.2.1) hr (by decide) (by rw [← em]; omega) (by omega)
        have hs := moveV_stays (l := l) (f := ordersB) (t := maker) (d := name) (n := s.2.2.2.2.1) (bKey_okey _ _ id) (bKey_okey _ _ id) hst
        unfold stepO thenV
        generalize moveV l ordersB maker name s.2.2.2.2.1 = q at *
        by_cases hq : q.2 = 0
        · simp only [if_pos hq]
          have hp : ∀ v, (putV q.1 (okey id) v).2 = 0 := fun v => by unfold putV; rw [if_pos (hit_stays hs)]
          refine Ev.bind (l09Bytes_ev s.1 s.2.1 s.2.2.1 s.2.2.2.1 0 false (by omega) (by omega) (by omega) (by omega)) (Ev.bind (specPut_ev q.1 (okey id) _ (by have := hm.1; omega)) ?_)
          rw [hp, if_pos rfl]
          exact Ev.now _
        · simp only [if_neg hq]; exact Ev.now _
    · simp only [if_neg h2]; exact Ev.now _
theorem cancelV_rt {name : ByteArray} {l : List IP} {id maker : ByteArray} (hr : Rt l) (hn : name.size ≤ 50) : Rt (cancelV name l id maker).1 := by
  unfold cancelV
  split
  · rename_i y hy
    obtain ⟨e1, hR⟩ := orderO_right hy
    obtain ⟨q1, q2, q3⟩ := rightB_bd hR
    obtain ⟨b1, b2⟩ := right_small hR
    split
    · rename_i h2
      have em := list_eq h2
      split
      · exact stepO_rt hr (by decide) (by rw [← em]; omega) (by omega) (by omega) (by omega) (by omega) (by omega) (by omega)
      · exact hr
    · exact hr
  · exact hr
noncomputable def cancelX (name : ByteArray) (l : List IP) (id maker : ByteArray) : List IP × Int :=
  if name.size ≤ 65536 ∧ l.length ≤ 4096 ∧ id.size ≤ 65536 ∧ maker.size ≤ 65536 then (if storeB l = true then (if nameB id = true then (if chainB name = true then cancelV name l id maker else ([], 1)) else ([], 4)) else ([], 1)) else ([], 2)
theorem cancelX_len (name : ByteArray) (l : List IP) (id maker : ByteArray) : (cancelX name l id maker).1.length ≤ 400 := by
  unfold cancelX
  split
  · split
    · rename_i hs
      split
      · split
        · rename_i hc
          exact (cancelV_rt (rt_of hs) (by rw [chain_size hc]; decide)).1
        · exact Nat.zero_le _
      · exact Nat.zero_le _
    · exact Nat.zero_le _
  · exact Nat.zero_le _
theorem CancelOrderX_ev (name : ByteArray) (l : List IP) (id maker : ByteArray) (hl : l.length ≤ 1048576) (h1 : id.size ≤ 1048576) : Ev (fun k => impl_CancelOrder.f k name l id maker) (cancelX name l id maker) := by
  unfold impl_CancelOrder.f cancelX
  have e : (∀ t ∈ [name], t.size ≤ 65536) ↔ name.size ≤ 65536 := by simp
  simp only [isText_eq, e, Option.bind_some]
  by_cases g1 : name.size ≤ 65536
  · simp only [decide_eq_true g1, if_true]
    have hsc := storeCode_ev l [id, maker] hl
    have ea : ([id, maker].any fun t => decide ((t.size : Int) > 65536)) = false ↔ id.size ≤ 65536 ∧ maker.size ≤ 65536 := by
      simp only [List.any_cons, List.any_nil, Bool.or_false, Bool.or_eq_false_iff, decide_eq_false_iff_not]
      omega
    simp only [ea] at hsc
    by_cases g2 : l.length ≤ 4096 ∧ id.size ≤ 65536 ∧ maker.size ≤ 65536
    · rw [if_pos ⟨g1, g2⟩]
      rw [if_pos g2] at hsc
      cases hs : storeB l with
      | false =>
        rw [hs] at hsc
        simp only [Bool.false_eq_true, if_false] at hsc ⊢
        refine Ev.bind hsc ?_
        simp only [if_neg (show ¬ (1 : Int) = 0 by decide)]
        exact Ev.bind hsc (Ev.now _)
      | true =>
        rw [hs] at hsc
        simp only [if_true] at hsc ⊢
        refine Ev.bind hsc ?_
        simp only [if_true]
        refine Ev.bind (areNames_ev [id] (by simp) (one_small h1)) ?_
        rw [List.all_cons, List.all_nil, Bool.and_true]
        cases nameB id with
        | false => simp only [Bool.false_eq_true, if_false]; exact Ev.now _
        | true =>
          simp only [if_true, isChain_eq, Option.bind_some]
          cases hc : chainB name with
          | false => simp only [Bool.false_eq_true, if_false]; exact Ev.now _
          | true =>
            simp only [if_true]
            exact Ev.bind (implCancelOrder_ev name l id maker (rt_of hs) (by rw [chain_size hc]; decide) h1) (Ev.now _)
    · rw [if_neg (fun e => g2 e.2)]
      rw [if_neg g2] at hsc
      refine Ev.bind hsc ?_
      simp only [if_neg (show ¬ (2 : Int) = 0 by decide)]
      exact Ev.bind hsc (Ev.now _)
  · simp only [decide_eq_false g1, Bool.false_eq_true, if_false]
    rw [if_neg (fun e => g1 e.1)]
    exact Ev.now _
theorem specCancelOrderX_ev (name : ByteArray) (l : List IP) (id maker : ByteArray) (hl : l.length ≤ 1048576) (h1 : id.size ≤ 1048576) : Ev (fun k => spec_CancelOrder.f k name l id maker) (cancelX name l id maker) := by
  unfold spec_CancelOrder.f cancelX
  by_cases g1 : (65536 : Int) < (name.size : Int)
  · simp only [if_pos g1]; rw [if_neg (fun e => by have := e.1; omega)]; exact Ev.now _
  simp only [if_neg g1]
  by_cases g2 : (4096 : Int) < (l.length : Int)
  · simp only [if_pos g2]; rw [if_neg (fun e => by have := e.2.1; omega)]; exact Ev.now _
  simp only [if_neg g2]
  by_cases g3 : (65536 : Int) < (id.size : Int)
  · simp only [if_pos g3]; rw [if_neg (fun e => by have := e.2.2.1; omega)]; exact Ev.now _
  simp only [if_neg g3]
  by_cases g4 : (65536 : Int) < (maker.size : Int)
  · simp only [if_pos g4]; rw [if_neg (fun e => by have := e.2.2.2; omega)]; exact Ev.now _
  simp only [if_neg g4]
  rw [if_pos (show name.size ≤ 65536 ∧ l.length ≤ 4096 ∧ id.size ≤ 65536 ∧ maker.size ≤ 65536 by omega)]
  have hask : Ev (fun k => spec_l09Ask.f k l id) (if storeB l = true then (if nameB id = true then 0 else 4) else 1) := by
    unfold spec_l09Ask.f
    simp only [if_neg (show ¬ (l.length : Int) > 4096 by omega), decide_eq_false (show ¬ (id.size : Int) > 65536 by omega)]
    refine Ev.step (fun k => by rw [spec_l09Ask.j0, if_neg (by decide)]) (Ev.bind (specStoreOK_ev l hl) ?_)
    cases storeB l with
    | false => exact Ev.now _
    | true =>
      simp only [if_true]
      refine Ev.bind (l05Name_ev id) ?_
      cases nameB id <;> exact Ev.now _
  refine Ev.bind hask ?_
  cases hs : storeB l with
  | false => simp only [Bool.false_eq_true, if_false, if_neg (show ¬ (1 : Int) = 0 by decide)]; exact Ev.now _
  | true =>
    cases nameB id with
    | false => simp only [Bool.false_eq_true, if_false, if_true, if_neg (show ¬ (4 : Int) = 0 by decide)]; exact Ev.now _
    | true =>
      simp only [if_true]
      have hgo : chainB name = true → Ev (fun k => (spec_l09Cancel.f k name l id maker).bind fun q2 => if q2.1.length ≤ 1000000 then some (q2.1, q2.2) else none) (cancelV name l id maker) := fun hc => by
        have hn : name.size ≤ 50 := by rw [chain_size hc]; decide
        have hlen := (cancelV_rt (id := id) (maker := maker) (rt_of hs) hn).1
        refine Ev.bind (l09Cancel_ev name l id maker (rt_of hs) (storeB_rises hs) hn h1) ?_
        simp only [if_pos (show (cancelV name l id maker).1.length ≤ 1000000 by omega)]
        exact Ev.now _
      by_cases c1 : name.toList = ([120] : List UInt8)
      · have hc : chainB name = true := by unfold chainB; rw [c1]; rfl
        rw [hc]
        simp only [if_pos c1, if_true]
        exact hgo hc
      · simp only [if_neg c1]
        by_cases c2 : name.toList = ([121] : List UInt8)
        · have hc : chainB name = true := by unfold chainB; rw [c2]; rfl
          rw [hc]
          simp only [if_pos c2, if_true]
          exact hgo hc
        · have hc : chainB name = false := by unfold chainB; rw [beq_eq_false_iff_ne.2 c1, beq_eq_false_iff_ne.2 c2]; rfl
          rw [hc]
          simp only [if_neg c2, Bool.false_eq_true, if_false]
          exact Ev.now _
end Go.Proofs.YtabmfhnhmoiljaaGreatDoor.U

/- CancelOrder of the program answers what the reference's answers: for every name, store and text. -/
namespace Go.Proofs.YtabmfhnhmoiljaaGreatDoor.Pure
open Go Go.RowKit Go.Proofs.YtabmfhnhmoiljaaGreatDoor.Q Go.Proofs.YtabmfhnhmoiljaaGreatDoor.U Go.Proofs.YtabmfhnhmoiljaaGreatDoorW.PrintWords Go.Proofs.YtabmfhnhmoiljaaGreatDoorW.PrintLast Go.Proofs.YtabmfhnhmoiljaaGreatDoorW.PrintMore
set_option linter.unusedVariables false
set_option linter.unusedSimpArgs false
theorem FnExactCancelOrder (aName : ByteArray) (h_aName : aName.size ≤ maxLen) (aList : List LP) (h_aList : aList.length ≤ maxLen ∧ ∀ x ∈ aList, (x.f0.size ≤ maxLen ∧ x.f1.size ≤ maxLen)) (aId : ByteArray) (h_aId : aId.size ≤ maxLen) (aMaker : ByteArray) (h_aMaker : aMaker.size ≤ maxLen) : ∃ k, laws_FnExactCancelOrder.f k aName aList aId aMaker = some true := by
  refine Ev.rounds (?_ : Ev (fun k => laws_FnExactCancelOrder.f k aName aList aId aMaker) true)
  have hm : maxLen = 9223372036854775807 := rfl
  rw [hm] at h_aList
  unfold laws_FnExactCancelOrder.f
  by_cases q0 : (aName.size : Int) > 1048576
  · simp only [if_pos q0]; exact Ev.now _
  simp only [if_neg q0]
  by_cases q1 : (aId.size : Int) > 1048576
  · simp only [if_pos q1]; exact Ev.now _
  simp only [if_neg q1]
  by_cases q2 : (aMaker.size : Int) > 1048576
  · simp only [if_pos q2]; exact Ev.now _
  simp only [if_neg q2]
  obtain ⟨z, e, hz⟩ := szPairS_ev aList 1048576 h_aList.1 h_aList.2 (by decide) (by decide)
  refine Ev.bind e ?_
  by_cases hneg : z < 0
  · simp only [if_pos hneg]; exact Ev.now _
  simp only [if_neg hneg]
  rcases hz with hz | ⟨_, _, hs⟩
  · exact absurd hz hneg
  have hl : (aList.map toP).length ≤ 1048576 := by rw [List.length_map]; exact hs.1
  have hlen := cancelX_len aName (aList.map toP) aId aMaker
  have ti := CancelOrderX_ev aName (aList.map toP) aId aMaker hl (by omega)
  have ts := specCancelOrderX_ev aName (aList.map toP) aId aMaker hl (by omega)
  generalize hX : cancelX aName (aList.map toP) aId aMaker = r at hlen ti ts
  clear hX
  obtain ⟨r0, r1⟩ := r
  simp only at hlen
  have tp := toPairS_ev aList hs.1
  have e0 := eqPairS_ev r0 (by omega)
  have e1 := eqPairS_ev (aList.map toP) hl
  have m1 := markPairS_ev (aList.map toP) 1 hl (by decide)
  have m2 := markPairS_ev r0 1 (by omega) (by decide)
  have hd := heldPairS_ev r0 1 (by omega) (by decide)
  have one : ((1 : Nat) : Int) = 1 := rfl
  rw [one] at m1 m2 hd
  refine Ev.bind tp (Ev.bind ts (Ev.bind tp (Ev.bind ti (Ev.bind e0 ?_))))
  simp only [if_true, bne_self_eq_false, Bool.false_eq_true, if_false]
  refine Ev.step (fun k => by rw [laws_FnExactCancelOrder.j0, if_neg (by decide)]) (Ev.bind tp (Ev.bind e1 ?_))
  simp only [if_true]
  refine Ev.bind m1 ?_
  simp only [if_neg (show ¬ ((1 + 2 * (aList.map toP).length : Nat) : Int) < 0 by omega)]
  refine Ev.bind e0 ?_
  simp only [if_true, bne_self_eq_false, Bool.false_eq_true, if_false]
  refine Ev.step (fun k => by rw [laws_FnExactCancelOrder.j1, if_neg (by decide)]) (Ev.bind m2 (Ev.bind hd ?_))
  simp only [if_neg (show ¬ ((1 + 2 * r0.length : Nat) : Int) < 0 by omega), if_true]
  refine Ev.bind tp (Ev.bind ti (Ev.bind e0 ?_))
  simp only [if_true, bne_self_eq_false, Bool.false_eq_true, if_false]
  refine Ev.step (fun k => by rw [laws_FnExactCancelOrder.j2, if_neg (by decide)]) (Ev.bind hd ?_)
  simp only [if_neg (show ¬ ((1 + 2 * r0.length : Nat) : Int) < 0 by omega), if_true]
  exact Ev.now _
end Go.Proofs.YtabmfhnhmoiljaaGreatDoor.Pure

/- An argument of a law, whatever its type: read whole from what was handed over. -/
namespace Go.Proofs.YtabmfhnhmoiljaaGreatDoor.U
open Go Go.ChangeShapes Go.WideShapes Go.ChangeAt Go.RowKit Go.Proofs.YtabmfhnhmoiljaaGreatDoorW.PrintWords
set_option linter.unusedVariables false
set_option linter.unusedSimpArgs false

theorem addr_add_add (a : Addr) (i j : Nat) : (a.add i).add j = a.add (i + j) := by
  unfold Addr.add
  by_cases h0 : i = 0
  · subst h0; simp
  by_cases h1 : j = 0
  · subst h1; simp
  rw [if_neg h0, if_neg h1, if_neg (by omega)]
  simp only [Nat.add_assoc]
/-- What is handed over as a t can be read as a d. -/
structure Opens {α : Type} (P : Program) (t : TypeId) (d : Kd α) (wf : α → Prop) : Prop where
  out : ∀ {H : Type} (enc : TypeId × Value → H) (w : World) (base : Nat) (sp : Nat → Bool) (held : Bool) (n : Nat) (cs : List Value) (x : DataW H × List MemPlace),
    DataW.trod enc P w base sp held n t cs = some x → ∃ a, d.K w a cs ∧ wf a
theorem Opens.int {P : Program} {t : TypeId} {k : IntKind} (ht : P.underlying t = some (.int k)) : Opens P t (Kd.int k) (fun n => (Lit.int k n).wf = true) := by
  constructor
  intro H enc w base sp held n cs x h
  obtain ⟨m, rfl, rfl, hw⟩ := DataW.trod_int ht h
  exact ⟨m, rfl, hw⟩
theorem Opens.bool {P : Program} {t : TypeId} (ht : P.underlying t = some .bool) : Opens P t Kd.bool (fun _ => True) := by
  constructor
  intro H enc w base sp held n cs x h
  obtain ⟨m, rfl, rfl⟩ := DataW.trod_bool ht h
  exact ⟨m, rfl, trivial⟩
theorem Opens.string {P : Program} {t : TypeId} (ht : P.underlying t = some .string) : Opens P t Kd.string (fun s => s.size ≤ maxLen) := by
  constructor
  intro H enc w base sp held n cs x h
  obtain ⟨m, rfl, rfl, hw⟩ := DataW.trod_string ht h
  exact ⟨m, rfl, hw⟩
theorem all_of_each {α : Type} : ∀ (n : Nat) (p : Nat → α → Prop), (∀ i, i < n → ∃ a, p i a) → ∃ xs : List α, xs.length = n ∧ ∀ i a, xs[i]? = some a → p i a
  | 0, _, _ => ⟨[], rfl, fun i a h => by simp at h⟩
  | n + 1, p, h => by
    obtain ⟨a, ha⟩ := h 0 (by omega)
    obtain ⟨xs, hl, hx⟩ := all_of_each n (fun i => p (i + 1)) (fun i hi => h (i + 1) (by omega))
    refine ⟨a :: xs, by simp [hl], fun i b hb => ?_⟩
    cases i with
    | zero => simp at hb; subst hb; exact ha
    | succ j => exact hx j b (by simpa using hb)
theorem Opens.slice {α : Type} {P : Program} {t e : TypeId} {d : Kd α} {wf : α → Prop} (ht : P.underlying t = some (.slice e)) (hs : P.cellsOf e = d.sz) (hd : Opens P e d wf) :
    Opens P t (Kd.slice e d) (fun xs => xs.length ≤ maxLen ∧ ∀ x ∈ xs, wf x) := by
  constructor
  intro H enc w base sp held n cs x h
  rcases DataW.trod_slice ht h with ⟨rfl, rfl⟩ | ⟨a, len, cap, elems, rest, m, rfl, rfl, rfl, hb, hl, hm, hlen, hel, _, _⟩
  · exact ⟨[], ⟨none, 0, rfl, by simp, rfl, by simp, by simp⟩, by simp, by simp⟩
  obtain ⟨xs, hxl, hx⟩ := all_of_each len (fun i y => wf y ∧ ∃ c, c.length = d.sz ∧ d.K w y c ∧ ∀ j u, c[j]? = some u → w.cell? (a.add (i * d.sz + j)) = some u) (fun i hi => by
    have h1 := hel i hi
    rw [List.getElem?_eq_getElem (by omega)] at h1
    obtain ⟨c, hc, hy⟩ := Option.bind_eq_some_iff.mp h1
    obtain ⟨_, hcl, hcell⟩ := World.cells?_some hc
    obtain ⟨y, hk, hw⟩ := hd.out _ _ _ _ _ _ _ _ hy
    refine ⟨y, hw, c, by omega, hk, fun j u hu => ?_⟩
    have hj : j < P.cellsOf e := by
      rcases Nat.lt_or_ge j c.length with h' | h'
      · omega
      · rw [List.getElem?_eq_none h'] at hu; cases hu
    have h2 := hcell j hj
    rw [hu] at h2
    rw [← hs, ← h2, addr_add_add])
  subst hxl
  refine ⟨xs, ⟨some a, cap, rfl, hl, rfl, by have : maxLen = 9223372036854775807 := rfl; omega, fun _ => ⟨a, rfl, fun j p hp => (hx j p hp).2⟩⟩, by omega, fun x hxm => ?_⟩
  obtain ⟨i, hi, rfl⟩ := List.getElem_of_mem hxm
  exact (hx i _ (List.getElem?_eq_getElem hi)).1
/-- The fields of a struct, from a cell on. -/
structure OpensF {α : Type} (P : Program) (fs : List Field) (off : Nat) (d : Kd α) (wf : α → Prop) : Prop where
  out : ∀ {H : Type} (enc : TypeId × Value → H) (w : World) (base : Nat) (sp : Nat → Bool) (held : Bool) (n : Nat) (cs : List Value),
    cs.length = off + d.sz → (∀ f ∈ fs, ∃ y, DataW.trod enc P w base sp held n f.type ((cs.drop f.offset).take (P.cellsOf f.type)) = some y) → ∃ a, d.K w a (cs.drop off) ∧ wf a
theorem OpensF.one {α : Type} {P : Program} {f : Field} {d : Kd α} {wf : α → Prop} (hd : Opens P f.type d wf) (hs : P.cellsOf f.type = d.sz) : OpensF P [f] f.offset d wf := by
  constructor
  intro H enc w base sp held n cs hl hf
  obtain ⟨y, hy⟩ := hf f (by simp)
  rw [List.take_of_length_le (by rw [List.length_drop]; omega)] at hy
  exact hd.out _ _ _ _ _ _ _ _ hy
theorem OpensF.cons {α β : Type} {P : Program} {f : Field} {fs : List Field} {d : Kd α} {d1 : Kd β} {wf : α → Prop} {wf1 : β → Prop} (hd : Opens P f.type d wf) (hs : P.cellsOf f.type = d.sz) (h1 : OpensF P fs (f.offset + d.sz) d1 wf1) :
    OpensF P (f :: fs) f.offset (Kd.pair d d1) (fun p => wf p.1 ∧ wf1 p.2) := by
  constructor
  intro H enc w base sp held n cs hl hf
  have hl' : cs.length = f.offset + (d.sz + d1.sz) := hl
  obtain ⟨y, hy⟩ := hf f (by simp)
  obtain ⟨a, ha, wa⟩ := hd.out _ _ _ _ _ _ _ _ hy
  obtain ⟨b, hb, wb⟩ := h1.out enc w base sp held n cs (by omega) (fun g hg => hf g (by simp [hg]))
  refine ⟨(a, b), ⟨_, _, ?_, ha, hb⟩, wa, wb⟩
  rw [hs, ← List.drop_drop, List.take_append_drop]
theorem Opens.struct {α : Type} {P : Program} {t : TypeId} {fs : Array Field} {d : Kd α} {wf : α → Prop} (ht : P.underlying t = some (.struct fs)) (hs : P.cellsOf t = d.sz) (hf : OpensF P fs.toList 0 d wf) : Opens P t d wf := by
  constructor
  intro H enc w base sp held n cs x h
  obtain ⟨xs, m, rfl, rfl, hl, hxl, hx⟩ := DataW.trod_struct ht h
  have := hf.out enc w base sp held m cs (by omega) (fun f hfm => by
    obtain ⟨i, hi, rfl⟩ := List.getElem_of_mem hfm
    have hi' : i < fs.size := by simpa using hi
    refine ⟨xs[i]'(by omega), ?_⟩
    rw [hx i _ (by simp [hi'])]
    rw [List.getElem?_eq_getElem])
  simpa using this
theorem Opens.iso {α β : Type} {P : Program} {t : TypeId} {d : Kd α} {wf : α → Prop} {f : β → α} (h : Opens P t d wf) (g : ∀ a, ∃ b, f b = a) : Opens P t (Kd.iso d f) (fun b => wf (f b)) := by
  constructor
  intro H enc w base sp held n cs x hx
  obtain ⟨a, ha, wa⟩ := h.out enc w base sp held n cs x hx
  obtain ⟨b, rfl⟩ := g a
  exact ⟨b, ha, wa⟩
end Go.Proofs.YtabmfhnhmoiljaaGreatDoor.U
