/- Parts of the proof: what single Go functions compute, each with its walk, and plain laws over these. -/
import Derived.Test.YtjhhehjjnfnigaaGreatDoorM0
import Derived.Test.YtjhhehjjnfnigaaGreatDoorM2
import Derived.Test.YtjhhehjjnfnigaaGreatDoorM1
import Derived.Test.YtjhhehjjnfnigaaGreatDoorM4
import Derived.Test.YtjhhehjjnfnigaaGreatDoorM3
import Derived.Lib.ItoaNum
import Derived.WalkKit
import Derived.ProofKit
import Derived.OpenShut
import Derived.ShutString
import Derived.ChangeOld
import Derived.Below
import Derived.ChangeArms
import Derived.DataReads
import Derived.Test.YtjhhehjjnfnigaaGreatDoorVWords
/- Fields that are written are read back; amounts and bounds as both sides read them. -/
namespace Go.Proofs.YtjhhehjjnfnigaaGreatDoor.U
open Go Go.RowKit Go.Proofs.YtjhhehjjnfnigaaGreatDoor.Q Go.Proofs.YtjhhehjjnfnigaaGreatDoorW.PrintWords Go.Proofs.YtjhhehjjnfnigaaGreatDoorW.PrintLast Go.Proofs.YtjhhehjjnfnigaaGreatDoorW.PrintMore
set_option linter.unusedVariables false
set_option linter.unusedSimpArgs false

def someB (n : Int) : Bool := decide (1 ≤ n ∧ n ≤ 1000000000000000000)
def max0 (n : Int) : Int := if 0 ≤ n then n else 0
theorem within_eq (n a b : Int) : impl_within.f n a b = some (decide (a ≤ n ∧ n ≤ b)) := by
  unfold impl_within.f
  by_cases h : n ≥ a
  · rw [if_pos h]; congr 1; rw [decide_eq_decide]; omega
  · rw [if_neg h]; congr 1; rw [eq_comm, decide_eq_false_iff_not]; omega
theorem l01In_eq (n a b : Int) : spec_l01In.f n a b = some (decide (a ≤ n ∧ n ≤ b)) := by
  unfold spec_l01In.f
  by_cases h : n ≥ a
  · rw [if_pos h]; congr 1; rw [decide_eq_decide]; omega
  · rw [if_neg h]; congr 1; rw [eq_comm, decide_eq_false_iff_not]; omega
theorem isSome_eq (n : Int) : impl_isSome.f n = some (someB n) := by unfold impl_isSome.f; rw [within_eq]; rfl
theorem amountText_eq (n : Int) (h0 : 0 ≤ n) (h1 : n ≤ 9223372036854775807) : impl_amountText.f n = some (digV n.toNat) := by
  unfold impl_amountText.f strconv_Itoa.f
  rw [if_pos (by omega), if_pos h1, itoa_eq n h0]
  rfl
theorem readAmount_fst (a : ByteArray) (hs : a.size ≤ 281474976710656) : ∃ b, impl_readAmount.f a = some (max0 (amtV a), b) := by
  rw [readAmount_eq a hs]
  unfold max0
  by_cases h : 0 ≤ amtV a
  · rw [if_pos h, if_pos h]; exact ⟨_, rfl⟩
  · rw [if_neg h, if_neg h]; exact ⟨_, rfl⟩
theorem getV_size (l : List IP) (key : ByteArray) (B : Nat) (h : ∀ x ∈ l, x.f1.size ≤ B) : (getV l key).1.size ≤ B := by
  unfold getV
  split
  · rename_i hh
    unfold hitB at hh
    rw [Bool.and_eq_true, decide_eq_true_iff] at hh
    rw [rdI l _ hh.1]
    exact h _ (List.getElem_mem hh.1)
  · exact Nat.zero_le _
theorem getV_none (l : List IP) (key : ByteArray) (h : (getV l key).2 = false) : (getV l key).1 = ⟨#[]⟩ := by
  unfold getV at *
  split
  · rename_i hh; rw [if_pos hh] at h; cases h
  · rfl
theorem readV_empty : readV (⟨#[]⟩ : ByteArray) = none := by unfold readV; rw [if_pos (by rfl)]

/-! ### what is written is read back -/
theorem ofNums2 (n : Nat) (h : n ≤ 65535) : ∃ a b : UInt8, strOfNums [(n : Int) / 256 % 256, (n : Int) % 256] = ⟨#[a, b]⟩ ∧ (a.toNat : Int) * 256 + b.toNat = n := by
  refine ⟨UInt8.ofNat (n / 256), UInt8.ofNat (n % 256), ?_, ?_⟩
  · have e1 : ((n : Int) / 256 % 256).toNat = n / 256 := by omega
    have e2 : ((n : Int) % 256).toNat = n % 256 := by omega
    simp [strOfNums, e1, e2]
  · rw [UInt8.toNat_ofNat', UInt8.toNat_ofNat']; omega
theorem readN_restV : ∀ (l : List ByteArray), (∀ x ∈ l, x.size ≤ 1000) → readN l.length (restV l) = some l
  | [], _ => by rw [List.length_nil, readN]; rfl
  | x :: xs, h => by
    have hx := h x (by simp)
    obtain ⟨a, b, e, hab⟩ := ofNums2 x.size (by omega)
    have ih := readN_restV xs (fun y hy => h y (by simp [hy]))
    have hl : (restV (x :: xs)).data.toList = a :: b :: (x.data.toList ++ (restV xs).data.toList) := by
      rw [restV, fieldV, e]
      simp
    have hsz : (restV (x :: xs)).size = 2 + x.size + (restV xs).size := by
      rw [← size_data, hl, List.length_cons, List.length_cons, List.length_append, size_data, size_data]; omega
    generalize restV (x :: xs) = s at *
    have b0 := bt_list s 0 (by omega)
    have b1 := bt_list s 1 (by omega)
    rw [hl] at b0 b1
    simp only [List.getD_cons_zero, List.getD_cons_succ] at b0 b1
    have f0 : bt s 0 = (a.toNat : Int) := b0
    have f1 : bt s 1 = (b.toNat : Int) := b1
    have hh : hd2 s = x.size := by
      have := (hd2_bd s).2
      rw [f0, f1, hab] at this
      omega
    rw [List.length_cons, readN, hh, if_neg (by omega), if_neg (by omega), if_neg (by omega)]
    have e1 : s.extract 2 (2 + x.size) = x := by
      apply ext_list
      rw [extract_list, hl, show 2 + x.size = x.size + 1 + 1 by omega]
      simp only [List.take_succ_cons, List.drop_succ_cons, List.drop_zero]
      exact List.take_left' (size_data x)
    have e2 : s.extract (2 + x.size) s.size = restV xs := by
      apply ext_list
      rw [extract_list, List.take_of_length_le (by rw [size_data]; exact Nat.le_refl _), hl, show 2 + x.size = x.size + 1 + 1 by omega]
      simp only [List.drop_succ_cons]
      exact List.drop_left' (size_data x)
    rw [e1, e2, ih]
    rfl
theorem readV_fieldsV (l : List ByteArray) (hl : l.length ≤ 40) (hx : ∀ x ∈ l, x.size ≤ 1000) : readV (fieldsV l) = some l := by
  have hlist : (fieldsV l).data.toList = UInt8.ofNat l.length :: (restV l).data.toList := by
    unfold fieldsV
    have : ((l.length : Int) % 256).toNat = l.length := by omega
    simp [strOfNums, this]
  have hsz : (fieldsV l).size = 1 + (restV l).size := by rw [← size_data, hlist, List.length_cons, size_data]; omega
  have e2 : (fieldsV l).extract 1 (fieldsV l).size = restV l := by
    apply ext_list
    rw [extract_list, List.take_of_length_le (by rw [size_data]; exact Nat.le_refl _), hlist]
    rfl
  have b0 := bt_list (fieldsV l) 0 (by omega)
  rw [hlist] at b0
  simp only [List.getD_cons_zero] at b0
  have f0 : bt (fieldsV l) 0 = (l.length : Int) := by
    refine (show bt (fieldsV l) 0 = _ from b0).trans ?_
    rw [UInt8.toNat_ofNat']; omega
  unfold readV
  rw [if_neg (by omega), f0, if_neg (by omega), e2, Int.toNat_natCast]
  exact readN_restV l hx
theorem fieldsV_inj {l l' : List ByteArray} (hl : l.length ≤ 40) (hx : ∀ x ∈ l, x.size ≤ 1000) (hl' : l'.length ≤ 40) (hx' : ∀ x ∈ l', x.size ≤ 1000) (h : fieldsV l = fieldsV l') : l = l' := by
  have h1 := readV_fieldsV l hl hx
  have h2 := readV_fieldsV l' hl' hx'
  rw [h, h2] at h1
  exact (Option.some.inj h1).symm

end Go.Proofs.YtjhhehjjnfnigaaGreatDoor.U

/- Names of accounts and denominations: as the reference and as the program read them. -/
namespace Go.Proofs.YtjhhehjjnfnigaaGreatDoor.U
open Go Go.RowKit Go.Proofs.YtjhhehjjnfnigaaGreatDoor.Q Go.Proofs.YtjhhehjjnfnigaaGreatDoorW.PrintWords Go.Proofs.YtjhhehjjnfnigaaGreatDoorW.PrintLast Go.Proofs.YtjhhehjjnfnigaaGreatDoorW.PrintMore
set_option linter.unusedVariables false
set_option linter.unusedSimpArgs false

def Letter (c : Int) : Prop := (97 ≤ c ∧ c ≤ 122) ∨ (65 ≤ c ∧ c ≤ 90) ∨ c = 95
def Digit (c : Int) : Prop := 48 ≤ c ∧ c ≤ 57
def IsName (x : ByteArray) : Prop := 1 ≤ x.size ∧ x.size ≤ 40 ∧ ∀ j : Int, 0 ≤ j → j < (x.size : Int) → Letter (bt x j) ∨ (j ≠ 0 ∧ Digit (bt x j))
instance (c : Int) : Decidable (Letter c) := by unfold Letter; infer_instance
instance (c : Int) : Decidable (Digit c) := by unfold Digit; infer_instance

theorem nameok_l0 (x : ByteArray) (hn : (x.size : Int) ≤ 140737488351232) (d : Nat) : ∀ i : Int, 0 ≤ i → i ≤ (x.size : Int) → (x.size : Int) - i = d →
    ∃ b, Ev (fun k => impl_NameOK.l0 k x (x.size : Int) i) b ∧ (b = true ↔ (∀ j : Int, i ≤ j → j < (x.size : Int) → Letter (bt x j) ∨ (j ≠ 0 ∧ Digit (bt x j))) ∧ 1 ≤ x.size ∧ x.size ≤ 40) := by
  induction d with
  | zero =>
    intro i h0 h1 hd
    refine ⟨decide (1 ≤ (x.size : Int) ∧ (x.size : Int) ≤ 40), Ev.step (fun k => ?_) (Ev.now _), ?_⟩
    · rw [impl_NameOK.l0, if_neg (by omega)]
      unfold impl_within.f
      by_cases h : (x.size : Int) ≥ 1
      · rw [if_pos h]
        simp only [Option.bind_some]
        congr 1
        exact decide_eq_decide.2 ⟨fun y => ⟨h, y⟩, fun y => y.2⟩
      · rw [if_neg h, decide_eq_false (fun y => h y.1)]
        rfl
    · rw [decide_eq_true_iff]
      exact ⟨fun h => ⟨fun j hj hj' => by omega, by omega, by omega⟩, fun h => by omega⟩
  | succ d ih =>
    intro i h0 h1 hd
    have hlt : i < (x.size : Int) := by omega
    by_cases hg : Letter (bt x i) ∨ (i ≠ 0 ∧ Digit (bt x i))
    · obtain ⟨b, hb, hb'⟩ := ih (i + 1) (by omega) (by omega) (by omega)
      refine ⟨b, Ev.step (fun k => ?_) hb, hb'.trans ⟨fun h => ⟨fun j hj hj' => ?_, h.2⟩, fun h => ⟨fun j hj hj' => h.1 j (by omega) hj', h.2⟩⟩⟩
      · rw [impl_NameOK.l0, if_pos hlt, if_pos h0, if_pos hlt, wid (n := i + 1) (by omega) (by omega)]
        unfold Letter Digit at hg
        generalize bt x i = c at *
        repeat' split
        all_goals first | rfl | (exfalso; omega)
      · by_cases e : j = i
        · subst e; exact hg
        · exact h.1 j (by omega) hj'
    · refine ⟨false, Ev.step (fun k => ?_) (Ev.now _), ⟨(fun h => by cases h), fun h => absurd (h.1 i (Int.le_refl _) hlt) hg⟩⟩
      rw [impl_NameOK.l0, if_pos hlt, if_pos h0, if_pos hlt]
      unfold Letter Digit at hg
      generalize bt x i = c at *
      repeat' split
      all_goals first | rfl | (exfalso; omega)

theorem NameOK_ev (x : ByteArray) (hn : (x.size : Int) ≤ 140737488351232) : ∃ b, Ev (fun k => impl_NameOK.f k x) b ∧ (b = true ↔ IsName x) := by
  obtain ⟨b, hb, hb'⟩ := nameok_l0 x hn x.size 0 (by omega) (by omega) (by omega)
  exact ⟨b, hb, hb'.trans ⟨fun h => ⟨h.2.1, h.2.2, h.1⟩, fun h => ⟨h.2.2, h.1, h.2.1⟩⟩⟩

theorem bool_of_iff {b : Bool} {p : Prop} [Decidable p] (h : b = true ↔ p) : b = decide p := by rw [Bool.eq_iff_iff, h, decide_eq_true_iff]
theorem letter_eq (c : Int) : spec_l00Letter.f c = some (decide (Letter c)) := by
  unfold spec_l00Letter.f
  repeat' split
  all_goals
    refine congrArg some (bool_of_iff ?_)
    unfold Letter
    first
    | exact ⟨fun _ => by omega, fun _ => rfl⟩
    | (rw [beq_iff_eq]; omega)
theorem digit_eq (c : Int) : spec_l00Digit.f c = some (decide (Digit c)) := by
  unfold spec_l00Digit.f
  split
  · refine congrArg some (bool_of_iff ?_)
    unfold Digit
    rw [decide_eq_true_iff]
    omega
  · refine congrArg some (bool_of_iff ?_)
    unfold Digit
    exact ⟨(fun h => by cases h), fun h => by omega⟩

theorem word_l0 (x : ByteArray) (hn : (x.size : Int) ≤ 40) (d : Nat) : ∀ i : Int, 1 ≤ i → i ≤ (x.size : Int) → (x.size : Int) - i = d →
    ∃ b, Ev (fun k => spec_l00Word.l0 k x i) b ∧ (b = true ↔ ∀ j : Int, i ≤ j → j < (x.size : Int) → Letter (bt x j) ∨ (j ≠ 0 ∧ Digit (bt x j))) := by
  induction d with
  | zero =>
    intro i h0 h1 hd
    exact ⟨true, Ev.step (fun k => by rw [spec_l00Word.l0, if_neg (by omega)]) (Ev.now _), ⟨fun _ j hj hj' => by omega, fun _ => rfl⟩⟩
  | succ d ih =>
    intro i h0 h1 hd
    have hlt : i < (x.size : Int) := by omega
    have hstep : ∀ k, spec_l00Word.l0 (k + 1) x i = if decide (Letter (bt x i)) = true then spec_l00Word.l0 k x (i + 1) else if decide (Digit (bt x i)) = true then spec_l00Word.l0 k x (i + 1) else some false := by
      intro k
      rw [spec_l00Word.l0, if_pos hlt, if_pos (by omega), letter_eq, digit_eq, wid (n := i + 1) (by omega) (by omega)]
      rfl
    by_cases hg : Letter (bt x i) ∨ Digit (bt x i)
    · obtain ⟨b, hb, hb'⟩ := ih (i + 1) (by omega) (by omega) (by omega)
      refine ⟨b, Ev.step (fun k => ?_) hb, hb'.trans ⟨fun h j hj hj' => ?_, fun h j hj hj' => h j (by omega) hj'⟩⟩
      · rw [hstep]
        rcases hg with hg | hg
        · rw [if_pos (decide_eq_true hg)]
        · rw [if_pos (decide_eq_true hg)]
          split <;> rfl
      · by_cases e : j = i
        · subst e; exact hg.imp id (fun y => ⟨by omega, y⟩)
        · exact h j (by omega) hj'
    · refine ⟨false, Ev.step (fun k => ?_) (Ev.now _), ⟨(fun h => by cases h), fun h => absurd ((h i (Int.le_refl _) hlt).imp id (fun y => y.2)) hg⟩⟩
      rw [hstep, if_neg (by rw [decide_eq_true_iff]; exact fun y => hg (.inl y)), if_neg (by rw [decide_eq_true_iff]; exact fun y => hg (.inr y))]

theorem Word_ev (x : ByteArray) : ∃ b, Ev (fun k => spec_l00Word.f k x) b ∧ (b = true ↔ IsName x) := by
  unfold spec_l00Word.f
  have hf : Ev (fun k => spec_l00Word.j0 k x true) false := Ev.step (fun k => by rw [spec_l00Word.j0, if_pos rfl]) (Ev.now _)
  by_cases h1 : (x.size : Int) < 1
  · simp only [if_pos h1]
    exact ⟨false, hf, ⟨(fun h => by cases h), fun h => by have := h.1; omega⟩⟩
  simp only [if_neg h1]
  by_cases h2 : (x.size : Int) > 40
  · simp only [if_pos h2]
    exact ⟨false, hf, ⟨(fun h => by cases h), fun h => by have := h.2.1; omega⟩⟩
  simp only [if_neg h2, if_pos (show (0 : Int) < (x.size : Int) by omega), letter_eq, Option.bind_some]
  by_cases h3 : Letter (bt x 0)
  · obtain ⟨b, hb, hb'⟩ := word_l0 x (by omega) (x.size - 1) 1 (by omega) (by omega) (by omega)
    refine ⟨b, ?_, hb'.trans ⟨fun h => ⟨by omega, by omega, fun j hj hj' => ?_⟩, fun h j hj hj' => h.2.2 j (by omega) hj'⟩⟩
    · rw [decide_eq_true h3]
      exact Ev.step (fun k => by rw [Bool.not_true, spec_l00Word.j0, if_neg (by decide)]) hb
    · by_cases e : j = 0
      · subst e; exact .inl h3
      · exact h j (by omega) hj'
  · rw [decide_eq_false h3]
    refine ⟨false, hf, ⟨(fun h => by cases h), fun h => ?_⟩⟩
    rcases h.2.2 0 (by omega) (by omega) with h | h
    · exact absurd h h3
    · exact absurd rfl h.1

noncomputable instance (x : ByteArray) : Decidable (IsName x) := Classical.propDecidable _
/-- A name of at most twelve bytes. -/
noncomputable def nameB (x : ByteArray) : Bool := decide (IsName x ∧ x.size ≤ 12)
noncomputable def peopleB (x : ByteArray) : Bool := nameB x && !impl_isPeople.bad x

theorem DenomOK_ev (x : ByteArray) (hn : (x.size : Int) ≤ 140737488351232) : Ev (fun k => impl_DenomOK.f k x) (nameB x) := by
  obtain ⟨b, hb, hb'⟩ := NameOK_ev x hn
  unfold impl_DenomOK.f
  refine Ev.bind hb ?_
  unfold nameB
  by_cases h : IsName x
  · simp only [hb'.2 h, if_true]
    rw [show decide ((x.size : Int) ≤ 12) = decide (IsName x ∧ x.size ≤ 12) from by rw [Bool.eq_iff_iff, decide_eq_true_iff, decide_eq_true_iff]; exact ⟨fun y => ⟨h, by omega⟩, fun y => by have := y.2; omega⟩]
    exact Ev.now _
  · obtain rfl : b = false := by cases b; rfl; exact absurd (hb'.1 rfl) h
    rw [decide_eq_false (fun y : IsName x ∧ x.size ≤ 12 => h y.1)]
    exact Ev.now _

theorem l05Name_ev (x : ByteArray) : Ev (fun k => spec_l05Name.f k x) (nameB x) := by
  obtain ⟨b, hb, hb'⟩ := Word_ev x
  unfold spec_l05Name.f nameB
  by_cases h12 : (x.size : Int) ≤ 12
  · simp only [if_pos h12]
    have : Ev (fun k => spec_NameOK.f k x) b := by unfold spec_NameOK.f; exact Ev.bind hb (Ev.now _)
    refine Ev.bind this ?_
    rw [show b = decide (IsName x ∧ x.size ≤ 12) from by rw [Bool.eq_iff_iff, decide_eq_true_iff, hb']; exact ⟨fun y => ⟨y, by omega⟩, fun y => y.1⟩]
    exact Ev.now _
  · simp only [if_neg h12]
    rw [decide_eq_false (fun y : IsName x ∧ x.size ≤ 12 => h12 (by have := y.2; omega))]
    exact Ev.now _

theorem l08Name_ev (x : ByteArray) : Ev (fun k => spec_l08Name.f k x) (peopleB x) := by
  unfold spec_l08Name.f
  refine Ev.bind (l05Name_ev x) ?_
  unfold peopleB impl_isPeople.bad
  cases nameB x with
  | false => exact Ev.now _
  | true =>
    simp only [if_true, Bool.true_and]
    by_cases h1 : x.toList = ([101, 115, 99, 114, 111, 119] : List UInt8)
    · simp only [h1, if_true]; exact Ev.now _
    · simp only [if_neg h1]
      by_cases h2 : x.toList = ([111, 114, 100, 101, 114, 115] : List UInt8)
      · simp only [h2, if_true]; exact Ev.now _
      · simp only [if_neg h2]
        by_cases h3 : x.toList = ([116, 97, 107, 101, 115] : List UInt8)
        · simp only [h3, if_true]; exact Ev.now _
        · simp only [if_neg h3, beq_eq_false_iff_ne.2 h1, beq_eq_false_iff_ne.2 h2, beq_eq_false_iff_ne.2 h3, Bool.false_or]
          exact Ev.now _

theorem areNames_go (l : List ByteArray) (hl : l.length < 1000000) (hn : ∀ x ∈ l, (x.size : Int) ≤ 140737488351232) : ∀ (d : Nat) (i : Nat), i + d = l.length →
    Ev (fun k => impl_areNames.l0 k l (l.length : Int) (i : Int)) ((l.drop i).all nameB) := by
  intro d
  induction d with
  | zero =>
    intro i hi
    refine Ev.step (fun k => ?_) (Ev.now _)
    rw [impl_areNames.l0, if_neg (by omega), List.drop_of_length_le (by omega)]
    rfl
  | succ d ih =>
    intro i hi
    have hlt : i < l.length := by omega
    have hx : rdOf ByteArray.empty l (i : Int) = l[i] := by simp [rdOf, List.getD_eq_getElem?_getD, List.getElem?_eq_getElem hlt]
    have h1 := DenomOK_ev l[i] (hn _ (List.getElem_mem hlt))
    have h2 := ih (i + 1) (by omega)
    rw [List.drop_eq_getElem_cons hlt, List.all_cons]
    have hstep : ∀ k, impl_areNames.l0 (k + 1) l (l.length : Int) (i : Int) = (impl_DenomOK.f k l[i]).bind fun t => if t = true then impl_areNames.l0 k l (l.length : Int) ((i + 1 : Nat) : Int) else some false := by
      intro k
      rw [impl_areNames.l0, if_pos (by omega), if_pos (by omega), if_pos (by omega), hx, wid (n := (i : Int) + 1) (by omega) (by omega)]
      rfl
    refine Ev.step hstep (Ev.bind h1 ?_)
    cases nameB l[i] with
    | false => exact Ev.now _
    | true =>
      simp only [if_true, Bool.true_and]
      exact h2
theorem areNames_ev (l : List ByteArray) (hl : l.length < 1000000) (hn : ∀ x ∈ l, (x.size : Int) ≤ 140737488351232) : Ev (fun k => impl_areNames.f k l) (l.all nameB) := by
  have := areNames_go l hl hn l.length 0 (by omega)
  unfold impl_areNames.f
  simpa using this
theorem isPeople_ev (l : List ByteArray) (hl : l.length < 1000000) (hn : ∀ x ∈ l, (x.size : Int) ≤ 140737488351232) : Ev (fun k => impl_isPeople.f k l) (l.all peopleB) := by
  unfold impl_isPeople.f
  refine Ev.bind (areNames_ev l hl hn) ?_
  have e : l.all peopleB = (l.all nameB && !l.any impl_isPeople.bad) := by
    clear hl hn
    induction l with
    | nil => rfl
    | cons a l ih =>
      simp only [List.all_cons, List.any_cons, ih, peopleB]
      cases nameB a <;> cases impl_isPeople.bad a <;> cases l.all nameB <;> cases l.any impl_isPeople.bad <;> rfl
  rw [e]
  cases l.all nameB with
  | false => exact Ev.now _
  | true => simp only [if_true, Bool.true_and]; exact Ev.now _

end Go.Proofs.YtjhhehjjnfnigaaGreatDoor.U

/- Marks: what the laws write into rows to see whether memory is shared. -/
namespace Go.Proofs.YtjhhehjjnfnigaaGreatDoor.U
open Go Go.RowKit Go.Proofs.YtjhhehjjnfnigaaGreatDoor.Q Go.Proofs.YtjhhehjjnfnigaaGreatDoorW.PrintWords Go.Proofs.YtjhhehjjnfnigaaGreatDoorW.PrintLast Go.Proofs.YtjhhehjjnfnigaaGreatDoorW.PrintMore
set_option linter.unusedVariables false
set_option linter.unusedSimpArgs false

def markV (n : Nat) : ByteArray := if n = 0 then (⟨#[109, 48]⟩ : ByteArray) else (⟨#[109]⟩ : ByteArray) ++ digV n
theorem digV_big {v : Nat} (h : ¬ v < 10) : digV v = digV (v / 10) ++ (⟨#[UInt8.ofNat (48 + v % 10)]⟩ : ByteArray) := by
  apply ByteArray.ext
  unfold digV
  rw [dec_big h]
  simp
theorem mark_go (v : Nat) : ∀ (acc : ByteArray), 1 ≤ v → v ≤ 1000000000000000000 → acc.size + v ≤ 9000000000000000000 → Ev (fun k => laws_markText.l0 k (v : Int) acc) ((⟨#[109]⟩ : ByteArray) ++ (digV v ++ acc)) := by
  induction v using Nat.strongRecOn with
  | _ v ih =>
    intro acc h1 h2 h3
    have e1 : wrap64 (Int.tdiv (v : Int) 10) = ((v / 10 : Nat) : Int) := by rw [tdiv_nn (by omega), wid (by omega) (by omega)]; omega
    have e2 : Int.tmod (v : Int) 10 = ((v % 10 : Nat) : Int) := by rw [tmod_nn (by omega)]; omega
    have sz : (⟨#[UInt8.ofNat (48 + v % 10)]⟩ : ByteArray).size = 1 := rfl
    refine Ev.step (f := fun k => laws_markText.l0 k ((v / 10 : Nat) : Int) ((⟨#[UInt8.ofNat (48 + v % 10)]⟩ : ByteArray) ++ acc)) (fun k => ?_) ?_
    · rw [laws_markText.l0, if_pos (by omega), e1, e2]
      simp only [Option.bind_some, one_digit (v % 10) (by omega)]
      rw [if_pos (by rw [sz]; omega)]
    · have hacc : ((⟨#[UInt8.ofNat (48 + v % 10)]⟩ : ByteArray) ++ acc).size = 1 + acc.size := by rw [ByteArray.size_append, sz]
      by_cases hv : v < 10
      · have e : v / 10 = 0 := by omega
        rw [e]
        refine Ev.step (fun k => ?_) (Ev.now _)
        rw [show ((0 : Nat) : Int) = 0 from rfl, laws_markText.l0, if_neg (by decide), if_pos (by rw [hacc]; omega)]
        have : digV v = (⟨#[UInt8.ofNat (48 + v % 10)]⟩ : ByteArray) := by
          apply ByteArray.ext
          unfold digV
          rw [Lib.decDigits_one hv, Nat.mod_eq_of_lt hv]
        rw [this]
      · have := ih (v / 10) (by omega) ((⟨#[UInt8.ofNat (48 + v % 10)]⟩ : ByteArray) ++ acc) (by omega) (by omega) (by rw [hacc]; omega)
        rw [digV_big hv]
        simp only [ByteArray.append_assoc] at this ⊢
        exact this
theorem markText_ev (n : Nat) (h : n ≤ 1000000000000000000) : Ev (fun k => laws_markText.f k (n : Int)) (markV n) := by
  unfold laws_markText.f markV
  by_cases h0 : n = 0
  · subst h0
    simp only [if_pos (show ((0 : Nat) : Int) ≤ 0 by decide), if_true]
    exact Ev.now _
  · simp only [if_neg (show ¬ (n : Int) ≤ 0 by omega), if_neg h0]
    have e := mark_go n (⟨#[]⟩ : ByteArray) (by omega) h (by show 0 + n ≤ _; omega)
    have z : digV n ++ (⟨#[]⟩ : ByteArray) = digV n := by apply ByteArray.ext; simp
    rw [z] at e
    exact e
/-- The pairs as they are marked, from a number on. -/
def markP (n i : Nat) : IP := ⟨markV (n + 2 * i), markV (n + 2 * i + 1)⟩
def markPs (n : Nat) (l : List IP) : List IP := (List.range l.length).map fun i => markP n i
theorem markPairS_go (N : Nat) (l : List IP) (n : Nat) (hl : l.length = N) (hN : N ≤ 1048576) (hn : n ≤ 1000000) : ∀ (d i : Nat) (o : List IP), i + d = N → o.length = N → (∀ j, j < i → o[j]? = some (markP n j)) →
    Ev (fun k => laws_markPairS.l0 k o ((n + 2 * i : Nat) : Int) (i : Int)) (((n + 2 * N : Nat) : Int), markPs n l) := by
  intro d
  induction d with
  | zero =>
    intro i o hi ho hj
    have e : o = markPs n l := by
      apply List.ext_getElem?
      intro j
      by_cases h : j < i
      · rw [hj j h]; unfold markPs; rw [List.getElem?_map, List.getElem?_range (by omega)]; rfl
      · rw [List.getElem?_eq_none (by omega), List.getElem?_eq_none (by unfold markPs; simp; omega)]
    refine Ev.step (fun k => ?_) (Ev.now _)
    rw [laws_markPairS.l0, if_neg (by omega), e, show i = N by omega]
  | succ d ih =>
    intro i o hi ho hj
    have hlt : i < o.length := by omega
    refine Ev.step (f := fun k => (laws_markText.f k ((n + 2 * i : Nat) : Int)).bind fun t => (laws_markText.f k ((n + 2 * i + 1 : Nat) : Int)).bind fun u => laws_markPairS.l0 k (o.set i ⟨t, u⟩) ((n + 2 * (i + 1) : Nat) : Int) ((i + 1 : Nat) : Int)) (fun k => ?_) ?_
    · have w1 : wrap64 (((n + 2 * i : Nat) : Int) + 1) = ((n + 2 * i + 1 : Nat) : Int) := by rw [wid (by omega) (by omega)]; omega
      have w2 : wrap64 (((n + 2 * i + 1 : Nat) : Int) + 1) = ((n + 2 * (i + 1) : Nat) : Int) := by rw [wid (by omega) (by omega)]; omega
      have w3 : wrap64 ((i : Int) + 1) = ((i + 1 : Nat) : Int) := by rw [wid (by omega) (by omega)]; omega
      rw [laws_markPairS.l0, if_pos (by omega)]
      congr 1
      funext t
      rw [if_pos (by omega), w1, w2, w3]
      simp only [Option.bind_some]
      congr 1
      funext u
      rw [Int.toNat_natCast, List.set_set]
      have : (rd_T37 (o.set i (⟨t, (rd_T37 o (i : Int)).f1⟩ : IP)) (i : Int)).f0 = t := by
        rw [rdI _ i (by rw [List.length_set]; exact hlt), List.getElem_set_self]
      rw [this]
    · refine Ev.bind (markText_ev _ (by omega)) (Ev.bind (markText_ev _ (by omega)) ?_)
      refine ih (i + 1) _ (by omega) (by rw [List.length_set]; exact ho) (fun j hji => ?_)
      rw [List.getElem?_set]
      by_cases h : i = j
      · subst h
        rw [if_pos rfl, if_pos hlt]
        rfl
      · rw [if_neg h]
        exact hj j (by omega)
theorem markPairS_ev (l : List IP) (n : Nat) (hN : l.length ≤ 1048576) (hn : n ≤ 1000000) : Ev (fun k => laws_markPairS.f k l (n : Int)) (((n + 2 * l.length : Nat) : Int), markPs n l) := by
  unfold laws_markPairS.f
  exact markPairS_go l.length l n rfl hN hn l.length 0 l (by omega) rfl (fun j h => by omega)
end Go.Proofs.YtjhhehjjnfnigaaGreatDoor.U

/- What is put into a store, dropped from it, and moved in it: the program and the reference take the same steps. -/
namespace Go.Proofs.YtjhhehjjnfnigaaGreatDoor.U
open Go Go.RowKit Go.Proofs.YtjhhehjjnfnigaaGreatDoor.Q Go.Proofs.YtjhhehjjnfnigaaGreatDoorW.PrintWords Go.Proofs.YtjhhehjjnfnigaaGreatDoorW.PrintLast Go.Proofs.YtjhhehjjnfnigaaGreatDoorW.PrintMore
set_option linter.unusedVariables false
set_option linter.unusedSimpArgs false

/-- Stores as they come up: no more than 400 pairs, each with a key. -/
def Rt (l : List IP) : Prop := l.length ≤ 400 ∧ ∀ x ∈ l, 1 ≤ x.f0.size ∧ x.f0.size ≤ 1000 ∧ x.f1.size ≤ 1000
def putV (l : List IP) (key v : ByteArray) : List IP × Int :=
  if hitB l key = true then (l.set (atOf l key) ⟨(rd_T37 l (atOf l key : Int)).f0, v⟩, 0) else if l.length = 400 then (l, 7) else (l.insertIdx (atOf l key) ⟨key, v⟩, 0)
def dropV (l : List IP) (key : ByteArray) : List IP × Int := if hitB l key = true then (l.eraseIdx (atOf l key), 0) else (l, 5)
theorem hit_lt {l : List IP} {key : ByteArray} (h : hitB l key = true) : atOf l key < l.length := by
  unfold hitB at h
  rw [Bool.and_eq_true, decide_eq_true_iff] at h
  exact h.1
theorem implPut_ev (l : List IP) (key v : ByteArray) (hl : l.length ≤ 1000000) : Ev (fun k => impl_put.f k l key v) (putV l key v) := by
  unfold impl_put.f putV
  simp only [if_pos hl]
  refine Ev.bind (implAt_ev l key (by omega)) ?_
  have hle := atOf_le l key
  simp only [if_pos (show (0 : Int) ≤ (atOf l key : Int) by omega), if_pos (show (atOf l key : Int) ≤ (l.length : Int) by omega), Int.toNat_natCast]
  cases h : hitB l key with
  | true =>
    have := hit_lt h
    simp only [if_true, if_pos (show (atOf l key : Int) < (l.length : Int) by omega)]
    exact Ev.now _
  | false =>
    simp only [Bool.false_eq_true, if_false]
    by_cases h4 : l.length = 400
    · simp only [if_pos h4, if_pos (show (l.length : Int) = 400 by omega)]; exact Ev.now _
    · simp only [if_neg h4, if_neg (show ¬ (l.length : Int) = 400 by omega)]; exact Ev.now _
theorem hit_iff (l : List IP) (key : ByteArray) : (hitB l key = true) ↔ ((atOf l key : Int) < (l.length : Int) ∧ ((rd_T37 l (atOf l key : Int)).f0).toList = key.toList) := by
  unfold hitB
  rw [Bool.and_eq_true, decide_eq_true_iff, beq_iff_eq]
  constructor
  · rintro ⟨h1, h2⟩; exact ⟨by omega, h2⟩
  · rintro ⟨h1, h2⟩; exact ⟨by omega, h2⟩
theorem specPut_ev (l : List IP) (key v : ByteArray) (hl : l.length ≤ 1000000) : Ev (fun k => spec_l03Put.f k l key v) (putV l key v) := by
  unfold spec_l03Put.f putV
  refine Ev.bind (specAt_ev l key (by omega)) ?_
  have hle := atOf_le l key
  simp only [if_pos hl, if_pos (show (0 : Int) ≤ (atOf l key : Int) by omega), if_pos (show (atOf l key : Int) ≤ (l.length : Int) by omega), Int.toNat_natCast]
  by_cases h : hitB l key = true
  · simp only [if_pos h, if_pos ((hit_iff l key).1 h)]; exact Ev.now _
  · simp only [if_neg h, if_neg (fun e => h ((hit_iff l key).2 e))]
    by_cases h4 : l.length = 400
    · simp only [if_pos h4, if_pos (show (l.length : Int) = 400 by omega)]; exact Ev.now _
    · simp only [if_neg h4, if_neg (show ¬ (l.length : Int) = 400 by omega)]; exact Ev.now _
theorem implDrop_ev (l : List IP) (key : ByteArray) (hl : l.length ≤ 1000000) : Ev (fun k => impl_drop.f k l key) (dropV l key) := by
  unfold impl_drop.f dropV
  simp only [if_pos hl]
  refine Ev.bind (implAt_ev l key (by omega)) ?_
  cases h : hitB l key with
  | true =>
    have := hit_lt h
    simp only [if_true, if_pos (show (0 : Int) ≤ (atOf l key : Int) by omega), if_pos (show (atOf l key : Int) < (l.length : Int) by omega), Int.toNat_natCast]
    exact Ev.now _
  | false => simp only [Bool.false_eq_true, if_false]; exact Ev.now _
theorem specDrop_ev (l : List IP) (key : ByteArray) (hl : l.length ≤ 1000000) : Ev (fun k => spec_l03Drop.f k l key) (dropV l key) := by
  unfold spec_l03Drop.f dropV
  refine Ev.bind (specAt_ev l key (by omega)) ?_
  have hle := atOf_le l key
  simp only [if_pos hl, if_pos (show (0 : Int) ≤ (atOf l key : Int) by omega), Int.toNat_natCast]
  by_cases h1 : atOf l key < l.length
  · simp only [if_pos (show (atOf l key : Int) < (l.length : Int) by omega)]
    by_cases h2 : ((rd_T37 l (atOf l key : Int)).f0).toList = key.toList
    · simp only [if_pos h2, if_pos ((hit_iff l key).2 ⟨by omega, h2⟩)]; exact Ev.now _
    · simp only [if_neg h2, if_neg (fun e => h2 ((hit_iff l key).1 e).2)]; exact Ev.now _
  · have hn : ¬ hitB l key = true := fun e => h1 (hit_lt e)
    simp only [if_neg (show ¬ (atOf l key : Int) < (l.length : Int) by omega), if_neg hn, if_pos (show (atOf l key : Int) = (l.length : Int) by omega)]; exact Ev.now _
theorem rdI' (l : List IP) (i : Nat) (h : i < l.length) : rd_T37 l (i : Int) = l[i] := by simp [rd_T37, List.getD_eq_getElem?_getD, List.getElem?_eq_getElem h]
theorem putV_rt {l : List IP} {key v : ByteArray} (h : Rt l) (h1 : 1 ≤ key.size) (h2 : key.size ≤ 1000) (h3 : v.size ≤ 1000) : Rt (putV l key v).1 := by
  unfold putV
  by_cases hh : hitB l key = true
  · rw [if_pos hh]
    have hlt := hit_lt hh
    refine ⟨by rw [List.length_set]; exact h.1, fun x hx => ?_⟩
    rcases List.mem_or_eq_of_mem_set hx with hx | rfl
    · exact h.2 x hx
    · rw [rdI' l _ hlt]
      have := h.2 _ (List.getElem_mem hlt)
      exact ⟨this.1, this.2.1, h3⟩
  · rw [if_neg hh]
    by_cases h4 : l.length = 400
    · rw [if_pos h4]; exact h
    · rw [if_neg h4]
      refine ⟨by rw [List.length_insertIdx_of_le_length (atOf_le l key)]; have := h.1; omega, fun x hx => ?_⟩
      rcases (List.mem_insertIdx (atOf_le l key)).1 hx with rfl | hx
      · exact ⟨h1, h2, h3⟩
      · exact h.2 x hx
theorem dropV_rt {l : List IP} {key : ByteArray} (h : Rt l) : Rt (dropV l key).1 := by
  unfold dropV
  by_cases hh : hitB l key = true
  · rw [if_pos hh]
    refine ⟨Nat.le_trans (by simpa using List.length_eraseIdx_le l (atOf l key)) h.1, fun x hx => h.2 x (List.mem_of_mem_eraseIdx hx)⟩
  · rw [if_neg hh]; exact h
theorem dropV_nil {l : List IP} (h : Rt l) : dropV l (⟨#[]⟩ : ByteArray) = (l, 5) := by
  unfold dropV
  rw [if_neg]
  intro hh
  have hlt := hit_lt hh
  have := (hit_iff l _).1 hh
  rw [rdI' l _ hlt] at this
  have h1 := (h.2 _ (List.getElem_mem hlt)).1
  have h2 : l[atOf l (⟨#[]⟩ : ByteArray)].f0.size = 0 := (toList_nil_iff _).1 (this.2.trans ((toList_nil_iff _).2 rfl))
  omega
/-- The amount at a key. -/
def amtAt (l : List IP) (key : ByteArray) : Int := max0 (amtV (getV l key).1)
theorem amtAt_bd (l : List IP) (key : ByteArray) : 0 ≤ amtAt l key ∧ amtAt l key ≤ 1000000000000000000 := by
  unfold amtAt max0
  by_cases h : 0 ≤ amtV (getV l key).1
  · rw [if_pos h]; exact ⟨h, (amtV_eq h).2⟩
  · rw [if_neg h]; omega
theorem amountAt_ev (l : List IP) (key : ByteArray) (h : Rt l) : Ev (fun k => impl_amountAt.f k l key) (amtAt l key) := by
  unfold impl_amountAt.f amtAt
  refine Ev.bind (implGet_ev l key (by have := h.1; omega)) ?_
  obtain ⟨b, hb⟩ := readAmount_fst (getV l key).1 (Nat.le_trans (getV_size l key 1000 (fun x hx => (h.2 x hx).2.2)) (by decide))
  rw [hb]
  exact Ev.now _
theorem amtV_nil : amtV (⟨#[]⟩ : ByteArray) = -1 := by decide
theorem l05Read_ev (l : List IP) (key : ByteArray) (h : Rt l) : Ev (fun k => spec_l05Read.f k l key) (amtAt l key) := by
  unfold spec_l05Read.f
  refine Ev.bind (specGet_ev l key (by have := h.1; omega)) ?_
  have e : ∀ n : Int, mx 0 n = max0 n := fun n => by unfold mx max0; omega
  cases hf : (getV l key).2 with
  | true =>
    simp only [if_true]
    refine Ev.bind (l02Of_ev _ (Nat.le_trans (getV_size l key 1000 (fun x hx => (h.2 x hx).2.2)) (by decide))) ?_
    rw [e]
    exact Ev.now _
  | false =>
    have : amtAt l key = 0 := by
      unfold amtAt getV at *
      by_cases hh : hitB l key = true
      · rw [if_pos hh] at hf; cases hf
      · rw [if_neg hh, amtV_nil]; rfl
    simp only [Bool.false_eq_true, if_false, this]
    exact Ev.now _
/-- So much more at a key, or fewer. -/
def addV (l : List IP) (key : ByteArray) (n : Int) : List IP × Int :=
  if amtAt l key + n < 0 then (l, 12) else if 1000000000000000000 < amtAt l key + n then (l, 13) else if amtAt l key + n = 0 then ((dropV l key).1, 0) else putV l key (digV (amtAt l key + n).toNat)
theorem isAmount_eq (n : Int) : impl_isAmount.f n = some (decide (0 ≤ n ∧ n ≤ 1000000000000000000)) := by unfold impl_isAmount.f; rw [within_eq]; rfl
theorem putAmount_ev (l : List IP) (key : ByteArray) (n : Int) (hl : l.length ≤ 1000000) (h0 : 0 ≤ n) (h1 : n ≤ 1000000000000000000) : Ev (fun k => impl_putAmount.f k l key n) (if n = 0 then ((dropV l key).1, 0) else putV l key (digV n.toNat)) := by
  unfold impl_putAmount.f
  by_cases hn : n = 0
  · simp only [if_pos hn, if_neg (show ¬ n > 0 by omega)]
    exact Ev.bind (implDrop_ev l key hl) (Ev.now _)
  · simp only [if_neg hn, if_pos (show n > 0 by omega), amountText_eq n h0 (by omega), Option.bind_some]
    exact Ev.bind (implPut_ev l key _ hl) (Ev.now _)
theorem more_ev (l : List IP) (key : ByteArray) (n : Int) (h : Rt l) (h0 : 0 ≤ n) (h1 : n ≤ 1000000000000000000) : Ev (fun k => impl_more.f k l key n) (addV l key n) := by
  unfold impl_more.f addV
  refine Ev.bind (amountAt_ev l key h) ?_
  have hb := amtAt_bd l key
  generalize amtAt l key = a at *
  rw [if_neg (by omega)]
  have hs : Ev (fun k => impl_AddAmount.f k a n) (if 1000000000000000000 < a + n then ((0, 13) : Int × Int) else (a + n, 0)) := by
    unfold impl_AddAmount.f
    simp only [isAmount_eq, Option.bind_some, decide_eq_true hb, decide_eq_true (show 0 ≤ n ∧ n ≤ 1000000000000000000 from ⟨h0, h1⟩), if_true, Bool.not_true]
    refine Ev.step (f := fun _ => some (if 1000000000000000000 < a + n then ((0, 13) : Int × Int) else (a + n, 0))) (fun k => ?_) (Ev.now _)
    rw [impl_AddAmount.j0, if_neg (by decide), wid (n := a + n) (by omega) (by omega)]
    by_cases h2 : 1000000000000000000 < a + n
    · rw [if_pos (by omega), if_pos h2]
    · rw [if_neg (by omega), if_neg h2]
  refine Ev.bind hs ?_
  by_cases h2 : 1000000000000000000 < a + n
  · simp only [if_pos h2, if_neg (show ¬ (13 : Int) = 0 by decide)]; exact Ev.now _
  · simp only [if_neg h2, if_true]
    exact putAmount_ev l key (a + n) (by have := h.1; omega) (by omega) (by omega)
theorem fewer_ev (l : List IP) (key : ByteArray) (n : Int) (h : Rt l) (h0 : 0 ≤ n) (h1 : n ≤ 1000000000000000000) : Ev (fun k => impl_fewer.f k l key n) (addV l key (-n)) := by
  unfold impl_fewer.f addV
  refine Ev.bind (amountAt_ev l key h) ?_
  have hb := amtAt_bd l key
  generalize amtAt l key = a at *
  have hs : Ev (fun k => impl_SubAmount.f k a n) (if a < n then ((0, 12) : Int × Int) else (a - n, 0)) := by
    unfold impl_SubAmount.f
    simp only [isAmount_eq, Option.bind_some, decide_eq_true hb, decide_eq_true (show 0 ≤ n ∧ n ≤ 1000000000000000000 from ⟨h0, h1⟩), if_true, Bool.not_true]
    refine Ev.step (f := fun _ => some (if a < n then ((0, 12) : Int × Int) else (a - n, 0))) (fun k => ?_) (Ev.now _)
    rw [impl_SubAmount.j0, if_neg (by decide), wid (n := a - n) (by omega) (by omega)]
    by_cases h2 : a < n
    · rw [if_pos h2, if_pos h2]
    · rw [if_neg h2, if_neg h2]
  refine Ev.bind hs ?_
  rw [show a + -n = a - n by omega]
  by_cases h2 : a < n
  · simp only [if_pos h2, if_pos (show a - n < 0 by omega)]
    simp only [if_neg (show ¬ (12 : Int) = 0 by decide)]; exact Ev.now _
  · simp only [if_neg h2, if_true, if_neg (show ¬ a - n < 0 by omega), if_neg (show ¬ 1000000000000000000 < a - n by omega)]
    exact putAmount_ev l key (a - n) (by have := h.1; omega) (by omega) (by omega)
theorem l05Write_ev (l : List IP) (key : ByteArray) (n : Int) (hl : l.length ≤ 1000000) (h0 : 0 ≤ n) (h1 : n ≤ 1000000000000000000) : Ev (fun k => spec_l05Write.f k l key n) (if n = 0 then ((dropV l key).1, 0) else putV l key (digV n.toNat)) := by
  unfold spec_l05Write.f
  by_cases hn : n = 0
  · simp only [if_pos hn]
    exact Ev.bind (specDrop_ev l key hl) (Ev.now _)
  · simp only [if_neg hn]
    have e := digits_ev n.toNat (by omega)
    rw [show ((n.toNat : Nat) : Int) = n by omega] at e
    exact Ev.bind e (Ev.bind (specPut_ev l key _ hl) (Ev.now _))
theorem l05Add_ev (l : List IP) (key : ByteArray) (n : Int) (h : Rt l) (h0 : -1000000000000000000 ≤ n) (h1 : n ≤ 1000000000000000000) : Ev (fun k => spec_l05Add.f k l key n) (addV l key n) := by
  unfold spec_l05Add.f addV
  refine Ev.bind (l05Read_ev l key h) ?_
  have hb := amtAt_bd l key
  generalize amtAt l key = a at *
  rw [wid (n := a + n) (by omega) (by omega)]
  by_cases h2 : a + n < 0
  · simp only [if_pos h2]; exact Ev.now _
  · by_cases h3 : 1000000000000000000 < a + n
    · simp only [if_neg h2, if_pos h3]; exact Ev.now _
    · simp only [if_neg h2, if_neg h3]
      exact Ev.bind (l05Write_ev l key (a + n) (by have := h.1; omega) (by omega) (by omega)) (Ev.now _)
theorem digV_small (v : Nat) (h : v ≤ 1000000000000000000) : (digV v).size ≤ 1000 := Nat.le_trans (digV_size v h) (by decide)
theorem addV_rt {l : List IP} {key : ByteArray} {n : Int} (h : Rt l) (h1 : 1 ≤ key.size) (h2 : key.size ≤ 1000) : Rt (addV l key n).1 := by
  unfold addV
  split
  · exact h
  · split
    · exact h
    · split
      · exact dropV_rt h
      · exact putV_rt h h1 h2 (digV_small _ (by omega))
/-- Two changes, whole or not at all. -/
def thenV (l : List IP) (a : List IP × Int) (f : List IP → List IP × Int) : List IP × Int := if a.2 = 0 then (if (f a.1).2 = 0 then ((f a.1).1, 0) else (l, (f a.1).2)) else (l, a.2)
def bKey (d a : ByteArray) : ByteArray := (((⟨#[98, 47]⟩ : ByteArray) ++ d) ++ (⟨#[47]⟩ : ByteArray)) ++ a
def sKey (d : ByteArray) : ByteArray := (⟨#[115, 47]⟩ : ByteArray) ++ d
theorem bKey_size (d a : ByteArray) : (bKey d a).size = 3 + d.size + a.size := by
  unfold bKey
  simp only [ByteArray.size_append]
  have e1 : (⟨#[98, 47]⟩ : ByteArray).size = 2 := rfl
  have e2 : (⟨#[47]⟩ : ByteArray).size = 1 := rfl
  omega
theorem sKey_size (d : ByteArray) : (sKey d).size = 2 + d.size := by
  unfold sKey
  simp only [ByteArray.size_append]
  have e1 : (⟨#[115, 47]⟩ : ByteArray).size = 2 := rfl
  omega
def moveV (l : List IP) (f t d : ByteArray) (n : Int) : List IP × Int := thenV l (addV l (bKey d f) (-n)) (fun m => addV m (bKey d t) n)
def mintV (l : List IP) (a d : ByteArray) (n : Int) : List IP × Int := thenV l (addV l (sKey d) n) (fun m => addV m (bKey d a) n)
def burnV (l : List IP) (a d : ByteArray) (n : Int) : List IP × Int := thenV l (addV l (bKey d a) (-n)) (fun m => addV m (sKey d) (-n))
theorem thenV_rt {l : List IP} {a : List IP × Int} {f : List IP → List IP × Int} (h : Rt l) (h1 : Rt (f a.1).1) : Rt (thenV l a f).1 := by
  unfold thenV
  split
  · split
    · exact h1
    · exact h
  · exact h
theorem all_nil (k : Nat) (l o : List IP) : impl_all.go k l [] o = some (o, 0) := rfl
/-- The program's list of changes, one behind the other. -/
def seqV (l : List IP) : List (List IP → List IP × Int) → List IP → List IP × Int
  | [], o => (o, 0)
  | f :: fs, o => if (f o).2 = 0 then seqV l fs (f o).1 else (l, (f o).2)
theorem go_ev (l : List IP) (hr : Rt l) : ∀ (Fs : List (Nat → List IP → Option (List IP × Int))) (fs : List (List IP → List IP × Int)) (o : List IP), Rt o → Fs.length = fs.length →
    (∀ (i : Nat) F f, Fs[i]? = some F → fs[i]? = some f → ∀ m, Rt m → Ev (fun k => F k m) (f m) ∧ Rt (f m).1) → Ev (fun k => impl_all.go k l (Fs.map fun F => F k) o) (seqV l fs o)
  | [], [], o, _, _, _ => Ev.now _
  | [], _ :: _, _, _, h, _ => by simp at h
  | _ :: _, [], _, _, h, _ => by simp at h
  | F :: Fs, f :: fs, o, ho, hlen, hF => by
    obtain ⟨h1, h2⟩ := hF 0 F f rfl rfl o ho
    unfold seqV
    refine Ev.bind h1 ?_
    by_cases hc : (f o).2 = 0
    · simp only [if_pos hc]
      exact go_ev l hr Fs fs (f o).1 h2 (by simpa using hlen) (fun i G g hG hg => hF (i + 1) G g (by simpa using hG) (by simpa using hg))
    · simp only [if_neg hc]
      refine Ev.bind (implDrop_ev l _ (by have := hr.1; omega)) ?_
      rw [dropV_nil hr]
      exact Ev.now _
theorem all_ev (l : List IP) (hr : Rt l) (Fs : List (Nat → List IP → Option (List IP × Int))) (fs : List (List IP → List IP × Int)) (hlen : Fs.length = fs.length)
    (hF : ∀ (i : Nat) F f, Fs[i]? = some F → fs[i]? = some f → ∀ m, Rt m → Ev (fun k => F k m) (f m) ∧ Rt (f m).1) : Ev (fun k => impl_all.f k l (Fs.map fun F => F k)) (seqV l fs l) := by
  unfold impl_all.f
  refine Ev.bind (implDrop_ev l _ (by have := hr.1; omega)) ?_
  rw [dropV_nil hr]
  exact go_ev l hr Fs fs l hr hlen hF
theorem seq_two (l : List IP) (f g : List IP → List IP × Int) : seqV l [f, g] l = thenV l (f l) g := by
  unfold seqV seqV seqV thenV
  split
  · split
    · rfl
    · rfl
  · rfl
theorem two_cases {α β : Type} {a b : α} {c d : β} {P : α → β → Prop} (h1 : P a c) (h2 : P b d) : ∀ (i : Nat) F f, [a, b][i]? = some F → [c, d][i]? = some f → P F f
  | 0, F, f, hF, hf => by
    simp only [List.getElem?_cons_zero, Option.some.injEq] at hF hf
    subst hF hf
    exact h1
  | 1, F, f, hF, hf => by
    simp only [List.getElem?_cons_succ, List.getElem?_cons_zero, Option.some.injEq] at hF hf
    subst hF hf
    exact h2
  | i + 2, F, f, hF, hf => by simp at hF
theorem implKey05_eq (d a : ByteArray) (h : d.size + a.size ≤ 1000) : impl_balanceKey.f d a = some (bKey d a) := by unfold impl_balanceKey.f bKey; rw [if_pos (by omega)]
theorem specKey05_eq (a d : ByteArray) (h : a.size + d.size ≤ 1000) : spec_l05Key.f a d = some (bKey d a) := by unfold spec_l05Key.f bKey; rw [if_pos (by omega)]
theorem move_ev (l : List IP) (f t d : ByteArray) (n : Int) (h : Rt l) (hf : f.size ≤ 100) (ht : t.size ≤ 100) (hd : d.size ≤ 100) (h0 : 0 ≤ n) (h1 : n ≤ 1000000000000000000) : Ev (fun k => impl_move.F k f t d n l) (moveV l f t d n) := by
  unfold impl_move.F moveV
  rw [← seq_two l (fun m => addV m (bKey d f) (-n)) (fun m => addV m (bKey d t) n)]
  refine all_ev l h [fun k m => (impl_balanceKey.f d f).bind fun key => impl_fewer.f k m key n, fun k m => (impl_balanceKey.f d t).bind fun key => impl_more.f k m key n] _ rfl (two_cases (fun m hm => ⟨?_, ?_⟩) (fun m hm => ⟨?_, ?_⟩))
  · rw [implKey05_eq d f (by omega)]; exact fewer_ev m _ n hm h0 h1
  · exact addV_rt hm (by rw [bKey_size]; omega) (by rw [bKey_size]; omega)
  · rw [implKey05_eq d t (by omega)]; exact more_ev m _ n hm h0 h1
  · exact addV_rt hm (by rw [bKey_size]; omega) (by rw [bKey_size]; omega)
theorem moveV_rt {l : List IP} {f t d : ByteArray} {n : Int} (h : Rt l) (hf : f.size ≤ 100) (ht : t.size ≤ 100) (hd : d.size ≤ 100) : Rt (moveV l f t d n).1 :=
  thenV_rt h (addV_rt (addV_rt h (by rw [bKey_size]; omega) (by rw [bKey_size]; omega)) (by rw [bKey_size]; omega) (by rw [bKey_size]; omega))
theorem l05Move_ev (l : List IP) (f t d : ByteArray) (n : Int) (h : Rt l) (hf : f.size ≤ 100) (ht : t.size ≤ 100) (hd : d.size ≤ 100) (h0 : 0 ≤ n) (h1 : n ≤ 1000000000000000000) : Ev (fun k => spec_l05Move.f k l f t d n) (moveV l f t d n) := by
  unfold spec_l05Move.f moveV thenV
  rw [specKey05_eq f d (by omega), wid (n := -n) (by omega) (by omega)]
  simp only [Option.bind_some]
  refine Ev.bind (l05Add_ev l _ (-n) h (by omega) (by omega)) ?_
  by_cases hc : (addV l (bKey d f) (-n)).2 = 0
  · simp only [if_pos hc, specKey05_eq t d (by omega), Option.bind_some]
    refine Ev.bind (l05Add_ev _ _ n (addV_rt h (by rw [bKey_size]; omega) (by rw [bKey_size]; omega)) (by omega) (by omega)) ?_
    split
    · exact Ev.now _
    · exact Ev.now _
  · simp only [if_neg hc]; exact Ev.now _
theorem rt_store {l : List IP} (h : storeB l = true) (hk : ∀ x ∈ l, (1 ≤ x.f0.size ∧ x.f0.size ≤ 60) ∧ x.f1.size ≤ 1000) : Rt l := by
  unfold storeB at h
  rw [Bool.and_eq_true, decide_eq_true_iff] at h
  exact ⟨h.2, fun x hx => ⟨(hk x hx).1.1, by have := (hk x hx).1.2; omega, (hk x hx).2⟩⟩
end Go.Proofs.YtjhhehjjnfnigaaGreatDoor.U

/- Keys that rise: where a search ends, and which pairs begin so. -/

namespace Go.Proofs.YtjhhehjjnfnigaaGreatDoor.U
open Go Go.RowKit Go.Proofs.YtjhhehjjnfnigaaGreatDoor.Q Go.Proofs.YtjhhehjjnfnigaaGreatDoorW.PrintWords Go.Proofs.YtjhhehjjnfnigaaGreatDoorW.PrintLast Go.Proofs.YtjhhehjjnfnigaaGreatDoorW.PrintMore
set_option linter.unusedVariables false
set_option linter.unusedSimpArgs false

theorem less_cons (a b : UInt8) (x y : List UInt8) : Op.bytesLess (a :: x) (b :: y) = true ↔ a < b ∨ (a = b ∧ Op.bytesLess x y = true) := by
  rw [Op.bytesLess, Bool.or_eq_true, Bool.and_eq_true, decide_eq_true_iff, beq_iff_eq]
theorem less_trans : ∀ a b c : List UInt8, Op.bytesLess a b = true → Op.bytesLess b c = true → Op.bytesLess a c = true
  | _, [], _, h, _ => by rw [Op.bytesLess] at h; cases h
  | _, _ :: _, [], _, h => by rw [Op.bytesLess] at h; cases h
  | [], _ :: _, _ :: _, _, _ => by rw [Op.bytesLess]
  | a :: x, b :: y, c :: z, h1, h2 => by
    rw [less_cons] at *
    rcases h1 with h1 | ⟨rfl, h1⟩
    · rcases h2 with h2 | ⟨rfl, h2⟩
      · exact .inl (UInt8.lt_trans h1 h2)
      · exact .inl h1
    · rcases h2 with h2 | ⟨rfl, h2⟩
      · exact .inl h2
      · exact .inr ⟨rfl, less_trans x y z h1 h2⟩
/-- It begins so. -/
def preL (p x : List UInt8) : Bool := x.take p.length == p
theorem preL_cons (c d : UInt8) (p x : List UInt8) : preL (c :: p) (d :: x) = true ↔ d = c ∧ preL p x = true := by
  unfold preL
  simp
theorem preL_ge : ∀ p x : List UInt8, preL p x = true → Op.bytesLess x p = false
  | [], x, _ => by cases x <;> rw [Op.bytesLess]
  | c :: p, [], h => by simp [preL] at h
  | c :: p, d :: x, h => by
    rw [preL_cons] at h
    obtain ⟨rfl, h⟩ := h
    have := preL_ge p x h
    rw [Bool.eq_false_iff] at *
    intro h2
    rw [less_cons] at h2
    rcases h2 with h2 | ⟨_, h2⟩
    · exact UInt8.lt_irrefl _ h2
    · exact this h2
theorem preL_past : ∀ p x y : List UInt8, Op.bytesLess x p = false → preL p x = false → Op.bytesLess x y = true → preL p y = false
  | [], x, y, _, h, _ => by simp [preL] at h
  | c :: p, [], y, h, _, _ => by rw [Op.bytesLess] at h; cases h
  | c :: p, d :: x, [], _, _, _ => by simp [preL]
  | c :: p, d :: x, e :: y, h1, h2, h3 => by
    rw [Bool.eq_false_iff] at *
    intro h4
    rw [less_cons] at h3
    rw [ne_eq, less_cons] at h1
    rw [preL_cons] at h4
    obtain ⟨rfl, h4⟩ := h4
    rcases h3 with h3 | ⟨rfl, h3⟩
    · exact h1 (.inl h3)
    · have g1 : Op.bytesLess x p = false := by rw [Bool.eq_false_iff]; exact fun h => h1 (.inr ⟨rfl, h⟩)
      have g2 : preL p x = false := by rw [Bool.eq_false_iff]; exact fun h => h2 ((preL_cons _ _ _ _).2 ⟨rfl, h⟩)
      have := preL_past p x y g1 g2 h3
      rw [this] at h4; cases h4
/-- Keys rise. -/
def Rises (l : List IP) : Prop := ∀ i (h : i + 1 < l.length), Op.bytesLess (l[i]'(by omega)).f0.toList l[i + 1].f0.toList = true
theorem Rises.lt {l : List IP} (h : Rises l) : ∀ (d i : Nat) (hd : i + 1 + d < l.length), Op.bytesLess (l[i]'(by omega)).f0.toList (l[i + 1 + d]).f0.toList = true
  | 0, i, hd => h i hd
  | d + 1, i, hd => less_trans _ _ _ (Rises.lt h d i (by omega)) (h (i + 1 + d) (by omega))
theorem Rises.lt' {l : List IP} (h : Rises l) {i j : Nat} (hij : i < j) (hj : j < l.length) : Op.bytesLess (l[i]'(by omega)).f0.toList l[j].f0.toList = true := by
  have := h.lt (j - i - 1) i (by omega)
  have e : i + 1 + (j - i - 1) = j := by omega
  simp only [e] at this
  exact this
theorem fromB_pair (l : List IP) : ∀ (d i j : Nat), fromB l d i = true → i ≤ j → j < i + d → pairB l j = true
  | 0, i, j, _, h1, h2 => by omega
  | d + 1, i, j, h, h1, h2 => by
    rw [fromB, Bool.and_eq_true] at h
    by_cases e : i = j
    · subst e; exact h.1
    · exact fromB_pair l d (i + 1) j h.2 (by omega) (by omega)
theorem storeB_pair {l : List IP} (h : storeB l = true) (i : Nat) (hi : i < l.length) : pairB l i = true := by
  unfold storeB at h
  rw [Bool.and_eq_true] at h
  exact fromB_pair l l.length 0 i h.1 (by omega) (by omega)
theorem storeB_len {l : List IP} (h : storeB l = true) : l.length ≤ 400 := by
  unfold storeB at h
  rw [Bool.and_eq_true, decide_eq_true_iff] at h
  exact h.2
theorem storeB_rises {l : List IP} (h : storeB l = true) : Rises l := by
  intro i hi
  have hp := storeB_pair h (i + 1) hi
  unfold pairB lessB at hp
  rw [Bool.and_eq_true, Bool.and_eq_true, Bool.or_eq_true, decide_eq_true_iff] at hp
  rcases hp.2.2 with h0 | h0
  · omega
  · rw [rdI l (i + 1) hi, show (((i + 1 : Nat) : Int) - 1) = (i : Int) by omega, rdI l i (by omega)] at h0
    exact h0
theorem storeB_key {l : List IP} (h : storeB l = true) : ∀ x ∈ l, (1 ≤ x.f0.size ∧ x.f0.size ≤ 60) ∧ x.f1.size ≤ 1000 := by
  intro x hx
  obtain ⟨i, hi, rfl⟩ := List.getElem_of_mem hx
  have hp := storeB_pair h i hi
  unfold pairB keyB valueB at hp
  rw [Bool.and_eq_true, Bool.and_eq_true, decide_eq_true_iff, decide_eq_true_iff, rdI l i hi] at hp
  exact ⟨hp.1, hp.2.1⟩
theorem atV_spec {l : List IP} (h : Rises l) (key : ByteArray) : ∀ (f i j : Nat), j - i < f → i ≤ j → (hj : j ≤ l.length) →
    (∀ n (hn : n < l.length), n < i → Op.bytesLess l[n].f0.toList key.toList = true) → (∀ n (hn : n < l.length), j ≤ n → Op.bytesLess l[n].f0.toList key.toList = false) →
    (∀ n (hn : n < l.length), n < atV l key f i j → Op.bytesLess l[n].f0.toList key.toList = true) ∧ (∀ n (hn : n < l.length), atV l key f i j ≤ n → Op.bytesLess l[n].f0.toList key.toList = false)
  | 0, i, j, hf, _, _, _, _ => by omega
  | f + 1, i, j, hf, hij, hj, h1, h2 => by
    rw [atV]
    by_cases hlt : i < j
    · rw [if_pos hlt, rdI l ((i + j) / 2) (by omega)]
      split
      · rename_i hm
        refine atV_spec h key f _ _ (by omega) (by omega) hj (fun n hn hni => ?_) h2
        by_cases e : n = (i + j) / 2
        · subst e; exact hm
        · exact less_trans _ _ _ (h.lt' (show n < (i + j) / 2 by omega) (by omega)) hm
      · rename_i hm
        refine atV_spec h key f _ _ (by omega) (by omega) (by omega) h1 (fun n hn hni => ?_)
        by_cases e : n = (i + j) / 2
        · subst e; rw [Bool.eq_false_iff]; exact hm
        · rw [Bool.eq_false_iff]
          intro hc
          exact hm (less_trans _ _ _ (h.lt' (show (i + j) / 2 < n by omega) hn) hc)
    · rw [if_neg hlt]
      exact ⟨h1, fun n hn hni => h2 n hn (by omega)⟩
theorem atOf_spec {l : List IP} (h : Rises l) (key : ByteArray) :
    (∀ n (hn : n < l.length), n < atOf l key → Op.bytesLess l[n].f0.toList key.toList = true) ∧ (∀ n (hn : n < l.length), atOf l key ≤ n → Op.bytesLess l[n].f0.toList key.toList = false) :=
  atV_spec h key (l.length + 1) 0 l.length (by omega) (by omega) (Nat.le_refl _) (fun n _ h => by omega) (fun n hn h => by omega)
end Go.Proofs.YtjhhehjjnfnigaaGreatDoor.U

/- Rows of pairs that are marked and read again. -/
namespace Go.Proofs.YtjhhehjjnfnigaaGreatDoor.U
open Go Go.RowKit Go.Proofs.YtjhhehjjnfnigaaGreatDoor.Q Go.Proofs.YtjhhehjjnfnigaaGreatDoorW.PrintWords Go.Proofs.YtjhhehjjnfnigaaGreatDoorW.PrintLast Go.Proofs.YtjhhehjjnfnigaaGreatDoorW.PrintMore
set_option linter.unusedVariables false
set_option linter.unusedSimpArgs false

theorem wsP (m m' : Nat) (h : m ≤ 9000000000000000000) (e : m' = m + 1) : wrap64 ((m : Int) + 1) = (m' : Int) := by subst e; rw [wid (by omega) (by omega)]; omega
theorem heldPairS_go (l : List IP) (n : Nat) (hN : l.length ≤ 1048576) (hn : n ≤ 1000000) : ∀ (d i : Nat), i + d = l.length →
    Ev (fun k => laws_heldPairS.l0 k (markPs n l) ((n + 2 * i : Nat) : Int) (i : Int)) ((n + 2 * l.length : Nat) : Int) := by
  intro d
  have hlen : (markPs n l).length = l.length := by unfold markPs; simp
  induction d with
  | zero =>
    intro i hi
    refine Ev.step (fun k => ?_) (Ev.now _)
    rw [laws_heldPairS.l0, if_neg (by omega), show i = l.length by omega]
  | succ d ih =>
    intro i hi
    have hlt : i < (markPs n l).length := by omega
    have er : rd_T37 (markPs n l) (i : Int) = markP n i := by
      rw [rdI' _ i hlt]
      simp [markPs]
    refine Ev.step (fun k => by rw [laws_heldPairS.l0, if_pos (by omega), if_pos (by omega), er, wsP (n + 2 * i) (n + 2 * i + 1) (by omega) rfl, wsP (n + 2 * i + 1) (n + 2 * (i + 1)) (by omega) (by omega), wsP i (i + 1) (by omega) rfl]) (Ev.bind (markText_ev _ (by omega)) ?_)
    simp only [markP, if_true]
    refine Ev.bind (markText_ev _ (by omega)) ?_
    simp only [if_true]
    exact ih (i + 1) (by omega)
theorem heldPairS_ev (l : List IP) (n : Nat) (hN : l.length ≤ 1048576) (hn : n ≤ 1000000) : Ev (fun k => laws_heldPairS.f k (markPs n l) (n : Int)) ((n + 2 * l.length : Nat) : Int) := by
  unfold laws_heldPairS.f
  have := heldPairS_go l n hN hn l.length 0 (by omega)
  simpa using this
def chainB (a : ByteArray) : Bool := a.toList == ([120] : List UInt8) || a.toList == ([121] : List UInt8)
theorem chain_size {a : ByteArray} (h : chainB a = true) : a.size = 1 := by
  unfold chainB at h
  rw [Bool.or_eq_true, beq_iff_eq, beq_iff_eq] at h
  have e : a.toList.length = a.size := by rw [Lib.toList_data]; exact size_data a
  rcases h with h | h <;> (rw [h] at e; exact e.symm)
theorem isChain_eq (a : ByteArray) : impl_isChain.f a = some (chainB a) := by
  unfold impl_isChain.f chainB
  by_cases h1 : a.toList = ([120] : List UInt8)
  · rw [if_pos h1]; simp [h1]
  · rw [if_neg h1, beq_eq_false_iff_ne.2 h1, Bool.false_or]
theorem isText_eq (l : List ByteArray) : impl_isText.f l = some (decide (∀ t ∈ l, t.size ≤ 65536)) := by
  unfold impl_isText.f
  simp only [Option.bind_some, Option.some.injEq]
  rw [Bool.eq_iff_iff]
  simp only [Bool.not_eq_true', List.any_eq_false, decide_eq_true_eq]
  constructor
  · intro h t ht; have := h t ht; omega
  · intro h t ht; have := h t ht; omega
theorem rt_of {l : List IP} (h : storeB l = true) : Rt l := rt_store h (fun x hx => ⟨(storeB_key h x hx).1, (storeB_key h x hx).2⟩)
theorem name_small {a : ByteArray} (h : nameB a = true) : a.size ≤ 12 := by unfold nameB at h; rw [decide_eq_true_iff] at h; exact h.2
theorem people_small {a : ByteArray} (h : peopleB a = true) : a.size ≤ 12 := by unfold peopleB at h; rw [Bool.and_eq_true] at h; exact name_small h.1
end Go.Proofs.YtjhhehjjnfnigaaGreatDoor.U

/- Fields: the reference's bytes are the program's text. -/
namespace Go.Proofs.YtjhhehjjnfnigaaGreatDoor.U
open Go Go.RowKit Go.Proofs.YtjhhehjjnfnigaaGreatDoor.Q Go.Proofs.YtjhhehjjnfnigaaGreatDoorW.PrintWords Go.Proofs.YtjhhehjjnfnigaaGreatDoorW.PrintLast Go.Proofs.YtjhhehjjnfnigaaGreatDoorW.PrintMore
set_option linter.unusedVariables false
set_option linter.unusedSimpArgs false

theorem nums_append_str (a b : List Int) : strOfNums (a ++ b) = strOfNums a ++ strOfNums b := by
  apply ByteArray.ext
  simp [strOfNums]
theorem nums_bytesOf (s : ByteArray) : strOfNums (bytesOf s) = s := by
  apply ByteArray.ext
  apply Array.toList_inj.mp
  simp only [strOfNums, bytesOf, List.map_map]
  have : (fun x : UInt8 => (UInt8.ofNat ((x.toNat : Int)).toNat)) = id := by funext x; simp
  first
  | (simp [Function.comp_def, this]; done)
  | (conv => rhs; rw [← List.map_id s.data.toList]
     apply List.map_congr_left
     intro x _
     simp)
/-- One text behind its length, and all of them, as numbers. -/
def fieldN (t : ByteArray) : List Int := [(t.size : Int) / 256 % 256, (t.size : Int) % 256] ++ bytesOf t
def restN : List ByteArray → List Int
  | [] => []
  | t :: ts => fieldN t ++ restN ts
def fieldsN (l : List ByteArray) : List Int := [(l.length : Int) % 256] ++ restN l
theorem fieldN_str (t : ByteArray) : strOfNums (fieldN t) = fieldV t := by unfold fieldN fieldV; rw [nums_append_str, nums_bytesOf]
theorem restN_str : ∀ l : List ByteArray, strOfNums (restN l) = restV l
  | [] => rfl
  | t :: ts => by rw [restN, restV, nums_append_str, fieldN_str, restN_str ts]
theorem fieldsN_str (l : List ByteArray) : strOfNums (fieldsN l) = fieldsV l := by unfold fieldsN fieldsV; rw [nums_append_str, restN_str]
theorem l02Fields_go (l : List ByteArray) (hl : l.length ≤ 1000) (hx : ∀ x ∈ l, x.size ≤ 1048576) : ∀ (d i : Nat) (o : List Int), i + d = l.length → o.length ≤ i * 1048580 + 1048580 →
    Ev (fun k => spec_l02Fields.l0 k l o (i : Int)) (o ++ restN (l.drop i)) := by
  intro d
  induction d with
  | zero =>
    intro i o hi ho
    refine Ev.step (fun k => ?_) (Ev.now _)
    rw [spec_l02Fields.l0, if_neg (by omega), List.drop_of_length_le (by omega), restN, List.append_nil]
  | succ d ih =>
    intro i o hi ho
    have hlt : i < l.length := by omega
    have hr : rdOf ByteArray.empty l (i : Int) = l[i] := by simp [rdOf, List.getD_eq_getElem?_getD, List.getElem?_eq_getElem hlt]
    have hs := hx _ (List.getElem_mem hlt)
    have h3 := ih (i + 1) (o ++ fieldN l[i]) (by omega) (by rw [List.length_append, fieldN, List.length_append, bytesOf_length]; simp only [List.length_cons, List.length_nil]; omega)
    refine Ev.step (f := fun k => spec_l02Fields.l0 k l (o ++ fieldN l[i]) ((i + 1 : Nat) : Int)) (fun k => ?_) ?_
    · rw [spec_l02Fields.l0, if_pos (by omega), if_pos (by omega), hr, if_pos (by omega), wid (n := (i : Int) + 1) (by omega) (by omega), List.append_assoc]
      rfl
    · rw [List.drop_eq_getElem_cons hlt, restN]
      rw [List.append_assoc] at h3
      exact h3
theorem l02Fields_ev (l : List ByteArray) (hl : l.length ≤ 1000) (hx : ∀ x ∈ l, x.size ≤ 1048576) : Ev (fun k => spec_l02Fields.f k l) (fieldsN l) := by
  unfold spec_l02Fields.f fieldsN
  have := l02Fields_go l hl hx l.length 0 [(l.length : Int) % 256] (by omega) (by simp)
  simpa using this
end Go.Proofs.YtjhhehjjnfnigaaGreatDoor.U

/- Orders that are put: the program's and the reference's. -/
namespace Go.Proofs.YtjhhehjjnfnigaaGreatDoor.U
open Go Go.RowKit Go.Proofs.YtjhhehjjnfnigaaGreatDoor.Q Go.Proofs.YtjhhehjjnfnigaaGreatDoorW.PrintWords Go.Proofs.YtjhhehjjnfnigaaGreatDoorW.PrintLast Go.Proofs.YtjhhehjjnfnigaaGreatDoorW.PrintMore
set_option linter.unusedVariables false
set_option linter.unusedSimpArgs false

def openT : ByteArray := ⟨#[111, 112, 101, 110]⟩
def closedT : ByteArray := ⟨#[99, 108, 111, 115, 101, 100]⟩
def isOpen (st : ByteArray) : Bool := st.toList == ([111, 112, 101, 110] : List UInt8)
def isClosed (st : ByteArray) : Bool := st.toList == ([99, 108, 111, 115, 101, 100] : List UInt8)
/-- What makes an order a right one. -/
noncomputable def rightB (id m : ByteArray) (s w l : Int) (o : Bool) : Bool := nameB id && (peopleB m && (someB s && (someB w && (decide (0 ≤ l ∧ l ≤ s) && (decide (l > 0) == o)))))
theorem specOrderOK_ev (id m : ByteArray) (s w l : Int) (o : Bool) : Ev (fun k => spec_OrderOK.f k id m s w l o) (rightB id m s w l o) := by
  unfold spec_OrderOK.f rightB
  refine Ev.bind (l05Name_ev id) ?_
  cases nameB id with
  | false => exact Ev.now _
  | true =>
    simp only [if_true, Bool.true_and]
    refine Ev.bind (l08Name_ev m) ?_
    cases peopleB m with
    | false => exact Ev.now _
    | true =>
      simp only [if_true, Bool.true_and, l01In_eq, Option.bind_some]
      unfold someB
      cases decide (1 ≤ s ∧ s ≤ 1000000000000000000) with
      | false => exact Ev.now _
      | true =>
        cases decide (1 ≤ w ∧ w ≤ 1000000000000000000) with
        | false => exact Ev.now _
        | true =>
          simp only [if_true, Bool.true_and]
          by_cases hl : 0 ≤ l ∧ l ≤ s
          · simp only [decide_eq_true hl, if_true, Bool.true_and]
            cases o with
            | true =>
              simp only [if_true]
              cases decide (l > 0) <;> exact Ev.now _
            | false =>
              simp only [Bool.false_eq_true, if_false]
              by_cases h0 : l = 0
              · subst h0; exact Ev.now _
              · rw [if_neg h0, decide_eq_true (show l > 0 by omega)]; exact Ev.now _
          · simp only [decide_eq_false hl, Bool.false_eq_true, if_false, Bool.false_and]; exact Ev.now _
theorem one_small {x : ByteArray} (h : x.size ≤ 1048576) : ∀ y ∈ [x], (y.size : Int) ≤ 140737488351232 := by
  intro y hy
  rw [List.mem_singleton] at hy
  subst hy
  omega
theorem implOrderOK_ev (id m : ByteArray) (s w l : Int) (o : Bool) (hi : id.size ≤ 1048576) (hm : m.size ≤ 1048576) : Ev (fun k => impl_OrderOK.f k id m s w l o) (rightB id m s w l o) := by
  unfold impl_OrderOK.f rightB
  refine Ev.bind (areNames_ev [id] (by simp) (one_small hi)) ?_
  rw [List.all_cons, List.all_nil, Bool.and_true]
  cases nameB id with
  | false => exact Ev.now _
  | true =>
    simp only [if_true, Bool.true_and]
    refine Ev.bind (isPeople_ev [m] (by simp) (one_small hm)) ?_
    rw [List.all_cons, List.all_nil, Bool.and_true]
    cases peopleB m with
    | false => exact Ev.now _
    | true =>
      simp only [if_true, Bool.true_and, isSome_eq, within_eq, Option.bind_some]
      cases someB s with
      | false => exact Ev.now _
      | true =>
        cases someB w with
        | false => exact Ev.now _
        | true =>
          simp only [if_true, Bool.true_and]
          cases decide (0 ≤ l ∧ l ≤ s) <;> exact Ev.now _
theorem stateT_size (o : Bool) : (if o = true then openT else closedT).size ≤ 1000 := by cases o <;> decide
theorem orderValue_ev (id m : ByteArray) (s w l : Int) (o : Bool) (hm : m.size ≤ 1000) (hs : 0 ≤ s ∧ s ≤ 1000000000000000000) (hw : 0 ≤ w ∧ w ≤ 1000000000000000000) (hl : 0 ≤ l ∧ l ≤ 1000000000000000000) :
    Ev (fun k => impl_Order_value.f k id m s w l o) (fieldsV [m, digV s.toNat, digV w.toNat, digV l.toNat, if o = true then openT else closedT]) := by
  have s1 := digV_size s.toNat (by omega)
  have s2 := digV_size w.toNat (by omega)
  have s3 := digV_size l.toNat (by omega)
  have key : ∀ t : ByteArray, t.size ≤ 1000 → Ev (fun k => impl_Order_value.j0 k t id m s w l o) (fieldsV [m, digV s.toNat, digV w.toNat, digV l.toNat, t]) := by
    intro t ht
    refine Ev.step (f := fun k => (impl_fields.f k [m, digV s.toNat, digV w.toNat, digV l.toNat, t]).bind fun t419 => some t419) (fun k => by rw [impl_Order_value.j0, amountText_eq s (by omega) (by omega), amountText_eq w (by omega) (by omega), amountText_eq l (by omega) (by omega)]; simp only [Option.bind_some]) ?_
    refine Ev.bind (fields_ev _ (by simp) ?_) (Ev.now _)
    intro x hx
    simp only [List.mem_cons, List.mem_nil_iff, or_false] at hx
    rcases hx with rfl | rfl | rfl | rfl | rfl <;> omega
  unfold impl_Order_value.f
  cases o with
  | true => simp only [if_true]; exact key openT (by decide)
  | false => simp only [Bool.false_eq_true, if_false]; exact key closedT (by decide)
theorem rightB_bd {id m : ByteArray} {s w l : Int} {o : Bool} (h : rightB id m s w l o = true) : (1 ≤ s ∧ s ≤ 1000000000000000000) ∧ (1 ≤ w ∧ w ≤ 1000000000000000000) ∧ (0 ≤ l ∧ l ≤ s) := by
  unfold rightB someB at h
  simp only [Bool.and_eq_true, decide_eq_true_iff] at h
  exact ⟨h.2.2.1, h.2.2.2.1, h.2.2.2.2.1⟩
def okey (id : ByteArray) : ByteArray := (⟨#[111, 47]⟩ : ByteArray) ++ id
theorem l09Key_eq (id : ByteArray) (h : id.size ≤ 1048576) : spec_l09Key.f id = some (okey id) := by
  unfold spec_l09Key.f okey
  rw [if_pos (by omega)]
theorem orderKey_eq (id : ByteArray) (h : id.size ≤ 1048576) : impl_orderKey.f id = some (okey id) := by
  unfold impl_orderKey.f okey
  rw [if_pos (by omega)]
abbrev ordersB : ByteArray := ⟨#[111, 114, 100, 101, 114, 115]⟩
theorem okey_size (id : ByteArray) : (okey id).size = 2 + id.size := by
  unfold okey
  rw [ByteArray.size_append]
  rfl
/-- An order's text. -/
def ordTxt (m : ByteArray) (s w l : Int) (o : Bool) : ByteArray := fieldsV [m, digV s.toNat, digV w.toNat, digV l.toNat, if o = true then openT else closedT]
theorem ordTxt_size {m : ByteArray} {s w l : Int} {o : Bool} (hm : m.size ≤ 100) (hs : 0 ≤ s ∧ s ≤ 1000000000000000000) (hw : 0 ≤ w ∧ w ≤ 1000000000000000000) (hl : 0 ≤ l ∧ l ≤ 1000000000000000000) : (ordTxt m s w l o).size ≤ 1000 := by
  have s1 := digV_size s.toNat (by omega)
  have s2 := digV_size w.toNat (by omega)
  have s3 := digV_size l.toNat (by omega)
  have s4 : (if o = true then openT else closedT).size ≤ 100 := by cases o <;> decide
  have e : (ByteArray.empty : ByteArray).size = 0 := rfl
  unfold ordTxt
  simp only [fieldsV, restV, fieldV, ByteArray.size_append, nums_size, List.length_cons, List.length_nil, e]
  omega
theorem l09Bytes_ev (id m : ByteArray) (s w l : Int) (o : Bool) (hm : m.size ≤ 1000) (hs : 0 ≤ s ∧ s ≤ 1000000000000000000) (hw : 0 ≤ w ∧ w ≤ 1000000000000000000) (hl : 0 ≤ l ∧ l ≤ 1000000000000000000) :
    Ev (fun k => spec_l09Bytes.f k id m s w l o) (ordTxt m s w l o) := by
  have s1 := digV_size s.toNat (by omega)
  have s2 := digV_size w.toNat (by omega)
  have s3 := digV_size l.toNat (by omega)
  have d1 := digits_ev s.toNat (by omega)
  have d2 := digits_ev w.toNat (by omega)
  have d3 := digits_ev l.toNat (by omega)
  rw [show ((s.toNat : Nat) : Int) = s by omega] at d1
  rw [show ((w.toNat : Nat) : Int) = w by omega] at d2
  rw [show ((l.toNat : Nat) : Int) = l by omega] at d3
  have key : ∀ t : ByteArray, t.size ≤ 1000 → Ev (fun k => spec_l09Bytes.j0 k t id m s w l o) (fieldsV [m, digV s.toNat, digV w.toNat, digV l.toNat, t]) := by
    intro t ht
    refine Ev.step (f := fun k => (spec_l00Digits.f k s).bind fun t1 => (spec_l00Digits.f k w).bind fun t2 => (spec_l00Digits.f k l).bind fun t3 => (spec_l02Fields.f k [m, t1, t2, t3, t]).bind fun t4 => some (strOfNums t4)) (fun k => by rw [spec_l09Bytes.j0]) ?_
    refine Ev.bind d1 (Ev.bind d2 (Ev.bind d3 (Ev.bind (l02Fields_ev [m, digV s.toNat, digV w.toNat, digV l.toNat, t] (by simp) ?_) ?_)))
    · intro x hx
      simp only [List.mem_cons, List.mem_nil_iff, or_false] at hx
      rcases hx with rfl | rfl | rfl | rfl | rfl <;> omega
    · rw [fieldsN_str]; exact Ev.now _
  unfold spec_l09Bytes.f ordTxt
  cases o with
  | true => simp only [if_true]; exact key openT (by decide)
  | false => simp only [Bool.false_eq_true, if_false]; exact key closedT (by decide)
theorem right_small {id m : ByteArray} {s w l : Int} {o : Bool} (h : rightB id m s w l o = true) : id.size ≤ 12 ∧ m.size ≤ 12 := by
  unfold rightB at h
  simp only [Bool.and_eq_true] at h
  exact ⟨name_small h.1, people_small h.2.1⟩
theorem cloneO_ev (l : List IP) (h : Rt l) : slices_Clone_impl_Pair_impl_Pair.f l = some l := by
  unfold slices_Clone_impl_Pair_impl_Pair.f
  rw [if_pos (by have := h.1; omega)]
theorem putOrder_ev (m : List IP) (id mk : ByteArray) (s w l : Int) (o : Bool) (hr : Rt m) (hi : id.size ≤ 100) (hm : mk.size ≤ 100) (hs : 0 ≤ s ∧ s ≤ 1000000000000000000) (hw : 0 ≤ w ∧ w ≤ 1000000000000000000) (hl : 0 ≤ l ∧ l ≤ 1000000000000000000) :
    Ev (fun k => impl_putOrder.F k id mk s w l o m) (putV m (okey id) (ordTxt mk s w l o)) := by
  unfold impl_putOrder.F
  rw [orderKey_eq id (by omega)]
  simp only [Option.bind_some]
  exact Ev.bind (orderValue_ev id mk s w l o (by omega) hs hw hl) (implPut_ev m _ _ (by have := hr.1; omega))
/-- Coins that move, and an order that is put behind. -/
def stepO (l : List IP) (f t d : ByteArray) (n : Int) (id mk : ByteArray) (s w lf : Int) (o : Bool) : List IP × Int := thenV l (moveV l f t d n) (fun m => putV m (okey id) (ordTxt mk s w lf o))
theorem stepO_rt {l : List IP} {f t d : ByteArray} {n : Int} {id mk : ByteArray} {s w lf : Int} {o : Bool} (h : Rt l) (hf : f.size ≤ 100) (ht : t.size ≤ 100) (hd : d.size ≤ 100) (hi : id.size ≤ 100) (hm : mk.size ≤ 100) (hs : 0 ≤ s ∧ s ≤ 1000000000000000000) (hw : 0 ≤ w ∧ w ≤ 1000000000000000000) (hl : 0 ≤ lf ∧ lf ≤ 1000000000000000000) : Rt (stepO l f t d n id mk s w lf o).1 :=
  thenV_rt h (putV_rt (moveV_rt h hf ht hd) (by rw [okey_size]; omega) (by rw [okey_size]; omega) (ordTxt_size hm hs hw hl))
theorem stepO_ev (l : List IP) (f t d : ByteArray) (n : Int) (id mk : ByteArray) (s w lf : Int) (o : Bool) (h : Rt l) (hf : f.size ≤ 100) (ht : t.size ≤ 100) (hd : d.size ≤ 100) (hn : 0 ≤ n ∧ n ≤ 1000000000000000000) (hi : id.size ≤ 100) (hm : mk.size ≤ 100) (hs : 0 ≤ s ∧ s ≤ 1000000000000000000) (hw : 0 ≤ w ∧ w ≤ 1000000000000000000) (hl : 0 ≤ lf ∧ lf ≤ 1000000000000000000) :
    Ev (fun k => impl_all.f k l [(impl_move.F k f t d n), (impl_putOrder.F k id mk s w lf o)]) (stepO l f t d n id mk s w lf o) := by
  unfold stepO
  rw [← seq_two l (fun m => moveV m f t d n) (fun m => putV m (okey id) (ordTxt mk s w lf o))]
  refine all_ev l h [fun k => impl_move.F k f t d n, fun k => impl_putOrder.F k id mk s w lf o] _ rfl (two_cases (fun m hr => ⟨?_, ?_⟩) (fun m hr => ⟨?_, ?_⟩))
  · exact move_ev m f t d n hr hf ht hd hn.1 hn.2
  · exact moveV_rt hr hf ht hd
  · exact putOrder_ev m id mk s w lf o hr hi hm hs hw hl
  · exact putV_rt hr (by rw [okey_size]; omega) (by rw [okey_size]; omega) (ordTxt_size hm hs hw hl)
end Go.Proofs.YtjhhehjjnfnigaaGreatDoor.U

/- Orders that are read and found. -/
namespace Go.Proofs.YtjhhehjjnfnigaaGreatDoor.U
open Go Go.RowKit Go.Proofs.YtjhhehjjnfnigaaGreatDoor.Q Go.Proofs.YtjhhehjjnfnigaaGreatDoorW.PrintWords Go.Proofs.YtjhhehjjnfnigaaGreatDoorW.PrintLast Go.Proofs.YtjhhehjjnfnigaaGreatDoorW.PrintMore
set_option linter.unusedVariables false
set_option linter.unusedSimpArgs false

abbrev Ord := ByteArray × ByteArray × Int × Int × Int × Bool
noncomputable def orderO (id v : ByteArray) : Option Ord :=
  match readV v with
  | some [m, s, w, l, st] => if (rightB id m (amtV s) (amtV w) (amtV l) (isOpen st) && (isOpen st || isClosed st)) = true then some (id, m, amtV s, amtV w, amtV l, isOpen st) else none
  | _ => none
/-- An order and whether it is one. -/
def ordR (x : Ord) : Option Ord → ByteArray × ByteArray × Int × Int × Int × Bool × Bool
  | some (a, b, c, d, e, f) => (a, b, c, d, e, f, true)
  | none => (x.1, x.2.1, x.2.2.1, x.2.2.2.1, x.2.2.2.2.1, x.2.2.2.2.2, false)
theorem isOpen_eq (st : ByteArray) : isOpen st = true ↔ st = openT := by
  unfold isOpen
  rw [beq_iff_eq, show ([111, 112, 101, 110] : List UInt8) = openT.toList by decide +kernel]
  exact toList_eq_iff _ _
theorem isClosed_eq (st : ByteArray) : isClosed st = true ↔ st = closedT := by
  unfold isClosed
  rw [beq_iff_eq, show ([99, 108, 111, 115, 101, 100] : List UInt8) = closedT.toList by decide +kernel]
  exact toList_eq_iff _ _
theorem five {α : Type} (l : List α) (h : l.length = 5) : ∃ x y z u v, l = [x, y, z, u, v] := by
  match l, h with
  | [x, y, z, u, v], _ => exact ⟨x, y, z, u, v, rfl⟩
theorem orderO_ne (id v : ByteArray) (l : List ByteArray) (h : readV v = some l) (hl : l.length ≠ 5) : orderO id v = none := by
  unfold orderO
  rw [h]
  match l with
  | [] => rfl
  | [_] => rfl
  | [_, _] => rfl
  | [_, _, _] => rfl
  | [_, _, _, _] => rfl
  | [_, _, _, _, _] => exact absurd rfl hl
  | _ :: _ :: _ :: _ :: _ :: _ :: _ => rfl
theorem specRead_ev (id v : ByteArray) (hv : v.size ≤ 1048576) : ∃ x, Ev (fun k => spec_l09Read.f k id v) (ordR x (orderO id v)) := by
  unfold spec_l09Read.f
  obtain ⟨x, hx⟩ := l02Read_ev v (by omega)
  have hbad : ∀ x4, Ev (fun k => spec_l09Read.j0 k id x4 true) ((⟨#[]⟩ : ByteArray), (⟨#[]⟩ : ByteArray), 0, 0, 0, false, false) := fun x4 => Ev.step (fun k => by rw [spec_l09Read.j0, if_pos rfl]) (Ev.now _)
  have hbad2 : orderO id v = none → ∀ x4, ∃ x, Ev (fun k => spec_l09Read.j0 k id x4 true) (ordR x (orderO id v)) := fun e x4 => ⟨((⟨#[]⟩ : ByteArray), (⟨#[]⟩ : ByteArray), 0, 0, 0, false), by rw [e]; exact hbad x4⟩
  cases hr : readV v with
  | none =>
    have e : orderO id v = none := by unfold orderO; rw [hr]
    obtain ⟨y, hy⟩ := hbad2 e x
    refine ⟨y, Ev.bind hx ?_⟩
    rw [hr]
    simp only [readR, Bool.false_eq_true, if_false]
    exact hy
  | some fs =>
    obtain ⟨hv1, _, hfs⟩ := readV_of hr
    by_cases h5 : fs.length = 5
    · obtain ⟨m, s, w, l, st, rfl⟩ := five fs h5
      have hs := hfs s (by simp)
      have hw := hfs w (by simp)
      have hl := hfs l (by simp)
      have L5 : ((([m, s, w, l, st] : List ByteArray).length : Nat) : Int) = 5 := rfl
      have e : (((([m, s, w, l, st] : List ByteArray).length : Nat) : Int) != 5) = false := rfl
      have e2 : orderO id v = if (rightB id m (amtV s) (amtV w) (amtV l) (isOpen st) && (isOpen st || isClosed st)) = true then some (id, m, amtV s, amtV w, amtV l, isOpen st) else none := by unfold orderO; rw [hr]
      refine ⟨(id, m, amtV s, amtV w, amtV l, isOpen st), Ev.bind hx ?_⟩
      rw [hr]
      simp only [readR, List.nil_append, if_true, e]
      have d0 : rdOf ByteArray.empty [m, s, w, l, st] 0 = m := rfl
      have d1 : rdOf ByteArray.empty [m, s, w, l, st] 1 = s := rfl
      have d2 : rdOf ByteArray.empty [m, s, w, l, st] 2 = w := rfl
      have d3 : rdOf ByteArray.empty [m, s, w, l, st] 3 = l := rfl
      have d4 : rdOf ByteArray.empty [m, s, w, l, st] 4 = st := rfl
      refine Ev.step (f := fun k => (spec_l02Of.f k s).bind fun t1 => (spec_l02Of.f k w).bind fun t2 => (spec_l02Of.f k l).bind fun t3 => (spec_OrderOK.f k id m t1 t2 t3 (st.toList == ([111, 112, 101, 110] : List UInt8))).bind fun t => if t = true then (if st.toList = ([111, 112, 101, 110] : List UInt8) then some (id, m, t1, t2, t3, (st.toList == ([111, 112, 101, 110] : List UInt8)), true) else some (id, m, t1, t2, t3, (st.toList == ([111, 112, 101, 110] : List UInt8)), (st.toList == ([99, 108, 111, 115, 101, 100] : List UInt8)))) else some (id, m, t1, t2, t3, (st.toList == ([111, 112, 101, 110] : List UInt8)), false)) (fun k => by
        rw [spec_l09Read.j0, if_neg (by decide), L5, d0, d1, d2, d3, d4, if_pos (show (0 : Int) < 5 by decide), if_pos (show (1 : Int) < 5 by decide)]
        simp only [if_pos (show (2 : Int) < 5 by decide), if_pos (show (3 : Int) < 5 by decide), if_pos (show (4 : Int) < 5 by decide)]) ?_
      refine Ev.bind (l02Of_ev s (by omega)) ?_
      refine Ev.bind (l02Of_ev w (by omega)) (Ev.bind (l02Of_ev l (by omega)) (Ev.bind (specOrderOK_ev id m _ _ _ _) ?_))
      rw [e2]
      rw [show (st.toList == ([111, 112, 101, 110] : List UInt8)) = isOpen st from rfl]
      cases h1 : rightB id m (amtV s) (amtV w) (amtV l) (isOpen st) with
      | false => simp only [Bool.false_and, Bool.false_eq_true, if_false]; exact Ev.now _
      | true =>
        simp only [if_true, Bool.true_and]
        by_cases ho : st.toList = ([111, 112, 101, 110] : List UInt8)
        · have : isOpen st = true := by unfold isOpen; rw [beq_iff_eq]; exact ho
          simp only [if_pos ho, this, Bool.true_or, if_true]
          exact Ev.now _
        · have : isOpen st = false := by unfold isOpen; rw [beq_eq_false_iff_ne]; exact ho
          simp only [if_neg ho, this, Bool.false_or]
          rw [show (st.toList == ([99, 108, 111, 115, 101, 100] : List UInt8)) = isClosed st from rfl]
          cases isClosed st with
          | true => simp only [if_true]; exact Ev.now _
          | false => simp only [Bool.false_eq_true, if_false]; exact Ev.now _
    · have e : (((fs.length : Nat) : Int) != 5) = true := by rw [bne_iff_ne]; omega
      obtain ⟨y, hy⟩ := hbad2 (orderO_ne id v fs hr h5) fs
      refine ⟨y, Ev.bind hx ?_⟩
      rw [hr]
      simp only [readR, List.nil_append, if_true, e]
      exact hy
theorem implOrderOf_ev (id v : ByteArray) (hi : id.size ≤ 1048576) (hv : v.size ≤ 1048576) : ∃ x, Ev (fun k => impl_orderOf.f k id v) (ordR x (orderO id v)) := by
  unfold impl_orderOf.f
  obtain ⟨x, hx⟩ := readFields_ev v (by omega)
  have hbad : ∀ x4, Ev (fun k => impl_orderOf.j0 k id v x4 true) ((⟨#[]⟩ : ByteArray), (⟨#[]⟩ : ByteArray), 0, 0, 0, false, false) := fun x4 => Ev.step (fun k => by rw [impl_orderOf.j0, if_pos rfl]) (Ev.now _)
  have hbad2 : orderO id v = none → ∀ x4, ∃ x, Ev (fun k => impl_orderOf.j0 k id v x4 true) (ordR x (orderO id v)) := fun e x4 => ⟨((⟨#[]⟩ : ByteArray), (⟨#[]⟩ : ByteArray), 0, 0, 0, false), by rw [e]; exact hbad x4⟩
  cases hr : readV v with
  | none =>
    have e : orderO id v = none := by unfold orderO; rw [hr]
    obtain ⟨y, hy⟩ := hbad2 e x
    refine ⟨y, Ev.bind hx ?_⟩
    rw [hr]
    simp only [readR, Bool.false_eq_true, if_false]
    exact hy
  | some fs =>
    obtain ⟨hv1, _, hfs⟩ := readV_of hr
    by_cases h5 : fs.length = 5
    · obtain ⟨m, s, w, l, st, rfl⟩ := five fs h5
      have hm := hfs m (by simp)
      have hs := hfs s (by simp)
      have hw := hfs w (by simp)
      have hl := hfs l (by simp)
      have hst := hfs st (by simp)
      have L5 : ((([m, s, w, l, st] : List ByteArray).length : Nat) : Int) = 5 := rfl
      have e : (((([m, s, w, l, st] : List ByteArray).length : Nat) : Int) != 5) = false := rfl
      have e2 : orderO id v = if (rightB id m (amtV s) (amtV w) (amtV l) (isOpen st) && (isOpen st || isClosed st)) = true then some (id, m, amtV s, amtV w, amtV l, isOpen st) else none := by unfold orderO; rw [hr]
      refine ⟨(id, m, max0 (amtV s), max0 (amtV w), max0 (amtV l), isOpen st), Ev.bind hx ?_⟩
      rw [hr]
      simp only [readR, List.nil_append, if_true, e]
      have d0 : rdOf ByteArray.empty [m, s, w, l, st] 0 = m := rfl
      have d1 : rdOf ByteArray.empty [m, s, w, l, st] 1 = s := rfl
      have d2 : rdOf ByteArray.empty [m, s, w, l, st] 2 = w := rfl
      have d3 : rdOf ByteArray.empty [m, s, w, l, st] 3 = l := rfl
      have d4 : rdOf ByteArray.empty [m, s, w, l, st] 4 = st := rfl
      obtain ⟨b1, e1⟩ := readAmount_fst s (by omega)
      obtain ⟨b2, e2'⟩ := readAmount_fst w (by omega)
      obtain ⟨b3, e3⟩ := readAmount_fst l (by omega)
      refine Ev.step (f := fun k => (impl_OrderOK.f k id m (max0 (amtV s)) (max0 (amtV w)) (max0 (amtV l)) (isOpen st)).bind fun t437 => if t437 = true then ((impl_Order_value.f k id m (max0 (amtV s)) (max0 (amtV w)) (max0 (amtV l)) (isOpen st)).bind fun t438 => (some (id, m, max0 (amtV s), max0 (amtV w), max0 (amtV l), isOpen st, (t438.toList == v.toList)))) else (some (id, m, max0 (amtV s), max0 (amtV w), max0 (amtV l), isOpen st, false))) (fun k => ?_) ?_
      · rw [impl_orderOf.j0, if_neg (by decide), L5, d0, d1, d2, d3, d4, e1, e2', e3, if_pos (show (0 : Int) < 5 by decide), if_pos (show (4 : Int) < 5 by decide), if_pos (show (1 : Int) < 5 by decide)]
        simp only [Option.bind_some, if_pos (show (2 : Int) < 5 by decide), if_pos (show (3 : Int) < 5 by decide)]
        rfl
      refine Ev.bind (implOrderOK_ev id m _ _ _ _ hi (by omega)) ?_
      rw [e2]
      by_cases h1 : rightB id m (max0 (amtV s)) (max0 (amtV w)) (max0 (amtV l)) (isOpen st) = true
      · simp only [if_pos h1]
        obtain ⟨q1, q2, q3⟩ := rightB_bd h1
        refine Ev.bind (orderValue_ev id m _ _ _ _ hm (by omega) (by omega) (by omega)) ?_
        have hsV : 0 ≤ amtV s := by unfold max0 at q1; split at q1 <;> omega
        have hwV : 0 ≤ amtV w := by unfold max0 at q2; split at q2 <;> omega
        have m1 : max0 (amtV s) = amtV s := if_pos hsV
        have m2 : max0 (amtV w) = amtV w := if_pos hwV
        by_cases hval : 0 ≤ amtV l ∧ (isOpen st || isClosed st) = true
        · have m3 : max0 (amtV l) = amtV l := if_pos hval.1
          have est : (if isOpen st = true then openT else closedT) = st := by
            cases ho : isOpen st with
            | true => simp only [if_true]; exact ((isOpen_eq st).1 ho).symm
            | false =>
              have hc := hval.2
              rw [ho, Bool.false_or] at hc
              simp only [Bool.false_eq_true, if_false]
              exact ((isClosed_eq st).1 hc).symm
          rw [m1, m2, m3] at h1 ⊢
          rw [est, ← (amtV_eq hsV).1, ← (amtV_eq hwV).1, ← (amtV_eq hval.1).1, ← hv1, h1, hval.2]
          simp only [Bool.and_self, if_true, beq_self_eq_true]
          exact Ev.now _
        · have hno : (rightB id m (amtV s) (amtV w) (amtV l) (isOpen st) && (isOpen st || isClosed st)) = false := by
            rw [Bool.eq_false_iff]
            intro h
            rw [Bool.and_eq_true] at h
            exact hval ⟨(rightB_bd h.1).2.2.1, h.2⟩
          have hne : ((fieldsV [m, digV (max0 (amtV s)).toNat, digV (max0 (amtV w)).toNat, digV (max0 (amtV l)).toNat, if isOpen st = true then openT else closedT]).toList == v.toList) = false := by
            rw [beq_eq_false_iff_ne]
            intro h
            have h2 := (toList_eq_iff _ _).1 h
            rw [hv1] at h2
            have s1 := digV_size (max0 (amtV s)).toNat (by omega)
            have s2 := digV_size (max0 (amtV w)).toNat (by omega)
            have s3 := digV_size (max0 (amtV l)).toNat (by omega)
            have s4 := stateT_size (isOpen st)
            have h3 := fieldsV_inj (by simp) (by
              intro y hy
              simp only [List.mem_cons, List.mem_nil_iff, or_false] at hy
              rcases hy with rfl | rfl | rfl | rfl | rfl <;> omega) (by simp) hfs h2
            simp only [List.cons.injEq, and_true] at h3
            obtain ⟨_, _, _, h4, h5⟩ := h3
            apply hval
            refine ⟨?_, ?_⟩
            · rw [← h4, amtV_digV _ (by omega)]; omega
            · cases ho : isOpen st with
              | true => rfl
              | false =>
                rw [ho] at h5
                simp only [Bool.false_eq_true, if_false] at h5
                rw [Bool.false_or]
                exact (isClosed_eq st).2 h5.symm
          simp only [hno, hne, Bool.false_eq_true, if_false]
          exact Ev.now _
      · simp only [if_neg h1]
        have hno : (rightB id m (amtV s) (amtV w) (amtV l) (isOpen st) && (isOpen st || isClosed st)) = false := by
          rw [Bool.eq_false_iff]
          intro h
          rw [Bool.and_eq_true] at h
          obtain ⟨q1, q2, q3⟩ := rightB_bd h.1
          apply h1
          have m1 : max0 (amtV s) = amtV s := if_pos (by omega)
          have m2 : max0 (amtV w) = amtV w := if_pos (by omega)
          have m3 : max0 (amtV l) = amtV l := if_pos q3.1
          rw [m1, m2, m3]
          exact h.1
        simp only [hno, Bool.false_eq_true, if_false]
        exact Ev.now _
    · have e : (((fs.length : Nat) : Int) != 5) = true := by rw [bne_iff_ne]; omega
      obtain ⟨y, hy⟩ := hbad2 (orderO_ne id v fs hr h5) fs
      refine ⟨y, Ev.bind hx ?_⟩
      rw [hr]
      simp only [readR, List.nil_append, if_true, e]
      exact hy
def nilO : Ord := ((⟨#[]⟩ : ByteArray), (⟨#[]⟩ : ByteArray), 0, 0, 0, false)
theorem orderO_empty (id : ByteArray) : orderO id (⟨#[]⟩ : ByteArray) = none := by unfold orderO; rw [readV_empty]
theorem specFindO_ev (l : List IP) (id : ByteArray) (hl : l.length ≤ 1048576) (hv : ∀ x ∈ l, x.f1.size ≤ 1048576) (hi : id.size ≤ 1048576) : ∃ x, Ev (fun k => spec_l09Find.f k l id) (ordR x (orderO id (getV l (okey id)).1)) := by
  unfold spec_l09Find.f
  rw [l09Key_eq id hi]
  simp only [Option.bind_some]
  have hn := getV_none l (okey id)
  have hsz := getV_size l (okey id) 1048576 hv
  have hg := specGet_ev l (okey id) hl
  generalize getV l (okey id) = g at *
  obtain ⟨v, ok⟩ := g
  cases ok with
  | false =>
    have : v = ⟨#[]⟩ := hn rfl
    subst this
    refine ⟨nilO, Ev.bind hg ?_⟩
    rw [orderO_empty]
    simp only [Bool.false_eq_true, if_false]
    exact Ev.now _
  | true =>
    obtain ⟨x, hx⟩ := specRead_ev id v hsz
    refine ⟨x, Ev.bind hg ?_⟩
    simp only [if_true]
    exact Ev.bind hx (Ev.now _)
theorem implAtO_ev (l : List IP) (id : ByteArray) (hl : l.length ≤ 1048576) (hv : ∀ x ∈ l, x.f1.size ≤ 1048576) (hi : id.size ≤ 1048576) : ∃ x, Ev (fun k => impl_orderAt.f k l id) (ordR x (orderO id (getV l (okey id)).1)) := by
  unfold impl_orderAt.f
  rw [orderKey_eq id hi]
  simp only [Option.bind_some]
  have hn := getV_none l (okey id)
  have hsz := getV_size l (okey id) 1048576 hv
  have hg := implGet_ev l (okey id) hl
  generalize getV l (okey id) = g at *
  obtain ⟨v, ok⟩ := g
  obtain ⟨x, hx⟩ := implOrderOf_ev id v hi hsz
  cases ok with
  | false =>
    have : v = ⟨#[]⟩ := hn rfl
    subst this
    rw [orderO_empty] at *
    refine ⟨x, Ev.bind hg (Ev.bind hx ?_)⟩
    simp only [Bool.false_eq_true, if_false]
    exact Ev.now _
  | true =>
    refine ⟨x, Ev.bind hg (Ev.bind hx ?_)⟩
    simp only [if_true]
    exact Ev.now _
theorem ordR_some {x : Ord} {o : Option Ord} {r : ByteArray × ByteArray × Int × Int × Int × Bool × Bool} (h : ordR x o = r) : (r.2.2.2.2.2.2 = true → o = some (r.1, r.2.1, r.2.2.1, r.2.2.2.1, r.2.2.2.2.1, r.2.2.2.2.2.1)) ∧ (r.2.2.2.2.2.2 = false → o = none) := by
  subst h
  cases o with
  | none => exact ⟨fun h => by simp [ordR] at h, fun _ => rfl⟩
  | some y => obtain ⟨a, b, c, d, e, f⟩ := y; exact ⟨fun _ => rfl, fun h => by simp [ordR] at h⟩
theorem orderO_right {id v : ByteArray} {y : Ord} (h : orderO id v = some y) : y.1 = id ∧ rightB id y.2.1 y.2.2.1 y.2.2.2.1 y.2.2.2.2.1 y.2.2.2.2.2 = true := by
  unfold orderO at h
  split at h
  · split at h
    · rename_i h1
      rw [Bool.and_eq_true] at h1
      cases h
      exact ⟨rfl, h1.1⟩
    · cases h
  · cases h
end Go.Proofs.YtjhhehjjnfnigaaGreatDoor.U

/- What the reference's l02MulDiv computes: the quotient of the product, digit by digit. -/
namespace Go.Proofs.YtjhhehjjnfnigaaGreatDoor.U
open Go Go.RowKit Go.Proofs.YtjhhehjjnfnigaaGreatDoor.Q Go.Proofs.YtjhhehjjnfnigaaGreatDoorW.PrintWords Go.Proofs.YtjhhehjjnfnigaaGreatDoorW.PrintLast Go.Proofs.YtjhhehjjnfnigaaGreatDoorW.PrintMore
set_option linter.unusedVariables false
set_option linter.unusedSimpArgs false

theorem l02Wide_eq (a b : Int) (ha : 0 ≤ a) (ha' : a ≤ 1000000000000000000) (hb : 0 ≤ b) (hb' : b ≤ 1000000000000000000) :
    spec_l02Wide.f a b = some (a * b / 1000000000000000000, a * b % 1000000000000000000) := by
  have e := wide_eq a b ha ha' hb hb'
  have hx := Int.emod_nonneg a (by decide : (1000000000 : Int) ≠ 0)
  have hx' := Int.emod_lt_of_pos a (by decide : (0 : Int) < 1000000000)
  have hy := Int.emod_nonneg b (by decide : (1000000000 : Int) ≠ 0)
  have hy' := Int.emod_lt_of_pos b (by decide : (0 : Int) < 1000000000)
  have hu : 0 ≤ a / 1000000000 ∧ a / 1000000000 ≤ 1000000000 := by omega
  have hv : 0 ≤ b / 1000000000 ∧ b / 1000000000 ≤ 1000000000 := by omega
  have m1 := mul_bd (X := 1000000000) (Y := 1000000000) hx (by omega) hy (by omega)
  have m2 := mul_bd (X := 1000000000) (Y := 1000000000) hu.1 hu.2 hy (by omega)
  have m3 := mul_bd (X := 1000000000) (Y := 1000000000) hx (by omega) hv.1 hv.2
  have m4 := mul_bd (X := 1000000000) (Y := 1000000000) hu.1 hu.2 hv.1 hv.2
  unfold spec_l02Wide.f
  rw [tdiv_nn ha, tdiv_nn hb, tmod_nn ha, tmod_nn hb]
  generalize a / 1000000000 = x at *
  generalize a % 1000000000 = y at *
  generalize b / 1000000000 = z at *
  generalize b % 1000000000 = u at *
  rw [e]
  rw [show wrap64 x = x from wid (by omega) (by omega), show wrap64 z = z from wid (by omega) (by omega)]
  generalize x * z = p at *
  generalize x * u = q at *
  generalize y * z = r at *
  generalize y * u = s at *
  rw [show wrap64 p = p from wid (by omega) (by omega), show wrap64 q = q from wid (by omega) (by omega), show wrap64 r = r from wid (by omega) (by omega), show wrap64 s = s from wid (by omega) (by omega)]
  rw [tdiv_nn m1.1, tmod_nn m1.1, show wrap64 (q + r) = q + r from wid (by omega) (by omega)]
  rw [show wrap64 (s / 1000000000) = s / 1000000000 from wid (by omega) (by omega), show wrap64 (q + r + s / 1000000000) = q + r + s / 1000000000 from wid (by omega) (by omega)]
  rw [tdiv_nn (by omega), tmod_nn (by omega)]
  rw [show wrap64 ((q + r + s / 1000000000) / 1000000000) = (q + r + s / 1000000000) / 1000000000 from wid (by omega) (by omega)]
  rw [show wrap64 ((q + r + s / 1000000000) % 1000000000 * 1000000000) = (q + r + s / 1000000000) % 1000000000 * 1000000000 from wid (by omega) (by omega)]
  rw [show wrap64 (p + (q + r + s / 1000000000) / 1000000000) = p + (q + r + s / 1000000000) / 1000000000 from wid (by omega) (by omega)]
  rw [show wrap64 ((q + r + s / 1000000000) % 1000000000 * 1000000000 + s % 1000000000) = (q + r + s / 1000000000) % 1000000000 * 1000000000 + s % 1000000000 from wid (by omega) (by omega)]
  congr 1
  refine Prod.ext ?_ ?_ <;> show _ = _ <;> simp only <;> omega

/-- The ten turns: ten times the rest, by c. -/
theorem l02MulDiv_turns (c low out rest T : Int) (hc : 1 ≤ c) (hc' : c ≤ 1000000000000000000) (hr : 0 ≤ rest) (hr' : rest < c) (hT : 1 ≤ T) (hT' : T ≤ 1000000000000000000) (hl : 0 ≤ low) (hl' : low < 1000000000000000000)
    (ho : 0 ≤ out) (ho' : out ≤ 100000000000000000) {res : Int × Bool}
    (h : Ev (fun k => spec_l02MulDiv.l0 k c low (out * 10 + (10 * rest + low / T % 10) / c) ((10 * rest + low / T % 10) % c) (T / 10)) res) :
    ∀ (d : Nat) (i q r : Int), 0 ≤ i → i + d = 10 → 0 ≤ q → q ≤ i → 0 ≤ r → r < c → r + c * q = i * rest → Ev (fun k => spec_l02MulDiv.l1 k c low out rest T q r i) res := by
  intro d
  induction d with
  | zero =>
    intro i q r hi hd hq hqi hr0 hrc e
    obtain rfl : i = 10 := by omega
    refine Ev.step (f := fun k => spec_l02MulDiv.l0 k c low (out * 10 + (10 * rest + low / T % 10) / c) ((10 * rest + low / T % 10) % c) (T / 10)) (fun k => ?_) h
    rw [spec_l02MulDiv.l1, if_neg (by omega), if_neg (by omega), if_neg (by omega)]
    have hd0 : 0 ≤ low / T := Int.ediv_nonneg hl (by omega)
    have hd1 : low / T ≤ low := Int.ediv_le_self _ hl
    rw [tdiv_nn hl, show wrap64 (low / T) = low / T from wid (by omega) (by omega), tmod_nn hd0]
    have hd2 := Int.emod_nonneg (low / T) (by decide : (10 : Int) ≠ 0)
    have hd3 := Int.emod_lt_of_pos (low / T) (by decide : (0 : Int) < 10)
    generalize low / T % 10 = dg at *
    rw [show wrap64 (r + dg) = r + dg from wid (by omega) (by omega), tdiv_nn (by omega), tmod_nn (by omega), tdiv_nn (by omega)]
    have e3 : 10 * rest + dg = (r + dg) + c * q := by omega
    have hq3 : (10 * rest + dg) / c = (r + dg) / c + q := by rw [e3, Int.add_mul_ediv_left _ _ (by omega)]
    have hm3 : (10 * rest + dg) % c = (r + dg) % c := by rw [e3, Int.add_mul_emod_self_left]
    have hb1 : 0 ≤ (r + dg) / c := Int.ediv_nonneg (by omega) (by omega)
    have hb2 : (r + dg) / c ≤ r + dg := Int.ediv_le_self _ (by omega)
    rw [hq3, hm3]
    have hle : (r + dg) / c ≤ 10 := by
      have : (r + dg) / c < 11 := by
        rw [Int.ediv_lt_iff_lt_mul (by omega)]
        omega
      omega
    rw [show wrap64 ((r + dg) / c) = (r + dg) / c from wid (by omega) (by omega)]
    rw [show wrap64 (q + (r + dg) / c) = (r + dg) / c + q from by rw [wid (by omega) (by omega)]; omega]
    rw [show wrap64 (out * 10) = out * 10 from wid (by omega) (by omega)]
    rw [show wrap64 (out * 10 + ((r + dg) / c + q)) = out * 10 + ((r + dg) / c + q) from wid (by omega) (by omega)]
    rw [show wrap64 (T / 10) = T / 10 from wid (by omega) (by omega)]
  | succ d ih =>
    intro i q r hi hd hq hqi hr0 hrc e
    by_cases hge : r + rest ≥ c
    · refine Ev.step (fun k => ?_) (ih (i + 1) (q + 1) (r + rest - c) (by omega) (by omega) (by omega) (by omega) (by omega) (by omega) (by rw [Int.mul_add, Int.add_mul]; omega))
      rw [spec_l02MulDiv.l1, if_pos (by omega), show wrap64 (r + rest) = r + rest from wid (by omega) (by omega), if_pos hge, show wrap64 (q + 1) = q + 1 from wid (by omega) (by omega), show wrap64 (i + 1) = i + 1 from wid (by omega) (by omega), show wrap64 (r + rest - c) = r + rest - c from wid (by omega) (by omega)]
    · refine Ev.step (fun k => ?_) (ih (i + 1) q (r + rest) (by omega) (by omega) (by omega) (by omega) (by omega) (by omega) (by rw [Int.add_mul]; omega))
      rw [spec_l02MulDiv.l1, if_pos (by omega), show wrap64 (r + rest) = r + rest from wid (by omega) (by omega), if_neg hge, show wrap64 (i + 1) = i + 1 from wid (by omega) (by omega)]

theorem l02MulDiv_digits (c low : Int) (hc : 1 ≤ c) (hc' : c ≤ 1000000000000000000) (hl : 0 ≤ low) (hl' : low < 1000000000000000000) :
    ∀ (j : Nat) (out rest : Int), j ≤ 18 → 0 ≤ rest → rest < c → 0 ≤ out → out < 10 ^ (18 - j) →
      Ev (fun k => spec_l02MulDiv.l0 k c low out rest (if j = 0 then 0 else 10 ^ (j - 1))) (out * 10 ^ j + (rest * 10 ^ j + low % 10 ^ j) / c, true) := by
  intro j
  induction j with
  | zero =>
    intro out rest hj hr hr' ho ho'
    refine Ev.step (f := fun _ => some (out, true)) (fun k => by rw [if_pos rfl, spec_l02MulDiv.l0, if_neg (by omega)]) ?_
    have : (rest * 10 ^ 0 + low % 10 ^ 0) / c = 0 := by
      rw [show (10 : Int) ^ 0 = 1 from rfl, Int.emod_one, Int.mul_one, Int.add_zero]
      exact Int.ediv_eq_zero_of_lt hr hr'
    rw [this]
    rw [show out * 10 ^ 0 + 0 = out from by rw [show (10 : Int) ^ 0 = 1 from rfl]; omega]
    exact Ev.now _
  | succ j ih =>
    intro out rest hj hr hr' ho ho'
    have hT : (1 : Int) ≤ 10 ^ j := by have h_ : (0 : Int) < 10 ^ j := Int.pow_pos (by decide); omega
    have hT2 : ∀ m : Nat, m ≤ 18 → (10 : Int) ^ m ≤ 1000000000000000000 := by decide
    have hT3 : ∀ m : Nat, m ≤ 17 → (10 : Int) ^ m ≤ 100000000000000000 := by decide
    have hTT := hT2 j (by omega)
    have hO := hT3 (18 - (j + 1)) (by omega)
    have hd2 := Int.emod_nonneg (low / 10 ^ j) (by decide : (10 : Int) ≠ 0)
    have hd3 := Int.emod_lt_of_pos (low / 10 ^ j) (by decide : (0 : Int) < 10)
    have hp : (10 : Int) ^ (j + 1) = 10 * 10 ^ j := by rw [Int.pow_succ, Int.mul_comm]
    have hp2 : (10 : Int) ^ (18 - j) = 10 * 10 ^ (18 - (j + 1)) := by rw [show 18 - j = (18 - (j + 1)) + 1 from by omega, Int.pow_succ, Int.mul_comm]
    have key := digit_step c (10 ^ j) out rest low hc hT hr hl
    have hq1 : 0 ≤ (10 * rest + low / 10 ^ j % 10) / c := Int.ediv_nonneg (by omega) (by omega)
    have hq2 : (10 * rest + low / 10 ^ j % 10) / c < 10 := by
      rw [Int.ediv_lt_iff_lt_mul (by omega)]
      omega
    have hm1 := Int.emod_nonneg (10 * rest + low / 10 ^ j % 10) (by omega : c ≠ 0)
    have hm2 := Int.emod_lt_of_pos (10 * rest + low / 10 ^ j % 10) (by omega : 0 < c)
    have := ih (out * 10 + (10 * rest + low / 10 ^ j % 10) / c) ((10 * rest + low / 10 ^ j % 10) % c) (by omega) hm1 hm2 (by omega) (by rw [hp2]; omega)
    rw [key, ← hp] at this
    have hdiv : (if j = 0 then (0 : Int) else 10 ^ (j - 1)) = 10 ^ j / 10 := by
      cases j with
      | zero => rfl
      | succ m => rw [if_neg (by omega), Int.pow_succ, Int.mul_ediv_cancel _ (by decide)]; rfl
    rw [hdiv] at this
    have h1 := l02MulDiv_turns c low out rest (10 ^ j) hc hc' hr hr' hT hTT hl hl' ho (by omega) this 10 0 0 0 (by omega) (by omega) (by omega) (by omega) (by omega) (by omega) (by omega)
    refine Ev.step (fun k => ?_) h1
    rw [if_neg (by omega), spec_l02MulDiv.l0, if_pos (by rw [show j + 1 - 1 = j from rfl]; omega)]
    rfl

/-- The reference's quotient of a product: whole, and whether it is an amount. -/
theorem l02MulDiv_ev (a b c : Int) (ha : 0 ≤ a) (ha' : a ≤ 1000000000000000000) (hb : 0 ≤ b) (hb' : b ≤ 1000000000000000000) (hc : 1 ≤ c) (hc' : c ≤ 1000000000000000000) :
    Ev (fun k => spec_l02MulDiv.f k a b c) (if a * b / c ≤ 1000000000000000000 then (a * b / c, true) else (1000000000000000000, false)) := by
  unfold spec_l02MulDiv.f
  rw [l02Wide_eq a b ha ha' hb hb']
  simp only [Option.bind_some]
  have hP : 0 ≤ a * b := Int.mul_nonneg ha hb
  generalize a * b = P at *
  have e := Int.mul_ediv_add_emod P 1000000000000000000
  have hl := Int.emod_nonneg P (by decide : (1000000000000000000 : Int) ≠ 0)
  have hl' := Int.emod_lt_of_pos P (by decide : (0 : Int) < 1000000000000000000)
  have hh : 0 ≤ P / 1000000000000000000 := Int.ediv_nonneg hP (by decide)
  generalize P / 1000000000000000000 = high at *
  generalize P % 1000000000000000000 = low at *
  by_cases hge : high ≥ c
  · simp only [if_pos hge]
    by_cases heq : high = c
    · simp only [if_pos heq]
      subst heq
      have hq : P / high = 1000000000000000000 + low / high := by
        rw [← e, Int.mul_comm, Int.mul_add_ediv_left _ _ (by omega)]
      by_cases hlt : low < high
      · have h0 : low / high = 0 := Int.ediv_eq_zero_of_lt hl hlt
        rw [hq, h0, if_pos (by omega), decide_eq_true hlt]
        exact Ev.now _
      · have h0 : 1 ≤ low / high := by rw [Int.le_ediv_iff_mul_le (by omega)]; omega
        rw [hq, if_neg (by omega), decide_eq_false hlt]
        exact Ev.now _
    · simp only [if_neg heq]
      have h0 : 1000000000000000001 ≤ P / c := by
        rw [Int.le_ediv_iff_mul_le (by omega)]
        omega
      rw [if_neg (by omega)]
      exact Ev.now _
  · simp only [if_neg hge]
    have := l02MulDiv_digits c low hc hc' hl hl' 18 0 high (by omega) hh (by omega) (by omega) (by decide)
    have hq : P / c ≤ 1000000000000000000 := by
      have : P / c < 1000000000000000001 := by
        rw [Int.ediv_lt_iff_lt_mul (by omega)]
        omega
      omega
    rw [if_pos hq]
    rw [show (0 : Int) * 10 ^ 18 + (high * 10 ^ 18 + low % 10 ^ 18) / c = P / c from by
      rw [show (10 : Int) ^ 18 = 1000000000000000000 from rfl, Int.emod_eq_of_lt hl hl', ← e, Int.mul_comm high]; omega] at this
    exact this
end Go.Proofs.YtjhhehjjnfnigaaGreatDoor.U

/- bits.Div64: the quotient of two words by one, as Knuth divides; and the program's MulDiv by it. -/
namespace Go.Proofs.YtjhhehjjnfnigaaGreatDoor.U
open Go Go.RowKit Go.Proofs.YtjhhehjjnfnigaaGreatDoor.Q Go.Proofs.YtjhhehjjnfnigaaGreatDoorW.PrintWords Go.Proofs.YtjhhehjjnfnigaaGreatDoorW.PrintLast Go.Proofs.YtjhhehjjnfnigaaGreatDoorW.PrintMore
set_option linter.unusedVariables false
set_option linter.unusedSimpArgs false

theorem le_of_prod {Y q Q M : Int} (hY : 1 ≤ Y) (h1 : q * Y ≤ M) (h2 : M < (Q + 1) * Y) : q ≤ Q := by
  refine Int.not_lt.1 fun h => ?_
  have : (Q + 1) * Y ≤ q * Y := Int.mul_le_mul_of_nonneg_right (by omega) (by omega)
  omega
theorem lt_of_prod {Y q Q M : Int} (hY : 1 ≤ Y) (h1 : M < q * Y) (h2 : Q * Y ≤ M) : Q < q := by
  refine Int.not_le.1 fun h => ?_
  have : q * Y ≤ Q * Y := Int.mul_le_mul_of_nonneg_right h (by omega)
  omega

theorem ev_ex {g : Nat → Option (Int × Int)} {a : Int} (h : ∃ b, ∀ k, g (k + 1) = some (a, b)) : ∃ b, Ev g (a, b) := by
  obtain ⟨b, h⟩ := h
  exact ⟨b, Ev.step h (Ev.now _)⟩

/-- What the two loops of Div64 decide: a guess that is too great, and one that is not. -/
theorem guess (Y y1 y0 u v q r Q : Int) (hY : Y = y1 * 4294967296 + y0) (hy1 : 2147483648 ≤ y1) (hy0 : 0 ≤ y0) (hy0' : y0 < 4294967296) (hu : u < Y) (hv : 0 ≤ v) (hv' : v < 4294967296)
    (hQ1 : Q * Y ≤ u * 4294967296 + v) (hQ2 : u * 4294967296 + v < (Q + 1) * Y) (he : q * y1 + r = u) :
    (q * Y ≤ u * 4294967296 + v ↔ q * y0 ≤ r * 4294967296 + v) ∧ (4294967296 ≤ r → q < 4294967296) ∧ Q < 4294967296 := by
  have e1 : q * Y = (u - r) * 4294967296 + q * y0 := by subst hY; rw [← he]; grind
  refine ⟨by rw [e1, Int.sub_mul]; omega, fun hr => ?_, ?_⟩
  · refine Int.not_le.1 fun h => ?_
    have : 4294967296 * y1 ≤ q * y1 := Int.mul_le_mul_of_nonneg_right h (by omega)
    omega
  · refine Int.not_le.1 fun h => ?_
    have : 4294967296 * Y ≤ Q * Y := Int.mul_le_mul_of_nonneg_right h (by omega)
    omega

section
variable (Y s y1 y0 u v : Int)

theorem div_l0 (z : Int) (hY : Y = y1 * 4294967296 + y0) (hy1 : 2147483648 ≤ y1) (hy1' : y1 < 4294967296) (hy0 : 0 ≤ y0) (hy0' : y0 < 4294967296) (hu0 : 0 ≤ u) (hu : u < Y) (hv : 0 ≤ v) (hv' : v < 4294967296) (Q : Int) (hQ0 : 0 ≤ Q)
    (hQ1 : Q * Y ≤ u * 4294967296 + v) (hQ2 : u * 4294967296 + v < (Q + 1) * Y) {res : Int × Int} (h : Ev (fun k => bits_Div64.j2 k Y s y1 y0 u v z Q) res) :
    ∀ (n : Nat) (q r : Int), Q ≤ q → q - Q ≤ n → 0 ≤ r → r < 4294967296 → q * y1 + r = u → q < 17179869184 → Ev (fun k => bits_Div64.l0 k Y s y1 y0 u v z q r) res := by
  intro n
  induction n with
  | zero =>
    intro q r hq hn hr hr' he hb
    obtain rfl : q = Q := by omega
    obtain ⟨g1, g2, g3⟩ := guess Y y1 y0 u v q r q hY hy1 hy0 hy0' hu hv hv' hQ1 hQ2 he
    have m0 := mul_bd (X := 4294967295) (Y := 4294967295) hQ0 (by omega) hy0 (by omega)
    have ht : ¬ IntKind.u64.wrap (q * y0) > IntKind.u64.wrap (IntKind.u64.wrap (4294967296 * r) + v) := by
      rw [u64id m0.1 (by omega), u64id (n := 4294967296 * r) (by omega) (by omega), u64id (n := 4294967296 * r + v) (by omega) (by omega)]
      have := g1.1 hQ1
      omega
    refine Ev.step (fun k => by rw [bits_Div64.l0, if_neg (by omega), decide_eq_false ht]) ?_
    exact Ev.step (fun k => by rw [bits_Div64.j1, if_neg (by decide)]) h
  | succ n ih =>
    intro q r hq hn hr hr' he hb
    obtain ⟨g1, g2, g3⟩ := guess Y y1 y0 u v q r Q hY hy1 hy0 hy0' hu hv hv' hQ1 hQ2 he
    have down : Q < q → Ev (fun k => bits_Div64.j1 k Y s y1 y0 u v z q r true) res := by
      intro hgt
      have he' : (q - 1) * y1 + (r + y1) = u := by rw [Int.sub_mul]; omega
      by_cases hbig : r + y1 ≥ 4294967296
      · obtain ⟨g1', g2', _⟩ := guess Y y1 y0 u v (q - 1) (r + y1) Q hY hy1 hy0 hy0' hu hv hv' hQ1 hQ2 he'
        have hq32 := g2' hbig
        have m0 := mul_bd (X := 4294967295) (Y := 4294967295) (x := q - 1) (by omega) (by omega) hy0 (by omega)
        have hle := le_of_prod (by omega) (g1'.2 (by omega)) hQ2
        obtain rfl : q - 1 = Q := by omega
        refine Ev.step (fun k => ?_) h
        rw [bits_Div64.j1, if_pos rfl, u64id (n := r + y1) (by omega) (by omega), if_pos hbig, u64id (n := q - 1) (by omega) (by omega)]
      · refine Ev.step (fun k => ?_) (ih (q - 1) (r + y1) (by omega) (by omega) (by omega) (by omega) he' (by omega))
        rw [bits_Div64.j1, if_pos rfl, u64id (n := r + y1) (by omega) (by omega), if_neg hbig, u64id (n := q - 1) (by omega) (by omega)]
    by_cases hbig : q ≥ 4294967296
    · exact Ev.step (fun k => by rw [bits_Div64.l0, if_pos hbig]) (down (by omega))
    · have m0 := mul_bd (X := 4294967295) (Y := 4294967295) (x := q) (by omega) (by omega) hy0 (by omega)
      have e1 : IntKind.u64.wrap (q * y0) = q * y0 := u64id m0.1 (by omega)
      have e2 : IntKind.u64.wrap (IntKind.u64.wrap (4294967296 * r) + v) = 4294967296 * r + v := by rw [u64id (n := 4294967296 * r) (by omega) (by omega), u64id (by omega) (by omega)]
      by_cases ht : q * y0 > 4294967296 * r + v
      · refine Ev.step (fun k => by rw [bits_Div64.l0, if_neg hbig, e1, e2, decide_eq_true ht]) (down ?_)
        refine lt_of_prod (Y := Y) (by omega) (Int.not_le.1 fun hh => ?_) hQ1
        have := g1.1 hh
        omega
      · have hle := le_of_prod (by omega) (g1.2 (by omega)) hQ2
        obtain rfl : q = Q := by omega
        refine Ev.step (fun k => by rw [bits_Div64.l0, if_neg hbig, e1, e2, decide_eq_false ht]) ?_
        exact Ev.step (fun k => by rw [bits_Div64.j1, if_neg (by decide)]) h

/-- The second loop: the lower word of the quotient; the rest is left open. -/
theorem div_l1 (hY : Y = y1 * 4294967296 + y0) (hy1 : 2147483648 ≤ y1) (hy1' : y1 < 4294967296) (hy0 : 0 ≤ y0) (hy0' : y0 < 4294967296) (hu0 : 0 ≤ u) (hu : u < Y) (hv : 0 ≤ v) (hv' : v < 4294967296) (Q : Int) (hQ0 : 0 ≤ Q)
    (hQ1 : Q * Y ≤ u * 4294967296 + v) (hQ2 : u * 4294967296 + v < (Q + 1) * Y) (hs : 0 ≤ s) (P : Int) (hP : 0 ≤ P) (hP' : P < 4294967296) :
    ∀ (n : Nat) (q r : Int), Q ≤ q → q - Q ≤ n → 0 ≤ r → r < 4294967296 → q * y1 + r = u → q < 17179869184 → ∃ rem, Ev (fun k => bits_Div64.l1 k Y s y1 y0 v P r u q) (P * 4294967296 + Q, rem) := by
  intro n
  induction n with
  | zero =>
    intro q r hq hn hr hr' he hb
    obtain rfl : q = Q := by omega
    obtain ⟨g1, g2, g3⟩ := guess Y y1 y0 u v q r q hY hy1 hy0 hy0' hu hv hv' hQ1 hQ2 he
    have m0 := mul_bd (X := 4294967295) (Y := 4294967295) hQ0 (by omega) hy0 (by omega)
    have ht : ¬ IntKind.u64.wrap (q * y0) > IntKind.u64.wrap (IntKind.u64.wrap (4294967296 * r) + v) := by
      rw [u64id m0.1 (by omega), u64id (n := 4294967296 * r) (by omega) (by omega), u64id (n := 4294967296 * r + v) (by omega) (by omega)]
      have := g1.1 hQ1
      omega
    obtain ⟨rem, hrem⟩ : ∃ rem, Ev (fun k => bits_Div64.j4 k Y s y1 y0 v P r u q false) (P * 4294967296 + q, rem) := by
      apply ev_ex
      apply Exists.intro
      intro k
      rw [bits_Div64.j4, if_neg (by decide), if_pos hs, u64id (n := P * 4294967296) (by omega) (by omega), u64id (n := P * 4294967296 + q) (by omega) (by omega)]
    exact ⟨rem, Ev.step (fun k => by rw [bits_Div64.l1, if_neg (by omega), decide_eq_false ht]) hrem⟩
  | succ n ih =>
    intro q r hq hn hr hr' he hb
    obtain ⟨g1, g2, g3⟩ := guess Y y1 y0 u v q r Q hY hy1 hy0 hy0' hu hv hv' hQ1 hQ2 he
    have down : Q < q → ∃ rem, Ev (fun k => bits_Div64.j4 k Y s y1 y0 v P r u q true) (P * 4294967296 + Q, rem) := by
      intro hgt
      have he' : (q - 1) * y1 + (r + y1) = u := by rw [Int.sub_mul]; omega
      by_cases hbig : r + y1 ≥ 4294967296
      · obtain ⟨g1', g2', _⟩ := guess Y y1 y0 u v (q - 1) (r + y1) Q hY hy1 hy0 hy0' hu hv hv' hQ1 hQ2 he'
        have hq32 := g2' hbig
        have m0 := mul_bd (X := 4294967295) (Y := 4294967295) (x := q - 1) (by omega) (by omega) hy0 (by omega)
        have hle := le_of_prod (by omega) (g1'.2 (by omega)) hQ2
        obtain rfl : q - 1 = Q := by omega
        apply ev_ex
        apply Exists.intro
        intro k
        rw [bits_Div64.j4, if_pos rfl, u64id (n := r + y1) (by omega) (by omega), if_pos hbig, if_pos hs, u64id (n := q - 1) (by omega) (by omega), u64id (n := P * 4294967296) (by omega) (by omega), u64id (n := P * 4294967296 + (q - 1)) (by omega) (by omega)]
      · obtain ⟨rem, hrem⟩ := ih (q - 1) (r + y1) (by omega) (by omega) (by omega) (by omega) he' (by omega)
        refine ⟨rem, Ev.step (fun k => ?_) hrem⟩
        rw [bits_Div64.j4, if_pos rfl, u64id (n := r + y1) (by omega) (by omega), if_neg hbig, u64id (n := q - 1) (by omega) (by omega)]
    by_cases hbig : q ≥ 4294967296
    · obtain ⟨rem, hrem⟩ := down (by omega)
      exact ⟨rem, Ev.step (fun k => by rw [bits_Div64.l1, if_pos hbig]) hrem⟩
    · have m0 := mul_bd (X := 4294967295) (Y := 4294967295) (x := q) (by omega) (by omega) hy0 (by omega)
      have e1 : IntKind.u64.wrap (q * y0) = q * y0 := u64id m0.1 (by omega)
      have e2 : IntKind.u64.wrap (IntKind.u64.wrap (4294967296 * r) + v) = 4294967296 * r + v := by rw [u64id (n := 4294967296 * r) (by omega) (by omega), u64id (by omega) (by omega)]
      by_cases ht : q * y0 > 4294967296 * r + v
      · obtain ⟨rem, hrem⟩ := down (by
          refine lt_of_prod (Y := Y) (by omega) (Int.not_le.1 fun hh => ?_) hQ1
          have := g1.1 hh
          omega)
        exact ⟨rem, Ev.step (fun k => by rw [bits_Div64.l1, if_neg hbig, e1, e2, decide_eq_true ht]) hrem⟩
      · have hle := le_of_prod (by omega) (g1.2 (by omega)) hQ2
        obtain rfl : q = Q := by omega
        obtain ⟨rem, hrem⟩ : ∃ rem, Ev (fun k => bits_Div64.j4 k Y s y1 y0 v P r u q false) (P * 4294967296 + q, rem) := by
          apply ev_ex
          apply Exists.intro
          intro k
          rw [bits_Div64.j4, if_neg (by decide), if_pos hs, u64id (n := P * 4294967296) (by omega) (by omega), u64id (n := P * 4294967296 + q) (by omega) (by omega)]
        exact ⟨rem, Ev.step (fun k => by rw [bits_Div64.l1, if_neg hbig, e1, e2, decide_eq_false ht]) hrem⟩
end

/-- The first guess: the upper word by the divisor's upper half. -/
theorem first_guess (Y y1 y0 u v Q : Int) (hY : Y = y1 * 4294967296 + y0) (hy1 : 2147483648 ≤ y1) (hy1' : y1 < 4294967296) (hy0 : 0 ≤ y0) (hu0 : 0 ≤ u) (hu64 : u < 18446744073709551616) (hv : 0 ≤ v) (hv' : v < 4294967296) (hQ0 : 0 ≤ Q) (hQ1 : Q * Y ≤ u * 4294967296 + v) :
    Q ≤ u / y1 ∧ 0 ≤ u / y1 ∧ u / y1 < 17179869184 ∧ 0 ≤ u - u / y1 * y1 ∧ u - u / y1 * y1 < 4294967296 ∧ u / y1 * y1 + (u - u / y1 * y1) = u ∧ u / y1 * y1 ≤ u ∧ 0 ≤ u / y1 * y1 := by
  have h1 := knuth_lower Y y1 y0 u v Q hY hy0 hv hv' hQ0 hQ1
  have h2 := Int.mul_ediv_add_emod u y1
  have h3 := Int.emod_nonneg u (by omega : y1 ≠ 0)
  have h4 := Int.emod_lt_of_pos u (by omega : 0 < y1)
  have h5 : 0 ≤ u / y1 := Int.ediv_nonneg hu0 (by omega)
  have h6 : u / y1 < 17179869184 := by rw [Int.ediv_lt_iff_lt_mul (by omega)]; omega
  have h7 : Q ≤ u / y1 := by rw [Int.le_ediv_iff_mul_le (by omega)]; exact h1
  rw [Int.mul_comm] at h2
  have h8 : 0 ≤ u / y1 * y1 := Int.mul_nonneg h5 (by omega)
  refine ⟨h7, h5, h6, ?_, ?_, ?_, ?_, h8⟩ <;> omega

theorem div_main (s Y y1 y0 u v z : Int) (hY : Y = y1 * 4294967296 + y0) (hy1 : 2147483648 ≤ y1) (hy1' : y1 < 4294967296) (hy0 : 0 ≤ y0) (hy0' : y0 < 4294967296) (hu0 : 0 ≤ u) (hu : u < Y) (hv : 0 ≤ v) (hv' : v < 4294967296) (hz : 0 ≤ z) (hz' : z < 4294967296) (hs : 0 ≤ s) :
    ∃ rem, Ev (fun k => bits_Div64.l0 k Y s y1 y0 u v z (u / y1) (u - u / y1 * y1)) (((u * 4294967296 + v) * 4294967296 + z) / Y, rem) := by
  have hY0 : 1 ≤ Y := by omega
  have hYb : Y < 18446744073709551616 := by omega
  have a1 := Int.mul_ediv_add_emod (u * 4294967296 + v) Y
  have a2 := Int.emod_nonneg (u * 4294967296 + v) (by omega : Y ≠ 0)
  have a3 := Int.emod_lt_of_pos (u * 4294967296 + v) (by omega : 0 < Y)
  have a4 : 0 ≤ (u * 4294967296 + v) / Y := Int.ediv_nonneg (by omega) (by omega)
  generalize (u * 4294967296 + v) / Y = Q at *
  generalize hR : (u * 4294967296 + v) % Y = R at *
  rw [Int.mul_comm] at a1
  have hQ1 : Q * Y ≤ u * 4294967296 + v := by omega
  have hQ2 : u * 4294967296 + v < (Q + 1) * Y := by rw [Int.add_mul]; omega
  have b1 := Int.mul_ediv_add_emod (R * 4294967296 + z) Y
  have b2 := Int.emod_nonneg (R * 4294967296 + z) (by omega : Y ≠ 0)
  have b3 := Int.emod_lt_of_pos (R * 4294967296 + z) (by omega : 0 < Y)
  have b4 : 0 ≤ (R * 4294967296 + z) / Y := Int.ediv_nonneg (by omega) (by omega)
  have tot : ((u * 4294967296 + v) * 4294967296 + z) / Y = Q * 4294967296 + (R * 4294967296 + z) / Y := by
    have e : (u * 4294967296 + v) * 4294967296 + z = (R * 4294967296 + z) + Y * (Q * 4294967296) := by rw [← a1]; grind
    rw [e, Int.add_mul_ediv_left _ _ (by omega)]
    omega
  rw [tot]
  clear tot
  generalize (R * 4294967296 + z) / Y = P at *
  generalize (R * 4294967296 + z) % Y = R2 at *
  rw [Int.mul_comm] at b1
  have hP1 : P * Y ≤ R * 4294967296 + z := by omega
  have hP2 : R * 4294967296 + z < (P + 1) * Y := by rw [Int.add_mul]; omega
  obtain ⟨c1, c2, c3, c4, c5, c6, c7, c8⟩ := first_guess Y y1 y0 u v Q hY hy1 hy1' hy0 hu0 (by omega) hv hv' a4 hQ1
  obtain ⟨d1, d2, d3, d4, d5, d6, d7, d8⟩ := first_guess Y y1 y0 R z P hY hy1 hy1' hy0 a2 (by omega) hz hz' b4 hP1
  have q32 := (guess Y y1 y0 u v _ _ Q hY hy1 hy0 hy0' hu hv hv' hQ1 hQ2 c6).2.2
  obtain ⟨rem, hrem⟩ := div_l1 Y s y1 y0 R z hY hy1 hy1' hy0 hy0' a2 a3 hz hz' P b4 hP1 hP2 hs Q a4 q32 (R / y1 - P).toNat (R / y1) (R - R / y1 * y1) d1 (by omega) d4 d5 d6 d3
  refine ⟨rem, ?_⟩
  refine div_l0 Y s y1 y0 u v z hY hy1 hy1' hy0 hy0' hu0 hu hv hv' Q a4 hQ1 hQ2 ?_ (u / y1 - Q).toNat (u / y1) _ c1 (by omega) c4 c5 c6 c3
  have hw : IntKind.u64.wrap (IntKind.u64.wrap (IntKind.u64.wrap (u * 4294967296) + v) - IntKind.u64.wrap (Q * Y)) = R := by
    simp only [u64w]
    omega
  refine Ev.step (fun k => ?_) hrem
  rw [bits_Div64.j2, if_neg (by omega), hw, tdiv_nn a2, u64id (n := R / y1) d2 (by omega), u64id (n := R / y1 * y1) d8 (by omega), u64id (n := R - R / y1 * y1) d4 (by omega)]

end Go.Proofs.YtjhhehjjnfnigaaGreatDoor.U

/- The program's MulDiv: the quotient of a product, through Div64. -/
namespace Go.Proofs.YtjhhehjjnfnigaaGreatDoor.U
open Go Go.RowKit Go.Proofs.YtjhhehjjnfnigaaGreatDoor.Q Go.Proofs.YtjhhehjjnfnigaaGreatDoorW.PrintWords Go.Proofs.YtjhhehjjnfnigaaGreatDoorW.PrintLast Go.Proofs.YtjhhehjjnfnigaaGreatDoorW.PrintMore
set_option linter.unusedVariables false
set_option linter.unusedSimpArgs false

theorem u64_64 (n : Int) (h0 : 0 ≤ n) (h1 : n < 2 ^ 64) : IntKind.u64.wrap n = n := u64id h0 h1

theorem Div64_ev (hi lo y : Int) (h0 : 0 ≤ hi) (h1 : hi < y) (h2 : y < 18446744073709551616) (h3 : 0 ≤ lo) (h4 : lo < 18446744073709551616) :
    ∃ rem, Ev (fun k => bits_Div64.f k hi lo y) ((hi * 18446744073709551616 + lo) / y, rem) := by
  unfold bits_Div64.f
  simp only [if_neg (show ¬ y = 0 by omega), if_neg (show ¬ y ≤ hi by omega)]
  by_cases hz : hi = 0
  · subst hz
    simp only [if_pos rfl]
    rw [tdiv_nn h3, u64id (Int.ediv_nonneg h3 (by omega)) (by have := Int.ediv_le_self y h3; omega)]
    rw [show (0 * 18446744073709551616 + lo) = lo by omega]
    exact ⟨_, Ev.now _⟩
  · simp only [if_neg hz]
    have hyn : y.toNat ≠ 0 := by omega
    have hy64 : y.toNat < 2 ^ 64 := by omega
    obtain ⟨b1, b2, b3⟩ := Lib.bitLenAux_bounds 64 y.toNat hy64 hyn
    have b4 : Lib.bitLen y.toNat ≤ 64 := Lib.bitLen_le _ 64 (Nat.le_refl _) hy64
    have bl : Lib.bitLenAux 64 y.toNat = Lib.bitLen y.toNat := rfl
    rw [bl] at b1 b2 b3
    have hlz : bits_LeadingZeros64.f y = some (64 - (Lib.bitLen y.toNat : Int)) := by unfold bits_LeadingZeros64.f; rw [if_pos ⟨by omega, h2⟩]
    rw [hlz]
    simp only [Option.bind_some]
    generalize Lib.bitLen y.toNat = L at *
    obtain ⟨s, hs⟩ : ∃ s, L + s = 64 := ⟨64 - L, by omega⟩
    have ew : IntKind.u64.wrap (64 - (L : Int)) = (s : Int) := by rw [u64id (by omega) (by omega)]; omega
    rw [ew]
    have ew2 : IntKind.u64.wrap (64 - (s : Int)) = (L : Int) := by rw [u64id (by omega) (by omega)]; omega
    rw [ew2]
    simp only [if_pos (show (0 : Int) ≤ (s : Int) by omega), if_pos (show (0 : Int) ≤ (L : Int) by omega)]
    have hp : (0 : Int) < 2 ^ s := Int.pow_pos (by decide)
    have hD : (0 : Int) < 2 ^ L := Int.pow_pos (by decide)
    have hpD : (2 : Int) ^ s * 2 ^ L = 18446744073709551616 := by rw [← Int.pow_add, show s + L = 64 from by omega]; rfl
    have hL1 : (2 : Int) ^ L = 2 * 2 ^ (L - 1) := by
      obtain ⟨m, rfl⟩ : ∃ m, L = m + 1 := ⟨L - 1, by omega⟩
      rw [Int.pow_succ, Int.mul_comm]; rfl
    have c2 : (2 : Int) ^ (L - 1) ≤ y := by have : ((2 ^ (L - 1) : Nat) : Int) ≤ (y.toNat : Int) := by exact_mod_cast b2
                                            rw [Int.toNat_of_nonneg (by omega)] at this; exact_mod_cast this
    have c3 : y < (2 : Int) ^ L := by have : ((y.toNat : Nat) : Int) < ((2 ^ L : Nat) : Int) := by exact_mod_cast b3
                                      rw [Int.toNat_of_nonneg (by omega)] at this; exact_mod_cast this
    have hshl : ∀ x : Int, shl .u64 x (s : Int) = x * 2 ^ s % 18446744073709551616 := by
      intro x
      unfold shl
      rw [Int.toNat_natCast, Nat.min_eq_left (by simp [IntKind.bits]; omega), u64w]
    have hshr : shr .u64 lo (L : Int) = lo / 2 ^ L := by
      unfold shr
      rw [Int.toNat_natCast, Nat.min_eq_left (by simp [IntKind.bits]; omega)]
    rw [hshl, hshl, hshl, hshr]
    have hmask : ∀ x : Int, 0 ≤ x → x < 18446744073709551616 → Go.bits .and .u64 x 4294967295 = x % 4294967296 := by
      intro x hx hx'
      exact bits_mask .u64 64 (by decide) u64_64 32 (by decide) x hx hx'
    have hjoin : ∀ a b : Int, 0 ≤ a → a % 2 ^ s = 0 → a < 18446744073709551616 → 0 ≤ b → b < 2 ^ s → Go.bits .or .u64 a b = a + b := by
      intro a b ha hm ha' hb hb'
      have : (2 : Int) ^ s ≤ 18446744073709551616 := by have h_ := Int.mul_le_mul_of_nonneg_left (show (1 : Int) ≤ 2 ^ L by omega) (show (0 : Int) ≤ 2 ^ s by omega); rw [hpD] at h_; omega
      exact bits_join .u64 64 (by decide) u64_64 s a b ha hm (by show a < 18446744073709551616; exact ha') hb hb' (by show b < 18446744073709551616; omega)
    generalize hpp : (2 : Int) ^ s = p at *
    generalize (2 : Int) ^ L = D at *
    generalize (2 : Int) ^ (L - 1) = D1 at *
    have y63 : 9223372036854775808 ≤ y * p := by
      have : D1 * p ≤ y * p := Int.mul_le_mul_of_nonneg_right c2 (by omega)
      have e : 2 * (D1 * p) = 18446744073709551616 := by rw [← hpD, hL1]; grind
      omega
    have y64 : y * p < 18446744073709551616 := by
      have : y * p < D * p := Int.mul_lt_mul_of_pos_right c3 hp
      rw [Int.mul_comm D] at this
      omega
    have hip : hi * p ≤ y * p - p := by
      have : (hi + 1) * p ≤ y * p := Int.mul_le_mul_of_nonneg_right (by omega) (by omega)
      rw [Int.add_mul] at this
      omega
    have hip0 : 0 ≤ hi * p := Int.mul_nonneg h0 (by omega)
    have lo1 : 0 ≤ lo / D := Int.ediv_nonneg h3 (by omega)
    have lo2 : lo / D < p := by
      rw [Int.ediv_lt_iff_lt_mul (by omega)]
      omega
    have lo3 : lo * p = lo / D * 18446744073709551616 + lo * p % 18446744073709551616 := by
      have e1 : lo * p / 18446744073709551616 = lo / D := by rw [← hpD, Int.mul_comm lo, Int.mul_ediv_mul_of_pos _ _ hp]
      rw [← e1]
      omega
    rw [Int.emod_eq_of_lt (by omega) y64, Int.emod_eq_of_lt hip0 (by omega)]
    rw [hmask (y * p) (by omega) y64, hmask (lo * p % 18446744073709551616) (by omega) (by omega), hjoin (hi * p) (lo / D) hip0 (Int.mul_emod_left _ _) (by omega) lo1 lo2]
    simp only [if_neg (show ¬ y * p / 4294967296 = 0 by omega)]
    have hq : (hi * 18446744073709551616 + lo) / y = (((hi * p + lo / D) * 4294967296 + lo * p % 18446744073709551616 / 4294967296) * 4294967296 + lo * p % 18446744073709551616 % 4294967296) / (y * p) := by
      have e : ((hi * p + lo / D) * 4294967296 + lo * p % 18446744073709551616 / 4294967296) * 4294967296 + lo * p % 18446744073709551616 % 4294967296 = (hi * 18446744073709551616 + lo) * p := by
        have : hi * 18446744073709551616 * p = hi * p * 18446744073709551616 := by grind
        rw [Int.add_mul (hi * 18446744073709551616) lo p, this]
        generalize lo * p % 18446744073709551616 = m at *
        omega
      rw [e, Int.mul_ediv_mul_of_pos_left _ _ hp]
    rw [hq]
    have d1 : 0 ≤ hi * p + lo / D := by omega
    have d2 : hi * p + lo / D < y * p := by omega
    have d3 : 0 ≤ lo * p % 18446744073709551616 := by omega
    have d4 : lo * p % 18446744073709551616 < 18446744073709551616 := by omega
    generalize hi * p + lo / D = u at *
    generalize lo * p % 18446744073709551616 = w at *
    generalize y * p = Y at *
    have f1 : 0 ≤ u / (Y / 4294967296) := Int.ediv_nonneg d1 (by omega)
    have f2 : u / (Y / 4294967296) ≤ u := Int.ediv_le_self _ d1
    have f3 := Int.mul_ediv_add_emod u (Y / 4294967296)
    have f4 := Int.emod_nonneg u (show Y / 4294967296 ≠ 0 by omega)
    have f5 : 0 ≤ u / (Y / 4294967296) * (Y / 4294967296) := Int.mul_nonneg f1 (by omega)
    rw [Int.mul_comm] at f3
    rw [tdiv_nn d1, u64id (n := u / (Y / 4294967296)) f1 (by omega), u64id (n := u / (Y / 4294967296) * (Y / 4294967296)) f5 (by omega), u64id (n := u - u / (Y / 4294967296) * (Y / 4294967296)) (by omega) (by omega)]
    exact div_main (s : Int) Y (Y / 4294967296) (Y % 4294967296) u (w / 4294967296) (w % 4294967296) (by omega) (by omega) (by omega) (by omega) (by omega) d1 d2 (by omega) (by omega) (by omega) (by omega) (by omega)

/-- The program's MulDiv. -/
theorem MulDiv_ev (a b c : Int) (ha : 0 ≤ a) (ha' : a ≤ 1000000000000000000) (hb : 0 ≤ b) (hb' : b ≤ 1000000000000000000) (hc : 1 ≤ c) (hc' : c ≤ 1000000000000000000) :
    Ev (fun k => impl_MulDiv.f k a b c) (if a * b / c ≤ 1000000000000000000 then (a * b / c, 0) else (0, 13)) := by
  unfold impl_MulDiv.f
  simp only [isAmount_eq, isSome_eq, someB, decide_eq_true (show 0 ≤ a ∧ a ≤ 1000000000000000000 from ⟨ha, ha'⟩), decide_eq_true (show 0 ≤ b ∧ b ≤ 1000000000000000000 from ⟨hb, hb'⟩), decide_eq_true (show 1 ≤ c ∧ c ≤ 1000000000000000000 from ⟨hc, hc'⟩), Option.bind_some, if_true, Bool.not_true]
  have hm := mul_bd ha ha' hb hb'
  have hP0 := hm.1
  have hmul : bits_Mul64.f a b = some (a * b / 18446744073709551616, a * b % 18446744073709551616) := by
    unfold bits_Mul64.f
    rw [if_pos ⟨ha, by omega, hb, by omega⟩]
  have hstep : ∀ k, impl_MulDiv.j0 (k + 1) a b c false = (if a * b / 18446744073709551616 ≥ c then some (0, 13) else (bits_Div64.f k (a * b / 18446744073709551616) (a * b % 18446744073709551616) c).bind fun bt198 => if bt198.1 > 1000000000000000000 then some (0, 13) else some (wrap64 bt198.1, 0)) := by
    intro k
    rw [impl_MulDiv.j0, if_neg (by decide), u64id (n := a) (by omega) (by omega), u64id (n := b) (by omega) (by omega), u64id (n := c) (by omega) (by omega), hmul]
    rfl
  refine Ev.step hstep ?_
  have e := Int.mul_ediv_add_emod (a * b) 18446744073709551616
  generalize a * b = P at *
  have hh : 0 ≤ P / 18446744073709551616 := Int.ediv_nonneg hP0 (by decide)
  by_cases hge : P / 18446744073709551616 ≥ c
  · simp only [if_pos hge]
    have : 1000000000000000001 ≤ P / c := by rw [Int.le_ediv_iff_mul_le (by omega)]; omega
    rw [if_neg (by omega)]
    exact Ev.now _
  · simp only [if_neg hge]
    obtain ⟨rem, hrem⟩ := Div64_ev (P / 18446744073709551616) (P % 18446744073709551616) c hh (by omega) (by omega) (by omega) (by omega)
    rw [show P / 18446744073709551616 * 18446744073709551616 + P % 18446744073709551616 = P from by omega] at hrem
    refine Ev.bind hrem ?_
    have hq0 : 0 ≤ P / c := Int.ediv_nonneg hP0 (by omega)
    by_cases hbig : P / c > 1000000000000000000
    · simp only [if_pos hbig, if_neg (show ¬ P / c ≤ 1000000000000000000 by omega)]
      exact Ev.now _
    · simp only [if_neg hbig, if_pos (show P / c ≤ 1000000000000000000 by omega), wid (n := P / c) (by omega) (by omega)]
      exact Ev.now _

end Go.Proofs.YtjhhehjjnfnigaaGreatDoor.U

/- What a payment buys of an order: the program's and the reference's. -/
namespace Go.Proofs.YtjhhehjjnfnigaaGreatDoor.U
open Go Go.RowKit Go.Proofs.YtjhhehjjnfnigaaGreatDoor.Q Go.Proofs.YtjhhehjjnfnigaaGreatDoorW.PrintWords Go.Proofs.YtjhhehjjnfnigaaGreatDoorW.PrintLast Go.Proofs.YtjhhehjjnfnigaaGreatDoorW.PrintMore
set_option linter.unusedVariables false
set_option linter.unusedSimpArgs false

def fillV (sell want left : Int) (opn : Bool) (pay : Int) : Int × Int :=
  if opn = true then (if pay * sell / want > left then (0, 13) else if pay * sell / want = 0 then (0, 17) else (pay * sell / want, 0)) else (0, 16)
theorem l09Fill_ev (id maker : ByteArray) (sell want left : Int) (opn : Bool) (pay : Int) (hs : 1 ≤ sell ∧ sell ≤ 1000000000000000000) (hw : 1 ≤ want ∧ want ≤ 1000000000000000000) (hl : 0 ≤ left ∧ left ≤ sell) (hp : 1 ≤ pay ∧ pay ≤ 1000000000000000000) : Ev (fun k => spec_l09Fill.f k id maker sell want left opn pay) (fillV sell want left opn pay) := by
  have hb : 1 ≤ sell ∧ sell ≤ 1000000000000000000 ∧ 1 ≤ want ∧ want ≤ 1000000000000000000 ∧ 0 ≤ left ∧ left ≤ sell := by omega
  unfold spec_l09Fill.f fillV
  cases opn with
  | false => exact Ev.now _
  | true =>
    simp only [if_true]
    refine Ev.bind (l02MulDiv_ev pay sell want (by omega) hp.2 (by omega) hb.2.1 hb.2.2.1 hb.2.2.2.1) ?_
    have hbad : ∀ q, Ev (fun k => spec_l09Fill.j0 k q true) (0, 13) := fun q => Ev.step (fun k => by rw [spec_l09Fill.j0, if_pos rfl]) (Ev.now _)
    by_cases c : pay * sell / want ≤ 1000000000000000000
    · simp only [if_pos c, if_true]
      by_cases g : pay * sell / want > left
      · simp only [decide_eq_true g, if_pos g]; exact hbad _
      · simp only [decide_eq_false g, if_neg g]
        refine Ev.step (f := fun _ => if pay * sell / want = 0 then some (0, 17) else some (pay * sell / want, 0)) (fun k => by rw [spec_l09Fill.j0, if_neg (by decide)]) ?_
        by_cases z : pay * sell / want = 0
        · simp only [if_pos z]; exact Ev.now _
        · simp only [if_neg z]; exact Ev.now _
    · simp only [if_neg c]
      rw [if_pos (by omega)]
      exact hbad _
theorem orderFill_ev (id maker : ByteArray) (sell want left : Int) (opn : Bool) (pay : Int) (hs : 1 ≤ sell ∧ sell ≤ 1000000000000000000) (hw : 1 ≤ want ∧ want ≤ 1000000000000000000) (hl : 0 ≤ left ∧ left ≤ sell) (hp : 1 ≤ pay ∧ pay ≤ 1000000000000000000) : Ev (fun k => impl_Order_fill.f k id maker sell want left opn pay) (fillV sell want left opn pay) := by
  have hb : 1 ≤ sell ∧ sell ≤ 1000000000000000000 ∧ 1 ≤ want ∧ want ≤ 1000000000000000000 ∧ 0 ≤ left ∧ left ≤ sell := by omega
  unfold impl_Order_fill.f
  simp only [isSome_eq, someB, decide_eq_true hp, Option.bind_some, if_true]
  unfold fillV
  cases opn with
  | false => exact Ev.now _
  | true =>
    simp only [if_true]
    refine Ev.bind (MulDiv_ev pay sell want (by omega) hp.2 (by omega) hb.2.1 hb.2.2.1 hb.2.2.2.1) ?_
    have hbad : ∀ q, Ev (fun k => impl_Order_fill.j0 k q true) (0, 13) := fun q => Ev.step (fun k => by rw [impl_Order_fill.j0, if_pos rfl]) (Ev.now _)
    by_cases c : pay * sell / want ≤ 1000000000000000000
    · simp only [if_pos c, if_true]
      by_cases g : pay * sell / want > left
      · simp only [decide_eq_true g, if_pos g]; exact hbad _
      · simp only [decide_eq_false g, if_neg g]
        refine Ev.step (f := fun _ => if pay * sell / want = 0 then some (0, 17) else some (pay * sell / want, 0)) (fun k => by rw [impl_Order_fill.j0, if_neg (by decide)]) ?_
        by_cases z : pay * sell / want = 0
        · simp only [if_pos z]; exact Ev.now _
        · simp only [if_neg z]; exact Ev.now _
    · simp only [if_neg c, if_neg (show ¬ (13 : Int) = 0 by decide)]
      rw [if_pos (by omega)]
      exact hbad _
theorem fill_bd {sell want left pay : Int} {opn : Bool} (hs : 1 ≤ sell) (hw : 1 ≤ want) (hp : 1 ≤ pay) (h : (fillV sell want left opn pay).2 = 0) : 1 ≤ (fillV sell want left opn pay).1 ∧ (fillV sell want left opn pay).1 ≤ left := by
  have h0 : 0 ≤ pay * sell / want := Int.ediv_nonneg (Int.mul_nonneg (by omega) (by omega)) (by omega)
  unfold fillV at *
  split at h
  · split at h
    · cases h
    · split at h
      · cases h
      · rename_i h1 h2 h3
        rw [if_pos h1, if_neg h2, if_neg h3]
        simp only
        omega
  · cases h
end Go.Proofs.YtjhhehjjnfnigaaGreatDoor.U

/- What a name's code is. -/
namespace Go.Proofs.YtjhhehjjnfnigaaGreatDoor.U
open Go Go.RowKit Go.Proofs.YtjhhehjjnfnigaaGreatDoor.Q Go.Proofs.YtjhhehjjnfnigaaGreatDoorW.PrintWords Go.Proofs.YtjhhehjjnfnigaaGreatDoorW.PrintLast Go.Proofs.YtjhhehjjnfnigaaGreatDoorW.PrintMore
set_option linter.unusedVariables false
set_option linter.unusedSimpArgs false

/-- The code of a chain's name, of its store and of texts. -/
def nameC (a : ByteArray) (l : List IP) (ts : List ByteArray) : Int := if a.size ≤ 65536 ∧ l.length ≤ 4096 ∧ (∀ t ∈ ts, t.size ≤ 65536) then (if (chainB a && storeB l) = true then 0 else 1) else 2
theorem nameCode_ev (a : ByteArray) (l : List IP) (ts : List ByteArray) (hl : l.length ≤ 1048576) : Ev (fun k => impl_nameCode.f k a l ts) (nameC a l ts) := by
  unfold impl_nameCode.f nameC
  have e : (∀ t ∈ [a], t.size ≤ 65536) ↔ a.size ≤ 65536 := by simp
  simp only [isText_eq, e, Option.bind_some]
  have bad : Ev (fun k => impl_nameCode.j0 k a l true) 2 := Ev.step (f := fun _ => some 2) (fun k => by rw [impl_nameCode.j0, if_pos rfl]) (Ev.now _)
  by_cases h1 : a.size ≤ 65536
  · rw [decide_eq_true h1]
    simp only [if_true, impl_isList_impl_Pair.f, Option.bind_some]
    by_cases h2 : l.length ≤ 4096
    · have e2 : (decide ((l.length : Int) ≤ 4096)) = true := decide_eq_true (by omega)
      simp only [e2, if_true]
      by_cases h3 : ∀ t ∈ ts, t.size ≤ 65536
      · rw [decide_eq_true h3]
        rw [if_pos ⟨h1, h2, h3⟩]
        refine Ev.step (fun k => by rw [impl_nameCode.j0, if_neg (by decide), isChain_eq]) ?_
        simp only [Option.bind_some]
        cases chainB a with
        | false => exact Ev.now _
        | true =>
          simp only [if_true, Bool.true_and]
          refine Ev.bind (implStoreOK_ev l hl) ?_
          cases storeB l with
          | true => exact Ev.now _
          | false => exact Ev.now _
      · rw [decide_eq_false h3, if_neg (fun e => h3 e.2.2)]; exact bad
    · have e2 : (decide ((l.length : Int) ≤ 4096)) = false := decide_eq_false (by omega)
      simp only [e2, Bool.false_eq_true, if_false]
      rw [if_neg (fun e => h2 e.2.1)]; exact bad
  · rw [decide_eq_false h1, if_neg (fun e => h1 e.1)]
    simp only [Bool.false_eq_true, if_false]; exact bad
theorem l08Code_ev (a : ByteArray) (l : List IP) (hl : l.length ≤ 1048576) (h4 : l.length ≤ 4096) : Ev (fun k => spec_l08Code.f k a l) (if (chainB a && storeB l) = true then 0 else 1) := by
  unfold spec_l08Code.f chainB
  simp only [if_neg (show ¬ (l.length : Int) > 4096 by omega)]
  have hs : Ev (fun k => (spec_StoreOK.f k l).bind fun t => if t = true then some 0 else some 1) (if storeB l = true then (0 : Int) else 1) := by
    refine Ev.bind (specStoreOK_ev l hl) ?_
    cases storeB l with
    | true => exact Ev.now _
    | false => exact Ev.now _
  by_cases h1 : a.toList = ([120] : List UInt8)
  · simp only [if_pos h1, h1, beq_self_eq_true, Bool.true_or, Bool.true_and]; exact hs
  · simp only [if_neg h1, beq_eq_false_iff_ne.2 h1, Bool.false_or]
    by_cases h2 : a.toList = ([121] : List UInt8)
    · simp only [if_pos h2, h2, beq_self_eq_true, Bool.true_and]; exact hs
    · simp only [if_neg h2, beq_eq_false_iff_ne.2 h2, Bool.false_and, Bool.false_eq_true, if_false]; exact Ev.now _
/-- The exported functions' own tests. -/
theorem nameC_cases (a : ByteArray) (l : List IP) (ts : List ByteArray) : nameC a l ts = 0 → chainB a = true ∧ storeB l = true ∧ (∀ t ∈ ts, t.size ≤ 65536) := by
  unfold nameC
  intro h
  split at h
  · rename_i h1
    split at h
    · rename_i h2
      rw [Bool.and_eq_true] at h2
      exact ⟨h2.1, h2.2, h1.2.2⟩
    · cases h
  · cases h
end Go.Proofs.YtjhhehjjnfnigaaGreatDoor.U

/- Takes that are read. -/
namespace Go.Proofs.YtjhhehjjnfnigaaGreatDoor.U
open Go Go.RowKit Go.Proofs.YtjhhehjjnfnigaaGreatDoor.Q Go.Proofs.YtjhhehjjnfnigaaGreatDoorW.PrintWords Go.Proofs.YtjhhehjjnfnigaaGreatDoorW.PrintLast Go.Proofs.YtjhhehjjnfnigaaGreatDoorW.PrintMore
set_option linter.unusedVariables false
set_option linter.unusedSimpArgs false

noncomputable def takeB (id maker taker : ByteArray) (pay : Int) : Bool := nameB id && (peopleB maker && (peopleB taker && someB pay))
theorem takeB_parts {id maker taker : ByteArray} {pay : Int} (h : takeB id maker taker pay = true) : nameB id = true ∧ peopleB maker = true ∧ peopleB taker = true ∧ 1 ≤ pay ∧ pay ≤ 1000000000000000000 := by
  unfold takeB someB at h
  simp only [Bool.and_eq_true, decide_eq_true_iff] at h
  exact ⟨h.1, h.2.1, h.2.2.1, h.2.2.2.1, h.2.2.2.2⟩
theorem takeRight_ev (id maker taker : ByteArray) (pay : Int) (h1 : id.size ≤ 1048576) (h2 : maker.size ≤ 1048576) (h3 : taker.size ≤ 1048576) : Ev (fun k => impl_take_isRight.f k id maker taker pay) (takeB id maker taker pay) := by
  unfold impl_take_isRight.f takeB
  refine Ev.bind (areNames_ev [id] (by simp) (by intro x hx; simp only [List.mem_singleton] at hx; subst hx; omega)) ?_
  simp only [List.all_cons, List.all_nil, Bool.and_true]
  cases nameB id with
  | false => exact Ev.now _
  | true =>
    simp only [if_true, Bool.true_and]
    refine Ev.bind (isPeople_ev [maker, taker] (by simp) (by
      intro x hx
      simp only [List.mem_cons, List.mem_nil_iff, or_false] at hx
      rcases hx with rfl | rfl <;> omega)) ?_
    simp only [List.all_cons, List.all_nil, Bool.and_true]
    cases peopleB maker with
    | false => exact Ev.now _
    | true =>
      simp only [Bool.true_and]
      cases peopleB taker with
      | false => exact Ev.now _
      | true =>
        simp only [if_true, Bool.true_and, isSome_eq, Option.bind_some]
        exact Ev.now _
abbrev Tk := ByteArray × ByteArray × ByteArray × Int
noncomputable def takeO (a : ByteArray) : Option Tk :=
  match readV a with
  | some [h, i, m, t, n] => if (h.toList == ([107] : List UInt8) && takeB i m t (amtV n)) = true then some (i, m, t, amtV n) else none
  | _ => none
/-- A take and whether it is one. -/
def takR (x : Tk) : Option Tk → ByteArray × ByteArray × ByteArray × Int × Bool
  | some (a, b, c, d) => (a, b, c, d, true)
  | none => (x.1, x.2.1, x.2.2.1, x.2.2.2, false)
theorem takR_some {x : Tk} {o : Option Tk} {r : ByteArray × ByteArray × ByteArray × Int × Bool} (h : takR x o = r) : (r.2.2.2.2 = true → o = some (r.1, r.2.1, r.2.2.1, r.2.2.2.1)) ∧ (r.2.2.2.2 = false → o = none) := by
  subst h
  cases o with
  | none => exact ⟨fun h => by simp [takR] at h, fun _ => rfl⟩
  | some y => obtain ⟨a, b, c, d⟩ := y; exact ⟨fun _ => rfl, fun h => by simp [takR] at h⟩
theorem take_five {α : Type} (l : List α) (h : l.length = 5) : ∃ x y z u v, l = [x, y, z, u, v] := by
  match l, h with
  | [x, y, z, u, v], _ => exact ⟨x, y, z, u, v, rfl⟩
theorem takeO_ne (a : ByteArray) (l : List ByteArray) (h : readV a = some l) (hl : l.length ≠ 5) : takeO a = none := by
  unfold takeO
  rw [h]
  match l with
  | [] => rfl
  | [_] => rfl
  | [_, _] => rfl
  | [_, _, _] => rfl
  | [_, _, _, _] => rfl
  | [_, _, _, _, _] => exact absurd rfl hl
  | _ :: _ :: _ :: _ :: _ :: _ :: _ => rfl
theorem someB_max0 (n : Int) : someB (max0 n) = someB n := by
  unfold someB max0
  by_cases h : 0 ≤ n
  · rw [if_pos h]
  · rw [if_neg h, decide_eq_false (by omega), decide_eq_false (by omega)]
theorem takeB_max0 (i m t : ByteArray) (n : Int) : takeB i m t (max0 n) = takeB i m t n := by unfold takeB; rw [someB_max0]
theorem implTakeOf_sz (a : ByteArray) (ha : a.size ≤ 1048576) : ∃ x : Tk, x.1.size ≤ 1048576 ∧ Ev (fun k => impl_takeOf.f k a) (takR x (takeO a)) := by
  unfold impl_takeOf.f
  obtain ⟨x, hx⟩ := readFields_ev a (by omega)
  have hbad : ∀ x4, Ev (fun k => impl_takeOf.j0 k x4 true) ((⟨#[]⟩ : ByteArray), (⟨#[]⟩ : ByteArray), (⟨#[]⟩ : ByteArray), 0, false) := fun x4 => Ev.step (fun k => by rw [impl_takeOf.j0, if_pos rfl]) (Ev.now _)
  have hbad2 : takeO a = none → ∀ x4, ∃ x : Tk, x.1.size ≤ 1048576 ∧ Ev (fun k => impl_takeOf.j0 k x4 true) (takR x (takeO a)) := fun e x4 => ⟨((⟨#[]⟩ : ByteArray), (⟨#[]⟩ : ByteArray), (⟨#[]⟩ : ByteArray), 0), (by decide), by rw [e]; exact hbad x4⟩
  cases hr : readV a with
  | none =>
    have e : takeO a = none := by unfold takeO; rw [hr]
    obtain ⟨y, hyz, hy⟩ := hbad2 e x
    refine ⟨y, hyz, Ev.bind hx ?_⟩
    rw [hr]
    simp only [readR, Bool.false_eq_true, if_false]
    exact hy
  | some fs =>
    obtain ⟨hv1, _, hfs⟩ := readV_of hr
    by_cases h5 : fs.length = 5
    · obtain ⟨h, i, m, t, n, rfl⟩ := take_five fs h5
      have hi := hfs i (by simp)
      have hm := hfs m (by simp)
      have ht := hfs t (by simp)
      have hn := hfs n (by simp)
      have L5 : ((([h, i, m, t, n] : List ByteArray).length : Nat) : Int) = 5 := rfl
      have e2 : takeO a = if (h.toList == ([107] : List UInt8) && takeB i m t (amtV n)) = true then some (i, m, t, amtV n) else none := by unfold takeO; rw [hr]
      have d0 : rdOf ByteArray.empty [h, i, m, t, n] 0 = h := rfl
      have d1 : rdOf ByteArray.empty [h, i, m, t, n] 1 = i := rfl
      have d2 : rdOf ByteArray.empty [h, i, m, t, n] 2 = m := rfl
      have d3 : rdOf ByteArray.empty [h, i, m, t, n] 3 = t := rfl
      have d4 : rdOf ByteArray.empty [h, i, m, t, n] 4 = n := rfl
      by_cases hk : h.toList = ([107] : List UInt8)
      · obtain ⟨b, hb⟩ := readAmount_fst n (by omega)
        refine ⟨(i, m, t, max0 (amtV n)), (by simp only; omega), Ev.bind hx ?_⟩
        rw [hr]
        simp only [readR, List.nil_append, if_true, L5, if_pos (show (0 : Int) < 5 by decide), d0, hk, bne_self_eq_false]
        refine Ev.step (f := fun k => (impl_take_isRight.f k i m t (max0 (amtV n))).bind fun q => some (i, m, t, max0 (amtV n), q)) (fun k => by
          rw [impl_takeOf.j0, if_neg (by decide), L5, d1, d2, d3, d4, if_pos (show (4 : Int) < 5 by decide), hb]
          simp only [Option.bind_some, if_pos (show (1 : Int) < 5 by decide), if_pos (show (2 : Int) < 5 by decide), if_pos (show (3 : Int) < 5 by decide)]) ?_
        refine Ev.bind (takeRight_ev i m t _ (by omega) (by omega) (by omega)) ?_
        rw [takeB_max0, e2, hk]
        simp only [beq_self_eq_true, Bool.true_and]
        cases hT : takeB i m t (amtV n) with
        | false => exact Ev.now _
        | true =>
          have := (takeB_parts hT).2.2.2
          have e3 : max0 (amtV n) = amtV n := by unfold max0; rw [if_pos (by omega)]
          rw [e3]
          exact Ev.now _
      · have e : takeO a = none := by rw [e2, beq_eq_false_iff_ne.2 hk]; rfl
        obtain ⟨y, hyz, hy⟩ := hbad2 e [h, i, m, t, n]
        refine ⟨y, hyz, Ev.bind hx ?_⟩
        rw [hr]
        simp only [readR, List.nil_append, if_true, L5, if_pos (show (0 : Int) < 5 by decide), d0, bne_iff_ne.2 hk]
        exact hy
    · have e : takeO a = none := takeO_ne a fs hr h5
      obtain ⟨y, hyz, hy⟩ := hbad2 e fs
      refine ⟨y, hyz, Ev.bind hx ?_⟩
      rw [hr]
      have hne : ¬ (((readR x [] (some fs)).1.length : Nat) : Int) = 5 := by simp only [readR, List.nil_append]; omega
      simp only [if_neg hne]
      simp only [readR, List.nil_append, if_true]
      exact hy
theorem l09ReadTake_ev (a : ByteArray) (ha : a.size ≤ 1048576) : ∃ x, Ev (fun k => spec_l09ReadTake.f k a) (takR x (takeO a)) := by
  unfold spec_l09ReadTake.f
  obtain ⟨x, hx⟩ := l02Read_ev a (by omega)
  have hb : ∀ b : Bool, b = false → takeO a = none → ∃ x, Ev (fun _ => some ((⟨#[]⟩ : ByteArray), (⟨#[]⟩ : ByteArray), (⟨#[]⟩ : ByteArray), (0 : Int), false)) (takR x (takeO a)) := fun _ _ e => ⟨((⟨#[]⟩ : ByteArray), (⟨#[]⟩ : ByteArray), (⟨#[]⟩ : ByteArray), 0), by rw [e]; exact Ev.now _⟩
  cases hr : readV a with
  | none =>
    have e : takeO a = none := by unfold takeO; rw [hr]
    obtain ⟨y, hy⟩ := hb false rfl e
    refine ⟨y, Ev.bind hx ?_⟩
    rw [hr]
    simp only [readR, Bool.false_eq_true, if_false]
    exact hy
  | some fs =>
    obtain ⟨hv1, _, hfs⟩ := readV_of hr
    by_cases h5 : fs.length = 5
    · obtain ⟨h, i, m, t, n, rfl⟩ := take_five fs h5
      have hn := hfs n (by simp)
      have L5 : ((([h, i, m, t, n] : List ByteArray).length : Nat) : Int) = 5 := rfl
      have e2 : takeO a = if (h.toList == ([107] : List UInt8) && takeB i m t (amtV n)) = true then some (i, m, t, amtV n) else none := by unfold takeO; rw [hr]
      have d0 : rdOf ByteArray.empty [h, i, m, t, n] 0 = h := rfl
      have d1 : rdOf ByteArray.empty [h, i, m, t, n] 1 = i := rfl
      have d2 : rdOf ByteArray.empty [h, i, m, t, n] 2 = m := rfl
      have d3 : rdOf ByteArray.empty [h, i, m, t, n] 3 = t := rfl
      have d4 : rdOf ByteArray.empty [h, i, m, t, n] 4 = n := rfl
      have bad : (h.toList == ([107] : List UInt8) && takeB i m t (amtV n)) = false → takeO a = none := fun e => by rw [e2, e]; rfl
      have go : ∃ x, Ev (fun k => if (5 : Int) = 5 then (if (0 : Int) < 5 then (if h.toList = ([107] : List UInt8) then (if (1 : Int) < 5 then ((spec_l05Name.f k i).bind fun t329 => (if t329 = true then (if (2 : Int) < 5 then ((spec_l08Name.f k m).bind fun t331 => (if t331 = true then (if (3 : Int) < 5 then ((spec_l08Name.f k t).bind fun t333 => (if t333 = true then (if (4 : Int) < 5 then ((spec_l02Of.f k n).bind fun t335 => (some (i, m, t, t335, decide (t335 > 0)))) else (none)) else (some ((⟨#[]⟩ : ByteArray), (⟨#[]⟩ : ByteArray), (⟨#[]⟩ : ByteArray), (0 : Int), false)))) else (none)) else (some ((⟨#[]⟩ : ByteArray), (⟨#[]⟩ : ByteArray), (⟨#[]⟩ : ByteArray), 0, false)))) else (none)) else (some ((⟨#[]⟩ : ByteArray), (⟨#[]⟩ : ByteArray), (⟨#[]⟩ : ByteArray), 0, false)))) else (none)) else (some ((⟨#[]⟩ : ByteArray), (⟨#[]⟩ : ByteArray), (⟨#[]⟩ : ByteArray), 0, false))) else (none)) else (some ((⟨#[]⟩ : ByteArray), (⟨#[]⟩ : ByteArray), (⟨#[]⟩ : ByteArray), 0, false))) (takR x (takeO a)) := by
        simp only [if_true, show (0 : Int) < 5 by decide, show (1 : Int) < 5 by decide, show (2 : Int) < 5 by decide, show (3 : Int) < 5 by decide, show (4 : Int) < 5 by decide]
        by_cases hk : h.toList = ([107] : List UInt8)
        · simp only [if_pos hk]
          cases h1 : nameB i with
          | false =>
            obtain ⟨y, hy⟩ := hb false rfl (bad (by unfold takeB; rw [h1]; simp))
            refine ⟨y, Ev.bind (l05Name_ev i) ?_⟩
            rw [h1]
            simp only [Bool.false_eq_true, if_false]
            exact hy
          | true =>
            cases h2 : peopleB m with
            | false =>
              obtain ⟨y, hy⟩ := hb false rfl (bad (by unfold takeB; rw [h1, h2]; simp))
              refine ⟨y, Ev.bind (l05Name_ev i) ?_⟩
              rw [h1]
              simp only [if_true]
              refine Ev.bind (l08Name_ev m) ?_
              rw [h2]
              simp only [Bool.false_eq_true, if_false]
              exact hy
            | true =>
              cases h3 : peopleB t with
              | false =>
                obtain ⟨y, hy⟩ := hb false rfl (bad (by unfold takeB; rw [h1, h2, h3]; simp))
                refine ⟨y, Ev.bind (l05Name_ev i) ?_⟩
                rw [h1]
                simp only [if_true]
                refine Ev.bind (l08Name_ev m) ?_
                rw [h2]
                simp only [if_true]
                refine Ev.bind (l08Name_ev t) ?_
                rw [h3]
                simp only [Bool.false_eq_true, if_false]
                exact hy
              | true =>
                refine ⟨(i, m, t, amtV n), Ev.bind (l05Name_ev i) ?_⟩
                rw [h1]
                simp only [if_true]
                refine Ev.bind (l08Name_ev m) ?_
                rw [h2]
                simp only [if_true]
                refine Ev.bind (l08Name_ev t) ?_
                rw [h3]
                simp only [if_true]
                refine Ev.bind (l02Of_ev n (by omega)) ?_
                have e3 : takeB i m t (amtV n) = decide (amtV n > 0) := by
                  unfold takeB someB
                  rw [h1, h2, h3, Bool.true_and, Bool.true_and, Bool.true_and, decide_eq_decide]
                  constructor
                  · rintro ⟨a1, a2⟩; omega
                  · intro a1; exact ⟨by omega, (amtV_eq (a := n) (by omega)).2⟩
                rw [e2, e3, hk]
                simp only [beq_self_eq_true, Bool.true_and]
                cases decide (amtV n > 0) with
                | false => exact Ev.now _
                | true => exact Ev.now _
        · simp only [if_neg hk]
          exact hb false rfl (bad (by rw [beq_eq_false_iff_ne.2 hk]; rfl))
      obtain ⟨y, hy⟩ := go
      refine ⟨y, Ev.bind hx ?_⟩
      rw [hr]
      simp only [readR, List.nil_append, if_true, L5, d0, d1, d2, d3, d4]
      simp only [if_true] at hy
      exact hy
    · obtain ⟨y, hy⟩ := hb false rfl (takeO_ne a fs hr h5)
      refine ⟨y, Ev.bind hx ?_⟩
      rw [hr]
      have hne : ¬ (((readR x [] (some fs)).1.length : Nat) : Int) = 5 := by simp only [readR, List.nil_append]; omega
      simp only [if_neg hne]
      simp only [readR, List.nil_append, if_true]
      exact hy
end Go.Proofs.YtjhhehjjnfnigaaGreatDoor.U

/- Orders that are taken: what the program and the reference answer. -/
namespace Go.Proofs.YtjhhehjjnfnigaaGreatDoor.U
open Go Go.RowKit Go.Proofs.YtjhhehjjnfnigaaGreatDoor.Q Go.Proofs.YtjhhehjjnfnigaaGreatDoorW.PrintWords Go.Proofs.YtjhhehjjnfnigaaGreatDoorW.PrintLast Go.Proofs.YtjhhehjjnfnigaaGreatDoorW.PrintMore
set_option linter.unusedVariables false
set_option linter.unusedSimpArgs false

noncomputable def takeV (name : ByteArray) (l : List IP) (data : ByteArray) : List IP × Bool :=
  match takeO data with
  | none => (l, false)
  | some t => match orderO t.1 (getV l (okey t.1)).1 with
    | none => (l, false)
    | some y => if y.2.1.toList = t.2.1.toList then (if (fillV y.2.2.1 y.2.2.2.1 y.2.2.2.2.1 y.2.2.2.2.2 t.2.2.2).2 = 0 then ((stepO l ordersB t.2.2.1 name (fillV y.2.2.1 y.2.2.2.1 y.2.2.2.2.1 y.2.2.2.2.2 t.2.2.2).1 t.1 y.2.1 y.2.2.1 y.2.2.2.1 (y.2.2.2.2.1 - (fillV y.2.2.1 y.2.2.2.1 y.2.2.2.2.1 y.2.2.2.2.2 t.2.2.2).1) (decide (0 < y.2.2.2.2.1 - (fillV y.2.2.1 y.2.2.2.1 y.2.2.2.2.1 y.2.2.2.2.2 t.2.2.2).1))).1, (stepO l ordersB t.2.2.1 name (fillV y.2.2.1 y.2.2.2.1 y.2.2.2.2.1 y.2.2.2.2.2 t.2.2.2).1 t.1 y.2.1 y.2.2.1 y.2.2.2.1 (y.2.2.2.2.1 - (fillV y.2.2.1 y.2.2.2.1 y.2.2.2.2.1 y.2.2.2.2.2 t.2.2.2).1) (decide (0 < y.2.2.2.2.1 - (fillV y.2.2.1 y.2.2.2.1 y.2.2.2.2.1 y.2.2.2.2.2 t.2.2.2).1))).2 == 0) else (l, false)) else (l, false)
theorem takeO_right {data : ByteArray} {t : Tk} (h : takeO data = some t) : takeB t.1 t.2.1 t.2.2.1 t.2.2.2 = true := by
  unfold takeO at h
  split at h
  · split at h
    · rename_i h1
      rw [Bool.and_eq_true] at h1
      cases h
      exact h1.2
    · cases h
  · cases h
theorem implTakeOrder_ev (name : ByteArray) (l : List IP) (data : ByteArray) (hr : Rt l) (hn : name.size ≤ 50) (hd : data.size ≤ 1048576) : Ev (fun k => impl_takeOrder.f k name l data) (takeV name l data) := by
  unfold impl_takeOrder.f takeV
  obtain ⟨x, hxz, hx⟩ := implTakeOf_sz data hd
  obtain ⟨g1, g2⟩ := takR_some (x := x) (o := takeO data) rfl
  refine Ev.bind hx ?_
  have hsz : (takR x (takeO data)).1.size ≤ 1048576 := by
    cases ho : takeO data with
    | none => exact hxz
    | some t => have := name_small (takeB_parts (takeO_right ho)).1; simp only [takR]; omega
  generalize takR x (takeO data) = r at *
  obtain ⟨z, hz⟩ := implAtO_ev l r.1 (by have := hr.1; omega) (fun x hx => by have := (hr.2 x hx).2.2; omega) hsz
  obtain ⟨k1, k2⟩ := ordR_some (x := z) (o := orderO r.1 (getV l (okey r.1)).1) rfl
  refine Ev.bind hz ?_
  generalize ordR z (orderO r.1 (getV l (okey r.1)).1) = s at *
  cases hb : r.2.2.2.2 with
  | false => rw [g2 hb]; simp only [Bool.false_eq_true, if_false, cloneO_ev l hr, Option.bind_some]; exact Ev.now _
  | true =>
    have hto := g1 hb
    obtain ⟨p1, p2, p3, p4, p5⟩ := takeB_parts (takeO_right hto)
    have a1 := name_small p1
    have a3 := people_small p3
    simp only at a1 a3 p4 p5
    rw [hto]
    simp only [if_true]
    cases hc : s.2.2.2.2.2.2 with
    | false => rw [k2 hc]; simp only [Bool.false_eq_true, if_false, cloneO_ev l hr, Option.bind_some]; exact Ev.now _
    | true =>
      have hoo := k1 hc
      obtain ⟨e1, hR⟩ := orderO_right hoo
      obtain ⟨q1, q2, q3⟩ := rightB_bd hR
      obtain ⟨b1, b2⟩ := right_small hR
      simp only at e1 q1 q2 q3 b2
      rw [hoo]
      simp only [if_true]
      by_cases h1 : s.2.1.toList = r.2.1.toList
      · simp only [if_pos h1]
        refine Ev.bind (orderFill_ev s.1 s.2.1 s.2.2.1 s.2.2.2.1 s.2.2.2.2.1 s.2.2.2.2.2.1 r.2.2.2.1 q1 q2 q3 ⟨p4, p5⟩) ?_
        have hbd := fill_bd (sell := s.2.2.1) (want := s.2.2.2.1) (left := s.2.2.2.2.1) (pay := r.2.2.2.1) (opn := s.2.2.2.2.2.1) q1.1 q2.1 p4
        generalize fillV s.2.2.1 s.2.2.2.1 s.2.2.2.2.1 s.2.2.2.2.2.1 r.2.2.2.1 = f at *
        by_cases h2 : f.2 = 0
        · obtain ⟨f1, f2⟩ := hbd h2
          simp only [if_pos h2, wid (n := s.2.2.2.2.1 - f.1) (by omega) (by omega), e1]
          by_cases h3 : 0 < s.2.2.2.2.1 - f.1
          · simp only [if_pos h3, decide_eq_true h3]
            refine Ev.bind (stepO_ev l ordersB r.2.2.1 name f.1 r.1 s.2.1 s.2.2.1 s.2.2.2.1 (s.2.2.2.2.1 - f.1) true hr (by decide) (by omega) (by omega) (by omega) (by omega) (by omega) (by omega) (by omega) (by omega)) ?_
            split
            · rename_i h4; rw [h4]; exact Ev.now _
            · rename_i h4; rw [beq_eq_false_iff_ne.2 h4]; exact Ev.now _
          · simp only [if_neg h3, decide_eq_false h3]
            refine Ev.bind (stepO_ev l ordersB r.2.2.1 name f.1 r.1 s.2.1 s.2.2.1 s.2.2.2.1 (s.2.2.2.2.1 - f.1) false hr (by decide) (by omega) (by omega) (by omega) (by omega) (by omega) (by omega) (by omega) (by omega)) ?_
            split
            · rename_i h4; rw [h4]; exact Ev.now _
            · rename_i h4; rw [beq_eq_false_iff_ne.2 h4]; exact Ev.now _
        · simp only [if_neg h2, cloneO_ev l hr, Option.bind_some]; exact Ev.now _
      · simp only [if_neg h1, cloneO_ev l hr, Option.bind_some]; exact Ev.now _
theorem l09Take_ev (name : ByteArray) (l : List IP) (data : ByteArray) (hr : Rt l) (hn : name.size ≤ 50) (hd : data.size ≤ 1048576) : Ev (fun k => spec_l09Take.f k name l data) (takeV name l data) := by
  unfold spec_l09Take.f takeV
  obtain ⟨x, hx⟩ := l09ReadTake_ev data hd
  obtain ⟨g1, g2⟩ := takR_some (x := x) (o := takeO data) rfl
  refine Ev.bind hx ?_
  generalize takR x (takeO data) = r at *
  cases hb : r.2.2.2.2 with
  | false => rw [g2 hb]; simp only [Bool.false_eq_true, if_false]; exact Ev.now _
  | true =>
    have hto := g1 hb
    obtain ⟨p1, p2, p3, p4, p5⟩ := takeB_parts (takeO_right hto)
    have a1 := name_small p1
    have a3 := people_small p3
    simp only at a1 a3 p4 p5
    rw [hto]
    simp only [if_true]
    obtain ⟨z, hz⟩ := specFindO_ev l r.1 (by have := hr.1; omega) (fun x hx => by have := (hr.2 x hx).2.2; omega) (by omega)
    obtain ⟨k1, k2⟩ := ordR_some (x := z) (o := orderO r.1 (getV l (okey r.1)).1) rfl
    refine Ev.bind hz ?_
    generalize ordR z (orderO r.1 (getV l (okey r.1)).1) = s at *
    cases hc : s.2.2.2.2.2.2 with
    | false => rw [k2 hc]; simp only [Bool.false_eq_true, if_false]; exact Ev.now _
    | true =>
      have hoo := k1 hc
      obtain ⟨e1, hR⟩ := orderO_right hoo
      obtain ⟨q1, q2, q3⟩ := rightB_bd hR
      obtain ⟨b1, b2⟩ := right_small hR
      simp only at e1 q1 q2 q3 b2
      rw [hoo]
      simp only [if_true]
      by_cases h1 : s.2.1.toList = r.2.1.toList
      · simp only [if_pos h1]
        refine Ev.bind (l09Fill_ev s.1 s.2.1 s.2.2.1 s.2.2.2.1 s.2.2.2.2.1 s.2.2.2.2.2.1 r.2.2.2.1 q1 q2 q3 ⟨p4, p5⟩) ?_
        have hbd := fill_bd (sell := s.2.2.1) (want := s.2.2.2.1) (left := s.2.2.2.2.1) (pay := r.2.2.2.1) (opn := s.2.2.2.2.2.1) q1.1 q2.1 p4
        generalize fillV s.2.2.1 s.2.2.2.1 s.2.2.2.2.1 s.2.2.2.2.2.1 r.2.2.2.1 = f at *
        by_cases h2 : f.2 = 0
        · obtain ⟨f1, f2⟩ := hbd h2
          simp only [if_pos h2, wid (n := s.2.2.2.2.1 - f.1) (by omega) (by omega), l09Key_eq r.1 (by omega), Option.bind_some]
          refine Ev.bind (l05Move_ev l ordersB r.2.2.1 name f.1 hr (by decide) (by omega) (by omega) (by omega) (by omega)) ?_
          have hm := moveV_rt (l := l) (f := ordersB) (t := r.2.2.1) (d := name) (n := f.1) hr (by decide) (by omega) (by omega)
          unfold stepO thenV
          generalize moveV l ordersB r.2.2.1 name f.1 = q at *
          by_cases hq : q.2 = 0
          · simp only [if_pos hq]
            by_cases h3 : 0 < s.2.2.2.2.1 - f.1
            · simp only [if_pos h3, decide_eq_true h3]
              refine Ev.bind (l09Bytes_ev s.1 s.2.1 s.2.2.1 s.2.2.2.1 (s.2.2.2.2.1 - f.1) true (by omega) (by omega) (by omega) (by omega)) (Ev.bind (specPut_ev q.1 (okey r.1) _ (by have := hm.1; omega)) ?_)
              split
              · exact Ev.now _
              · rename_i h4; simp only [beq_eq_false_iff_ne.2 h4]; exact Ev.now _
            · simp only [if_neg h3, decide_eq_false h3]
              refine Ev.bind (l09Bytes_ev s.1 s.2.1 s.2.2.1 s.2.2.2.1 (s.2.2.2.2.1 - f.1) false (by omega) (by omega) (by omega) (by omega)) (Ev.bind (specPut_ev q.1 (okey r.1) _ (by have := hm.1; omega)) ?_)
              split
              · exact Ev.now _
              · rename_i h4; simp only [beq_eq_false_iff_ne.2 h4]; exact Ev.now _
          · simp only [if_neg hq, beq_eq_false_iff_ne.2 hq]; exact Ev.now _
        · simp only [if_neg h2]; exact Ev.now _
      · simp only [if_neg h1]; exact Ev.now _
theorem takeV_rt {name : ByteArray} {l : List IP} {data : ByteArray} (hr : Rt l) (hn : name.size ≤ 50) : Rt (takeV name l data).1 := by
  unfold takeV
  split
  · exact hr
  · rename_i t ht
    obtain ⟨p1, p2, p3, p4, p5⟩ := takeB_parts (takeO_right ht)
    have a1 := name_small p1
    have a3 := people_small p3
    split
    · exact hr
    · rename_i y hy
      obtain ⟨e1, hR⟩ := orderO_right hy
      obtain ⟨q1, q2, q3⟩ := rightB_bd hR
      obtain ⟨b1, b2⟩ := right_small hR
      split
      · split
        · rename_i h2
          obtain ⟨f1, f2⟩ := fill_bd q1.1 q2.1 p4 h2
          exact stepO_rt hr (by decide) (by omega) (by omega) (by omega) (by omega) (by omega) (by omega) (by omega)
        · exact hr
      · exact hr
noncomputable def takeX (name : ByteArray) (l : List IP) (data : ByteArray) : List IP × Bool × Int :=
  if nameC name l [data] = 0 then ((takeV name l data).1, (takeV name l data).2, 0) else ([], false, nameC name l [data])
theorem takeX_len (name : ByteArray) (l : List IP) (data : ByteArray) : (takeX name l data).1.length ≤ 400 := by
  unfold takeX
  split
  · rename_i h
    obtain ⟨hc, hs, ht⟩ := nameC_cases _ _ _ h
    exact (takeV_rt (rt_of hs) (by rw [chain_size hc]; decide)).1
  · exact Nat.zero_le _
theorem TakeOrderX_ev (name : ByteArray) (l : List IP) (data : ByteArray) (hl : l.length ≤ 1048576) (h_data : data.size ≤ 1048576) : Ev (fun k => impl_TakeOrder.f k name l data) (takeX name l data) := by
  unfold impl_TakeOrder.f takeX
  refine Ev.bind (nameCode_ev name l [data] hl) ?_
  by_cases h : nameC name l [data] = 0
  · obtain ⟨hc, hs, ht⟩ := nameC_cases _ _ _ h
    simp only [if_pos h]
    exact Ev.bind (implTakeOrder_ev name l data (rt_of hs) (by rw [chain_size hc]; decide) h_data) (Ev.now _)
  · simp only [if_neg h]; exact Ev.now _
theorem specTakeOrderX_ev (name : ByteArray) (l : List IP) (data : ByteArray) (hl : l.length ≤ 1048576) (h_data : data.size ≤ 1048576) : Ev (fun k => spec_TakeOrder.f k name l data) (takeX name l data) := by
  unfold spec_TakeOrder.f takeX
  have two : ¬ (name.size ≤ 65536 ∧ l.length ≤ 4096 ∧ (∀ z ∈ [data], z.size ≤ 65536)) → Ev (fun _ => some (([] : List IP), false, (2 : Int))) (if nameC name l [data] = 0 then ((takeV name l data).1, (takeV name l data).2, 0) else ([], false, nameC name l [data])) := fun e => by
    have : nameC name l [data] = 2 := by unfold nameC; rw [if_neg e]
    rw [this]; exact Ev.now _
  by_cases h1 : (65536 : Int) < (name.size : Int)
  · simp only [if_pos h1]; exact two (fun e => by have := e.1; omega)
  simp only [if_neg h1]
  by_cases h2 : (4096 : Int) < (l.length : Int)
  · simp only [if_pos h2]; exact two (fun e => by have := e.2.1; omega)
  simp only [if_neg h2]
  by_cases g0 : (65536 : Int) < (data.size : Int)
  · simp only [if_pos g0]; exact two (fun e => by have := e.2.2 data (by simp); omega)
  simp only [if_neg g0]
  have hn : nameC name l [data] = if (chainB name && storeB l) = true then 0 else 1 := by
    unfold nameC
    rw [if_pos]
    refine ⟨by omega, by omega, fun z hz => ?_⟩
    simp only [List.mem_singleton] at hz
    subst hz
    omega
  refine Ev.bind (l08Code_ev name l hl (by omega)) ?_
  rw [← hn]
  by_cases h : nameC name l [data] = 0
  · obtain ⟨hc, hs, ht⟩ := nameC_cases _ _ _ h
    have hlen : (takeV name l data).1.length ≤ 400 := (takeV_rt (rt_of hs) (by rw [chain_size hc]; decide)).1
    simp only [if_pos h]
    refine Ev.bind (l09Take_ev name l data (rt_of hs) (by rw [chain_size hc]; decide) h_data) ?_
    simp only [if_pos (show (takeV name l data).1.length ≤ 1000000 by omega)]
    exact Ev.now _
  · simp only [if_neg h]; exact Ev.now _
end Go.Proofs.YtjhhehjjnfnigaaGreatDoor.U

/- TakeOrder of the program answers what the reference's answers: for every name, store and text. -/
namespace Go.Proofs.YtjhhehjjnfnigaaGreatDoor.Pure
open Go Go.RowKit Go.Proofs.YtjhhehjjnfnigaaGreatDoor.Q Go.Proofs.YtjhhehjjnfnigaaGreatDoor.U Go.Proofs.YtjhhehjjnfnigaaGreatDoorW.PrintWords Go.Proofs.YtjhhehjjnfnigaaGreatDoorW.PrintLast Go.Proofs.YtjhhehjjnfnigaaGreatDoorW.PrintMore
set_option linter.unusedVariables false
set_option linter.unusedSimpArgs false
theorem FnExactTakeOrder (aName : ByteArray) (h_aName : aName.size ≤ maxLen) (aList : List LP) (h_aList : aList.length ≤ maxLen ∧ ∀ x ∈ aList, (x.f0.size ≤ maxLen ∧ x.f1.size ≤ maxLen)) (aData : ByteArray) (h_aData : aData.size ≤ maxLen) : ∃ k, laws_FnExactTakeOrder.f k aName aList aData = some true := by
  refine Ev.rounds (?_ : Ev (fun k => laws_FnExactTakeOrder.f k aName aList aData) true)
  have hm : maxLen = 9223372036854775807 := rfl
  rw [hm] at h_aList
  unfold laws_FnExactTakeOrder.f
  by_cases q0 : (aName.size : Int) > 1048576
  · simp only [if_pos q0]; exact Ev.now _
  simp only [if_neg q0]
  by_cases q1 : (aData.size : Int) > 1048576
  · simp only [if_pos q1]; exact Ev.now _
  simp only [if_neg q1]
  obtain ⟨z, e, hz⟩ := szPairS_ev aList 1048576 h_aList.1 h_aList.2 (by decide) (by decide)
  refine Ev.bind e ?_
  by_cases hneg : z < 0
  · simp only [if_pos hneg]; exact Ev.now _
  simp only [if_neg hneg]
  rcases hz with hz | ⟨_, _, hs⟩
  · exact absurd hz hneg
  have hl : (aList.map toP).length ≤ 1048576 := by rw [List.length_map]; exact hs.1
  have hlen := takeX_len aName (aList.map toP) aData
  have ti := TakeOrderX_ev aName (aList.map toP) aData hl (by omega)
  have ts := specTakeOrderX_ev aName (aList.map toP) aData hl (by omega)
  generalize hX : takeX aName (aList.map toP) aData = r at hlen ti ts
  clear hX
  obtain ⟨r0, r1, r2⟩ := r
  simp only at hlen
  have tp := toPairS_ev aList hs.1
  have e0 := eqPairS_ev r0 (by omega)
  have e1 := eqPairS_ev (aList.map toP) hl
  have m1 := markPairS_ev (aList.map toP) 1 hl (by decide)
  have m2 := markPairS_ev r0 1 (by omega) (by decide)
  have hd := heldPairS_ev r0 1 (by omega) (by decide)
  have one : ((1 : Nat) : Int) = 1 := rfl
  rw [one] at m1 m2 hd
  refine Ev.bind tp (Ev.bind ts (Ev.bind tp (Ev.bind ti (Ev.bind e0 ?_))))
  simp only [if_true, bne_self_eq_false, Bool.false_eq_true, if_false]
  refine Ev.step (fun k => by rw [laws_FnExactTakeOrder.j0, if_neg (by decide)]) (Ev.bind tp (Ev.bind e1 ?_))
  simp only [if_true]
  refine Ev.bind m1 ?_
  simp only [if_neg (show ¬ ((1 + 2 * (aList.map toP).length : Nat) : Int) < 0 by omega)]
  refine Ev.bind e0 ?_
  simp only [if_true, bne_self_eq_false, Bool.false_eq_true, if_false]
  refine Ev.step (fun k => by rw [laws_FnExactTakeOrder.j1, if_neg (by decide)]) (Ev.bind m2 (Ev.bind hd ?_))
  simp only [if_neg (show ¬ ((1 + 2 * r0.length : Nat) : Int) < 0 by omega), if_true]
  refine Ev.bind tp (Ev.bind ti (Ev.bind e0 ?_))
  simp only [if_true, bne_self_eq_false, Bool.false_eq_true, if_false]
  refine Ev.step (fun k => by rw [laws_FnExactTakeOrder.j2, if_neg (by decide)]) (Ev.bind hd ?_)
  simp only [if_neg (show ¬ ((1 + 2 * r0.length : Nat) : Int) < 0 by omega), if_true]
  exact Ev.now _
end Go.Proofs.YtjhhehjjnfnigaaGreatDoor.Pure

/- An argument of a law, whatever its type: read whole from what was handed over. -/
namespace Go.Proofs.YtjhhehjjnfnigaaGreatDoor.U
open Go Go.ChangeShapes Go.WideShapes Go.ChangeAt Go.RowKit Go.Proofs.YtjhhehjjnfnigaaGreatDoorW.PrintWords
set_option linter.unusedVariables false
set_option linter.unusedSimpArgs false

theorem addr_add_add (a : Addr) (i j : Nat) : (a.add i).add j = a.add (i + j) := by
  unfold Addr.add
  by_cases h0 : i = 0
  · subst h0; simp
  by_cases h1 : j = 0
  · subst h1; simp
  rw [if_neg h0, if_neg h1, if_neg (by omega)]
  simp only [Nat.add_assoc]
/-- What is handed over as a t can be read as a d. -/
structure Opens {α : Type} (P : Program) (t : TypeId) (d : Kd α) (wf : α → Prop) : Prop where
  out : ∀ {H : Type} (enc : TypeId × Value → H) (w : World) (base : Nat) (sp : Nat → Bool) (held : Bool) (n : Nat) (cs : List Value) (x : DataW H × List MemPlace),
    DataW.trod enc P w base sp held n t cs = some x → ∃ a, d.K w a cs ∧ wf a
theorem Opens.int {P : Program} {t : TypeId} {k : IntKind} (ht : P.underlying t = some (.int k)) : Opens P t (Kd.int k) (fun n => (Lit.int k n).wf = true) := by
  constructor
  intro H enc w base sp held n cs x h
  obtain ⟨m, rfl, rfl, hw⟩ := DataW.trod_int ht h
  exact ⟨m, rfl, hw⟩
theorem Opens.bool {P : Program} {t : TypeId} (ht : P.underlying t = some .bool) : Opens P t Kd.bool (fun _ => True) := by
  constructor
  intro H enc w base sp held n cs x h
  obtain ⟨m, rfl, rfl⟩ := DataW.trod_bool ht h
  exact ⟨m, rfl, trivial⟩
theorem Opens.string {P : Program} {t : TypeId} (ht : P.underlying t = some .string) : Opens P t Kd.string (fun s => s.size ≤ maxLen) := by
  constructor
  intro H enc w base sp held n cs x h
  obtain ⟨m, rfl, rfl, hw⟩ := DataW.trod_string ht h
  exact ⟨m, rfl, hw⟩
theorem all_of_each {α : Type} : ∀ (n : Nat) (p : Nat → α → Prop), (∀ i, i < n → ∃ a, p i a) → ∃ xs : List α, xs.length = n ∧ ∀ i a, xs[i]? = some a → p i a
  | 0, _, _ => ⟨[], rfl, fun i a h => by simp at h⟩
  | n + 1, p, h => by
    obtain ⟨a, ha⟩ := h 0 (by omega)
    obtain ⟨xs, hl, hx⟩ := all_of_each n (fun i => p (i + 1)) (fun i hi => h (i + 1) (by omega))
    refine ⟨a :: xs, by simp [hl], fun i b hb => ?_⟩
    cases i with
    | zero => simp at hb; subst hb; exact ha
    | succ j => exact hx j b (by simpa using hb)
theorem Opens.slice {α : Type} {P : Program} {t e : TypeId} {d : Kd α} {wf : α → Prop} (ht : P.underlying t = some (.slice e)) (hs : P.cellsOf e = d.sz) (hd : Opens P e d wf) :
    Opens P t (Kd.slice e d) (fun xs => xs.length ≤ maxLen ∧ ∀ x ∈ xs, wf x) := by
  constructor
  intro H enc w base sp held n cs x h
  rcases DataW.trod_slice ht h with ⟨rfl, rfl⟩ | ⟨a, len, cap, elems, rest, m, rfl, rfl, rfl, hb, hl, hm, hlen, hel, _, _⟩
  · exact ⟨[], ⟨none, 0, rfl, by simp, rfl, by simp, by simp⟩, by simp, by simp⟩
  obtain ⟨xs, hxl, hx⟩ := all_of_each len (fun i y => wf y ∧ ∃ c, c.length = d.sz ∧ d.K w y c ∧ ∀ j u, c[j]? = some u → w.cell? (a.add (i * d.sz + j)) = some u) (fun i hi => by
    have h1 := hel i hi
    rw [List.getElem?_eq_getElem (by omega)] at h1
    obtain ⟨c, hc, hy⟩ := Option.bind_eq_some_iff.mp h1
    obtain ⟨_, hcl, hcell⟩ := World.cells?_some hc
    obtain ⟨y, hk, hw⟩ := hd.out _ _ _ _ _ _ _ _ hy
    refine ⟨y, hw, c, by omega, hk, fun j u hu => ?_⟩
    have hj : j < P.cellsOf e := by
      rcases Nat.lt_or_ge j c.length with h' | h'
      · omega
      · rw [List.getElem?_eq_none h'] at hu; cases hu
    have h2 := hcell j hj
    rw [hu] at h2
    rw [← hs, ← h2, addr_add_add])
  subst hxl
  refine ⟨xs, ⟨some a, cap, rfl, hl, rfl, by have : maxLen = 9223372036854775807 := rfl; omega, fun _ => ⟨a, rfl, fun j p hp => (hx j p hp).2⟩⟩, by omega, fun x hxm => ?_⟩
  obtain ⟨i, hi, rfl⟩ := List.getElem_of_mem hxm
  exact (hx i _ (List.getElem?_eq_getElem hi)).1
/-- The fields of a struct, from a cell on. -/
structure OpensF {α : Type} (P : Program) (fs : List Field) (off : Nat) (d : Kd α) (wf : α → Prop) : Prop where
  out : ∀ {H : Type} (enc : TypeId × Value → H) (w : World) (base : Nat) (sp : Nat → Bool) (held : Bool) (n : Nat) (cs : List Value),
    cs.length = off + d.sz → (∀ f ∈ fs, ∃ y, DataW.trod enc P w base sp held n f.type ((cs.drop f.offset).take (P.cellsOf f.type)) = some y) → ∃ a, d.K w a (cs.drop off) ∧ wf a
theorem OpensF.one {α : Type} {P : Program} {f : Field} {d : Kd α} {wf : α → Prop} (hd : Opens P f.type d wf) (hs : P.cellsOf f.type = d.sz) : OpensF P [f] f.offset d wf := by
  constructor
  intro H enc w base sp held n cs hl hf
  obtain ⟨y, hy⟩ := hf f (by simp)
  rw [List.take_of_length_le (by rw [List.length_drop]; omega)] at hy
  exact hd.out _ _ _ _ _ _ _ _ hy
theorem OpensF.cons {α β : Type} {P : Program} {f : Field} {fs : List Field} {d : Kd α} {d1 : Kd β} {wf : α → Prop} {wf1 : β → Prop} (hd : Opens P f.type d wf) (hs : P.cellsOf f.type = d.sz) (h1 : OpensF P fs (f.offset + d.sz) d1 wf1) :
    OpensF P (f :: fs) f.offset (Kd.pair d d1) (fun p => wf p.1 ∧ wf1 p.2) := by
  constructor
  intro H enc w base sp held n cs hl hf
  have hl' : cs.length = f.offset + (d.sz + d1.sz) := hl
  obtain ⟨y, hy⟩ := hf f (by simp)
  obtain ⟨a, ha, wa⟩ := hd.out _ _ _ _ _ _ _ _ hy
  obtain ⟨b, hb, wb⟩ := h1.out enc w base sp held n cs (by omega) (fun g hg => hf g (by simp [hg]))
  refine ⟨(a, b), ⟨_, _, ?_, ha, hb⟩, wa, wb⟩
  rw [hs, ← List.drop_drop, List.take_append_drop]
theorem Opens.struct {α : Type} {P : Program} {t : TypeId} {fs : Array Field} {d : Kd α} {wf : α → Prop} (ht : P.underlying t = some (.struct fs)) (hs : P.cellsOf t = d.sz) (hf : OpensF P fs.toList 0 d wf) : Opens P t d wf := by
  constructor
  intro H enc w base sp held n cs x h
  obtain ⟨xs, m, rfl, rfl, hl, hxl, hx⟩ := DataW.trod_struct ht h
  have := hf.out enc w base sp held m cs (by omega) (fun f hfm => by
    obtain ⟨i, hi, rfl⟩ := List.getElem_of_mem hfm
    have hi' : i < fs.size := by simpa using hi
    refine ⟨xs[i]'(by omega), ?_⟩
    rw [hx i _ (by simp [hi'])]
    rw [List.getElem?_eq_getElem])
  simpa using this
theorem Opens.iso {α β : Type} {P : Program} {t : TypeId} {d : Kd α} {wf : α → Prop} {f : β → α} (h : Opens P t d wf) (g : ∀ a, ∃ b, f b = a) : Opens P t (Kd.iso d f) (fun b => wf (f b)) := by
  constructor
  intro H enc w base sp held n cs x hx
  obtain ⟨a, ha, wa⟩ := h.out enc w base sp held n cs x hx
  obtain ⟨b, rfl⟩ := g a
  exact ⟨b, ha, wa⟩
end Go.Proofs.YtjhhehjjnfnigaaGreatDoor.U
