/- Parts of the proof: what single Go functions compute, each with its walk, and plain laws over these. -/
import Derived.Test.YtppgnndolgmcfaaM0
import Derived.Test.YtppgnndolgmcfaaM2
import Derived.Test.YtppgnndolgmcfaaM1
import Derived.Test.YtppgnndolgmcfaaM3
/- The quotes of a pool, and what a payment of an order buys: plain values, and that the reference and the program both come to them. -/
namespace Go.Proofs.Ytppgnndolgmcfaa.U
open Go Go.RowKit Go.Proofs.Ytppgnndolgmcfaa.Q Go.Proofs.YtppgnndolgmcfaaW.PrintWords Go.Proofs.YtppgnndolgmcfaaW.PrintLast Go.Proofs.YtppgnndolgmcfaaW.PrintMore
set_option linter.unusedVariables false
set_option linter.unusedSimpArgs false

theorem l01In_eq (n a b : Int) : spec_l01In.f n a b = some (decide (a ≤ n ∧ n ≤ b)) := by
  unfold spec_l01In.f
  by_cases h : n ≥ a
  · rw [if_pos h]; congr 1; exact decide_eq_decide.2 ⟨fun x => ⟨h, x⟩, fun x => x.2⟩
  · rw [if_neg h, decide_eq_false (fun x => h x.1)]

def inB (n : Int) : Bool := decide (1 ≤ n ∧ n ≤ 1000000000000000000)
theorem inB_iff {n : Int} : inB n = true ↔ 1 ≤ n ∧ n ≤ 1000000000000000000 := by unfold inB; rw [decide_eq_true_iff]
theorem isSome_B (n : Int) : impl_isSome.f n = some (inB n) := isSome_eq n
theorem l01In_B (n : Int) : spec_l01In.f n 1 1000000000000000000 = some (inB n) := l01In_eq n 1 _

/-! ### pools -/
def poolB (a b c : Int) : Bool := (a == 0 && (b == 0 && (c == 0))) || (inB a && (inB b && inB c))
theorem PoolOK_eq (a b c : Int) : impl_PoolOK.f a b c = some (poolB a b c) := by
  unfold impl_PoolOK.f poolB
  simp only [isSome_B, Option.bind_some]
  cases (a == 0 && (b == 0 && (c == 0))) <;> cases inB a <;> cases inB b <;> cases inB c <;> rfl
theorem specPoolOK_ev (a b c : Int) : Ev (fun k => spec_PoolOK.f k a b c) (poolB a b c) := by
  unfold spec_PoolOK.f poolB
  have hj : ∀ z : Bool, Ev (fun k => spec_PoolOK.j0 k z a b c) (z || (inB a && (inB b && inB c))) := by
    intro z
    refine Ev.step (fun k => ?_) (Ev.now _)
    rw [spec_PoolOK.j0]
    simp only [l01In_B, Option.bind_some]
    cases z <;> cases inB a <;> cases inB b <;> cases inB c <;> rfl
  by_cases h1 : a = 0
  · simp only [if_pos h1]
    by_cases h2 : b = 0
    · simp only [if_pos h2, beq_iff_eq.2 h1, beq_iff_eq.2 h2, Bool.true_and]
      exact hj _
    · simp only [if_neg h2, beq_eq_false_iff_ne.2 h2, Bool.false_and, Bool.and_false]
      exact hj _
  · simp only [if_neg h1, beq_eq_false_iff_ne.2 h1, Bool.false_and]
    exact hj _
theorem poolB_iff {a b c : Int} : poolB a b c = true ↔ (a = 0 ∧ b = 0 ∧ c = 0) ∨ ((1 ≤ a ∧ a ≤ 1000000000000000000) ∧ (1 ≤ b ∧ b ≤ 1000000000000000000) ∧ 1 ≤ c ∧ c ≤ 1000000000000000000) := by
  unfold poolB
  simp only [Bool.or_eq_true, Bool.and_eq_true, beq_iff_eq, inB_iff]

/-! ### a swap -/
def feeV (n : Int) : Int := n * 997 / 1000
def gotV (i o n : Int) : Int := o * feeV n / (i + feeV n)
def swapV (i o n : Int) : Int × Int := if i + n > 1000000000000000000 then (0, 13) else if feeV n = 0 then (0, 17) else if gotV i o n = 0 then (0, 17) else (gotV i o n, 0)
theorem fee_bd {n : Int} (h : 1 ≤ n) : 0 ≤ feeV n ∧ feeV n ≤ n := by unfold feeV; omega
theorem got_bd {i o n : Int} (hi : 1 ≤ i) (ho : 1 ≤ o) (hn : 1 ≤ n) : 0 ≤ gotV i o n ∧ gotV i o n < o := by
  have hf := fee_bd hn
  unfold gotV
  generalize feeV n = f at *
  refine ⟨Int.ediv_nonneg (Int.mul_nonneg (by omega) (by omega)) (by omega), ?_⟩
  rw [Int.ediv_lt_iff_lt_mul (by omega), Int.mul_add]
  have : 1 ≤ o * i := by
    have := Int.mul_le_mul ho hi (by omega : (0 : Int) ≤ 1) (by omega)
    omega
  omega

theorem l10Swap_ev (i o n : Int) (hi : 1 ≤ i) (hi' : i ≤ 1000000000000000000) (ho : 1 ≤ o) (ho' : o ≤ 1000000000000000000) (hn : 1 ≤ n) (hn' : n ≤ 1000000000000000000) :
    Ev (fun k => spec_l10Swap.f k i o n) (swapV i o n) := by
  unfold spec_l10Swap.f swapV
  have hf := fee_bd hn
  have h1 := l02MulDiv_ev n 997 1000 (by omega) hn' (by omega) (by omega) (by omega) (by omega)
  rw [if_pos (by show feeV n ≤ _; omega)] at h1
  refine Ev.bind h1 ?_
  simp only
  rw [wid (n := i + n) (by omega) (by omega)]
  have ef : n * 997 / 1000 = feeV n := rfl
  rw [ef]
  by_cases hov : i + n > 1000000000000000000
  · simp only [if_pos hov]; exact Ev.now _
  simp only [if_neg hov]
  by_cases hz : feeV n = 0
  · simp only [if_pos hz]; exact Ev.now _
  simp only [if_neg hz]
  have hg := got_bd hi ho hn
  have h2 := l02MulDiv_ev o (feeV n) (i + feeV n) (by omega) ho' (by omega) (by omega) (by omega) (by omega)
  have eg : o * feeV n / (i + feeV n) = gotV i o n := rfl
  rw [eg, if_pos (by omega)] at h2
  rw [wid (n := i + feeV n) (by omega) (by omega)]
  refine Ev.bind h2 ?_
  simp only [if_true]
  by_cases hq : gotV i o n = 0
  · simp only [if_pos hq]; exact Ev.now _
  · simp only [if_neg hq]; exact Ev.now _

def quoteSwapV (i o n : Int) : Int × Int := if (inB i && (inB o && inB n)) = true then swapV i o n else (0, 4)
theorem specQuoteSwap_ev (i o n : Int) : Ev (fun k => spec_QuoteSwap.f k i o n) (quoteSwapV i o n) := by
  unfold spec_QuoteSwap.f quoteSwapV
  simp only [l01In_B, Option.bind_some]
  cases h1 : inB i with
  | false => exact Ev.now _
  | true =>
    cases h2 : inB o with
    | false => exact Ev.now _
    | true =>
      cases h3 : inB n with
      | false => exact Ev.now _
      | true =>
        simp only [Bool.and_true, if_true]
        rw [inB_iff] at h1 h2 h3
        exact Ev.bind (l10Swap_ev i o n h1.1 h1.2 h2.1 h2.2 h3.1 h3.2) (Ev.now _)
theorem implQuoteSwap_ev (i o n : Int) : Ev (fun k => impl_QuoteSwap.f k i o n) (quoteSwapV i o n) := by
  unfold impl_QuoteSwap.f quoteSwapV
  simp only [isSome_B, Option.bind_some]
  have hbad : Ev (fun k => impl_QuoteSwap.j0 k i o n true) (0, 4) := Ev.step (fun k => by rw [impl_QuoteSwap.j0, if_pos rfl]) (Ev.now _)
  cases h1 : inB i with
  | false => exact hbad
  | true =>
    cases h2 : inB o with
    | false => exact hbad
    | true =>
      cases h3 : inB n with
      | false => exact hbad
      | true =>
        simp only [Bool.and_true, if_true, Bool.not_true]
        rw [inB_iff] at h1 h2 h3
        have hf := fee_bd h3.1
        have ef : n * 997 / 1000 = feeV n := rfl
        have hm1 := MulDiv_ev n 997 1000 (by omega) h3.2 (by omega) (by omega) (by omega) (by omega)
        rw [ef, if_pos (by omega)] at hm1
        unfold swapV
        by_cases hov : i + n > 1000000000000000000
        · simp only [if_pos hov]
          exact Ev.step (fun k => by rw [impl_QuoteSwap.j0, if_neg (by decide), wid (n := i + n) (by omega) (by omega), if_pos hov]) (Ev.now _)
        simp only [if_neg hov]
        have hg := got_bd h1.1 h2.1 h3.1
        have hm2 := MulDiv_ev o (feeV n) (i + feeV n) (by omega) h2.2 (by omega) (by omega) (by omega) (by omega)
        have eg : o * feeV n / (i + feeV n) = gotV i o n := rfl
        rw [eg, if_pos (by omega)] at hm2
        refine Ev.step (f := fun k => (impl_MulDiv.f k n 997 1000).bind fun b1 => (impl_MulDiv.f k o b1.1 (wrap64 (i + b1.1))).bind fun b2 => if b2.1 = 0 then some (0, 17) else some (b2.1, 0)) (fun k => by rw [impl_QuoteSwap.j0, if_neg (by decide), wid (n := i + n) (by omega) (by omega), if_neg hov]) ?_
        refine Ev.bind hm1 ?_
        simp only
        rw [wid (n := i + feeV n) (by omega) (by omega)]
        refine Ev.bind hm2 ?_
        simp only
        by_cases hz : feeV n = 0
        · have : gotV i o n = 0 := by unfold gotV; rw [hz]; simp
          simp only [if_pos hz, if_pos this]
          exact Ev.now _
        · simp only [if_neg hz]
          by_cases hq : gotV i o n = 0
          · simp only [if_pos hq]; exact Ev.now _
          · simp only [if_neg hq]; exact Ev.now _

/-! ### shares -/
def remV (A B S n : Int) : Int × Int × Int := if n > S then (0, 0, 12) else if A * n / S = 0 then (0, 0, 17) else if B * n / S = 0 then (0, 0, 17) else (A * n / S, B * n / S, 0)
def quoteRemoveV (A B S n : Int) : Int × Int × Int := if poolB A B S = true then (if inB n = true then remV A B S n else (0, 0, 4)) else (0, 0, 1)
theorem part_bd {A n S : Int} (hA : 1 ≤ A) (hn : 1 ≤ n) (hS : n ≤ S) : 0 ≤ A * n / S ∧ A * n / S ≤ A := by
  refine ⟨Int.ediv_nonneg (Int.mul_nonneg (by omega) (by omega)) (by omega), ?_⟩
  have : A * n ≤ A * S := Int.mul_le_mul_of_nonneg_left hS (by omega)
  have h := Int.ediv_le_ediv (by omega : 0 < S) this
  rwa [Int.mul_ediv_cancel _ (by omega)] at h
theorem specQuoteRemove_ev (A B S n : Int) : Ev (fun k => spec_QuoteRemove.f k A B S n) (quoteRemoveV A B S n) := by
  unfold spec_QuoteRemove.f quoteRemoveV
  refine Ev.bind (specPoolOK_ev A B S) ?_
  simp only [l01In_B, Option.bind_some]
  cases hp : poolB A B S with
  | false => exact Ev.now _
  | true =>
    simp only [if_true]
    cases h1 : inB n with
    | false => exact Ev.now _
    | true =>
      simp only [if_true]
      rw [inB_iff] at h1
      rw [poolB_iff] at hp
      unfold spec_l10Remove.f remV
      by_cases hgt : n > S
      · simp only [if_pos hgt]; exact Ev.now _
      simp only [if_neg hgt]
      rcases hp with hp | ⟨a1, a2, a3⟩
      · omega
      have p1 := part_bd a1.1 h1.1 (by omega : n ≤ S)
      have p2 := part_bd a2.1 h1.1 (by omega : n ≤ S)
      have m1 := l02MulDiv_ev A n S (by omega) a1.2 (by omega) h1.2 a3.1 a3.2
      rw [if_pos (by omega)] at m1
      have m2 := l02MulDiv_ev B n S (by omega) a2.2 (by omega) h1.2 a3.1 a3.2
      rw [if_pos (by omega)] at m2
      refine Ev.bind (a := if A * n / S = 0 then (0, 0, 17) else if B * n / S = 0 then (0, 0, 17) else (A * n / S, B * n / S, 0)) ?_ ?_
      · refine Ev.bind m1 (Ev.bind m2 ?_)
        simp only
        by_cases z1 : A * n / S = 0
        · simp only [if_pos z1]; exact Ev.now _
        · simp only [if_neg z1]
          by_cases z2 : B * n / S = 0
          · simp only [if_pos z2]; exact Ev.now _
          · simp only [if_neg z2]; exact Ev.now _
      · exact Ev.now _
theorem implQuoteRemove_ev (A B S n : Int) : Ev (fun k => impl_QuoteRemove.f k A B S n) (quoteRemoveV A B S n) := by
  unfold impl_QuoteRemove.f quoteRemoveV
  simp only [PoolOK_eq, isSome_B, Option.bind_some]
  cases hp : poolB A B S with
  | false => exact Ev.now _
  | true =>
    simp only [if_true]
    cases h1 : inB n with
    | false => exact Ev.now _
    | true =>
      simp only [if_true]
      rw [inB_iff] at h1
      rw [poolB_iff] at hp
      unfold remV
      by_cases hgt : n > S
      · simp only [if_pos hgt]; exact Ev.now _
      simp only [if_neg hgt]
      rcases hp with hp | ⟨a1, a2, a3⟩
      · omega
      have p1 := part_bd a1.1 h1.1 (by omega : n ≤ S)
      have p2 := part_bd a2.1 h1.1 (by omega : n ≤ S)
      have m1 := MulDiv_ev A n S (by omega) a1.2 (by omega) h1.2 a3.1 a3.2
      rw [if_pos (by omega)] at m1
      have m2 := MulDiv_ev B n S (by omega) a2.2 (by omega) h1.2 a3.1 a3.2
      rw [if_pos (by omega)] at m2
      refine Ev.bind m1 (Ev.bind m2 ?_)
      simp only
      by_cases z1 : A * n / S = 0
      · simp only [if_pos z1]; exact Ev.now _
      · simp only [if_neg z1]
        by_cases z2 : B * n / S = 0
        · simp only [if_pos z2]; exact Ev.now _
        · simp only [if_neg z2]; exact Ev.now _

/-- What is given for what is added, R the root of its product. -/
def addEndV (S n : Int) : Int × Int := if n = 0 then (0, 17) else if S + n > 1000000000000000000 then (0, 13) else (n, 0)
def addV (R A B S a b : Int) : Int × Int :=
  if A + a > 1000000000000000000 ∨ B + b > 1000000000000000000 then (0, 13) else
  if S = 0 then addEndV S R else
  if a * S / A > 1000000000000000000 ∨ b * S / B > 1000000000000000000 then (0, 13) else addEndV S (mn (a * S / A) (b * S / B))
def quoteAddV (R A B S a b : Int) : Int × Int := if poolB A B S = true then (if (inB a && inB b) = true then addV R A B S a b else (0, 4)) else (0, 1)

theorem mn_cases (a b : Int) : mn a b = a ∨ mn a b = b := by unfold mn; split; exact .inr rfl; exact .inl rfl

theorem specQuoteAdd_ev (R A B S a b : Int) (hR0 : 0 ≤ R) (hR1 : R ≤ 1000000000000000000) (hR2 : R * R ≤ a * b) (hR3 : a * b < (R + 1) * (R + 1)) : Ev (fun k => spec_QuoteAdd.f k A B S a b) (quoteAddV R A B S a b) := by
  unfold spec_QuoteAdd.f quoteAddV
  refine Ev.bind (specPoolOK_ev A B S) ?_
  simp only [l01In_B, Option.bind_some]
  cases hp : poolB A B S with
  | false => exact Ev.now _
  | true =>
    simp only [if_true]
    cases h1 : inB a with
    | false => exact Ev.now _
    | true =>
      cases h2 : inB b with
      | false => exact Ev.now _
      | true =>
        simp only [if_true, Bool.and_true]
        rw [inB_iff] at h1 h2
        rw [poolB_iff] at hp
        have hend : ∀ n : Int, 0 ≤ n → n ≤ 1000000000000000000 → 0 ≤ S → S ≤ 1000000000000000000 → Ev (fun k => spec_l10Add.j1 k n A B S) (addEndV S n) := by
          intro n hn hn' hS hS'
          unfold addEndV
          refine Ev.step (f := fun _ => if n = 0 then some (0, 17) else if S + n > 1000000000000000000 then some (0, 13) else some (n, 0)) (fun k => by rw [spec_l10Add.j1, wid (n := S + n) (by omega) (by omega)]) ?_
          by_cases z1 : n = 0
          · simp only [if_pos z1]; exact Ev.now _
          · simp only [if_neg z1]
            by_cases z2 : S + n > 1000000000000000000
            · simp only [if_pos z2]; exact Ev.now _
            · simp only [if_neg z2]; exact Ev.now _
        have hbad : Ev (fun k => spec_l10Add.j0 k a b true A B S) (0, 13) := Ev.step (fun k => by rw [spec_l10Add.j0, if_pos rfl]) (Ev.now _)
        have hgood : ¬ (A + a > 1000000000000000000 ∨ B + b > 1000000000000000000) → Ev (fun k => spec_l10Add.j0 k a b false A B S) (addV R A B S a b) := by
          intro hno
          unfold addV
          rw [if_neg hno]
          by_cases hS : S = 0
          · rw [if_pos hS]
            refine Ev.step (f := fun k => (spec_l02Root.f k a b).bind fun t => spec_l10Add.j1 k t A B S) (fun k => by rw [spec_l10Add.j0, if_neg (by decide), if_pos hS]) ?_
            exact Ev.bind (l02Root_ev a b R (by omega) h1.2 (by omega) h2.2 hR0 hR1 hR2 hR3) (hend R hR0 hR1 (by omega) (by omega))
          · rw [if_neg hS]
            rcases hp with hp | ⟨a1, a2, a3⟩
            · omega
            have m1 := l02MulDiv_ev a S A (by omega) h1.2 (by omega) a3.2 a1.1 a1.2
            have m2 := l02MulDiv_ev b S B (by omega) h2.2 (by omega) a3.2 a2.1 a2.2
            have q1 : 0 ≤ a * S / A := Int.ediv_nonneg (Int.mul_nonneg (by omega) (by omega)) (by omega)
            have q2 : 0 ≤ b * S / B := Int.ediv_nonneg (Int.mul_nonneg (by omega) (by omega)) (by omega)
            refine Ev.step (f := fun k => (spec_l02MulDiv.f k a S A).bind fun b1 => (spec_l02MulDiv.f k b S B).bind fun b2 => if b1.2 = true then (if b2.2 = true then spec_l10Add.j1 k (mn b1.1 b2.1) A B S else some (0, 13)) else some (0, 13)) (fun k => by rw [spec_l10Add.j0, if_neg (by decide), if_neg hS]) ?_
            refine Ev.bind m1 (Ev.bind m2 ?_)
            by_cases c1 : a * S / A ≤ 1000000000000000000
            · by_cases c2 : b * S / B ≤ 1000000000000000000
              · simp only [if_pos c1, if_pos c2, if_true]
                rw [if_neg (by omega)]
                refine hend _ ?_ ?_ (by omega) a3.2 <;> rcases mn_cases (a * S / A) (b * S / B) with e | e <;> rw [e] <;> omega
              · simp only [if_pos c1, if_neg c2, if_true]
                rw [if_pos (by omega)]
                exact Ev.now _
            · simp only [if_neg c1]
              rw [if_pos (show a * S / A > 1000000000000000000 ∨ b * S / B > 1000000000000000000 from .inl (by omega))]
              exact Ev.now _
        refine Ev.bind (a := addV R A B S a b) ?_ (Ev.now _)
        unfold spec_l10Add.f
        have hAb : 0 ≤ A ∧ A ≤ 1000000000000000000 ∧ 0 ≤ B ∧ B ≤ 1000000000000000000 := by omega
        rw [wid (n := A + a) (by omega) (by omega), wid (n := B + b) (by omega) (by omega)]
        by_cases o1 : A + a > 1000000000000000000
        · simp only [if_pos o1]
          have : addV R A B S a b = (0, 13) := by unfold addV; rw [if_pos (.inl o1)]
          rw [this]; exact hbad
        · simp only [if_neg o1]
          by_cases o2 : B + b > 1000000000000000000
          · have : addV R A B S a b = (0, 13) := by unfold addV; rw [if_pos (.inr o2)]
            rw [this, decide_eq_true o2]; exact hbad
          · rw [decide_eq_false o2]
            exact hgood (by omega)

theorem firstOf_ev (x y : Int) : Ev (fun k => impl_firstOf.f k [x, y]) (if x = 0 then y else x) := by
  unfold impl_firstOf.f
  have r0 : rd [x, y] 0 = x := rfl
  have r1 : rd [x, y] 1 = y := rfl
  have w0 : wrap64 (0 + 1) = 1 := by rw [wid (by omega) (by omega)]; rfl
  have w1 : wrap64 (1 + 1) = 2 := by rw [wid (by omega) (by omega)]; rfl
  have hl : (([x, y] : List Int).length : Int) = 2 := rfl
  by_cases h : x = 0
  · rw [if_pos h]
    refine Ev.step (fun k => by rw [impl_firstOf.l0, if_pos (by rw [hl]; omega), if_pos (by omega), if_pos (by rw [hl]; omega), r0, if_pos h, w0]) ?_
    by_cases h2 : y = 0
    · refine Ev.step (fun k => by rw [impl_firstOf.l0, if_pos (by rw [hl]; omega), if_pos (by omega), if_pos (by rw [hl]; omega), r1, if_pos h2, w1]) ?_
      refine Ev.step (fun k => by rw [impl_firstOf.l0, if_neg (by rw [hl]; omega)]) ?_
      rw [h2]; exact Ev.now _
    · exact Ev.step (fun k => by rw [impl_firstOf.l0, if_pos (by rw [hl]; omega), if_pos (by omega), if_pos (by rw [hl]; omega), r1, if_neg h2]) (Ev.now _)
  · rw [if_neg h]
    exact Ev.step (fun k => by rw [impl_firstOf.l0, if_pos (by rw [hl]; omega), if_pos (by omega), if_pos (by rw [hl]; omega), r0, if_neg h]) (Ev.now _)

theorem implQuoteAdd_ev (R A B S a b : Int) (hR0 : 0 ≤ R) (hR1 : R ≤ 1000000000000000000) (hR2 : R * R ≤ a * b) (hR3 : a * b < (R + 1) * (R + 1)) : Ev (fun k => impl_QuoteAdd.f k A B S a b) (quoteAddV R A B S a b) := by
  unfold impl_QuoteAdd.f quoteAddV
  simp only [PoolOK_eq, isSome_B, Option.bind_some]
  cases hp : poolB A B S with
  | false => exact Ev.now _
  | true =>
    simp only [if_true]
    have hbad : Ev (fun k => impl_QuoteAdd.j0 k a b true A B S) (0, 4) := Ev.step (fun k => by rw [impl_QuoteAdd.j0, if_pos rfl]) (Ev.now _)
    cases h1 : inB a with
    | false => exact hbad
    | true =>
      cases h2 : inB b with
      | false => exact hbad
      | true =>
        simp only [if_true, Bool.and_true, Bool.not_true]
        rw [inB_iff] at h1 h2
        rw [poolB_iff] at hp
        have hAb : 0 ≤ A ∧ A ≤ 1000000000000000000 ∧ 0 ≤ B ∧ B ≤ 1000000000000000000 ∧ 0 ≤ S ∧ S ≤ 1000000000000000000 := by omega
        refine Ev.step (f := fun k => if A + a > 1000000000000000000 then some (0, 13) else if B + b > 1000000000000000000 then some (0, 13) else (impl_Pool_shares.f k A B S a b).bind fun b1 => if b1.2 = 0 then (if b1.1 = 0 then some (0, 17) else if wrap64 (S + b1.1) > 1000000000000000000 then some (0, 13) else some (b1.1, 0)) else some (0, 13))
          (fun k => by rw [impl_QuoteAdd.j0, if_neg (by decide), wid (n := A + a) (by omega) (by omega), wid (n := B + b) (by omega) (by omega)]) ?_
        by_cases o1 : A + a > 1000000000000000000
        · have : addV R A B S a b = (0, 13) := by unfold addV; rw [if_pos (.inl o1)]
          simp only [if_pos o1, this]; exact Ev.now _
        by_cases o2 : B + b > 1000000000000000000
        · have : addV R A B S a b = (0, 13) := by unfold addV; rw [if_pos (.inr o2)]
          simp only [if_neg o1, if_pos o2, this]; exact Ev.now _
        simp only [if_neg o1, if_neg o2]
        have hend : ∀ n : Int, 0 ≤ n → n ≤ 1000000000000000000 → Ev (fun (_ : Nat) => if n = 0 then some ((0, 17) : Int × Int) else if wrap64 (S + n) > 1000000000000000000 then some (0, 13) else some (n, 0)) (addEndV S n) := by
          intro n hn hn'
          unfold addEndV
          rw [wid (n := S + n) (by omega) (by omega)]
          by_cases z1 : n = 0
          · simp only [if_pos z1]; exact Ev.now _
          · simp only [if_neg z1]
            by_cases z2 : S + n > 1000000000000000000
            · simp only [if_pos z2]; exact Ev.now _
            · simp only [if_neg z2]; exact Ev.now _
        unfold impl_Pool_shares.f addV
        rw [if_neg (by omega)]
        by_cases hS : S = 0
        · simp only [if_pos hS]
          refine Ev.bind (a := (R, 0)) (Ev.bind (RootOf_ev a b R (by omega) h1.2 (by omega) h2.2 hR0 hR1 hR2 hR3) (Ev.now _)) ?_
          exact hend R hR0 hR1
        · simp only [if_neg hS]
          rcases hp with hp | ⟨a1, a2, a3⟩
          · omega
          have m1 := MulDiv_ev a S A (by omega) h1.2 (by omega) a3.2 a1.1 a1.2
          have m2 := MulDiv_ev b S B (by omega) h2.2 (by omega) a3.2 a2.1 a2.2
          have q1 : 0 ≤ a * S / A := Int.ediv_nonneg (Int.mul_nonneg (by omega) (by omega)) (by omega)
          have q2 : 0 ≤ b * S / B := Int.ediv_nonneg (Int.mul_nonneg (by omega) (by omega)) (by omega)
          by_cases c1 : a * S / A ≤ 1000000000000000000
          · by_cases c2 : b * S / B ≤ 1000000000000000000
            · rw [if_pos c1] at m1
              rw [if_pos c2] at m2
              rw [if_neg (by omega)]
              refine Ev.bind (a := (mn (a * S / A) (b * S / B), 0)) (Ev.bind m1 (Ev.bind m2 (Ev.bind (firstOf_ev 0 0) (Ev.now _)))) ?_
              refine hend _ ?_ ?_ <;> rcases mn_cases (a * S / A) (b * S / B) with e | e <;> rw [e] <;> omega
            · rw [if_pos c1] at m1
              rw [if_neg c2] at m2
              rw [if_pos (by omega)]
              refine Ev.bind (a := (mn (a * S / A) 0, 13)) (Ev.bind m1 (Ev.bind m2 (Ev.bind (firstOf_ev 0 13) (Ev.now _)))) ?_
              exact Ev.now _
          · rw [if_neg c1] at m1
            rw [if_pos (by omega)]
            by_cases c2 : b * S / B ≤ 1000000000000000000
            · rw [if_pos c2] at m2
              refine Ev.bind (a := (mn 0 (b * S / B), 13)) (Ev.bind m1 (Ev.bind m2 (Ev.bind (firstOf_ev 13 0) (Ev.now _)))) ?_
              exact Ev.now _
            · rw [if_neg c2] at m2
              refine Ev.bind (a := (mn 0 0, 13)) (Ev.bind m1 (Ev.bind m2 (Ev.bind (firstOf_ev 13 13) (Ev.now _)))) ?_
              exact Ev.now _

end Go.Proofs.Ytppgnndolgmcfaa.U

/- Orders: when one is right, and what a payment buys. -/
namespace Go.Proofs.Ytppgnndolgmcfaa.U
open Go Go.RowKit Go.Proofs.Ytppgnndolgmcfaa.Q Go.Proofs.YtppgnndolgmcfaaW.PrintWords Go.Proofs.YtppgnndolgmcfaaW.PrintLast Go.Proofs.YtppgnndolgmcfaaW.PrintMore
set_option linter.unusedVariables false
set_option linter.unusedSimpArgs false

noncomputable def orderB (id maker : ByteArray) (sell want left : Int) (opn : Bool) : Bool :=
  nameB id && (peopleB maker && (inB sell && (inB want && (decide (0 ≤ left ∧ left ≤ sell) && (decide (left > 0) == opn)))))

theorem specOrderOK_ev (id maker : ByteArray) (sell want left : Int) (opn : Bool) : Ev (fun k => spec_OrderOK.f k id maker sell want left opn) (orderB id maker sell want left opn) := by
  unfold spec_OrderOK.f orderB
  refine Ev.bind (l05Name_ev id) ?_
  cases nameB id with
  | false => exact Ev.now _
  | true =>
    simp only [if_true, Bool.true_and]
    refine Ev.bind (l08Name_ev maker) ?_
    cases peopleB maker with
    | false => exact Ev.now _
    | true =>
      simp only [if_true, Bool.true_and, l01In_B, l01In_eq left 0 sell, Option.bind_some]
      cases inB sell with
      | false => exact Ev.now _
      | true =>
        cases inB want with
        | false => exact Ev.now _
        | true =>
          simp only [if_true, Bool.true_and]
          by_cases h : 0 ≤ left ∧ left ≤ sell
          · simp only [decide_eq_true h, if_true, Bool.true_and]
            by_cases h0 : left > 0
            · cases opn with
              | true => simp only [if_true, decide_eq_true h0]; exact Ev.now _
              | false => simp only [decide_eq_true h0, if_neg (show ¬ left = 0 by omega)]; exact Ev.now _
            · obtain rfl : left = 0 := by omega
              cases opn <;> exact Ev.now _
          · simp only [decide_eq_false h]
            exact Ev.now _

theorem implOrderOK_ev (id maker : ByteArray) (sell want left : Int) (opn : Bool) (h1 : (id.size : Int) ≤ 140737488351232) (h2 : (maker.size : Int) ≤ 140737488351232) : Ev (fun k => impl_OrderOK.f k id maker sell want left opn) (orderB id maker sell want left opn) := by
  unfold impl_OrderOK.f orderB
  have e1 := areNames_ev [id] (by simp) (by intro x hx; simp at hx; subst hx; exact h1)
  have e2 := isPeople_ev [maker] (by simp) (by intro x hx; simp at hx; subst hx; exact h2)
  simp only [List.all_cons, List.all_nil, Bool.and_true] at e1 e2
  refine Ev.bind e1 ?_
  cases nameB id with
  | false => exact Ev.now _
  | true =>
    simp only [if_true, Bool.true_and]
    refine Ev.bind e2 ?_
    cases peopleB maker with
    | false => exact Ev.now _
    | true =>
      simp only [if_true, Bool.true_and, isSome_B, within_eq left 0 sell, Option.bind_some]
      cases inB sell with
      | false => exact Ev.now _
      | true =>
        cases inB want with
        | false => exact Ev.now _
        | true =>
          simp only [if_true, Bool.true_and]
          by_cases h : 0 ≤ left ∧ left ≤ sell
          · simp only [decide_eq_true h, if_true, Bool.true_and]; exact Ev.now _
          · simp only [decide_eq_false h]; exact Ev.now _

/-- What a payment buys of a right order. -/
def fillV (sell want left : Int) (opn : Bool) (pay : Int) : Int × Int :=
  if opn = true then (if pay * sell / want > left then (0, 13) else if pay * sell / want = 0 then (0, 17) else (pay * sell / want, 0)) else (0, 16)
noncomputable def fillOfV (id maker : ByteArray) (sell want left : Int) (opn : Bool) (pay : Int) : Int × Int :=
  if orderB id maker sell want left opn = true then (if inB pay = true then fillV sell want left opn pay else (0, 4)) else (0, 1)

theorem orderB_bd {id maker : ByteArray} {sell want left : Int} {opn : Bool} (h : orderB id maker sell want left opn = true) :
    1 ≤ sell ∧ sell ≤ 1000000000000000000 ∧ 1 ≤ want ∧ want ≤ 1000000000000000000 ∧ 0 ≤ left ∧ left ≤ sell := by
  unfold orderB at h
  simp only [Bool.and_eq_true, inB_iff, decide_eq_true_iff] at h
  omega

theorem specFillOf_ev (id maker : ByteArray) (sell want left : Int) (opn : Bool) (pay : Int) : Ev (fun k => spec_FillOf.f k id maker sell want left opn pay) (fillOfV id maker sell want left opn pay) := by
  unfold spec_FillOf.f fillOfV
  refine Ev.bind (specOrderOK_ev id maker sell want left opn) ?_
  cases ho : orderB id maker sell want left opn with
  | false => exact Ev.now _
  | true =>
    simp only [if_true, l01In_B, Option.bind_some]
    cases hp : inB pay with
    | false => exact Ev.now _
    | true =>
      simp only [if_true]
      have hb := orderB_bd ho
      rw [inB_iff] at hp
      refine Ev.bind (a := fillV sell want left opn pay) ?_ (Ev.now _)
      unfold spec_l09Fill.f fillV
      cases opn with
      | false => exact Ev.now _
      | true =>
        simp only [if_true]
        refine Ev.bind (l02MulDiv_ev pay sell want (by omega) hp.2 (by omega) hb.2.1 hb.2.2.1 hb.2.2.2.1) ?_
        have hbad : ∀ q, Ev (fun k => spec_l09Fill.j0 k q true) (0, 13) := fun q => Ev.step (fun k => by rw [spec_l09Fill.j0, if_pos rfl]) (Ev.now _)
        by_cases c : pay * sell / want ≤ 1000000000000000000
        · simp only [if_pos c, if_true]
          by_cases g : pay * sell / want > left
          · simp only [decide_eq_true g, if_pos g]; exact hbad _
          · simp only [decide_eq_false g, if_neg g]
            refine Ev.step (f := fun _ => if pay * sell / want = 0 then some (0, 17) else some (pay * sell / want, 0)) (fun k => by rw [spec_l09Fill.j0, if_neg (by decide)]) ?_
            by_cases z : pay * sell / want = 0
            · simp only [if_pos z]; exact Ev.now _
            · simp only [if_neg z]; exact Ev.now _
        · simp only [if_neg c]
          rw [if_pos (by omega)]
          exact hbad _

theorem implFillOf_ev (id maker : ByteArray) (sell want left : Int) (opn : Bool) (pay : Int) (h1 : (id.size : Int) ≤ 140737488351232) (h2 : (maker.size : Int) ≤ 140737488351232) : Ev (fun k => impl_FillOf.f k id maker sell want left opn pay) (fillOfV id maker sell want left opn pay) := by
  unfold impl_FillOf.f fillOfV
  refine Ev.bind (implOrderOK_ev id maker sell want left opn h1 h2) ?_
  cases ho : orderB id maker sell want left opn with
  | false => exact Ev.now _
  | true =>
    simp only [if_true]
    have hb := orderB_bd ho
    unfold impl_Order_fill.f
    simp only [isSome_B, Option.bind_some]
    cases hp : inB pay with
    | false => exact Ev.now _
    | true =>
      simp only [if_true]
      rw [inB_iff] at hp
      refine Ev.bind (a := fillV sell want left opn pay) ?_ (Ev.now _)
      unfold fillV
      cases opn with
      | false => exact Ev.now _
      | true =>
        simp only [if_true]
        refine Ev.bind (MulDiv_ev pay sell want (by omega) hp.2 (by omega) hb.2.1 hb.2.2.1 hb.2.2.2.1) ?_
        have hbad : ∀ q, Ev (fun k => impl_Order_fill.j0 k q true) (0, 13) := fun q => Ev.step (fun k => by rw [impl_Order_fill.j0, if_pos rfl]) (Ev.now _)
        by_cases c : pay * sell / want ≤ 1000000000000000000
        · simp only [if_pos c, if_true]
          by_cases g : pay * sell / want > left
          · simp only [decide_eq_true g, if_pos g]; exact hbad _
          · simp only [decide_eq_false g, if_neg g]
            refine Ev.step (f := fun _ => if pay * sell / want = 0 then some (0, 17) else some (pay * sell / want, 0)) (fun k => by rw [impl_Order_fill.j0, if_neg (by decide)]) ?_
            by_cases z : pay * sell / want = 0
            · simp only [if_pos z]; exact Ev.now _
            · simp only [if_neg z]; exact Ev.now _
        · simp only [if_neg c, if_neg (show ¬ (13 : Int) = 0 by decide)]
          rw [if_pos (by omega)]
          exact hbad _

end Go.Proofs.Ytppgnndolgmcfaa.U

/- A drawn order: it is right. -/
namespace Go.Proofs.Ytppgnndolgmcfaa.U
open Go Go.RowKit Go.Proofs.Ytppgnndolgmcfaa.Q Go.Proofs.YtppgnndolgmcfaaW.PrintWords Go.Proofs.YtppgnndolgmcfaaW.PrintLast Go.Proofs.YtppgnndolgmcfaaW.PrintMore
set_option linter.unusedVariables false
set_option linter.unusedSimpArgs false

theorem isName_of (x : ByteArray) (h1 : 1 ≤ x.size) (h2 : x.size ≤ 40) (h : (List.range x.size).all (fun j => decide (Letter (bt x (j : Int))) || (j != 0 && decide (Digit (bt x (j : Int))))) = true) : IsName x := by
  refine ⟨h1, h2, fun j hj hj' => ?_⟩
  obtain ⟨n, rfl⟩ := Int.eq_ofNat_of_zero_le hj
  have := List.all_eq_true.1 h n (List.mem_range.2 (by omega))
  simp only [Bool.or_eq_true, Bool.and_eq_true, decide_eq_true_iff, bne_iff_ne] at this
  exact this.imp id (fun y => ⟨by omega, y.2⟩)
theorem nameB_of (x : ByteArray) (h : (decide (1 ≤ x.size) && (decide (x.size ≤ 12) && (List.range x.size).all (fun j => decide (Letter (bt x (j : Int))) || (j != 0 && decide (Digit (bt x (j : Int))))))) = true) : nameB x = true := by
  simp only [Bool.and_eq_true, decide_eq_true_iff] at h
  unfold nameB
  rw [decide_eq_true_iff]
  exact ⟨isName_of x h.1 (by omega) h.2.2, h.2.1⟩
theorem peopleB_of (x : ByteArray) (h : (decide (1 ≤ x.size) && (decide (x.size ≤ 12) && (List.range x.size).all (fun j => decide (Letter (bt x (j : Int))) || (j != 0 && decide (Digit (bt x (j : Int))))))) = true) (hb : impl_isPeople.bad x = false) : peopleB x = true := by
  unfold peopleB
  rw [nameB_of x h, hb]; rfl

theorem account_ok {l : List Int} (hl : Bytes l) {n a s : Int} (h : Src n a s) (hn : n < 900000000) :
    ∃ w a' s', spec_l00Src_account.f l a s = some (w, a', s') ∧ w ∈ [(⟨#[97, 110, 110]⟩ : ByteArray), ⟨#[98, 111, 98]⟩, ⟨#[99, 121]⟩] ∧ Src (n + 3) a' s' := by
  unfold spec_l00Src_account.f
  obtain ⟨w, a', s', e, hw, g⟩ := pick_ok hl h hn [(⟨#[97, 110, 110]⟩ : ByteArray), ⟨#[98, 111, 98]⟩, ⟨#[99, 121]⟩] (by simp) (by simp)
  rw [e]
  exact ⟨_, _, _, rfl, hw, g⟩
theorem account_people {w : ByteArray} (h : w ∈ [(⟨#[97, 110, 110]⟩ : ByteArray), ⟨#[98, 111, 98]⟩, ⟨#[99, 121]⟩]) : peopleB w = true ∧ w.size ≤ 3 := by
  simp only [List.mem_cons, List.not_mem_nil, or_false] at h
  rcases h with rfl | rfl | rfl <;> exact ⟨peopleB_of _ (by decide +kernel) (by decide +kernel), by decide⟩
theorem orderId_ok {l : List Int} (hl : Bytes l) {n a s : Int} (h : Src n a s) (hn : n < 900000000) :
    ∃ w a' s', spec_l00Src_orderId.f l a s = some (w, a', s') ∧ w ∈ [(⟨#[111, 49]⟩ : ByteArray), ⟨#[111, 50]⟩, ⟨#[111, 51]⟩] ∧ Src (n + 3) a' s' := by
  unfold spec_l00Src_orderId.f
  obtain ⟨w, a', s', e, hw, g⟩ := pick_ok hl h hn [(⟨#[111, 49]⟩ : ByteArray), ⟨#[111, 50]⟩, ⟨#[111, 51]⟩] (by simp) (by simp)
  rw [e]
  exact ⟨_, _, _, rfl, hw, g⟩
theorem orderId_name {w : ByteArray} (h : w ∈ [(⟨#[111, 49]⟩ : ByteArray), ⟨#[111, 50]⟩, ⟨#[111, 51]⟩]) : nameB w = true ∧ w.size ≤ 2 := by
  simp only [List.mem_cons, List.not_mem_nil, or_false] at h
  rcases h with rfl | rfl | rfl <;> exact ⟨nameB_of _ (by decide +kernel), by decide⟩

theorem order_ok {l : List Int} (hl : Bytes l) {n a s : Int} (h : Src n a s) (hn : n < 800000000) :
    ∃ id maker sell want left opn a' s', spec_l00Src_order.f l a s = some (id, maker, sell, want, left, opn, a', s') ∧ nameB id = true ∧ id.size ≤ 2 ∧ peopleB maker = true ∧ maker.size ≤ 3 ∧ 1 ≤ sell ∧ sell ≤ 1000 ∧ 1 ≤ want ∧ want ≤ 1000 ∧ 0 ≤ left ∧ left ≤ sell ∧ opn = decide (left > 0) ∧ Src (n + 18) a' s' := by
  unfold spec_l00Src_order.f
  obtain ⟨id, a1, s1, e1, hid, g1⟩ := orderId_ok hl h (by omega)
  rw [e1]; simp only [Option.bind_some]
  obtain ⟨mk, a2, s2, e2, hmk, g2⟩ := account_ok hl g1 (by omega)
  rw [e2]; simp only [Option.bind_some]
  obtain ⟨v3, a3, s3, e3, p3, q3, g3⟩ := next_ok hl g2 (by omega) 1000 (by omega)
  rw [e3]; simp only [Option.bind_some]
  obtain ⟨v4, a4, s4, e4, p4, q4, g4⟩ := next_ok hl g3 (by omega) 1000 (by omega)
  rw [e4]; simp only [Option.bind_some]
  rw [wid (n := 1 + v3) (by omega) (by omega)]
  obtain ⟨v5, a5, s5, e5, p5, q5, g5⟩ := next_ok hl g4 (by omega) (1 + v3) (by omega)
  rw [e5]; simp only [Option.bind_some]
  obtain ⟨b6, a6, s6, e6, g6⟩ := chance_ok hl g5 (by omega) 5 (by omega)
  rw [e6]; simp only [Option.bind_some]
  rw [wid (n := 1 + v4) (by omega) (by omega), wid (n := 1 + v5) (by omega) (by omega)]
  have ni := orderId_name hid
  have pm := account_people hmk
  have g7 : Src (n + 18) a6 s6 := by rw [show n + 18 = n + 3 + 3 + 3 + 3 + 3 + 3 from by omega]; exact g6
  cases b6 with
  | true => exact ⟨_, _, _, _, _, _, _, _, rfl, ni.1, ni.2, pm.1, pm.2, by omega, by omega, by omega, by omega, by omega, by omega, rfl, g7⟩
  | false =>
    refine ⟨_, _, _, _, _, _, _, _, rfl, ni.1, ni.2, pm.1, pm.2, by omega, by omega, by omega, by omega, by omega, by omega, ?_, g7⟩
    rw [decide_eq_true (by omega)]

theorem OrderOf_ok {l : List Int} (hl : Bytes l) :
    ∃ id maker sell want left opn, spec_OrderOf.f l = some (id, maker, sell, want, left, opn) ∧ nameB id = true ∧ id.size ≤ 2 ∧ peopleB maker = true ∧ maker.size ≤ 3 ∧ 1 ≤ sell ∧ sell ≤ 1000 ∧ 1 ≤ want ∧ want ≤ 1000 ∧ 0 ≤ left ∧ left ≤ sell ∧ opn = decide (left > 0) := by
  unfold spec_OrderOf.f
  rw [source_eq]
  simp only [Option.bind_some]
  obtain ⟨id, mk, sell, want, left, opn, a', s', e, h⟩ := order_ok hl (source_src l) (by omega)
  rw [e]
  exact ⟨_, _, _, _, _, _, rfl, h.1, h.2.1, h.2.2.1, h.2.2.2.1, h.2.2.2.2.1, h.2.2.2.2.2.1, h.2.2.2.2.2.2.1, h.2.2.2.2.2.2.2.1, h.2.2.2.2.2.2.2.2.1, h.2.2.2.2.2.2.2.2.2.1, h.2.2.2.2.2.2.2.2.2.2.1⟩

theorem drawn_right {id maker : ByteArray} {sell want left : Int} {opn : Bool} (h1 : nameB id = true) (h2 : peopleB maker = true) (h3 : 1 ≤ sell) (h4 : sell ≤ 1000) (h5 : 1 ≤ want) (h6 : want ≤ 1000) (h7 : 0 ≤ left) (h8 : left ≤ sell) (h9 : opn = decide (left > 0)) : orderB id maker sell want left opn = true := by
  unfold orderB
  subst h9
  simp only [h1, h2, Bool.true_and, Bool.and_eq_true, inB_iff]
  exact ⟨⟨h3, by omega⟩, ⟨h5, by omega⟩, decide_eq_true ⟨h7, h8⟩, by simp⟩

end Go.Proofs.Ytppgnndolgmcfaa.U

/- What is bought in two parts is at most what is bought at once, and at most one fewer. -/
namespace Go.Proofs.Ytppgnndolgmcfaa.Pure
open Go Go.RowKit Go.Proofs.Ytppgnndolgmcfaa.Q Go.Proofs.Ytppgnndolgmcfaa.U Go.Proofs.YtppgnndolgmcfaaW.PrintWords Go.Proofs.YtppgnndolgmcfaaW.PrintLast Go.Proofs.YtppgnndolgmcfaaW.PrintMore
set_option linter.unusedVariables false
set_option linter.unusedSimpArgs false

theorem fill_cases (sell want pay : Int) (h0 : 0 ≤ pay * sell / want) :
    (pay * sell / want > sell ∧ fillV sell want sell true pay = (0, 13)) ∨ (pay * sell / want = 0 ∧ fillV sell want sell true pay = (0, 17)) ∨
    (1 ≤ pay * sell / want ∧ pay * sell / want ≤ sell ∧ fillV sell want sell true pay = (pay * sell / want, 0)) := by
  unfold fillV
  simp only [if_true]
  by_cases h1 : pay * sell / want > sell
  · exact .inl ⟨h1, by rw [if_pos h1]⟩
  rw [if_neg h1]
  by_cases h2 : pay * sell / want = 0
  · exact .inr (.inl ⟨h2, by rw [if_pos h2]⟩)
  exact .inr (.inr ⟨by omega, by omega, by rw [if_neg h2]⟩)
theorem parts_of {a b s w : Int} (hw : 1 ≤ w) : a * s / w + b * s / w ≤ (a + b) * s / w ∧ (a + b) * s / w ≤ a * s / w + b * s / w + 1 := by
  have e : (a + b) * s = a * s + b * s := Int.add_mul _ _ _
  rw [e]
  generalize a * s = x
  generalize b * s = y
  have h1 : x / w * w ≤ x := Int.ediv_mul_le _ (by omega)
  have h2 : y / w * w ≤ y := Int.ediv_mul_le _ (by omega)
  have h3 : x < (x / w + 1) * w := Int.lt_ediv_add_one_mul_self _ (by omega)
  have h4 : y < (y / w + 1) * w := Int.lt_ediv_add_one_mul_self _ (by omega)
  constructor
  · rw [Int.le_ediv_iff_mul_le (by omega), Int.add_mul]; omega
  · have h5 : (x + y) / w < x / w + y / w + 2 := by
      rw [Int.ediv_lt_iff_lt_mul (by omega)]
      have : (x / w + y / w + 2) * w = (x / w + 1) * w + (y / w + 1) * w := by grind
      omega
    omega
theorem FnSplit : laws_FnSplit.Pure := by
  intro l0 l1 _ hl0 hw0 _ hl1 hw1
  refine Ev.rounds (?_ : Ev (fun k => laws_FnSplit.f k l0 l1) true)
  have hlong : Ev (fun k => laws_FnSplit.j0 k l0 l1 true) true := Ev.step (fun k => by rw [laws_FnSplit.j0, if_pos rfl]) (Ev.now _)
  unfold laws_FnSplit.f
  by_cases h0 : (l0.length : Int) > 1048576
  · simp only [if_pos h0]; exact hlong
  simp only [if_neg h0]
  by_cases h1 : (l1.length : Int) > 1048576
  · simp only [decide_eq_true h1]; exact hlong
  simp only [decide_eq_false h1]
  obtain ⟨id, mk, sell, want, left, opn, eo, c1, c2, c3, c4, c5, c6, c7, c8, c9, c10, c11⟩ := OrderOf_ok (bytes_of hw0)
  obtain ⟨x, ex, p, q⟩ := at_ok (bytes_of hw1) (by omega) 0 500 (by omega) (by omega) (by omega) (by omega)
  obtain ⟨y, ey, p', q'⟩ := at_ok (bytes_of hw1) (by omega) 1 500 (by omega) (by omega) (by omega) (by omega)
  have hr : orderB id mk sell want sell true = true := drawn_right c1 c3 c5 c6 c7 c8 (by omega) (Int.le_refl _) (decide_eq_true (by omega)).symm
  have wx : wrap64 (1 + x) = 1 + x := wid (by omega) (by omega)
  have wy : wrap64 (1 + y) = 1 + y := wid (by omega) (by omega)
  have wxy : wrap64 (1 + x + (1 + y)) = 1 + x + (1 + y) := wid (by omega) (by omega)
  have hx : 1 ≤ 1 + x ∧ 1 + x ≤ 500 := by omega
  have hy : 1 ≤ 1 + y ∧ 1 + y ≤ 500 := by omega
  refine Ev.step (f := fun k => (impl_FillOf.f k id mk sell want sell true (1 + x)).bind fun b1 => (impl_FillOf.f k id mk sell want sell true (1 + y)).bind fun b2 => (impl_FillOf.f k id mk sell want sell true (1 + x + (1 + y))).bind fun b3 => (spec_FillOf.f k id mk sell want sell true (1 + x + (1 + y))).bind fun b4 =>
    if b3.2 = b4.2 then (if b3.1 = b4.1 then (if b1.2 = 0 then (if b2.2 = 0 then (laws_FnSplit.j1 k b1.1 b1.2 b2.1 b2.2 b3.1 b3.2 false) else (laws_FnSplit.j1 k b1.1 b1.2 b2.1 b2.2 b3.1 b3.2 (b2.1 != 0))) else (if b1.1 = 0 then (if b2.2 = 0 then (laws_FnSplit.j1 k b1.1 b1.2 b2.1 b2.2 b3.1 b3.2 false) else (laws_FnSplit.j1 k b1.1 b1.2 b2.1 b2.2 b3.1 b3.2 (b2.1 != 0))) else (laws_FnSplit.j1 k b1.1 b1.2 b2.1 b2.2 b3.1 b3.2 true))) else (laws_FnSplit.j1 k b1.1 b1.2 b2.1 b2.2 b3.1 b3.2 true)) else (laws_FnSplit.j1 k b1.1 b1.2 b2.1 b2.2 b3.1 b3.2 true)) (fun k => ?_) ?_
  · rw [laws_FnSplit.j0, if_neg (by decide), eo]
    simp only [Option.bind_some]
    rw [ex]
    simp only [Option.bind_some]
    rw [ey]
    simp only [Option.bind_some, wx, wy, wxy]
  generalize 1 + x = a at *
  generalize 1 + y = b at *
  clear wx wy wxy eo ex ey p q p' q'
  have hfv : ∀ n : Int, 1 ≤ n → n ≤ 1000 → fillOfV id mk sell want sell true n = fillV sell want sell true n := by
    intro n hn hn'
    unfold fillOfV
    rw [if_pos hr, if_pos (by rw [inB_iff]; omega)]
  have ma := mul_bd (X := 500) (Y := 1000) (x := a) (y := sell) (by omega) (by omega) (by omega) (by omega)
  have mb := mul_bd (X := 500) (Y := 1000) (x := b) (y := sell) (by omega) (by omega) (by omega) (by omega)
  have mc := mul_bd (X := 1000) (Y := 1000) (x := a + b) (y := sell) (by omega) (by omega) (by omega) (by omega)
  have qa : 0 ≤ a * sell / want := Int.ediv_nonneg ma.1 (by omega)
  have qb : 0 ≤ b * sell / want := Int.ediv_nonneg mb.1 (by omega)
  have qc : 0 ≤ (a + b) * sell / want := Int.ediv_nonneg mc.1 (by omega)
  have hp := parts_of (a := a) (b := b) (s := sell) (w := want) (by omega)
  have fa := fill_cases sell want a qa
  have fb := fill_cases sell want b qb
  have fc := fill_cases sell want (a + b) qc
  refine Ev.bind (implFillOf_ev id mk sell want sell true a (by omega) (by omega)) (Ev.bind (implFillOf_ev id mk sell want sell true b (by omega) (by omega)) (Ev.bind (implFillOf_ev id mk sell want sell true (a + b) (by omega) (by omega)) (Ev.bind (specFillOf_ev id mk sell want sell true (a + b)) ?_)))
  rw [hfv a (by omega) (by omega), hfv b (by omega) (by omega), hfv (a + b) (by omega) (by omega)]
  simp only [if_true]
  clear hfv ma mb mc hr
  generalize a * sell / want = A at *
  generalize b * sell / want = B at *
  generalize (a + b) * sell / want = C at *
  generalize fillV sell want sell true a = va at *
  generalize fillV sell want sell true b = vb at *
  generalize fillV sell want sell true (a + b) = vc at *
  have hend : ∀ n c m d : Int, (n = A ∨ c = 13) → (m = B ∨ d = 13) → (c = 13 → A > sell) → (d = 13 → B > sell) → Ev (fun k => laws_FnSplit.j1 k n c m d vc.1 vc.2 false) true := by
    intro n c m d h1 h2 h3 h4
    refine Ev.step (fun k => ?_) (Ev.now _)
    rw [laws_FnSplit.j1, if_neg (by decide)]
    rcases fc with ⟨g, rfl⟩ | ⟨g, rfl⟩ | ⟨g, g', rfl⟩
    · rw [if_neg (by decide), if_pos rfl]
    · rw [if_neg (by decide), if_neg (by decide)]; rfl
    · rw [if_pos rfl, if_neg (fun e => by have := h3 e; omega), if_neg (fun e => by have := h4 e; omega)]
      have e1 : n = A := h1.resolve_right (fun e => by have := h3 e; omega)
      have e2 : m = B := h2.resolve_right (fun e => by have := h4 e; omega)
      subst e1 e2
      rw [wid (n := n + m) (by omega) (by omega), wid (n := n + m + 1) (by omega) (by omega), if_pos hp.1, decide_eq_true hp.2]
  rcases fa with ⟨g1, rfl⟩ | ⟨g1, rfl⟩ | ⟨g1, g1', rfl⟩ <;> rcases fb with ⟨g2, rfl⟩ | ⟨g2, rfl⟩ | ⟨g2, g2', rfl⟩ <;>
    simp (config := {decide := true}) only [if_true, if_false, bne_self_eq_false] <;>
    exact hend _ _ _ _ (by omega) (by omega) (by omega) (by omega)
end Go.Proofs.Ytppgnndolgmcfaa.Pure
