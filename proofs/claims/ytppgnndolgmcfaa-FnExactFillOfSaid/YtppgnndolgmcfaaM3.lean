/- Parts of the proof: what single Go functions compute, each with its walk, and plain laws over these. -/
import Derived.Test.YtppgnndolgmcfaaM0
import Derived.Test.YtppgnndolgmcfaaM2
import Derived.Test.YtppgnndolgmcfaaM1
import Derived.Lib.ItoaNum
import Derived.WalkKit
import Derived.ProofKit
import Derived.OpenShut
import Derived.ShutString
import Derived.ChangeOld
import Derived.Below
import Derived.ChangeArms
import Derived.DataReads
import Derived.Test.YtppgnndolgmcfaaWWords
/- What the reference's l02MulDiv computes: the quotient of the product, digit by digit. -/
namespace Go.Proofs.Ytppgnndolgmcfaa.U
open Go Go.RowKit Go.Proofs.Ytppgnndolgmcfaa.Q Go.Proofs.YtppgnndolgmcfaaW.PrintWords Go.Proofs.YtppgnndolgmcfaaW.PrintLast Go.Proofs.YtppgnndolgmcfaaW.PrintMore
set_option linter.unusedVariables false
set_option linter.unusedSimpArgs false

theorem l02Wide_eq (a b : Int) (ha : 0 ≤ a) (ha' : a ≤ 1000000000000000000) (hb : 0 ≤ b) (hb' : b ≤ 1000000000000000000) :
    spec_l02Wide.f a b = some (a * b / 1000000000000000000, a * b % 1000000000000000000) := by
  have e := wide_eq a b ha ha' hb hb'
  have hx := Int.emod_nonneg a (by decide : (1000000000 : Int) ≠ 0)
  have hx' := Int.emod_lt_of_pos a (by decide : (0 : Int) < 1000000000)
  have hy := Int.emod_nonneg b (by decide : (1000000000 : Int) ≠ 0)
  have hy' := Int.emod_lt_of_pos b (by decide : (0 : Int) < 1000000000)
  have hu : 0 ≤ a / 1000000000 ∧ a / 1000000000 ≤ 1000000000 := by omega
  have hv : 0 ≤ b / 1000000000 ∧ b / 1000000000 ≤ 1000000000 := by omega
  have m1 := mul_bd (X := 1000000000) (Y := 1000000000) hx (by omega) hy (by omega)
  have m2 := mul_bd (X := 1000000000) (Y := 1000000000) hu.1 hu.2 hy (by omega)
  have m3 := mul_bd (X := 1000000000) (Y := 1000000000) hx (by omega) hv.1 hv.2
  have m4 := mul_bd (X := 1000000000) (Y := 1000000000) hu.1 hu.2 hv.1 hv.2
  unfold spec_l02Wide.f
  rw [tdiv_nn ha, tdiv_nn hb, tmod_nn ha, tmod_nn hb]
  generalize a / 1000000000 = x at *
  generalize a % 1000000000 = y at *
  generalize b / 1000000000 = z at *
  generalize b % 1000000000 = u at *
  rw [e]
  rw [show wrap64 x = x from wid (by omega) (by omega), show wrap64 z = z from wid (by omega) (by omega)]
  generalize x * z = p at *
  generalize x * u = q at *
  generalize y * z = r at *
  generalize y * u = s at *
  rw [show wrap64 p = p from wid (by omega) (by omega), show wrap64 q = q from wid (by omega) (by omega), show wrap64 r = r from wid (by omega) (by omega), show wrap64 s = s from wid (by omega) (by omega)]
  rw [tdiv_nn m1.1, tmod_nn m1.1, show wrap64 (q + r) = q + r from wid (by omega) (by omega)]
  rw [show wrap64 (s / 1000000000) = s / 1000000000 from wid (by omega) (by omega), show wrap64 (q + r + s / 1000000000) = q + r + s / 1000000000 from wid (by omega) (by omega)]
  rw [tdiv_nn (by omega), tmod_nn (by omega)]
  rw [show wrap64 ((q + r + s / 1000000000) / 1000000000) = (q + r + s / 1000000000) / 1000000000 from wid (by omega) (by omega)]
  rw [show wrap64 ((q + r + s / 1000000000) % 1000000000 * 1000000000) = (q + r + s / 1000000000) % 1000000000 * 1000000000 from wid (by omega) (by omega)]
  rw [show wrap64 (p + (q + r + s / 1000000000) / 1000000000) = p + (q + r + s / 1000000000) / 1000000000 from wid (by omega) (by omega)]
  rw [show wrap64 ((q + r + s / 1000000000) % 1000000000 * 1000000000 + s % 1000000000) = (q + r + s / 1000000000) % 1000000000 * 1000000000 + s % 1000000000 from wid (by omega) (by omega)]
  congr 1
  refine Prod.ext ?_ ?_ <;> show _ = _ <;> simp only <;> omega

/-- The ten turns: ten times the rest, by c. -/
theorem l02MulDiv_turns (c low out rest T : Int) (hc : 1 ≤ c) (hc' : c ≤ 1000000000000000000) (hr : 0 ≤ rest) (hr' : rest < c) (hT : 1 ≤ T) (hT' : T ≤ 1000000000000000000) (hl : 0 ≤ low) (hl' : low < 1000000000000000000)
    (ho : 0 ≤ out) (ho' : out ≤ 100000000000000000) {res : Int × Bool}
    (h : Ev (fun k => spec_l02MulDiv.l0 k c low (out * 10 + (10 * rest + low / T % 10) / c) ((10 * rest + low / T % 10) % c) (T / 10)) res) :
    ∀ (d : Nat) (i q r : Int), 0 ≤ i → i + d = 10 → 0 ≤ q → q ≤ i → 0 ≤ r → r < c → r + c * q = i * rest → Ev (fun k => spec_l02MulDiv.l1 k c low out rest T q r i) res := by
  intro d
  induction d with
  | zero =>
    intro i q r hi hd hq hqi hr0 hrc e
    obtain rfl : i = 10 := by omega
    refine Ev.step (f := fun k => spec_l02MulDiv.l0 k c low (out * 10 + (10 * rest + low / T % 10) / c) ((10 * rest + low / T % 10) % c) (T / 10)) (fun k => ?_) h
    rw [spec_l02MulDiv.l1, if_neg (by omega), if_neg (by omega), if_neg (by omega)]
    have hd0 : 0 ≤ low / T := Int.ediv_nonneg hl (by omega)
    have hd1 : low / T ≤ low := Int.ediv_le_self _ hl
    rw [tdiv_nn hl, show wrap64 (low / T) = low / T from wid (by omega) (by omega), tmod_nn hd0]
    have hd2 := Int.emod_nonneg (low / T) (by decide : (10 : Int) ≠ 0)
    have hd3 := Int.emod_lt_of_pos (low / T) (by decide : (0 : Int) < 10)
    generalize low / T % 10 = dg at *
    rw [show wrap64 (r + dg) = r + dg from wid (by omega) (by omega), tdiv_nn (by omega), tmod_nn (by omega), tdiv_nn (by omega)]
    have e3 : 10 * rest + dg = (r + dg) + c * q := by omega
    have hq3 : (10 * rest + dg) / c = (r + dg) / c + q := by rw [e3, Int.add_mul_ediv_left _ _ (by omega)]
    have hm3 : (10 * rest + dg) % c = (r + dg) % c := by rw [e3, Int.add_mul_emod_self_left]
    have hb1 : 0 ≤ (r + dg) / c := Int.ediv_nonneg (by omega) (by omega)
    have hb2 : (r + dg) / c ≤ r + dg := Int.ediv_le_self _ (by omega)
    rw [hq3, hm3]
    have hle : (r + dg) / c ≤ 10 := by
      have : (r + dg) / c < 11 := by
        rw [Int.ediv_lt_iff_lt_mul (by omega)]
        omega
      omega
    rw [show wrap64 ((r + dg) / c) = (r + dg) / c from wid (by omega) (by omega)]
    rw [show wrap64 (q + (r + dg) / c) = (r + dg) / c + q from by rw [wid (by omega) (by omega)]; omega]
    rw [show wrap64 (out * 10) = out * 10 from wid (by omega) (by omega)]
    rw [show wrap64 (out * 10 + ((r + dg) / c + q)) = out * 10 + ((r + dg) / c + q) from wid (by omega) (by omega)]
    rw [show wrap64 (T / 10) = T / 10 from wid (by omega) (by omega)]
  | succ d ih =>
    intro i q r hi hd hq hqi hr0 hrc e
    by_cases hge : r + rest ≥ c
    · refine Ev.step (fun k => ?_) (ih (i + 1) (q + 1) (r + rest - c) (by omega) (by omega) (by omega) (by omega) (by omega) (by omega) (by rw [Int.mul_add, Int.add_mul]; omega))
      rw [spec_l02MulDiv.l1, if_pos (by omega), show wrap64 (r + rest) = r + rest from wid (by omega) (by omega), if_pos hge, show wrap64 (q + 1) = q + 1 from wid (by omega) (by omega), show wrap64 (i + 1) = i + 1 from wid (by omega) (by omega), show wrap64 (r + rest - c) = r + rest - c from wid (by omega) (by omega)]
    · refine Ev.step (fun k => ?_) (ih (i + 1) q (r + rest) (by omega) (by omega) (by omega) (by omega) (by omega) (by omega) (by rw [Int.add_mul]; omega))
      rw [spec_l02MulDiv.l1, if_pos (by omega), show wrap64 (r + rest) = r + rest from wid (by omega) (by omega), if_neg hge, show wrap64 (i + 1) = i + 1 from wid (by omega) (by omega)]

theorem l02MulDiv_digits (c low : Int) (hc : 1 ≤ c) (hc' : c ≤ 1000000000000000000) (hl : 0 ≤ low) (hl' : low < 1000000000000000000) :
    ∀ (j : Nat) (out rest : Int), j ≤ 18 → 0 ≤ rest → rest < c → 0 ≤ out → out < 10 ^ (18 - j) →
      Ev (fun k => spec_l02MulDiv.l0 k c low out rest (if j = 0 then 0 else 10 ^ (j - 1))) (out * 10 ^ j + (rest * 10 ^ j + low % 10 ^ j) / c, true) := by
  intro j
  induction j with
  | zero =>
    intro out rest hj hr hr' ho ho'
    refine Ev.step (f := fun _ => some (out, true)) (fun k => by rw [if_pos rfl, spec_l02MulDiv.l0, if_neg (by omega)]) ?_
    have : (rest * 10 ^ 0 + low % 10 ^ 0) / c = 0 := by
      rw [show (10 : Int) ^ 0 = 1 from rfl, Int.emod_one, Int.mul_one, Int.add_zero]
      exact Int.ediv_eq_zero_of_lt hr hr'
    rw [this]
    rw [show out * 10 ^ 0 + 0 = out from by rw [show (10 : Int) ^ 0 = 1 from rfl]; omega]
    exact Ev.now _
  | succ j ih =>
    intro out rest hj hr hr' ho ho'
    have hT : (1 : Int) ≤ 10 ^ j := by have h_ : (0 : Int) < 10 ^ j := Int.pow_pos (by decide); omega
    have hT2 : ∀ m : Nat, m ≤ 18 → (10 : Int) ^ m ≤ 1000000000000000000 := by decide
    have hT3 : ∀ m : Nat, m ≤ 17 → (10 : Int) ^ m ≤ 100000000000000000 := by decide
    have hTT := hT2 j (by omega)
    have hO := hT3 (18 - (j + 1)) (by omega)
    have hd2 := Int.emod_nonneg (low / 10 ^ j) (by decide : (10 : Int) ≠ 0)
    have hd3 := Int.emod_lt_of_pos (low / 10 ^ j) (by decide : (0 : Int) < 10)
    have hp : (10 : Int) ^ (j + 1) = 10 * 10 ^ j := by rw [Int.pow_succ, Int.mul_comm]
    have hp2 : (10 : Int) ^ (18 - j) = 10 * 10 ^ (18 - (j + 1)) := by rw [show 18 - j = (18 - (j + 1)) + 1 from by omega, Int.pow_succ, Int.mul_comm]
    have key := digit_step c (10 ^ j) out rest low hc hT hr hl
    have hq1 : 0 ≤ (10 * rest + low / 10 ^ j % 10) / c := Int.ediv_nonneg (by omega) (by omega)
    have hq2 : (10 * rest + low / 10 ^ j % 10) / c < 10 := by
      rw [Int.ediv_lt_iff_lt_mul (by omega)]
      omega
    have hm1 := Int.emod_nonneg (10 * rest + low / 10 ^ j % 10) (by omega : c ≠ 0)
    have hm2 := Int.emod_lt_of_pos (10 * rest + low / 10 ^ j % 10) (by omega : 0 < c)
    have := ih (out * 10 + (10 * rest + low / 10 ^ j % 10) / c) ((10 * rest + low / 10 ^ j % 10) % c) (by omega) hm1 hm2 (by omega) (by rw [hp2]; omega)
    rw [key, ← hp] at this
    have hdiv : (if j = 0 then (0 : Int) else 10 ^ (j - 1)) = 10 ^ j / 10 := by
      cases j with
      | zero => rfl
      | succ m => rw [if_neg (by omega), Int.pow_succ, Int.mul_ediv_cancel _ (by decide)]; rfl
    rw [hdiv] at this
    have h1 := l02MulDiv_turns c low out rest (10 ^ j) hc hc' hr hr' hT hTT hl hl' ho (by omega) this 10 0 0 0 (by omega) (by omega) (by omega) (by omega) (by omega) (by omega) (by omega)
    refine Ev.step (fun k => ?_) h1
    rw [if_neg (by omega), spec_l02MulDiv.l0, if_pos (by rw [show j + 1 - 1 = j from rfl]; omega)]
    rfl

/-- The reference's quotient of a product: whole, and whether it is an amount. -/
theorem l02MulDiv_ev (a b c : Int) (ha : 0 ≤ a) (ha' : a ≤ 1000000000000000000) (hb : 0 ≤ b) (hb' : b ≤ 1000000000000000000) (hc : 1 ≤ c) (hc' : c ≤ 1000000000000000000) :
    Ev (fun k => spec_l02MulDiv.f k a b c) (if a * b / c ≤ 1000000000000000000 then (a * b / c, true) else (1000000000000000000, false)) := by
  unfold spec_l02MulDiv.f
  rw [l02Wide_eq a b ha ha' hb hb']
  simp only [Option.bind_some]
  have hP : 0 ≤ a * b := Int.mul_nonneg ha hb
  generalize a * b = P at *
  have e := Int.mul_ediv_add_emod P 1000000000000000000
  have hl := Int.emod_nonneg P (by decide : (1000000000000000000 : Int) ≠ 0)
  have hl' := Int.emod_lt_of_pos P (by decide : (0 : Int) < 1000000000000000000)
  have hh : 0 ≤ P / 1000000000000000000 := Int.ediv_nonneg hP (by decide)
  generalize P / 1000000000000000000 = high at *
  generalize P % 1000000000000000000 = low at *
  by_cases hge : high ≥ c
  · simp only [if_pos hge]
    by_cases heq : high = c
    · simp only [if_pos heq]
      subst heq
      have hq : P / high = 1000000000000000000 + low / high := by
        rw [← e, Int.mul_comm, Int.mul_add_ediv_left _ _ (by omega)]
      by_cases hlt : low < high
      · have h0 : low / high = 0 := Int.ediv_eq_zero_of_lt hl hlt
        rw [hq, h0, if_pos (by omega), decide_eq_true hlt]
        exact Ev.now _
      · have h0 : 1 ≤ low / high := by rw [Int.le_ediv_iff_mul_le (by omega)]; omega
        rw [hq, if_neg (by omega), decide_eq_false hlt]
        exact Ev.now _
    · simp only [if_neg heq]
      have h0 : 1000000000000000001 ≤ P / c := by
        rw [Int.le_ediv_iff_mul_le (by omega)]
        omega
      rw [if_neg (by omega)]
      exact Ev.now _
  · simp only [if_neg hge]
    have := l02MulDiv_digits c low hc hc' hl hl' 18 0 high (by omega) hh (by omega) (by omega) (by decide)
    have hq : P / c ≤ 1000000000000000000 := by
      have : P / c < 1000000000000000001 := by
        rw [Int.ediv_lt_iff_lt_mul (by omega)]
        omega
      omega
    rw [if_pos hq]
    rw [show (0 : Int) * 10 ^ 18 + (high * 10 ^ 18 + low % 10 ^ 18) / c = P / c from by
      rw [show (10 : Int) ^ 18 = 1000000000000000000 from rfl, Int.emod_eq_of_lt hl hl', ← e, Int.mul_comm high]; omega] at this
    exact this
end Go.Proofs.Ytppgnndolgmcfaa.U

/- bits.Div64: the quotient of two words by one, as Knuth divides; and the program's MulDiv by it. -/
namespace Go.Proofs.Ytppgnndolgmcfaa.U
open Go Go.RowKit Go.Proofs.Ytppgnndolgmcfaa.Q Go.Proofs.YtppgnndolgmcfaaW.PrintWords Go.Proofs.YtppgnndolgmcfaaW.PrintLast Go.Proofs.YtppgnndolgmcfaaW.PrintMore
set_option linter.unusedVariables false
set_option linter.unusedSimpArgs false

theorem le_of_prod {Y q Q M : Int} (hY : 1 ≤ Y) (h1 : q * Y ≤ M) (h2 : M < (Q + 1) * Y) : q ≤ Q := by
  refine Int.not_lt.1 fun h => ?_
  have : (Q + 1) * Y ≤ q * Y := Int.mul_le_mul_of_nonneg_right (by omega) (by omega)
  omega
theorem lt_of_prod {Y q Q M : Int} (hY : 1 ≤ Y) (h1 : M < q * Y) (h2 : Q * Y ≤ M) : Q < q := by
  refine Int.not_le.1 fun h => ?_
  have : q * Y ≤ Q * Y := Int.mul_le_mul_of_nonneg_right h (by omega)
  omega

theorem ev_ex {g : Nat → Option (Int × Int)} {a : Int} (h : ∃ b, ∀ k, g (k + 1) = some (a, b)) : ∃ b, Ev g (a, b) := by
  obtain ⟨b, h⟩ := h
  exact ⟨b, Ev.step h (Ev.now _)⟩

/-- What the two loops of Div64 decide: a guess that is too great, and one that is not. -/
theorem guess (Y y1 y0 u v q r Q : Int) (hY : Y = y1 * 4294967296 + y0) (hy1 : 2147483648 ≤ y1) (hy0 : 0 ≤ y0) (hy0' : y0 < 4294967296) (hu : u < Y) (hv : 0 ≤ v) (hv' : v < 4294967296)
    (hQ1 : Q * Y ≤ u * 4294967296 + v) (hQ2 : u * 4294967296 + v < (Q + 1) * Y) (he : q * y1 + r = u) :
    (q * Y ≤ u * 4294967296 + v ↔ q * y0 ≤ r * 4294967296 + v) ∧ (4294967296 ≤ r → q < 4294967296) ∧ Q < 4294967296 := by
  have e1 : q * Y = (u - r) * 4294967296 + q * y0 := by subst hY; rw [← he]; grind
  refine ⟨by rw [e1, Int.sub_mul]; omega, fun hr => ?_, ?_⟩
  · refine Int.not_le.1 fun h => ?_
    have : 4294967296 * y1 ≤ q * y1 := Int.mul_le_mul_of_nonneg_right h (by omega)
    omega
  · refine Int.not_le.1 fun h => ?_
    have : 4294967296 * Y ≤ Q * Y := Int.mul_le_mul_of_nonneg_right h (by omega)
    omega

section
variable (Y s y1 y0 u v : Int)

theorem div_l0 (z : Int) (hY : Y = y1 * 4294967296 + y0) (hy1 : 2147483648 ≤ y1) (hy1' : y1 < 4294967296) (hy0 : 0 ≤ y0) (hy0' : y0 < 4294967296) (hu0 : 0 ≤ u) (hu : u < Y) (hv : 0 ≤ v) (hv' : v < 4294967296) (Q : Int) (hQ0 : 0 ≤ Q)
    (hQ1 : Q * Y ≤ u * 4294967296 + v) (hQ2 : u * 4294967296 + v < (Q + 1) * Y) {res : Int × Int} (h : Ev (fun k => bits_Div64.j2 k Y s y1 y0 u v z Q) res) :
    ∀ (n : Nat) (q r : Int), Q ≤ q → q - Q ≤ n → 0 ≤ r → r < 4294967296 → q * y1 + r = u → q < 17179869184 → Ev (fun k => bits_Div64.l0 k Y s y1 y0 u v z q r) res := by
  intro n
  induction n with
  | zero =>
    intro q r hq hn hr hr' he hb
    obtain rfl : q = Q := by omega
    obtain ⟨g1, g2, g3⟩ := guess Y y1 y0 u v q r q hY hy1 hy0 hy0' hu hv hv' hQ1 hQ2 he
    have m0 := mul_bd (X := 4294967295) (Y := 4294967295) hQ0 (by omega) hy0 (by omega)
    have ht : ¬ IntKind.u64.wrap (q * y0) > IntKind.u64.wrap (IntKind.u64.wrap (4294967296 * r) + v) := by
      rw [u64id m0.1 (by omega), u64id (n := 4294967296 * r) (by omega) (by omega), u64id (n := 4294967296 * r + v) (by omega) (by omega)]
      have := g1.1 hQ1
      omega
    refine Ev.step (fun k => by rw [bits_Div64.l0, if_neg (by omega), decide_eq_false ht]) ?_
    exact Ev.step (fun k => by rw [bits_Div64.j1, if_neg (by decide)]) h
  | succ n ih =>
    intro q r hq hn hr hr' he hb
    obtain ⟨g1, g2, g3⟩ := guess Y y1 y0 u v q r Q hY hy1 hy0 hy0' hu hv hv' hQ1 hQ2 he
    have down : Q < q → Ev (fun k => bits_Div64.j1 k Y s y1 y0 u v z q r true) res := by
      intro hgt
      have he' : (q - 1) * y1 + (r + y1) = u := by rw [Int.sub_mul]; omega
      by_cases hbig : r + y1 ≥ 4294967296
      · obtain ⟨g1', g2', _⟩ := guess Y y1 y0 u v (q - 1) (r + y1) Q hY hy1 hy0 hy0' hu hv hv' hQ1 hQ2 he'
        have hq32 := g2' hbig
        have m0 := mul_bd (X := 4294967295) (Y := 4294967295) (x := q - 1) (by omega) (by omega) hy0 (by omega)
        have hle := le_of_prod (by omega) (g1'.2 (by omega)) hQ2
        obtain rfl : q - 1 = Q := by omega
        refine Ev.step (fun k => ?_) h
        rw [bits_Div64.j1, if_pos rfl, u64id (n := r + y1) (by omega) (by omega), if_pos hbig, u64id (n := q - 1) (by omega) (by omega)]
      · refine Ev.step (fun k => ?_) (ih (q - 1) (r + y1) (by omega) (by omega) (by omega) (by omega) he' (by omega))
        rw [bits_Div64.j1, if_pos rfl, u64id (n := r + y1) (by omega) (by omega), if_neg hbig, u64id (n := q - 1) (by omega) (by omega)]
    by_cases hbig : q ≥ 4294967296
    · exact Ev.step (fun k => by rw [bits_Div64.l0, if_pos hbig]) (down (by omega))
    · have m0 := mul_bd (X := 4294967295) (Y := 4294967295) (x := q) (by omega) (by omega) hy0 (by omega)
      have e1 : IntKind.u64.wrap (q * y0) = q * y0 := u64id m0.1 (by omega)
      have e2 : IntKind.u64.wrap (IntKind.u64.wrap (4294967296 * r) + v) = 4294967296 * r + v := by rw [u64id (n := 4294967296 * r) (by omega) (by omega), u64id (by omega) (by omega)]
      by_cases ht : q * y0 > 4294967296 * r + v
      · refine Ev.step (fun k => by rw [bits_Div64.l0, if_neg hbig, e1, e2, decide_eq_true ht]) (down ?_)
        refine lt_of_prod (Y := Y) (by omega) (Int.not_le.1 fun hh => ?_) hQ1
        have := g1.1 hh
        omega
      · have hle := le_of_prod (by omega) (g1.2 (by omega)) hQ2
        obtain rfl : q = Q := by omega
        refine Ev.step (fun k => by rw [bits_Div64.l0, if_neg hbig, e1, e2, decide_eq_false ht]) ?_
        exact Ev.step (fun k => by rw [bits_Div64.j1, if_neg (by decide)]) h

/-- The second loop: the lower word of the quotient; the rest is left open. -/
theorem div_l1 (hY : Y = y1 * 4294967296 + y0) (hy1 : 2147483648 ≤ y1) (hy1' : y1 < 4294967296) (hy0 : 0 ≤ y0) (hy0' : y0 < 4294967296) (hu0 : 0 ≤ u) (hu : u < Y) (hv : 0 ≤ v) (hv' : v < 4294967296) (Q : Int) (hQ0 : 0 ≤ Q)
    (hQ1 : Q * Y ≤ u * 4294967296 + v) (hQ2 : u * 4294967296 + v < (Q + 1) * Y) (hs : 0 ≤ s) (P : Int) (hP : 0 ≤ P) (hP' : P < 4294967296) :
    ∀ (n : Nat) (q r : Int), Q ≤ q → q - Q ≤ n → 0 ≤ r → r < 4294967296 → q * y1 + r = u → q < 17179869184 → ∃ rem, Ev (fun k => bits_Div64.l1 k Y s y1 y0 v P r u q) (P * 4294967296 + Q, rem) := by
  intro n
  induction n with
  | zero =>
    intro q r hq hn hr hr' he hb
    obtain rfl : q = Q := by omega
    obtain ⟨g1, g2, g3⟩ := guess Y y1 y0 u v q r q hY hy1 hy0 hy0' hu hv hv' hQ1 hQ2 he
    have m0 := mul_bd (X := 4294967295) (Y := 4294967295) hQ0 (by omega) hy0 (by omega)
    have ht : ¬ IntKind.u64.wrap (q * y0) > IntKind.u64.wrap (IntKind.u64.wrap (4294967296 * r) + v) := by
      rw [u64id m0.1 (by omega), u64id (n := 4294967296 * r) (by omega) (by omega), u64id (n := 4294967296 * r + v) (by omega) (by omega)]
      have := g1.1 hQ1
      omega
    obtain ⟨rem, hrem⟩ : ∃ rem, Ev (fun k => bits_Div64.j4 k Y s y1 y0 v P r u q false) (P * 4294967296 + q, rem) := by
      apply ev_ex
      apply Exists.intro
      intro k
      rw [bits_Div64.j4, if_neg (by decide), if_pos hs, u64id (n := P * 4294967296) (by omega) (by omega), u64id (n := P * 4294967296 + q) (by omega) (by omega)]
    exact ⟨rem, Ev.step (fun k => by rw [bits_Div64.l1, if_neg (by omega), decide_eq_false ht]) hrem⟩
  | succ n ih =>
    intro q r hq hn hr hr' he hb
    obtain ⟨g1, g2, g3⟩ := guess Y y1 y0 u v q r Q hY hy1 hy0 hy0' hu hv hv' hQ1 hQ2 he
    have down : Q < q → ∃ rem, Ev (fun k => bits_Div64.j4 k Y s y1 y0 v P r u q true) (P * 4294967296 + Q, rem) := by
      intro hgt
      have he' : (q - 1) * y1 + (r + y1) = u := by rw [Int.sub_mul]; omega
      by_cases hbig : r + y1 ≥ 4294967296
      · obtain ⟨g1', g2', _⟩ := guess Y y1 y0 u v (q - 1) (r + y1) Q hY hy1 hy0 hy0' hu hv hv' hQ1 hQ2 he'
        have hq32 := g2' hbig
        have m0 := mul_bd (X := 4294967295) (Y := 4294967295) (x := q - 1) (by omega) (by omega) hy0 (by omega)
        have hle := le_of_prod (by omega) (g1'.2 (by omega)) hQ2
        obtain rfl : q - 1 = Q := by omega
        apply ev_ex
        apply Exists.intro
        intro k
        rw [bits_Div64.j4, if_pos rfl, u64id (n := r + y1) (by omega) (by omega), if_pos hbig, if_pos hs, u64id (n := q - 1) (by omega) (by omega), u64id (n := P * 4294967296) (by omega) (by omega), u64id (n := P * 4294967296 + (q - 1)) (by omega) (by omega)]
      · obtain ⟨rem, hrem⟩ := ih (q - 1) (r + y1) (by omega) (by omega) (by omega) (by omega) he' (by omega)
        refine ⟨rem, Ev.step (fun k => ?_) hrem⟩
        rw [bits_Div64.j4, if_pos rfl, u64id (n := r + y1) (by omega) (by omega), if_neg hbig, u64id (n := q - 1) (by omega) (by omega)]
    by_cases hbig : q ≥ 4294967296
    · obtain ⟨rem, hrem⟩ := down (by omega)
      exact ⟨rem, Ev.step (fun k => by rw [bits_Div64.l1, if_pos hbig]) hrem⟩
    · have m0 := mul_bd (X := 4294967295) (Y := 4294967295) (x := q) (by omega) (by omega) hy0 (by omega)
      have e1 : IntKind.u64.wrap (q * y0) = q * y0 := u64id m0.1 (by omega)
      have e2 : IntKind.u64.wrap (IntKind.u64.wrap (4294967296 * r) + v) = 4294967296 * r + v := by rw [u64id (n := 4294967296 * r) (by omega) (by omega), u64id (by omega) (by omega)]
      by_cases ht : q * y0 > 4294967296 * r + v
      · obtain ⟨rem, hrem⟩ := down (by
          refine lt_of_prod (Y := Y) (by omega) (Int.not_le.1 fun hh => ?_) hQ1
          have := g1.1 hh
          omega)
        exact ⟨rem, Ev.step (fun k => by rw [bits_Div64.l1, if_neg hbig, e1, e2, decide_eq_true ht]) hrem⟩
      · have hle := le_of_prod (by omega) (g1.2 (by omega)) hQ2
        obtain rfl : q = Q := by omega
        obtain ⟨rem, hrem⟩ : ∃ rem, Ev (fun k => bits_Div64.j4 k Y s y1 y0 v P r u q false) (P * 4294967296 + q, rem) := by
          apply ev_ex
          apply Exists.intro
          intro k
          rw [bits_Div64.j4, if_neg (by decide), if_pos hs, u64id (n := P * 4294967296) (by omega) (by omega), u64id (n := P * 4294967296 + q) (by omega) (by omega)]
        exact ⟨rem, Ev.step (fun k => by rw [bits_Div64.l1, if_neg hbig, e1, e2, decide_eq_false ht]) hrem⟩
end

/-- The first guess: the upper word by the divisor's upper half. -/
theorem first_guess (Y y1 y0 u v Q : Int) (hY : Y = y1 * 4294967296 + y0) (hy1 : 2147483648 ≤ y1) (hy1' : y1 < 4294967296) (hy0 : 0 ≤ y0) (hu0 : 0 ≤ u) (hu64 : u < 18446744073709551616) (hv : 0 ≤ v) (hv' : v < 4294967296) (hQ0 : 0 ≤ Q) (hQ1 : Q * Y ≤ u * 4294967296 + v) :
    Q ≤ u / y1 ∧ 0 ≤ u / y1 ∧ u / y1 < 17179869184 ∧ 0 ≤ u - u / y1 * y1 ∧ u - u / y1 * y1 < 4294967296 ∧ u / y1 * y1 + (u - u / y1 * y1) = u ∧ u / y1 * y1 ≤ u ∧ 0 ≤ u / y1 * y1 := by
  have h1 := knuth_lower Y y1 y0 u v Q hY hy0 hv hv' hQ0 hQ1
  have h2 := Int.mul_ediv_add_emod u y1
  have h3 := Int.emod_nonneg u (by omega : y1 ≠ 0)
  have h4 := Int.emod_lt_of_pos u (by omega : 0 < y1)
  have h5 : 0 ≤ u / y1 := Int.ediv_nonneg hu0 (by omega)
  have h6 : u / y1 < 17179869184 := by rw [Int.ediv_lt_iff_lt_mul (by omega)]; omega
  have h7 : Q ≤ u / y1 := by rw [Int.le_ediv_iff_mul_le (by omega)]; exact h1
  rw [Int.mul_comm] at h2
  have h8 : 0 ≤ u / y1 * y1 := Int.mul_nonneg h5 (by omega)
  refine ⟨h7, h5, h6, ?_, ?_, ?_, ?_, h8⟩ <;> omega

theorem div_main (s Y y1 y0 u v z : Int) (hY : Y = y1 * 4294967296 + y0) (hy1 : 2147483648 ≤ y1) (hy1' : y1 < 4294967296) (hy0 : 0 ≤ y0) (hy0' : y0 < 4294967296) (hu0 : 0 ≤ u) (hu : u < Y) (hv : 0 ≤ v) (hv' : v < 4294967296) (hz : 0 ≤ z) (hz' : z < 4294967296) (hs : 0 ≤ s) :
    ∃ rem, Ev (fun k => bits_Div64.l0 k Y s y1 y0 u v z (u / y1) (u - u / y1 * y1)) (((u * 4294967296 + v) * 4294967296 + z) / Y, rem) := by
  have hY0 : 1 ≤ Y := by omega
  have hYb : Y < 18446744073709551616 := by omega
  have a1 := Int.mul_ediv_add_emod (u * 4294967296 + v) Y
  have a2 := Int.emod_nonneg (u * 4294967296 + v) (by omega : Y ≠ 0)
  have a3 := Int.emod_lt_of_pos (u * 4294967296 + v) (by omega : 0 < Y)
  have a4 : 0 ≤ (u * 4294967296 + v) / Y := Int.ediv_nonneg (by omega) (by omega)
  generalize (u * 4294967296 + v) / Y = Q at *
  generalize hR : (u * 4294967296 + v) % Y = R at *
  rw [Int.mul_comm] at a1
  have hQ1 : Q * Y ≤ u * 4294967296 + v := by omega
  have hQ2 : u * 4294967296 + v < (Q + 1) * Y := by rw [Int.add_mul]; omega
  have b1 := Int.mul_ediv_add_emod (R * 4294967296 + z) Y
  have b2 := Int.emod_nonneg (R * 4294967296 + z) (by omega : Y ≠ 0)
  have b3 := Int.emod_lt_of_pos (R * 4294967296 + z) (by omega : 0 < Y)
  have b4 : 0 ≤ (R * 4294967296 + z) / Y := Int.ediv_nonneg (by omega) (by omega)
  have tot : ((u * 4294967296 + v) * 4294967296 + z) / Y = Q * 4294967296 + (R * 4294967296 + z) / Y := by
    have e : (u * 4294967296 + v) * 4294967296 + z = (R * 4294967296 + z) + Y * (Q * 4294967296) := by rw [← a1]; grind
    rw [e, Int.add_mul_ediv_left _ _ (by omega)]
    omega
  rw [tot]
  clear tot
  generalize (R * 4294967296 + z) / Y = P at *
  generalize (R * 4294967296 + z) % Y = R2 at *
  rw [Int.mul_comm] at b1
  have hP1 : P * Y ≤ R * 4294967296 + z := by omega
  have hP2 : R * 4294967296 + z < (P + 1) * Y := by rw [Int.add_mul]; omega
  obtain ⟨c1, c2, c3, c4, c5, c6, c7, c8⟩ := first_guess Y y1 y0 u v Q hY hy1 hy1' hy0 hu0 (by omega) hv hv' a4 hQ1
  obtain ⟨d1, d2, d3, d4, d5, d6, d7, d8⟩ := first_guess Y y1 y0 R z P hY hy1 hy1' hy0 a2 (by omega) hz hz' b4 hP1
  have q32 := (guess Y y1 y0 u v _ _ Q hY hy1 hy0 hy0' hu hv hv' hQ1 hQ2 c6).2.2
  obtain ⟨rem, hrem⟩ := div_l1 Y s y1 y0 R z hY hy1 hy1' hy0 hy0' a2 a3 hz hz' P b4 hP1 hP2 hs Q a4 q32 (R / y1 - P).toNat (R / y1) (R - R / y1 * y1) d1 (by omega) d4 d5 d6 d3
  refine ⟨rem, ?_⟩
  refine div_l0 Y s y1 y0 u v z hY hy1 hy1' hy0 hy0' hu0 hu hv hv' Q a4 hQ1 hQ2 ?_ (u / y1 - Q).toNat (u / y1) _ c1 (by omega) c4 c5 c6 c3
  have hw : IntKind.u64.wrap (IntKind.u64.wrap (IntKind.u64.wrap (u * 4294967296) + v) - IntKind.u64.wrap (Q * Y)) = R := by
    simp only [u64w]
    omega
  refine Ev.step (fun k => ?_) hrem
  rw [bits_Div64.j2, if_neg (by omega), hw, tdiv_nn a2, u64id (n := R / y1) d2 (by omega), u64id (n := R / y1 * y1) d8 (by omega), u64id (n := R - R / y1 * y1) d4 (by omega)]

end Go.Proofs.Ytppgnndolgmcfaa.U

/- The program's MulDiv: the quotient of a product, through Div64. -/
namespace Go.Proofs.Ytppgnndolgmcfaa.U
open Go Go.RowKit Go.Proofs.Ytppgnndolgmcfaa.Q Go.Proofs.YtppgnndolgmcfaaW.PrintWords Go.Proofs.YtppgnndolgmcfaaW.PrintLast Go.Proofs.YtppgnndolgmcfaaW.PrintMore
set_option linter.unusedVariables false
set_option linter.unusedSimpArgs false

theorem u64_64 (n : Int) (h0 : 0 ≤ n) (h1 : n < 2 ^ 64) : IntKind.u64.wrap n = n := u64id h0 h1

theorem Div64_ev (hi lo y : Int) (h0 : 0 ≤ hi) (h1 : hi < y) (h2 : y < 18446744073709551616) (h3 : 0 ≤ lo) (h4 : lo < 18446744073709551616) :
    ∃ rem, Ev (fun k => bits_Div64.f k hi lo y) ((hi * 18446744073709551616 + lo) / y, rem) := by
  unfold bits_Div64.f
  simp only [if_neg (show ¬ y = 0 by omega), if_neg (show ¬ y ≤ hi by omega)]
  by_cases hz : hi = 0
  · subst hz
    simp only [if_pos rfl]
    rw [tdiv_nn h3, u64id (Int.ediv_nonneg h3 (by omega)) (by have := Int.ediv_le_self y h3; omega)]
    rw [show (0 * 18446744073709551616 + lo) = lo by omega]
    exact ⟨_, Ev.now _⟩
  · simp only [if_neg hz]
    have hyn : y.toNat ≠ 0 := by omega
    have hy64 : y.toNat < 2 ^ 64 := by omega
    obtain ⟨b1, b2, b3⟩ := Lib.bitLenAux_bounds 64 y.toNat hy64 hyn
    have b4 : Lib.bitLen y.toNat ≤ 64 := Lib.bitLen_le _ 64 (Nat.le_refl _) hy64
    have bl : Lib.bitLenAux 64 y.toNat = Lib.bitLen y.toNat := rfl
    rw [bl] at b1 b2 b3
    have hlz : bits_LeadingZeros64.f y = some (64 - (Lib.bitLen y.toNat : Int)) := by unfold bits_LeadingZeros64.f; rw [if_pos ⟨by omega, h2⟩]
    rw [hlz]
    simp only [Option.bind_some]
    generalize Lib.bitLen y.toNat = L at *
    obtain ⟨s, hs⟩ : ∃ s, L + s = 64 := ⟨64 - L, by omega⟩
    have ew : IntKind.u64.wrap (64 - (L : Int)) = (s : Int) := by rw [u64id (by omega) (by omega)]; omega
    rw [ew]
    have ew2 : IntKind.u64.wrap (64 - (s : Int)) = (L : Int) := by rw [u64id (by omega) (by omega)]; omega
    rw [ew2]
    simp only [if_pos (show (0 : Int) ≤ (s : Int) by omega), if_pos (show (0 : Int) ≤ (L : Int) by omega)]
    have hp : (0 : Int) < 2 ^ s := Int.pow_pos (by decide)
    have hD : (0 : Int) < 2 ^ L := Int.pow_pos (by decide)
    have hpD : (2 : Int) ^ s * 2 ^ L = 18446744073709551616 := by rw [← Int.pow_add, show s + L = 64 from by omega]; rfl
    have hL1 : (2 : Int) ^ L = 2 * 2 ^ (L - 1) := by
      obtain ⟨m, rfl⟩ : ∃ m, L = m + 1 := ⟨L - 1, by omega⟩
      rw [Int.pow_succ, Int.mul_comm]; rfl
    have c2 : (2 : Int) ^ (L - 1) ≤ y := by have : ((2 ^ (L - 1) : Nat) : Int) ≤ (y.toNat : Int) := by exact_mod_cast b2
                                            rw [Int.toNat_of_nonneg (by omega)] at this; exact_mod_cast this
    have c3 : y < (2 : Int) ^ L := by have : ((y.toNat : Nat) : Int) < ((2 ^ L : Nat) : Int) := by exact_mod_cast b3
                                      rw [Int.toNat_of_nonneg (by omega)] at this; exact_mod_cast this
    have hshl : ∀ x : Int, shl .u64 x (s : Int) = x * 2 ^ s % 18446744073709551616 := by
      intro x
      unfold shl
      rw [Int.toNat_natCast, Nat.min_eq_left (by simp [IntKind.bits]; omega), u64w]
    have hshr : shr .u64 lo (L : Int) = lo / 2 ^ L := by
      unfold shr
      rw [Int.toNat_natCast, Nat.min_eq_left (by simp [IntKind.bits]; omega)]
    rw [hshl, hshl, hshl, hshr]
    have hmask : ∀ x : Int, 0 ≤ x → x < 18446744073709551616 → Go.bits .and .u64 x 4294967295 = x % 4294967296 := by
      intro x hx hx'
      exact bits_mask .u64 64 (by decide) u64_64 32 (by decide) x hx hx'
    have hjoin : ∀ a b : Int, 0 ≤ a → a % 2 ^ s = 0 → a < 18446744073709551616 → 0 ≤ b → b < 2 ^ s → Go.bits .or .u64 a b = a + b := by
      intro a b ha hm ha' hb hb'
      have : (2 : Int) ^ s ≤ 18446744073709551616 := by have h_ := Int.mul_le_mul_of_nonneg_left (show (1 : Int) ≤ 2 ^ L by omega) (show (0 : Int) ≤ 2 ^ s by omega); rw [hpD] at h_; omega
      exact bits_join .u64 64 (by decide) u64_64 s a b ha hm (by show a < 18446744073709551616; exact ha') hb hb' (by show b < 18446744073709551616; omega)
    generalize hpp : (2 : Int) ^ s = p at *
    generalize (2 : Int) ^ L = D at *
    generalize (2 : Int) ^ (L - 1) = D1 at *
    have y63 : 9223372036854775808 ≤ y * p := by
      have : D1 * p ≤ y * p := Int.mul_le_mul_of_nonneg_right c2 (by omega)
      have e : 2 * (D1 * p) = 18446744073709551616 := by rw [← hpD, hL1]; grind
      omega
    have y64 : y * p < 18446744073709551616 := by
      have : y * p < D * p := Int.mul_lt_mul_of_pos_right c3 hp
      rw [Int.mul_comm D] at this
      omega
    have hip : hi * p ≤ y * p - p := by
      have : (hi + 1) * p ≤ y * p := Int.mul_le_mul_of_nonneg_right (by omega) (by omega)
      rw [Int.add_mul] at this
      omega
    have hip0 : 0 ≤ hi * p := Int.mul_nonneg h0 (by omega)
    have lo1 : 0 ≤ lo / D := Int.ediv_nonneg h3 (by omega)
    have lo2 : lo / D < p := by
      rw [Int.ediv_lt_iff_lt_mul (by omega)]
      omega
    have lo3 : lo * p = lo / D * 18446744073709551616 + lo * p % 18446744073709551616 := by
      have e1 : lo * p / 18446744073709551616 = lo / D := by rw [← hpD, Int.mul_comm lo, Int.mul_ediv_mul_of_pos _ _ hp]
      rw [← e1]
      omega
    rw [Int.emod_eq_of_lt (by omega) y64, Int.emod_eq_of_lt hip0 (by omega)]
    rw [hmask (y * p) (by omega) y64, hmask (lo * p % 18446744073709551616) (by omega) (by omega), hjoin (hi * p) (lo / D) hip0 (Int.mul_emod_left _ _) (by omega) lo1 lo2]
    simp only [if_neg (show ¬ y * p / 4294967296 = 0 by omega)]
    have hq : (hi * 18446744073709551616 + lo) / y = (((hi * p + lo / D) * 4294967296 + lo * p % 18446744073709551616 / 4294967296) * 4294967296 + lo * p % 18446744073709551616 % 4294967296) / (y * p) := by
      have e : ((hi * p + lo / D) * 4294967296 + lo * p % 18446744073709551616 / 4294967296) * 4294967296 + lo * p % 18446744073709551616 % 4294967296 = (hi * 18446744073709551616 + lo) * p := by
        have : hi * 18446744073709551616 * p = hi * p * 18446744073709551616 := by grind
        rw [Int.add_mul (hi * 18446744073709551616) lo p, this]
        generalize lo * p % 18446744073709551616 = m at *
        omega
      rw [e, Int.mul_ediv_mul_of_pos_left _ _ hp]
    rw [hq]
    have d1 : 0 ≤ hi * p + lo / D := by omega
    have d2 : hi * p + lo / D < y * p := by omega
    have d3 : 0 ≤ lo * p % 18446744073709551616 := by omega
    have d4 : lo * p % 18446744073709551616 < 18446744073709551616 := by omega
    generalize hi * p + lo / D = u at *
    generalize lo * p % 18446744073709551616 = w at *
    generalize y * p = Y at *
    have f1 : 0 ≤ u / (Y / 4294967296) := Int.ediv_nonneg d1 (by omega)
    have f2 : u / (Y / 4294967296) ≤ u := Int.ediv_le_self _ d1
    have f3 := Int.mul_ediv_add_emod u (Y / 4294967296)
    have f4 := Int.emod_nonneg u (show Y / 4294967296 ≠ 0 by omega)
    have f5 : 0 ≤ u / (Y / 4294967296) * (Y / 4294967296) := Int.mul_nonneg f1 (by omega)
    rw [Int.mul_comm] at f3
    rw [tdiv_nn d1, u64id (n := u / (Y / 4294967296)) f1 (by omega), u64id (n := u / (Y / 4294967296) * (Y / 4294967296)) f5 (by omega), u64id (n := u - u / (Y / 4294967296) * (Y / 4294967296)) (by omega) (by omega)]
    exact div_main (s : Int) Y (Y / 4294967296) (Y % 4294967296) u (w / 4294967296) (w % 4294967296) (by omega) (by omega) (by omega) (by omega) (by omega) d1 d2 (by omega) (by omega) (by omega) (by omega) (by omega)

theorem within_eq (n a b : Int) : impl_within.f n a b = some (decide (a ≤ n ∧ n ≤ b)) := by
  unfold impl_within.f
  by_cases h : n ≥ a
  · rw [if_pos h]; congr 1; exact decide_eq_decide.2 ⟨fun x => ⟨h, x⟩, fun x => x.2⟩
  · rw [if_neg h, decide_eq_false (fun x => h x.1)]
theorem isAmount_eq (n : Int) : impl_isAmount.f n = some (decide (0 ≤ n ∧ n ≤ 1000000000000000000)) := by unfold impl_isAmount.f; rw [within_eq]; rfl
theorem isSome_eq (n : Int) : impl_isSome.f n = some (decide (1 ≤ n ∧ n ≤ 1000000000000000000)) := by unfold impl_isSome.f; rw [within_eq]; rfl

/-- The program's MulDiv. -/
theorem MulDiv_ev (a b c : Int) (ha : 0 ≤ a) (ha' : a ≤ 1000000000000000000) (hb : 0 ≤ b) (hb' : b ≤ 1000000000000000000) (hc : 1 ≤ c) (hc' : c ≤ 1000000000000000000) :
    Ev (fun k => impl_MulDiv.f k a b c) (if a * b / c ≤ 1000000000000000000 then (a * b / c, 0) else (0, 13)) := by
  unfold impl_MulDiv.f
  simp only [isAmount_eq, isSome_eq, decide_eq_true (show 0 ≤ a ∧ a ≤ 1000000000000000000 from ⟨ha, ha'⟩), decide_eq_true (show 0 ≤ b ∧ b ≤ 1000000000000000000 from ⟨hb, hb'⟩), decide_eq_true (show 1 ≤ c ∧ c ≤ 1000000000000000000 from ⟨hc, hc'⟩), Option.bind_some, if_true, Bool.not_true]
  have hm := mul_bd ha ha' hb hb'
  have hP0 := hm.1
  have hmul : bits_Mul64.f a b = some (a * b / 18446744073709551616, a * b % 18446744073709551616) := by
    unfold bits_Mul64.f
    rw [if_pos ⟨ha, by omega, hb, by omega⟩]
  have hstep : ∀ k, impl_MulDiv.j0 (k + 1) a b c false = (if a * b / 18446744073709551616 ≥ c then some (0, 13) else (bits_Div64.f k (a * b / 18446744073709551616) (a * b % 18446744073709551616) c).bind fun bt198 => if bt198.1 > 1000000000000000000 then some (0, 13) else some (wrap64 bt198.1, 0)) := by
    intro k
    rw [impl_MulDiv.j0, if_neg (by decide), u64id (n := a) (by omega) (by omega), u64id (n := b) (by omega) (by omega), u64id (n := c) (by omega) (by omega), hmul]
    rfl
  refine Ev.step hstep ?_
  have e := Int.mul_ediv_add_emod (a * b) 18446744073709551616
  generalize a * b = P at *
  have hh : 0 ≤ P / 18446744073709551616 := Int.ediv_nonneg hP0 (by decide)
  by_cases hge : P / 18446744073709551616 ≥ c
  · simp only [if_pos hge]
    have : 1000000000000000001 ≤ P / c := by rw [Int.le_ediv_iff_mul_le (by omega)]; omega
    rw [if_neg (by omega)]
    exact Ev.now _
  · simp only [if_neg hge]
    obtain ⟨rem, hrem⟩ := Div64_ev (P / 18446744073709551616) (P % 18446744073709551616) c hh (by omega) (by omega) (by omega) (by omega)
    rw [show P / 18446744073709551616 * 18446744073709551616 + P % 18446744073709551616 = P from by omega] at hrem
    refine Ev.bind hrem ?_
    have hq0 : 0 ≤ P / c := Int.ediv_nonneg hP0 (by omega)
    by_cases hbig : P / c > 1000000000000000000
    · simp only [if_pos hbig, if_neg (show ¬ P / c ≤ 1000000000000000000 by omega)]
      exact Ev.now _
    · simp only [if_neg hbig, if_pos (show P / c ≤ 1000000000000000000 by omega), wid (n := P / c) (by omega) (by omega)]
      exact Ev.now _

end Go.Proofs.Ytppgnndolgmcfaa.U

/- The greatest number whose square is at most a product: as the reference and as the program look for it. -/
namespace Go.Proofs.Ytppgnndolgmcfaa.U
open Go Go.RowKit Go.Proofs.Ytppgnndolgmcfaa.Q Go.Proofs.YtppgnndolgmcfaaW.PrintWords Go.Proofs.YtppgnndolgmcfaaW.PrintLast Go.Proofs.YtppgnndolgmcfaaW.PrintMore
set_option linter.unusedVariables false
set_option linter.unusedSimpArgs false

theorem root_upto (P : Int) (hP : 0 ≤ P) : ∀ M : Nat, ∃ R : Int, 0 ≤ R ∧ R ≤ M ∧ R * R ≤ P ∧ (R = M ∨ P < (R + 1) * (R + 1))
  | 0 => ⟨0, by omega, by omega, by omega, .inl rfl⟩
  | M + 1 => by
    obtain ⟨R, h0, h1, h2, h3⟩ := root_upto P hP M
    rcases h3 with rfl | h3
    · by_cases h : ((M : Int) + 1) * ((M : Int) + 1) ≤ P
      · exact ⟨(M : Int) + 1, by omega, by omega, h, .inl (by omega)⟩
      · exact ⟨M, h0, by omega, h2, .inr (by omega)⟩
    · exact ⟨R, h0, by omega, h2, .inr h3⟩

/-- The root of a product of two amounts. -/
theorem root_of (a b : Int) (ha : 0 ≤ a) (ha' : a ≤ 1000000000000000000) (hb : 0 ≤ b) (hb' : b ≤ 1000000000000000000) :
    ∃ R : Int, 0 ≤ R ∧ R ≤ 1000000000000000000 ∧ R * R ≤ a * b ∧ a * b < (R + 1) * (R + 1) := by
  have m := mul_bd ha ha' hb hb'
  obtain ⟨R, h0, h1, h2, h3⟩ := root_upto (a * b) m.1 1000000000000000000
  refine ⟨R, h0, by omega, h2, ?_⟩
  rcases h3 with h3 | h3
  · have h4 : R = 1000000000000000000 := by omega
    subst h4
    omega
  · exact h3

theorem sq_le {x y : Int} (hx : 0 ≤ x) (h : x ≤ y) : x * x ≤ y * y := Int.mul_le_mul h h hx (by omega)

theorem root_lt {P R m : Int} (h0 : 0 ≤ R) (h2 : R * R ≤ P) (hm : P < m * m) (hm0 : 0 ≤ m) : R < m := by
  refine Int.not_le.1 fun h => ?_
  have := sq_le hm0 h
  omega
theorem root_le {P R m : Int} (h0 : 0 ≤ R) (h3 : P < (R + 1) * (R + 1)) (hm : m * m ≤ P) : m ≤ R := by
  refine Int.not_lt.1 fun h => ?_
  have := sq_le (x := R + 1) (y := m) (by omega) (by omega)
  omega

theorem l02Less_eq (a b c d : Int) (ha : 0 ≤ a) (ha' : a ≤ 1000000000000000000) (hb : 0 ≤ b) (hb' : b ≤ 1000000000000000000) (hc : 0 ≤ c) (hc' : c ≤ 1000000000000000000) (hd : 0 ≤ d) (hd' : d ≤ 1000000000000000000) :
    spec_l02Less.f a b c d = some (decide (a * b < c * d)) := by
  unfold spec_l02Less.f
  rw [l02Wide_eq a b ha ha' hb hb', l02Wide_eq c d hc hc' hd hd']
  simp only [Option.bind_some]
  generalize a * b = P
  generalize c * d = Q
  by_cases h1 : P / 1000000000000000000 < Q / 1000000000000000000
  · rw [if_pos h1, decide_eq_true (by omega)]
  · rw [if_neg h1]
    by_cases h2 : P / 1000000000000000000 = Q / 1000000000000000000
    · rw [if_pos h2]
      congr 1
      exact decide_eq_decide.2 ⟨fun h => by omega, fun h => by omega⟩
    · rw [if_neg h2, decide_eq_false (by omega)]

theorem l02Root_ev (a b R : Int) (ha : 0 ≤ a) (ha' : a ≤ 1000000000000000000) (hb : 0 ≤ b) (hb' : b ≤ 1000000000000000000) (h0 : 0 ≤ R) (h1 : R ≤ 1000000000000000000) (h2 : R * R ≤ a * b) (h3 : a * b < (R + 1) * (R + 1)) :
    Ev (fun k => spec_l02Root.f k a b) R := by
  have key : ∀ (n : Nat) (low high : Int), 0 ≤ low → low ≤ R → R ≤ high → high ≤ 1000000000000000000 → high - low ≤ n → Ev (fun k => spec_l02Root.l0 k a b low high) R := by
    intro n
    induction n with
    | zero =>
      intro low high g0 g1 g2 g3 g4
      obtain rfl : low = R := by omega
      exact Ev.step (fun k => by rw [spec_l02Root.l0, if_neg (by omega)]) (Ev.now _)
    | succ n ih =>
      intro low high g0 g1 g2 g3 g4
      by_cases hlt : low < high
      · have e1 : wrap64 (wrap64 (high - low) + 1) = high - low + 1 := by rw [wid (n := high - low) (by omega) (by omega), wid (by omega) (by omega)]
        have e2 : wrap64 (low + wrap64 (Int.tdiv (high - low + 1) 2)) = low + (high - low + 1) / 2 := by rw [tdiv_nn (by omega), wid (n := (high - low + 1) / 2) (by omega) (by omega), wid (by omega) (by omega)]
        by_cases hm : a * b < (low + (high - low + 1) / 2) * (low + (high - low + 1) / 2)
        · have := root_lt h0 h2 hm (by omega)
          refine Ev.step (fun k => ?_) (ih low (low + (high - low + 1) / 2 - 1) g0 g1 (by omega) (by omega) (by omega))
          rw [spec_l02Root.l0, if_pos hlt, e1, e2, l02Less_eq a b _ _ ha ha' hb hb' (by omega) (by omega) (by omega) (by omega), decide_eq_true hm]
          simp only [Option.bind_some, if_true]
          rw [wid (n := low + (high - low + 1) / 2 - 1) (by omega) (by omega)]
        · have := root_le (m := low + (high - low + 1) / 2) h0 h3 (by omega)
          refine Ev.step (fun k => ?_) (ih (low + (high - low + 1) / 2) high (by omega) this g2 g3 (by omega))
          rw [spec_l02Root.l0, if_pos hlt, e1, e2, l02Less_eq a b _ _ ha ha' hb hb' (by omega) (by omega) (by omega) (by omega), decide_eq_false hm]
          rfl
      · obtain rfl : low = R := by omega
        exact Ev.step (fun k => by rw [spec_l02Root.l0, if_neg hlt]) (Ev.now _)
  exact key 1000000000000000000 0 1000000000000000000 (by omega) h0 h1 (by omega) (by omega)

theorem RootOf_ev (a b R : Int) (ha : 0 ≤ a) (ha' : a ≤ 1000000000000000000) (hb : 0 ≤ b) (hb' : b ≤ 1000000000000000000) (h0 : 0 ≤ R) (h1 : R ≤ 1000000000000000000) (h2 : R * R ≤ a * b) (h3 : a * b < (R + 1) * (R + 1)) :
    Ev (fun k => impl_RootOf.f k a b) (R, 0) := by
  have mulw : ∀ x y : Int, 0 ≤ x → x ≤ 1000000000000000000 → 0 ≤ y → y ≤ 1000000000000000000 → bits_Mul64.f (IntKind.u64.wrap x) (IntKind.u64.wrap y) = some (x * y / 18446744073709551616, x * y % 18446744073709551616) := by
    intro x y hx hx' hy hy'
    rw [u64id hx (by omega), u64id hy (by omega)]
    unfold bits_Mul64.f
    rw [if_pos ⟨hx, by omega, hy, by omega⟩]
  have key : ∀ (n : Nat) (low high : Int), 0 ≤ low → low ≤ R → R ≤ high → high ≤ 1000000000000000000 → high - low ≤ n → Ev (fun k => impl_RootOf.l0 k (a * b / 18446744073709551616) (a * b % 18446744073709551616) low high) (R, 0) := by
    intro n
    induction n with
    | zero =>
      intro low high g0 g1 g2 g3 g4
      obtain rfl : low = R := by omega
      exact Ev.step (fun k => by rw [impl_RootOf.l0, if_neg (by omega)]) (Ev.now _)
    | succ n ih =>
      intro low high g0 g1 g2 g3 g4
      by_cases hlt : low < high
      · have e1 : wrap64 (wrap64 (high - low) + 1) = high - low + 1 := by rw [wid (n := high - low) (by omega) (by omega), wid (by omega) (by omega)]
        have e2 : wrap64 (low + wrap64 (Int.tdiv (high - low + 1) 2)) = low + (high - low + 1) / 2 := by rw [tdiv_nn (by omega), wid (n := (high - low + 1) / 2) (by omega) (by omega), wid (by omega) (by omega)]
        have em := mulw (low + (high - low + 1) / 2) (low + (high - low + 1) / 2) (by omega) (by omega) (by omega) (by omega)
        by_cases hm : a * b < (low + (high - low + 1) / 2) * (low + (high - low + 1) / 2)
        · have := root_lt h0 h2 hm (by omega)
          refine Ev.step (fun k => ?_) (ih low (low + (high - low + 1) / 2 - 1) g0 g1 (by omega) (by omega) (by omega))
          rw [impl_RootOf.l0, if_pos hlt, e1, e2, em]
          simp only [Option.bind_some]
          rw [wid (n := low + (high - low + 1) / 2 - 1) (by omega) (by omega)]
          generalize (low + (high - low + 1) / 2) * (low + (high - low + 1) / 2) = S at *
          rw [if_neg (by omega)]
          by_cases h5 : S / 18446744073709551616 = a * b / 18446744073709551616
          · rw [if_pos h5, if_neg (by omega)]
          · rw [if_neg h5]
        · have := root_le (m := low + (high - low + 1) / 2) h0 h3 (by omega)
          refine Ev.step (fun k => ?_) (ih (low + (high - low + 1) / 2) high (by omega) this g2 g3 (by omega))
          rw [impl_RootOf.l0, if_pos hlt, e1, e2, em]
          simp only [Option.bind_some]
          generalize (low + (high - low + 1) / 2) * (low + (high - low + 1) / 2) = S at *
          by_cases h4 : S / 18446744073709551616 < a * b / 18446744073709551616
          · rw [if_pos h4]
          · rw [if_neg h4, if_pos (by omega), if_pos (by omega)]
      · obtain rfl : low = R := by omega
        exact Ev.step (fun k => by rw [impl_RootOf.l0, if_neg hlt]) (Ev.now _)
  unfold impl_RootOf.f
  simp only [isAmount_eq, decide_eq_true (show 0 ≤ a ∧ a ≤ 1000000000000000000 from ⟨ha, ha'⟩), decide_eq_true (show 0 ≤ b ∧ b ≤ 1000000000000000000 from ⟨hb, hb'⟩), Option.bind_some, if_true, Bool.not_true]
  refine Ev.step (fun k => ?_) (key 1000000000000000000 0 1000000000000000000 (by omega) h0 h1 (by omega) (by omega))
  rw [impl_RootOf.j0, if_neg (by decide), mulw a b ha ha' hb hb']
  rfl

end Go.Proofs.Ytppgnndolgmcfaa.U

/- Names of accounts and denominations: as the reference and as the program read them. -/
namespace Go.Proofs.Ytppgnndolgmcfaa.U
open Go Go.RowKit Go.Proofs.Ytppgnndolgmcfaa.Q Go.Proofs.YtppgnndolgmcfaaW.PrintWords Go.Proofs.YtppgnndolgmcfaaW.PrintLast Go.Proofs.YtppgnndolgmcfaaW.PrintMore
set_option linter.unusedVariables false
set_option linter.unusedSimpArgs false

def Letter (c : Int) : Prop := (97 ≤ c ∧ c ≤ 122) ∨ (65 ≤ c ∧ c ≤ 90) ∨ c = 95
def Digit (c : Int) : Prop := 48 ≤ c ∧ c ≤ 57
def IsName (x : ByteArray) : Prop := 1 ≤ x.size ∧ x.size ≤ 40 ∧ ∀ j : Int, 0 ≤ j → j < (x.size : Int) → Letter (bt x j) ∨ (j ≠ 0 ∧ Digit (bt x j))
instance (c : Int) : Decidable (Letter c) := by unfold Letter; infer_instance
instance (c : Int) : Decidable (Digit c) := by unfold Digit; infer_instance

theorem nameok_l0 (x : ByteArray) (hn : (x.size : Int) ≤ 140737488351232) (d : Nat) : ∀ i : Int, 0 ≤ i → i ≤ (x.size : Int) → (x.size : Int) - i = d →
    ∃ b, Ev (fun k => impl_NameOK.l0 k x (x.size : Int) i) b ∧ (b = true ↔ (∀ j : Int, i ≤ j → j < (x.size : Int) → Letter (bt x j) ∨ (j ≠ 0 ∧ Digit (bt x j))) ∧ 1 ≤ x.size ∧ x.size ≤ 40) := by
  induction d with
  | zero =>
    intro i h0 h1 hd
    refine ⟨decide (1 ≤ (x.size : Int) ∧ (x.size : Int) ≤ 40), Ev.step (fun k => ?_) (Ev.now _), ?_⟩
    · rw [impl_NameOK.l0, if_neg (by omega)]
      unfold impl_within.f
      by_cases h : (x.size : Int) ≥ 1
      · rw [if_pos h]
        simp only [Option.bind_some]
        congr 1
        exact decide_eq_decide.2 ⟨fun y => ⟨h, y⟩, fun y => y.2⟩
      · rw [if_neg h, decide_eq_false (fun y => h y.1)]
        rfl
    · rw [decide_eq_true_iff]
      exact ⟨fun h => ⟨fun j hj hj' => by omega, by omega, by omega⟩, fun h => by omega⟩
  | succ d ih =>
    intro i h0 h1 hd
    have hlt : i < (x.size : Int) := by omega
    by_cases hg : Letter (bt x i) ∨ (i ≠ 0 ∧ Digit (bt x i))
    · obtain ⟨b, hb, hb'⟩ := ih (i + 1) (by omega) (by omega) (by omega)
      refine ⟨b, Ev.step (fun k => ?_) hb, hb'.trans ⟨fun h => ⟨fun j hj hj' => ?_, h.2⟩, fun h => ⟨fun j hj hj' => h.1 j (by omega) hj', h.2⟩⟩⟩
      · rw [impl_NameOK.l0, if_pos hlt, if_pos h0, if_pos hlt, wid (n := i + 1) (by omega) (by omega)]
        unfold Letter Digit at hg
        generalize bt x i = c at *
        repeat' split
        all_goals first | rfl | (exfalso; omega)
      · by_cases e : j = i
        · subst e; exact hg
        · exact h.1 j (by omega) hj'
    · refine ⟨false, Ev.step (fun k => ?_) (Ev.now _), ⟨(fun h => by cases h), fun h => absurd (h.1 i (Int.le_refl _) hlt) hg⟩⟩
      rw [impl_NameOK.l0, if_pos hlt, if_pos h0, if_pos hlt]
      unfold Letter Digit at hg
      generalize bt x i = c at *
      repeat' split
      all_goals first | rfl | (exfalso; omega)

theorem NameOK_ev (x : ByteArray) (hn : (x.size : Int) ≤ 140737488351232) : ∃ b, Ev (fun k => impl_NameOK.f k x) b ∧ (b = true ↔ IsName x) := by
  obtain ⟨b, hb, hb'⟩ := nameok_l0 x hn x.size 0 (by omega) (by omega) (by omega)
  exact ⟨b, hb, hb'.trans ⟨fun h => ⟨h.2.1, h.2.2, h.1⟩, fun h => ⟨h.2.2, h.1, h.2.1⟩⟩⟩

theorem bool_of_iff {b : Bool} {p : Prop} [Decidable p] (h : b = true ↔ p) : b = decide p := by rw [Bool.eq_iff_iff, h, decide_eq_true_iff]
theorem letter_eq (c : Int) : spec_l00Letter.f c = some (decide (Letter c)) := by
  unfold spec_l00Letter.f
  repeat' split
  all_goals
    refine congrArg some (bool_of_iff ?_)
    unfold Letter
    first
    | exact ⟨fun _ => by omega, fun _ => rfl⟩
    | (rw [beq_iff_eq]; omega)
theorem digit_eq (c : Int) : spec_l00Digit.f c = some (decide (Digit c)) := by
  unfold spec_l00Digit.f
  split
  · refine congrArg some (bool_of_iff ?_)
    unfold Digit
    rw [decide_eq_true_iff]
    omega
  · refine congrArg some (bool_of_iff ?_)
    unfold Digit
    exact ⟨(fun h => by cases h), fun h => by omega⟩

theorem word_l0 (x : ByteArray) (hn : (x.size : Int) ≤ 40) (d : Nat) : ∀ i : Int, 1 ≤ i → i ≤ (x.size : Int) → (x.size : Int) - i = d →
    ∃ b, Ev (fun k => spec_l00Word.l0 k x i) b ∧ (b = true ↔ ∀ j : Int, i ≤ j → j < (x.size : Int) → Letter (bt x j) ∨ (j ≠ 0 ∧ Digit (bt x j))) := by
  induction d with
  | zero =>
    intro i h0 h1 hd
    exact ⟨true, Ev.step (fun k => by rw [spec_l00Word.l0, if_neg (by omega)]) (Ev.now _), ⟨fun _ j hj hj' => by omega, fun _ => rfl⟩⟩
  | succ d ih =>
    intro i h0 h1 hd
    have hlt : i < (x.size : Int) := by omega
    have hstep : ∀ k, spec_l00Word.l0 (k + 1) x i = if decide (Letter (bt x i)) = true then spec_l00Word.l0 k x (i + 1) else if decide (Digit (bt x i)) = true then spec_l00Word.l0 k x (i + 1) else some false := by
      intro k
      rw [spec_l00Word.l0, if_pos hlt, if_pos (by omega), letter_eq, digit_eq, wid (n := i + 1) (by omega) (by omega)]
      rfl
    by_cases hg : Letter (bt x i) ∨ Digit (bt x i)
    · obtain ⟨b, hb, hb'⟩ := ih (i + 1) (by omega) (by omega) (by omega)
      refine ⟨b, Ev.step (fun k => ?_) hb, hb'.trans ⟨fun h j hj hj' => ?_, fun h j hj hj' => h j (by omega) hj'⟩⟩
      · rw [hstep]
        rcases hg with hg | hg
        · rw [if_pos (decide_eq_true hg)]
        · rw [if_pos (decide_eq_true hg)]
          split <;> rfl
      · by_cases e : j = i
        · subst e; exact hg.imp id (fun y => ⟨by omega, y⟩)
        · exact h j (by omega) hj'
    · refine ⟨false, Ev.step (fun k => ?_) (Ev.now _), ⟨(fun h => by cases h), fun h => absurd ((h i (Int.le_refl _) hlt).imp id (fun y => y.2)) hg⟩⟩
      rw [hstep, if_neg (by rw [decide_eq_true_iff]; exact fun y => hg (.inl y)), if_neg (by rw [decide_eq_true_iff]; exact fun y => hg (.inr y))]

theorem Word_ev (x : ByteArray) : ∃ b, Ev (fun k => spec_l00Word.f k x) b ∧ (b = true ↔ IsName x) := by
  unfold spec_l00Word.f
  have hf : Ev (fun k => spec_l00Word.j0 k x true) false := Ev.step (fun k => by rw [spec_l00Word.j0, if_pos rfl]) (Ev.now _)
  by_cases h1 : (x.size : Int) < 1
  · simp only [if_pos h1]
    exact ⟨false, hf, ⟨(fun h => by cases h), fun h => by have := h.1; omega⟩⟩
  simp only [if_neg h1]
  by_cases h2 : (x.size : Int) > 40
  · simp only [if_pos h2]
    exact ⟨false, hf, ⟨(fun h => by cases h), fun h => by have := h.2.1; omega⟩⟩
  simp only [if_neg h2, if_pos (show (0 : Int) < (x.size : Int) by omega), letter_eq, Option.bind_some]
  by_cases h3 : Letter (bt x 0)
  · obtain ⟨b, hb, hb'⟩ := word_l0 x (by omega) (x.size - 1) 1 (by omega) (by omega) (by omega)
    refine ⟨b, ?_, hb'.trans ⟨fun h => ⟨by omega, by omega, fun j hj hj' => ?_⟩, fun h j hj hj' => h.2.2 j (by omega) hj'⟩⟩
    · rw [decide_eq_true h3]
      exact Ev.step (fun k => by rw [Bool.not_true, spec_l00Word.j0, if_neg (by decide)]) hb
    · by_cases e : j = 0
      · subst e; exact .inl h3
      · exact h j (by omega) hj'
  · rw [decide_eq_false h3]
    refine ⟨false, hf, ⟨(fun h => by cases h), fun h => ?_⟩⟩
    rcases h.2.2 0 (by omega) (by omega) with h | h
    · exact absurd h h3
    · exact absurd rfl h.1

noncomputable instance (x : ByteArray) : Decidable (IsName x) := Classical.propDecidable _
/-- A name of at most twelve bytes. -/
noncomputable def nameB (x : ByteArray) : Bool := decide (IsName x ∧ x.size ≤ 12)
noncomputable def peopleB (x : ByteArray) : Bool := nameB x && !impl_isPeople.bad x

theorem DenomOK_ev (x : ByteArray) (hn : (x.size : Int) ≤ 140737488351232) : Ev (fun k => impl_DenomOK.f k x) (nameB x) := by
  obtain ⟨b, hb, hb'⟩ := NameOK_ev x hn
  unfold impl_DenomOK.f
  refine Ev.bind hb ?_
  unfold nameB
  by_cases h : IsName x
  · simp only [hb'.2 h, if_true]
    rw [show decide ((x.size : Int) ≤ 12) = decide (IsName x ∧ x.size ≤ 12) from by rw [Bool.eq_iff_iff, decide_eq_true_iff, decide_eq_true_iff]; exact ⟨fun y => ⟨h, by omega⟩, fun y => by have := y.2; omega⟩]
    exact Ev.now _
  · obtain rfl : b = false := by cases b; rfl; exact absurd (hb'.1 rfl) h
    rw [decide_eq_false (fun y : IsName x ∧ x.size ≤ 12 => h y.1)]
    exact Ev.now _

theorem l05Name_ev (x : ByteArray) : Ev (fun k => spec_l05Name.f k x) (nameB x) := by
  obtain ⟨b, hb, hb'⟩ := Word_ev x
  unfold spec_l05Name.f nameB
  by_cases h12 : (x.size : Int) ≤ 12
  · simp only [if_pos h12]
    have : Ev (fun k => spec_NameOK.f k x) b := by unfold spec_NameOK.f; exact Ev.bind hb (Ev.now _)
    refine Ev.bind this ?_
    rw [show b = decide (IsName x ∧ x.size ≤ 12) from by rw [Bool.eq_iff_iff, decide_eq_true_iff, hb']; exact ⟨fun y => ⟨y, by omega⟩, fun y => y.1⟩]
    exact Ev.now _
  · simp only [if_neg h12]
    rw [decide_eq_false (fun y : IsName x ∧ x.size ≤ 12 => h12 (by have := y.2; omega))]
    exact Ev.now _

theorem l08Name_ev (x : ByteArray) : Ev (fun k => spec_l08Name.f k x) (peopleB x) := by
  unfold spec_l08Name.f
  refine Ev.bind (l05Name_ev x) ?_
  unfold peopleB impl_isPeople.bad
  cases nameB x with
  | false => exact Ev.now _
  | true =>
    simp only [if_true, Bool.true_and]
    by_cases h1 : x.toList = ([101, 115, 99, 114, 111, 119] : List UInt8)
    · simp only [h1, if_true]; exact Ev.now _
    · simp only [if_neg h1]
      by_cases h2 : x.toList = ([111, 114, 100, 101, 114, 115] : List UInt8)
      · simp only [h2, if_true]; exact Ev.now _
      · simp only [if_neg h2]
        by_cases h3 : x.toList = ([116, 97, 107, 101, 115] : List UInt8)
        · simp only [h3, if_true]; exact Ev.now _
        · simp only [if_neg h3, beq_eq_false_iff_ne.2 h1, beq_eq_false_iff_ne.2 h2, beq_eq_false_iff_ne.2 h3, Bool.false_or]
          exact Ev.now _

theorem areNames_go (l : List ByteArray) (hl : l.length < 1000000) (hn : ∀ x ∈ l, (x.size : Int) ≤ 140737488351232) : ∀ (d : Nat) (i : Nat), i + d = l.length →
    Ev (fun k => impl_areNames.l0 k l (l.length : Int) (i : Int)) ((l.drop i).all nameB) := by
  intro d
  induction d with
  | zero =>
    intro i hi
    refine Ev.step (fun k => ?_) (Ev.now _)
    rw [impl_areNames.l0, if_neg (by omega), List.drop_of_length_le (by omega)]
    rfl
  | succ d ih =>
    intro i hi
    have hlt : i < l.length := by omega
    have hx : rdOf ByteArray.empty l (i : Int) = l[i] := by simp [rdOf, List.getD_eq_getElem?_getD, List.getElem?_eq_getElem hlt]
    have h1 := DenomOK_ev l[i] (hn _ (List.getElem_mem hlt))
    have h2 := ih (i + 1) (by omega)
    rw [List.drop_eq_getElem_cons hlt, List.all_cons]
    have hstep : ∀ k, impl_areNames.l0 (k + 1) l (l.length : Int) (i : Int) = (impl_DenomOK.f k l[i]).bind fun t => if t = true then impl_areNames.l0 k l (l.length : Int) ((i + 1 : Nat) : Int) else some false := by
      intro k
      rw [impl_areNames.l0, if_pos (by omega), if_pos (by omega), if_pos (by omega), hx, wid (n := (i : Int) + 1) (by omega) (by omega)]
      rfl
    refine Ev.step hstep (Ev.bind h1 ?_)
    cases nameB l[i] with
    | false => exact Ev.now _
    | true =>
      simp only [if_true, Bool.true_and]
      exact h2
theorem areNames_ev (l : List ByteArray) (hl : l.length < 1000000) (hn : ∀ x ∈ l, (x.size : Int) ≤ 140737488351232) : Ev (fun k => impl_areNames.f k l) (l.all nameB) := by
  have := areNames_go l hl hn l.length 0 (by omega)
  unfold impl_areNames.f
  simpa using this
theorem isPeople_ev (l : List ByteArray) (hl : l.length < 1000000) (hn : ∀ x ∈ l, (x.size : Int) ≤ 140737488351232) : Ev (fun k => impl_isPeople.f k l) (l.all peopleB) := by
  unfold impl_isPeople.f
  refine Ev.bind (areNames_ev l hl hn) ?_
  have e : l.all peopleB = (l.all nameB && !l.any impl_isPeople.bad) := by
    clear hl hn
    induction l with
    | nil => rfl
    | cons a l ih =>
      simp only [List.all_cons, List.any_cons, ih, peopleB]
      cases nameB a <;> cases impl_isPeople.bad a <;> cases l.all nameB <;> cases l.any impl_isPeople.bad <;> rfl
  rw [e]
  cases l.all nameB with
  | false => exact Ev.now _
  | true => simp only [if_true, Bool.true_and]; exact Ev.now _

end Go.Proofs.Ytppgnndolgmcfaa.U

/- The quotes of a pool, and what a payment of an order buys: plain values, and that the reference and the program both come to them. -/
namespace Go.Proofs.Ytppgnndolgmcfaa.U
open Go Go.RowKit Go.Proofs.Ytppgnndolgmcfaa.Q Go.Proofs.YtppgnndolgmcfaaW.PrintWords Go.Proofs.YtppgnndolgmcfaaW.PrintLast Go.Proofs.YtppgnndolgmcfaaW.PrintMore
set_option linter.unusedVariables false
set_option linter.unusedSimpArgs false

theorem l01In_eq (n a b : Int) : spec_l01In.f n a b = some (decide (a ≤ n ∧ n ≤ b)) := by
  unfold spec_l01In.f
  by_cases h : n ≥ a
  · rw [if_pos h]; congr 1; exact decide_eq_decide.2 ⟨fun x => ⟨h, x⟩, fun x => x.2⟩
  · rw [if_neg h, decide_eq_false (fun x => h x.1)]

def inB (n : Int) : Bool := decide (1 ≤ n ∧ n ≤ 1000000000000000000)
theorem inB_iff {n : Int} : inB n = true ↔ 1 ≤ n ∧ n ≤ 1000000000000000000 := by unfold inB; rw [decide_eq_true_iff]
theorem isSome_B (n : Int) : impl_isSome.f n = some (inB n) := isSome_eq n
theorem l01In_B (n : Int) : spec_l01In.f n 1 1000000000000000000 = some (inB n) := l01In_eq n 1 _

/-! ### pools -/
def poolB (a b c : Int) : Bool := (a == 0 && (b == 0 && (c == 0))) || (inB a && (inB b && inB c))
theorem PoolOK_eq (a b c : Int) : impl_PoolOK.f a b c = some (poolB a b c) := by
  unfold impl_PoolOK.f poolB
  simp only [isSome_B, Option.bind_some]
  cases (a == 0 && (b == 0 && (c == 0))) <;> cases inB a <;> cases inB b <;> cases inB c <;> rfl
theorem specPoolOK_ev (a b c : Int) : Ev (fun k => spec_PoolOK.f k a b c) (poolB a b c) := by
  unfold spec_PoolOK.f poolB
  have hj : ∀ z : Bool, Ev (fun k => spec_PoolOK.j0 k z a b c) (z || (inB a && (inB b && inB c))) := by
    intro z
    refine Ev.step (fun k => ?_) (Ev.now _)
    rw [spec_PoolOK.j0]
    simp only [l01In_B, Option.bind_some]
    cases z <;> cases inB a <;> cases inB b <;> cases inB c <;> rfl
  by_cases h1 : a = 0
  · simp only [if_pos h1]
    by_cases h2 : b = 0
    · simp only [if_pos h2, beq_iff_eq.2 h1, beq_iff_eq.2 h2, Bool.true_and]
      exact hj _
    · simp only [if_neg h2, beq_eq_false_iff_ne.2 h2, Bool.false_and, Bool.and_false]
      exact hj _
  · simp only [if_neg h1, beq_eq_false_iff_ne.2 h1, Bool.false_and]
    exact hj _
theorem poolB_iff {a b c : Int} : poolB a b c = true ↔ (a = 0 ∧ b = 0 ∧ c = 0) ∨ ((1 ≤ a ∧ a ≤ 1000000000000000000) ∧ (1 ≤ b ∧ b ≤ 1000000000000000000) ∧ 1 ≤ c ∧ c ≤ 1000000000000000000) := by
  unfold poolB
  simp only [Bool.or_eq_true, Bool.and_eq_true, beq_iff_eq, inB_iff]

/-! ### a swap -/
def feeV (n : Int) : Int := n * 997 / 1000
def gotV (i o n : Int) : Int := o * feeV n / (i + feeV n)
def swapV (i o n : Int) : Int × Int := if i + n > 1000000000000000000 then (0, 13) else if feeV n = 0 then (0, 17) else if gotV i o n = 0 then (0, 17) else (gotV i o n, 0)
theorem fee_bd {n : Int} (h : 1 ≤ n) : 0 ≤ feeV n ∧ feeV n ≤ n := by unfold feeV; omega
theorem got_bd {i o n : Int} (hi : 1 ≤ i) (ho : 1 ≤ o) (hn : 1 ≤ n) : 0 ≤ gotV i o n ∧ gotV i o n < o := by
  have hf := fee_bd hn
  unfold gotV
  generalize feeV n = f at *
  refine ⟨Int.ediv_nonneg (Int.mul_nonneg (by omega) (by omega)) (by omega), ?_⟩
  rw [Int.ediv_lt_iff_lt_mul (by omega), Int.mul_add]
  have : 1 ≤ o * i := by
    have := Int.mul_le_mul ho hi (by omega : (0 : Int) ≤ 1) (by omega)
    omega
  omega

theorem l10Swap_ev (i o n : Int) (hi : 1 ≤ i) (hi' : i ≤ 1000000000000000000) (ho : 1 ≤ o) (ho' : o ≤ 1000000000000000000) (hn : 1 ≤ n) (hn' : n ≤ 1000000000000000000) :
    Ev (fun k => spec_l10Swap.f k i o n) (swapV i o n) := by
  unfold spec_l10Swap.f swapV
  have hf := fee_bd hn
  have h1 := l02MulDiv_ev n 997 1000 (by omega) hn' (by omega) (by omega) (by omega) (by omega)
  rw [if_pos (by show feeV n ≤ _; omega)] at h1
  refine Ev.bind h1 ?_
  simp only
  rw [wid (n := i + n) (by omega) (by omega)]
  have ef : n * 997 / 1000 = feeV n := rfl
  rw [ef]
  by_cases hov : i + n > 1000000000000000000
  · simp only [if_pos hov]; exact Ev.now _
  simp only [if_neg hov]
  by_cases hz : feeV n = 0
  · simp only [if_pos hz]; exact Ev.now _
  simp only [if_neg hz]
  have hg := got_bd hi ho hn
  have h2 := l02MulDiv_ev o (feeV n) (i + feeV n) (by omega) ho' (by omega) (by omega) (by omega) (by omega)
  have eg : o * feeV n / (i + feeV n) = gotV i o n := rfl
  rw [eg, if_pos (by omega)] at h2
  rw [wid (n := i + feeV n) (by omega) (by omega)]
  refine Ev.bind h2 ?_
  simp only [if_true]
  by_cases hq : gotV i o n = 0
  · simp only [if_pos hq]; exact Ev.now _
  · simp only [if_neg hq]; exact Ev.now _

def quoteSwapV (i o n : Int) : Int × Int := if (inB i && (inB o && inB n)) = true then swapV i o n else (0, 4)
theorem specQuoteSwap_ev (i o n : Int) : Ev (fun k => spec_QuoteSwap.f k i o n) (quoteSwapV i o n) := by
  unfold spec_QuoteSwap.f quoteSwapV
  simp only [l01In_B, Option.bind_some]
  cases h1 : inB i with
  | false => exact Ev.now _
  | true =>
    cases h2 : inB o with
    | false => exact Ev.now _
    | true =>
      cases h3 : inB n with
      | false => exact Ev.now _
      | true =>
        simp only [Bool.and_true, if_true]
        rw [inB_iff] at h1 h2 h3
        exact Ev.bind (l10Swap_ev i o n h1.1 h1.2 h2.1 h2.2 h3.1 h3.2) (Ev.now _)
theorem implQuoteSwap_ev (i o n : Int) : Ev (fun k => impl_QuoteSwap.f k i o n) (quoteSwapV i o n) := by
  unfold impl_QuoteSwap.f quoteSwapV
  simp only [isSome_B, Option.bind_some]
  have hbad : Ev (fun k => impl_QuoteSwap.j0 k i o n true) (0, 4) := Ev.step (fun k => by rw [impl_QuoteSwap.j0, if_pos rfl]) (Ev.now _)
  cases h1 : inB i with
  | false => exact hbad
  | true =>
    cases h2 : inB o with
    | false => exact hbad
    | true =>
      cases h3 : inB n with
      | false => exact hbad
      | true =>
        simp only [Bool.and_true, if_true, Bool.not_true]
        rw [inB_iff] at h1 h2 h3
        have hf := fee_bd h3.1
        have ef : n * 997 / 1000 = feeV n := rfl
        have hm1 := MulDiv_ev n 997 1000 (by omega) h3.2 (by omega) (by omega) (by omega) (by omega)
        rw [ef, if_pos (by omega)] at hm1
        unfold swapV
        by_cases hov : i + n > 1000000000000000000
        · simp only [if_pos hov]
          exact Ev.step (fun k => by rw [impl_QuoteSwap.j0, if_neg (by decide), wid (n := i + n) (by omega) (by omega), if_pos hov]) (Ev.now _)
        simp only [if_neg hov]
        have hg := got_bd h1.1 h2.1 h3.1
        have hm2 := MulDiv_ev o (feeV n) (i + feeV n) (by omega) h2.2 (by omega) (by omega) (by omega) (by omega)
        have eg : o * feeV n / (i + feeV n) = gotV i o n := rfl
        rw [eg, if_pos (by omega)] at hm2
        refine Ev.step (f := fun k => (impl_MulDiv.f k n 997 1000).bind fun b1 => (impl_MulDiv.f k o b1.1 (wrap64 (i + b1.1))).bind fun b2 => if b2.1 = 0 then some (0, 17) else some (b2.1, 0)) (fun k => by rw [impl_QuoteSwap.j0, if_neg (by decide), wid (n := i + n) (by omega) (by omega), if_neg hov]) ?_
        refine Ev.bind hm1 ?_
        simp only
        rw [wid (n := i + feeV n) (by omega) (by omega)]
        refine Ev.bind hm2 ?_
        simp only
        by_cases hz : feeV n = 0
        · have : gotV i o n = 0 := by unfold gotV; rw [hz]; simp
          simp only [if_pos hz, if_pos this]
          exact Ev.now _
        · simp only [if_neg hz]
          by_cases hq : gotV i o n = 0
          · simp only [if_pos hq]; exact Ev.now _
          · simp only [if_neg hq]; exact Ev.now _

/-! ### shares -/
def remV (A B S n : Int) : Int × Int × Int := if n > S then (0, 0, 12) else if A * n / S = 0 then (0, 0, 17) else if B * n / S = 0 then (0, 0, 17) else (A * n / S, B * n / S, 0)
def quoteRemoveV (A B S n : Int) : Int × Int × Int := if poolB A B S = true then (if inB n = true then remV A B S n else (0, 0, 4)) else (0, 0, 1)
theorem part_bd {A n S : Int} (hA : 1 ≤ A) (hn : 1 ≤ n) (hS : n ≤ S) : 0 ≤ A * n / S ∧ A * n / S ≤ A := by
  refine ⟨Int.ediv_nonneg (Int.mul_nonneg (by omega) (by omega)) (by omega), ?_⟩
  have : A * n ≤ A * S := Int.mul_le_mul_of_nonneg_left hS (by omega)
  have h := Int.ediv_le_ediv (by omega : 0 < S) this
  rwa [Int.mul_ediv_cancel _ (by omega)] at h
theorem specQuoteRemove_ev (A B S n : Int) : Ev (fun k => spec_QuoteRemove.f k A B S n) (quoteRemoveV A B S n) := by
  unfold spec_QuoteRemove.f quoteRemoveV
  refine Ev.bind (specPoolOK_ev A B S) ?_
  simp only [l01In_B, Option.bind_some]
  cases hp : poolB A B S with
  | false => exact Ev.now _
  | true =>
    simp only [if_true]
    cases h1 : inB n with
    | false => exact Ev.now _
    | true =>
      simp only [if_true]
      rw [inB_iff] at h1
      rw [poolB_iff] at hp
      unfold spec_l10Remove.f remV
      by_cases hgt : n > S
      · simp only [if_pos hgt]; exact Ev.now _
      simp only [if_neg hgt]
      rcases hp with hp | ⟨a1, a2, a3⟩
      · omega
      have p1 := part_bd a1.1 h1.1 (by omega : n ≤ S)
      have p2 := part_bd a2.1 h1.1 (by omega : n ≤ S)
      have m1 := l02MulDiv_ev A n S (by omega) a1.2 (by omega) h1.2 a3.1 a3.2
      rw [if_pos (by omega)] at m1
      have m2 := l02MulDiv_ev B n S (by omega) a2.2 (by omega) h1.2 a3.1 a3.2
      rw [if_pos (by omega)] at m2
      refine Ev.bind (a := if A * n / S = 0 then (0, 0, 17) else if B * n / S = 0 then (0, 0, 17) else (A * n / S, B * n / S, 0)) ?_ ?_
      · refine Ev.bind m1 (Ev.bind m2 ?_)
        simp only
        by_cases z1 : A * n / S = 0
        · simp only [if_pos z1]; exact Ev.now _
        · simp only [if_neg z1]
          by_cases z2 : B * n / S = 0
          · simp only [if_pos z2]; exact Ev.now _
          · simp only [if_neg z2]; exact Ev.now _
      · exact Ev.now _
theorem implQuoteRemove_ev (A B S n : Int) : Ev (fun k => impl_QuoteRemove.f k A B S n) (quoteRemoveV A B S n) := by
  unfold impl_QuoteRemove.f quoteRemoveV
  simp only [PoolOK_eq, isSome_B, Option.bind_some]
  cases hp : poolB A B S with
  | false => exact Ev.now _
  | true =>
    simp only [if_true]
    cases h1 : inB n with
    | false => exact Ev.now _
    | true =>
      simp only [if_true]
      rw [inB_iff] at h1
      rw [poolB_iff] at hp
      unfold remV
      by_cases hgt : n > S
      · simp only [if_pos hgt]; exact Ev.now _
      simp only [if_neg hgt]
      rcases hp with hp | ⟨a1, a2, a3⟩
      · omega
      have p1 := part_bd a1.1 h1.1 (by omega : n ≤ S)
      have p2 := part_bd a2.1 h1.1 (by omega : n ≤ S)
      have m1 := MulDiv_ev A n S (by omega) a1.2 (by omega) h1.2 a3.1 a3.2
      rw [if_pos (by omega)] at m1
      have m2 := MulDiv_ev B n S (by omega) a2.2 (by omega) h1.2 a3.1 a3.2
      rw [if_pos (by omega)] at m2
      refine Ev.bind m1 (Ev.bind m2 ?_)
      simp only
      by_cases z1 : A * n / S = 0
      · simp only [if_pos z1]; exact Ev.now _
      · simp only [if_neg z1]
        by_cases z2 : B * n / S = 0
        · simp only [if_pos z2]; exact Ev.now _
        · simp only [if_neg z2]; exact Ev.now _

/-- What is given for what is added, R the root of its product. -/
def addEndV (S n : Int) : Int × Int := if n = 0 then (0, 17) else if S + n > 1000000000000000000 then (0, 13) else (n, 0)
def addV (R A B S a b : Int) : Int × Int :=
  if A + a > 1000000000000000000 ∨ B + b > 1000000000000000000 then (0, 13) else
  if S = 0 then addEndV S R else
  if a * S / A > 1000000000000000000 ∨ b * S / B > 1000000000000000000 then (0, 13) else addEndV S (mn (a * S / A) (b * S / B))
def quoteAddV (R A B S a b : Int) : Int × Int := if poolB A B S = true then (if (inB a && inB b) = true then addV R A B S a b else (0, 4)) else (0, 1)

theorem mn_cases (a b : Int) : mn a b = a ∨ mn a b = b := by unfold mn; split; exact .inr rfl; exact .inl rfl

theorem specQuoteAdd_ev (R A B S a b : Int) (hR0 : 0 ≤ R) (hR1 : R ≤ 1000000000000000000) (hR2 : R * R ≤ a * b) (hR3 : a * b < (R + 1) * (R + 1)) : Ev (fun k => spec_QuoteAdd.f k A B S a b) (quoteAddV R A B S a b) := by
  unfold spec_QuoteAdd.f quoteAddV
  refine Ev.bind (specPoolOK_ev A B S) ?_
  simp only [l01In_B, Option.bind_some]
  cases hp : poolB A B S with
  | false => exact Ev.now _
  | true =>
    simp only [if_true]
    cases h1 : inB a with
    | false => exact Ev.now _
    | true =>
      cases h2 : inB b with
      | false => exact Ev.now _
      | true =>
        simp only [if_true, Bool.and_true]
        rw [inB_iff] at h1 h2
        rw [poolB_iff] at hp
        have hend : ∀ n : Int, 0 ≤ n → n ≤ 1000000000000000000 → 0 ≤ S → S ≤ 1000000000000000000 → Ev (fun k => spec_l10Add.j1 k n A B S) (addEndV S n) := by
          intro n hn hn' hS hS'
          unfold addEndV
          refine Ev.step (f := fun _ => if n = 0 then some (0, 17) else if S + n > 1000000000000000000 then some (0, 13) else some (n, 0)) (fun k => by rw [spec_l10Add.j1, wid (n := S + n) (by omega) (by omega)]) ?_
          by_cases z1 : n = 0
          · simp only [if_pos z1]; exact Ev.now _
          · simp only [if_neg z1]
            by_cases z2 : S + n > 1000000000000000000
            · simp only [if_pos z2]; exact Ev.now _
            · simp only [if_neg z2]; exact Ev.now _
        have hbad : Ev (fun k => spec_l10Add.j0 k a b true A B S) (0, 13) := Ev.step (fun k => by rw [spec_l10Add.j0, if_pos rfl]) (Ev.now _)
        have hgood : ¬ (A + a > 1000000000000000000 ∨ B + b > 1000000000000000000) → Ev (fun k => spec_l10Add.j0 k a b false A B S) (addV R A B S a b) := by
          intro hno
          unfold addV
          rw [if_neg hno]
          by_cases hS : S = 0
          · rw [if_pos hS]
            refine Ev.step (f := fun k => (spec_l02Root.f k a b).bind fun t => spec_l10Add.j1 k t A B S) (fun k => by rw [spec_l10Add.j0, if_neg (by decide), if_pos hS]) ?_
            exact Ev.bind (l02Root_ev a b R (by omega) h1.2 (by omega) h2.2 hR0 hR1 hR2 hR3) (hend R hR0 hR1 (by omega) (by omega))
          · rw [if_neg hS]
            rcases hp with hp | ⟨a1, a2, a3⟩
            · omega
            have m1 := l02MulDiv_ev a S A (by omega) h1.2 (by omega) a3.2 a1.1 a1.2
            have m2 := l02MulDiv_ev b S B (by omega) h2.2 (by omega) a3.2 a2.1 a2.2
            have q1 : 0 ≤ a * S / A := Int.ediv_nonneg (Int.mul_nonneg (by omega) (by omega)) (by omega)
            have q2 : 0 ≤ b * S / B := Int.ediv_nonneg (Int.mul_nonneg (by omega) (by omega)) (by omega)
            refine Ev.step (f := fun k => (spec_l02MulDiv.f k a S A).bind fun b1 => (spec_l02MulDiv.f k b S B).bind fun b2 => if b1.2 = true then (if b2.2 = true then spec_l10Add.j1 k (mn b1.1 b2.1) A B S else some (0, 13)) else some (0, 13)) (fun k => by rw [spec_l10Add.j0, if_neg (by decide), if_neg hS]) ?_
            refine Ev.bind m1 (Ev.bind m2 ?_)
            by_cases c1 : a * S / A ≤ 1000000000000000000
            · by_cases c2 : b * S / B ≤ 1000000000000000000
              · simp only [if_pos c1, if_pos c2, if_true]
                rw [if_neg (by omega)]
                refine hend _ ?_ ?_ (by omega) a3.2 <;> rcases mn_cases (a * S / A) (b * S / B) with e | e <;> rw [e] <;> omega
              · simp only [if_pos c1, if_neg c2, if_true]
                rw [if_pos (by omega)]
                exact Ev.now _
            · simp only [if_neg c1]
              rw [if_pos (show a * S / A > 1000000000000000000 ∨ b * S / B > 1000000000000000000 from .inl (by omega))]
              exact Ev.now _
        refine Ev.bind (a := addV R A B S a b) ?_ (Ev.now _)
        unfold spec_l10Add.f
        have hAb : 0 ≤ A ∧ A ≤ 1000000000000000000 ∧ 0 ≤ B ∧ B ≤ 1000000000000000000 := by omega
        rw [wid (n := A + a) (by omega) (by omega), wid (n := B + b) (by omega) (by omega)]
        by_cases o1 : A + a > 1000000000000000000
        · simp only [if_pos o1]
          have : addV R A B S a b = (0, 13) := by unfold addV; rw [if_pos (.inl o1)]
          rw [this]; exact hbad
        · simp only [if_neg o1]
          by_cases o2 : B + b > 1000000000000000000
          · have : addV R A B S a b = (0, 13) := by unfold addV; rw [if_pos (.inr o2)]
            rw [this, decide_eq_true o2]; exact hbad
          · rw [decide_eq_false o2]
            exact hgood (by omega)

theorem firstOf_ev (x y : Int) : Ev (fun k => impl_firstOf.f k [x, y]) (if x = 0 then y else x) := by
  unfold impl_firstOf.f
  have r0 : rd [x, y] 0 = x := rfl
  have r1 : rd [x, y] 1 = y := rfl
  have w0 : wrap64 (0 + 1) = 1 := by rw [wid (by omega) (by omega)]; rfl
  have w1 : wrap64 (1 + 1) = 2 := by rw [wid (by omega) (by omega)]; rfl
  have hl : (([x, y] : List Int).length : Int) = 2 := rfl
  by_cases h : x = 0
  · rw [if_pos h]
    refine Ev.step (fun k => by rw [impl_firstOf.l0, if_pos (by rw [hl]; omega), if_pos (by omega), if_pos (by rw [hl]; omega), r0, if_pos h, w0]) ?_
    by_cases h2 : y = 0
    · refine Ev.step (fun k => by rw [impl_firstOf.l0, if_pos (by rw [hl]; omega), if_pos (by omega), if_pos (by rw [hl]; omega), r1, if_pos h2, w1]) ?_
      refine Ev.step (fun k => by rw [impl_firstOf.l0, if_neg (by rw [hl]; omega)]) ?_
      rw [h2]; exact Ev.now _
    · exact Ev.step (fun k => by rw [impl_firstOf.l0, if_pos (by rw [hl]; omega), if_pos (by omega), if_pos (by rw [hl]; omega), r1, if_neg h2]) (Ev.now _)
  · rw [if_neg h]
    exact Ev.step (fun k => by rw [impl_firstOf.l0, if_pos (by rw [hl]; omega), if_pos (by omega), if_pos (by rw [hl]; omega), r0, if_neg h]) (Ev.now _)

theorem implQuoteAdd_ev (R A B S a b : Int) (hR0 : 0 ≤ R) (hR1 : R ≤ 1000000000000000000) (hR2 : R * R ≤ a * b) (hR3 : a * b < (R + 1) * (R + 1)) : Ev (fun k => impl_QuoteAdd.f k A B S a b) (quoteAddV R A B S a b) := by
  unfold impl_QuoteAdd.f quoteAddV
  simp only [PoolOK_eq, isSome_B, Option.bind_some]
  cases hp : poolB A B S with
  | false => exact Ev.now _
  | true =>
    simp only [if_true]
    have hbad : Ev (fun k => impl_QuoteAdd.j0 k a b true A B S) (0, 4) := Ev.step (fun k => by rw [impl_QuoteAdd.j0, if_pos rfl]) (Ev.now _)
    cases h1 : inB a with
    | false => exact hbad
    | true =>
      cases h2 : inB b with
      | false => exact hbad
      | true =>
        simp only [if_true, Bool.and_true, Bool.not_true]
        rw [inB_iff] at h1 h2
        rw [poolB_iff] at hp
        have hAb : 0 ≤ A ∧ A ≤ 1000000000000000000 ∧ 0 ≤ B ∧ B ≤ 1000000000000000000 ∧ 0 ≤ S ∧ S ≤ 1000000000000000000 := by omega
        refine Ev.step (f := fun k => if A + a > 1000000000000000000 then some (0, 13) else if B + b > 1000000000000000000 then some (0, 13) else (impl_Pool_shares.f k A B S a b).bind fun b1 => if b1.2 = 0 then (if b1.1 = 0 then some (0, 17) else if wrap64 (S + b1.1) > 1000000000000000000 then some (0, 13) else some (b1.1, 0)) else some (0, 13))
          (fun k => by rw [impl_QuoteAdd.j0, if_neg (by decide), wid (n := A + a) (by omega) (by omega), wid (n := B + b) (by omega) (by omega)]) ?_
        by_cases o1 : A + a > 1000000000000000000
        · have : addV R A B S a b = (0, 13) := by unfold addV; rw [if_pos (.inl o1)]
          simp only [if_pos o1, this]; exact Ev.now _
        by_cases o2 : B + b > 1000000000000000000
        · have : addV R A B S a b = (0, 13) := by unfold addV; rw [if_pos (.inr o2)]
          simp only [if_neg o1, if_pos o2, this]; exact Ev.now _
        simp only [if_neg o1, if_neg o2]
        have hend : ∀ n : Int, 0 ≤ n → n ≤ 1000000000000000000 → Ev (fun (_ : Nat) => if n = 0 then some ((0, 17) : Int × Int) else if wrap64 (S + n) > 1000000000000000000 then some (0, 13) else some (n, 0)) (addEndV S n) := by
          intro n hn hn'
          unfold addEndV
          rw [wid (n := S + n) (by omega) (by omega)]
          by_cases z1 : n = 0
          · simp only [if_pos z1]; exact Ev.now _
          · simp only [if_neg z1]
            by_cases z2 : S + n > 1000000000000000000
            · simp only [if_pos z2]; exact Ev.now _
            · simp only [if_neg z2]; exact Ev.now _
        unfold impl_Pool_shares.f addV
        rw [if_neg (by omega)]
        by_cases hS : S = 0
        · simp only [if_pos hS]
          refine Ev.bind (a := (R, 0)) (Ev.bind (RootOf_ev a b R (by omega) h1.2 (by omega) h2.2 hR0 hR1 hR2 hR3) (Ev.now _)) ?_
          exact hend R hR0 hR1
        · simp only [if_neg hS]
          rcases hp with hp | ⟨a1, a2, a3⟩
          · omega
          have m1 := MulDiv_ev a S A (by omega) h1.2 (by omega) a3.2 a1.1 a1.2
          have m2 := MulDiv_ev b S B (by omega) h2.2 (by omega) a3.2 a2.1 a2.2
          have q1 : 0 ≤ a * S / A := Int.ediv_nonneg (Int.mul_nonneg (by omega) (by omega)) (by omega)
          have q2 : 0 ≤ b * S / B := Int.ediv_nonneg (Int.mul_nonneg (by omega) (by omega)) (by omega)
          by_cases c1 : a * S / A ≤ 1000000000000000000
          · by_cases c2 : b * S / B ≤ 1000000000000000000
            · rw [if_pos c1] at m1
              rw [if_pos c2] at m2
              rw [if_neg (by omega)]
              refine Ev.bind (a := (mn (a * S / A) (b * S / B), 0)) (Ev.bind m1 (Ev.bind m2 (Ev.bind (firstOf_ev 0 0) (Ev.now _)))) ?_
              refine hend _ ?_ ?_ <;> rcases mn_cases (a * S / A) (b * S / B) with e | e <;> rw [e] <;> omega
            · rw [if_pos c1] at m1
              rw [if_neg c2] at m2
              rw [if_pos (by omega)]
              refine Ev.bind (a := (mn (a * S / A) 0, 13)) (Ev.bind m1 (Ev.bind m2 (Ev.bind (firstOf_ev 0 13) (Ev.now _)))) ?_
              exact Ev.now _
          · rw [if_neg c1] at m1
            rw [if_pos (by omega)]
            by_cases c2 : b * S / B ≤ 1000000000000000000
            · rw [if_pos c2] at m2
              refine Ev.bind (a := (mn 0 (b * S / B), 13)) (Ev.bind m1 (Ev.bind m2 (Ev.bind (firstOf_ev 13 0) (Ev.now _)))) ?_
              exact Ev.now _
            · rw [if_neg c2] at m2
              refine Ev.bind (a := (mn 0 0, 13)) (Ev.bind m1 (Ev.bind m2 (Ev.bind (firstOf_ev 13 13) (Ev.now _)))) ?_
              exact Ev.now _

end Go.Proofs.Ytppgnndolgmcfaa.U

/- Orders: when one is right, and what a payment buys. -/
namespace Go.Proofs.Ytppgnndolgmcfaa.U
open Go Go.RowKit Go.Proofs.Ytppgnndolgmcfaa.Q Go.Proofs.YtppgnndolgmcfaaW.PrintWords Go.Proofs.YtppgnndolgmcfaaW.PrintLast Go.Proofs.YtppgnndolgmcfaaW.PrintMore
set_option linter.unusedVariables false
set_option linter.unusedSimpArgs false

noncomputable def orderB (id maker : ByteArray) (sell want left : Int) (opn : Bool) : Bool :=
  nameB id && (peopleB maker && (inB sell && (inB want && (decide (0 ≤ left ∧ left ≤ sell) && (decide (left > 0) == opn)))))

theorem specOrderOK_ev (id maker : ByteArray) (sell want left : Int) (opn : Bool) : Ev (fun k => spec_OrderOK.f k id maker sell want left opn) (orderB id maker sell want left opn) := by
  unfold spec_OrderOK.f orderB
  refine Ev.bind (l05Name_ev id) ?_
  cases nameB id with
  | false => exact Ev.now _
  | true =>
    simp only [if_true, Bool.true_and]
    refine Ev.bind (l08Name_ev maker) ?_
    cases peopleB maker with
    | false => exact Ev.now _
    | true =>
      simp only [if_true, Bool.true_and, l01In_B, l01In_eq left 0 sell, Option.bind_some]
      cases inB sell with
      | false => exact Ev.now _
      | true =>
        cases inB want with
        | false => exact Ev.now _
        | true =>
          simp only [if_true, Bool.true_and]
          by_cases h : 0 ≤ left ∧ left ≤ sell
          · simp only [decide_eq_true h, if_true, Bool.true_and]
            by_cases h0 : left > 0
            · cases opn with
              | true => simp only [if_true, decide_eq_true h0]; exact Ev.now _
              | false => simp only [decide_eq_true h0, if_neg (show ¬ left = 0 by omega)]; exact Ev.now _
            · obtain rfl : left = 0 := by omega
              cases opn <;> exact Ev.now _
          · simp only [decide_eq_false h]
            exact Ev.now _

theorem implOrderOK_ev (id maker : ByteArray) (sell want left : Int) (opn : Bool) (h1 : (id.size : Int) ≤ 140737488351232) (h2 : (maker.size : Int) ≤ 140737488351232) : Ev (fun k => impl_OrderOK.f k id maker sell want left opn) (orderB id maker sell want left opn) := by
  unfold impl_OrderOK.f orderB
  have e1 := areNames_ev [id] (by simp) (by intro x hx; simp at hx; subst hx; exact h1)
  have e2 := isPeople_ev [maker] (by simp) (by intro x hx; simp at hx; subst hx; exact h2)
  simp only [List.all_cons, List.all_nil, Bool.and_true] at e1 e2
  refine Ev.bind e1 ?_
  cases nameB id with
  | false => exact Ev.now _
  | true =>
    simp only [if_true, Bool.true_and]
    refine Ev.bind e2 ?_
    cases peopleB maker with
    | false => exact Ev.now _
    | true =>
      simp only [if_true, Bool.true_and, isSome_B, within_eq left 0 sell, Option.bind_some]
      cases inB sell with
      | false => exact Ev.now _
      | true =>
        cases inB want with
        | false => exact Ev.now _
        | true =>
          simp only [if_true, Bool.true_and]
          by_cases h : 0 ≤ left ∧ left ≤ sell
          · simp only [decide_eq_true h, if_true, Bool.true_and]; exact Ev.now _
          · simp only [decide_eq_false h]; exact Ev.now _

/-- What a payment buys of a right order. -/
def fillV (sell want left : Int) (opn : Bool) (pay : Int) : Int × Int :=
  if opn = true then (if pay * sell / want > left then (0, 13) else if pay * sell / want = 0 then (0, 17) else (pay * sell / want, 0)) else (0, 16)
noncomputable def fillOfV (id maker : ByteArray) (sell want left : Int) (opn : Bool) (pay : Int) : Int × Int :=
  if orderB id maker sell want left opn = true then (if inB pay = true then fillV sell want left opn pay else (0, 4)) else (0, 1)

theorem orderB_bd {id maker : ByteArray} {sell want left : Int} {opn : Bool} (h : orderB id maker sell want left opn = true) :
    1 ≤ sell ∧ sell ≤ 1000000000000000000 ∧ 1 ≤ want ∧ want ≤ 1000000000000000000 ∧ 0 ≤ left ∧ left ≤ sell := by
  unfold orderB at h
  simp only [Bool.and_eq_true, inB_iff, decide_eq_true_iff] at h
  omega

theorem specFillOf_ev (id maker : ByteArray) (sell want left : Int) (opn : Bool) (pay : Int) : Ev (fun k => spec_FillOf.f k id maker sell want left opn pay) (fillOfV id maker sell want left opn pay) := by
  unfold spec_FillOf.f fillOfV
  refine Ev.bind (specOrderOK_ev id maker sell want left opn) ?_
  cases ho : orderB id maker sell want left opn with
  | false => exact Ev.now _
  | true =>
    simp only [if_true, l01In_B, Option.bind_some]
    cases hp : inB pay with
    | false => exact Ev.now _
    | true =>
      simp only [if_true]
      have hb := orderB_bd ho
      rw [inB_iff] at hp
      refine Ev.bind (a := fillV sell want left opn pay) ?_ (Ev.now _)
      unfold spec_l09Fill.f fillV
      cases opn with
      | false => exact Ev.now _
      | true =>
        simp only [if_true]
        refine Ev.bind (l02MulDiv_ev pay sell want (by omega) hp.2 (by omega) hb.2.1 hb.2.2.1 hb.2.2.2.1) ?_
        have hbad : ∀ q, Ev (fun k => spec_l09Fill.j0 k q true) (0, 13) := fun q => Ev.step (fun k => by rw [spec_l09Fill.j0, if_pos rfl]) (Ev.now _)
        by_cases c : pay * sell / want ≤ 1000000000000000000
        · simp only [if_pos c, if_true]
          by_cases g : pay * sell / want > left
          · simp only [decide_eq_true g, if_pos g]; exact hbad _
          · simp only [decide_eq_false g, if_neg g]
            refine Ev.step (f := fun _ => if pay * sell / want = 0 then some (0, 17) else some (pay * sell / want, 0)) (fun k => by rw [spec_l09Fill.j0, if_neg (by decide)]) ?_
            by_cases z : pay * sell / want = 0
            · simp only [if_pos z]; exact Ev.now _
            · simp only [if_neg z]; exact Ev.now _
        · simp only [if_neg c]
          rw [if_pos (by omega)]
          exact hbad _

theorem implFillOf_ev (id maker : ByteArray) (sell want left : Int) (opn : Bool) (pay : Int) (h1 : (id.size : Int) ≤ 140737488351232) (h2 : (maker.size : Int) ≤ 140737488351232) : Ev (fun k => impl_FillOf.f k id maker sell want left opn pay) (fillOfV id maker sell want left opn pay) := by
  unfold impl_FillOf.f fillOfV
  refine Ev.bind (implOrderOK_ev id maker sell want left opn h1 h2) ?_
  cases ho : orderB id maker sell want left opn with
  | false => exact Ev.now _
  | true =>
    simp only [if_true]
    have hb := orderB_bd ho
    unfold impl_Order_fill.f
    simp only [isSome_B, Option.bind_some]
    cases hp : inB pay with
    | false => exact Ev.now _
    | true =>
      simp only [if_true]
      rw [inB_iff] at hp
      refine Ev.bind (a := fillV sell want left opn pay) ?_ (Ev.now _)
      unfold fillV
      cases opn with
      | false => exact Ev.now _
      | true =>
        simp only [if_true]
        refine Ev.bind (MulDiv_ev pay sell want (by omega) hp.2 (by omega) hb.2.1 hb.2.2.1 hb.2.2.2.1) ?_
        have hbad : ∀ q, Ev (fun k => impl_Order_fill.j0 k q true) (0, 13) := fun q => Ev.step (fun k => by rw [impl_Order_fill.j0, if_pos rfl]) (Ev.now _)
        by_cases c : pay * sell / want ≤ 1000000000000000000
        · simp only [if_pos c, if_true]
          by_cases g : pay * sell / want > left
          · simp only [decide_eq_true g, if_pos g]; exact hbad _
          · simp only [decide_eq_false g, if_neg g]
            refine Ev.step (f := fun _ => if pay * sell / want = 0 then some (0, 17) else some (pay * sell / want, 0)) (fun k => by rw [impl_Order_fill.j0, if_neg (by decide)]) ?_
            by_cases z : pay * sell / want = 0
            · simp only [if_pos z]; exact Ev.now _
            · simp only [if_neg z]; exact Ev.now _
        · simp only [if_neg c, if_neg (show ¬ (13 : Int) = 0 by decide)]
          rw [if_pos (by omega)]
          exact hbad _

end Go.Proofs.Ytppgnndolgmcfaa.U

/- What the program fills of an order is what the reference fills. -/
namespace Go.Proofs.Ytppgnndolgmcfaa.Pure
open Go Go.RowKit Go.Proofs.Ytppgnndolgmcfaa.Q Go.Proofs.Ytppgnndolgmcfaa.U Go.Proofs.YtppgnndolgmcfaaW.PrintWords Go.Proofs.YtppgnndolgmcfaaW.PrintLast Go.Proofs.YtppgnndolgmcfaaW.PrintMore
set_option linter.unusedVariables false
set_option linter.unusedSimpArgs false

theorem FnExactFillOf (i m : ByteArray) (s w l : Int) (o : Bool) (hw : i.size ≤ maxLen ∧ (m.size ≤ maxLen ∧ ((Lit.int .i64 s).wf = true ∧ ((Lit.int .i64 w).wf = true ∧ ((Lit.int .i64 l).wf = true ∧ True))))) (p : Int) (_ : (Lit.int .i64 p).wf = true) : ∃ k, laws_FnExactFillOf.f k i m s w l o p = some true := by
  refine Ev.rounds (?_ : Ev (fun k => laws_FnExactFillOf.f k i m s w l o p) true)
  have hm : maxLen = 9223372036854775807 := rfl
  obtain ⟨hi, hm', _⟩ := hw
  have e0 : wrap64 (1048576 - (i.size : Int)) = 1048576 - (i.size : Int) := wid (by omega) (by omega)
  have hsz : ∃ z, laws_szOrder.f i m s w l o 1048576 = some z ∧ (z < 0 ∨ ((i.size : Int) ≤ 1048576 ∧ (m.size : Int) ≤ 1048576)) := by
    unfold laws_szOrder.f
    rw [e0]
    by_cases h1 : 1048576 - (i.size : Int) < 0
    · exact ⟨-1, by rw [if_pos h1], .inl (by decide)⟩
    rw [if_neg h1, wid (n := 1048576 - (i.size : Int) - (m.size : Int)) (by omega) (by omega)]
    by_cases h2 : 1048576 - (i.size : Int) - (m.size : Int) < 0
    · exact ⟨-1, by rw [if_pos h2], .inl (by decide)⟩
    exact ⟨_, by rw [if_neg h2], .inr (by omega)⟩
  obtain ⟨z, ez, hz⟩ := hsz
  unfold laws_FnExactFillOf.f
  simp only [ez, Option.bind_some, laws_toOrder.f]
  by_cases hneg : z < 0
  · simp only [if_pos hneg]; exact Ev.now _
  simp only [if_neg hneg]
  rcases hz with hz | ⟨hz1, hz2⟩
  · exact absurd hz hneg
  refine Ev.bind (specFillOf_ev i m s w l o p) (Ev.bind (implFillOf_ev i m s w l o p (by omega) (by omega)) ?_)
  simp only [if_true]
  exact Ev.now _
end Go.Proofs.Ytppgnndolgmcfaa.Pure

/- An argument of a law, whatever its type: read whole from what was handed over. -/
namespace Go.Proofs.Ytppgnndolgmcfaa.U
open Go Go.ChangeShapes Go.WideShapes Go.ChangeAt Go.RowKit Go.Proofs.YtppgnndolgmcfaaW.PrintWords
set_option linter.unusedVariables false
set_option linter.unusedSimpArgs false

theorem addr_add_add (a : Addr) (i j : Nat) : (a.add i).add j = a.add (i + j) := by
  unfold Addr.add
  by_cases h0 : i = 0
  · subst h0; simp
  by_cases h1 : j = 0
  · subst h1; simp
  rw [if_neg h0, if_neg h1, if_neg (by omega)]
  simp only [Nat.add_assoc]
/-- What is handed over as a t can be read as a d. -/
structure Opens {α : Type} (P : Program) (t : TypeId) (d : Kd α) (wf : α → Prop) : Prop where
  out : ∀ {H : Type} (enc : TypeId × Value → H) (w : World) (base : Nat) (sp : Nat → Bool) (held : Bool) (n : Nat) (cs : List Value) (x : DataW H × List MemPlace),
    DataW.trod enc P w base sp held n t cs = some x → ∃ a, d.K w a cs ∧ wf a
theorem Opens.int {P : Program} {t : TypeId} {k : IntKind} (ht : P.underlying t = some (.int k)) : Opens P t (Kd.int k) (fun n => (Lit.int k n).wf = true) := by
  constructor
  intro H enc w base sp held n cs x h
  obtain ⟨m, rfl, rfl, hw⟩ := DataW.trod_int ht h
  exact ⟨m, rfl, hw⟩
theorem Opens.bool {P : Program} {t : TypeId} (ht : P.underlying t = some .bool) : Opens P t Kd.bool (fun _ => True) := by
  constructor
  intro H enc w base sp held n cs x h
  obtain ⟨m, rfl, rfl⟩ := DataW.trod_bool ht h
  exact ⟨m, rfl, trivial⟩
theorem Opens.string {P : Program} {t : TypeId} (ht : P.underlying t = some .string) : Opens P t Kd.string (fun s => s.size ≤ maxLen) := by
  constructor
  intro H enc w base sp held n cs x h
  obtain ⟨m, rfl, rfl, hw⟩ := DataW.trod_string ht h
  exact ⟨m, rfl, hw⟩
theorem all_of_each {α : Type} : ∀ (n : Nat) (p : Nat → α → Prop), (∀ i, i < n → ∃ a, p i a) → ∃ xs : List α, xs.length = n ∧ ∀ i a, xs[i]? = some a → p i a
  | 0, _, _ => ⟨[], rfl, fun i a h => by simp at h⟩
  | n + 1, p, h => by
    obtain ⟨a, ha⟩ := h 0 (by omega)
    obtain ⟨xs, hl, hx⟩ := all_of_each n (fun i => p (i + 1)) (fun i hi => h (i + 1) (by omega))
    refine ⟨a :: xs, by simp [hl], fun i b hb => ?_⟩
    cases i with
    | zero => simp at hb; subst hb; exact ha
    | succ j => exact hx j b (by simpa using hb)
theorem Opens.slice {α : Type} {P : Program} {t e : TypeId} {d : Kd α} {wf : α → Prop} (ht : P.underlying t = some (.slice e)) (hs : P.cellsOf e = d.sz) (hd : Opens P e d wf) :
    Opens P t (Kd.slice e d) (fun xs => xs.length ≤ maxLen ∧ ∀ x ∈ xs, wf x) := by
  constructor
  intro H enc w base sp held n cs x h
  rcases DataW.trod_slice ht h with ⟨rfl, rfl⟩ | ⟨a, len, cap, elems, rest, m, rfl, rfl, rfl, hb, hl, hm, hlen, hel, _, _⟩
  · exact ⟨[], ⟨none, 0, rfl, by simp, rfl, by simp, by simp⟩, by simp, by simp⟩
  obtain ⟨xs, hxl, hx⟩ := all_of_each len (fun i y => wf y ∧ ∃ c, c.length = d.sz ∧ d.K w y c ∧ ∀ j u, c[j]? = some u → w.cell? (a.add (i * d.sz + j)) = some u) (fun i hi => by
    have h1 := hel i hi
    rw [List.getElem?_eq_getElem (by omega)] at h1
    obtain ⟨c, hc, hy⟩ := Option.bind_eq_some_iff.mp h1
    obtain ⟨_, hcl, hcell⟩ := World.cells?_some hc
    obtain ⟨y, hk, hw⟩ := hd.out _ _ _ _ _ _ _ _ hy
    refine ⟨y, hw, c, by omega, hk, fun j u hu => ?_⟩
    have hj : j < P.cellsOf e := by
      rcases Nat.lt_or_ge j c.length with h' | h'
      · omega
      · rw [List.getElem?_eq_none h'] at hu; cases hu
    have h2 := hcell j hj
    rw [hu] at h2
    rw [← hs, ← h2, addr_add_add])
  subst hxl
  refine ⟨xs, ⟨some a, cap, rfl, hl, rfl, by have : maxLen = 9223372036854775807 := rfl; omega, fun _ => ⟨a, rfl, fun j p hp => (hx j p hp).2⟩⟩, by omega, fun x hxm => ?_⟩
  obtain ⟨i, hi, rfl⟩ := List.getElem_of_mem hxm
  exact (hx i _ (List.getElem?_eq_getElem hi)).1
/-- The fields of a struct, from a cell on. -/
structure OpensF {α : Type} (P : Program) (fs : List Field) (off : Nat) (d : Kd α) (wf : α → Prop) : Prop where
  out : ∀ {H : Type} (enc : TypeId × Value → H) (w : World) (base : Nat) (sp : Nat → Bool) (held : Bool) (n : Nat) (cs : List Value),
    cs.length = off + d.sz → (∀ f ∈ fs, ∃ y, DataW.trod enc P w base sp held n f.type ((cs.drop f.offset).take (P.cellsOf f.type)) = some y) → ∃ a, d.K w a (cs.drop off) ∧ wf a
theorem OpensF.one {α : Type} {P : Program} {f : Field} {d : Kd α} {wf : α → Prop} (hd : Opens P f.type d wf) (hs : P.cellsOf f.type = d.sz) : OpensF P [f] f.offset d wf := by
  constructor
  intro H enc w base sp held n cs hl hf
  obtain ⟨y, hy⟩ := hf f (by simp)
  rw [List.take_of_length_le (by rw [List.length_drop]; omega)] at hy
  exact hd.out _ _ _ _ _ _ _ _ hy
theorem OpensF.cons {α β : Type} {P : Program} {f : Field} {fs : List Field} {d : Kd α} {d1 : Kd β} {wf : α → Prop} {wf1 : β → Prop} (hd : Opens P f.type d wf) (hs : P.cellsOf f.type = d.sz) (h1 : OpensF P fs (f.offset + d.sz) d1 wf1) :
    OpensF P (f :: fs) f.offset (Kd.pair d d1) (fun p => wf p.1 ∧ wf1 p.2) := by
  constructor
  intro H enc w base sp held n cs hl hf
  have hl' : cs.length = f.offset + (d.sz + d1.sz) := hl
  obtain ⟨y, hy⟩ := hf f (by simp)
  obtain ⟨a, ha, wa⟩ := hd.out _ _ _ _ _ _ _ _ hy
  obtain ⟨b, hb, wb⟩ := h1.out enc w base sp held n cs (by omega) (fun g hg => hf g (by simp [hg]))
  refine ⟨(a, b), ⟨_, _, ?_, ha, hb⟩, wa, wb⟩
  rw [hs, ← List.drop_drop, List.take_append_drop]
theorem Opens.struct {α : Type} {P : Program} {t : TypeId} {fs : Array Field} {d : Kd α} {wf : α → Prop} (ht : P.underlying t = some (.struct fs)) (hs : P.cellsOf t = d.sz) (hf : OpensF P fs.toList 0 d wf) : Opens P t d wf := by
  constructor
  intro H enc w base sp held n cs x h
  obtain ⟨xs, m, rfl, rfl, hl, hxl, hx⟩ := DataW.trod_struct ht h
  have := hf.out enc w base sp held m cs (by omega) (fun f hfm => by
    obtain ⟨i, hi, rfl⟩ := List.getElem_of_mem hfm
    have hi' : i < fs.size := by simpa using hi
    refine ⟨xs[i]'(by omega), ?_⟩
    rw [hx i _ (by simp [hi'])]
    rw [List.getElem?_eq_getElem])
  simpa using this
theorem Opens.iso {α β : Type} {P : Program} {t : TypeId} {d : Kd α} {wf : α → Prop} {f : β → α} (h : Opens P t d wf) (g : ∀ a, ∃ b, f b = a) : Opens P t (Kd.iso d f) (fun b => wf (f b)) := by
  constructor
  intro H enc w base sp held n cs x hx
  obtain ⟨a, ha, wa⟩ := h.out enc w base sp held n cs x hx
  obtain ⟨b, rfl⟩ := g a
  exact ⟨b, ha, wa⟩
end Go.Proofs.Ytppgnndolgmcfaa.U
