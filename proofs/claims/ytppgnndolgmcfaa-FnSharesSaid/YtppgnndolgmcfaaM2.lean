/- Parts of the proof: what single Go functions compute, each with its walk, and plain laws over these. -/
import Derived.Test.YtppgnndolgmcfaaM0
import Derived.Test.YtppgnndolgmcfaaM1
import Derived.Lib.ItoaNum
/- What the reference's l02MulDiv computes: the quotient of the product, digit by digit. -/
namespace Go.Proofs.Ytppgnndolgmcfaa.U
open Go Go.RowKit Go.Proofs.Ytppgnndolgmcfaa.Q Go.Proofs.YtppgnndolgmcfaaW.PrintWords Go.Proofs.YtppgnndolgmcfaaW.PrintLast Go.Proofs.YtppgnndolgmcfaaW.PrintMore
set_option linter.unusedVariables false
set_option linter.unusedSimpArgs false

theorem l02Wide_eq (a b : Int) (ha : 0 ≤ a) (ha' : a ≤ 1000000000000000000) (hb : 0 ≤ b) (hb' : b ≤ 1000000000000000000) :
    spec_l02Wide.f a b = some (a * b / 1000000000000000000, a * b % 1000000000000000000) := by
  have e := wide_eq a b ha ha' hb hb'
  have hx := Int.emod_nonneg a (by decide : (1000000000 : Int) ≠ 0)
  have hx' := Int.emod_lt_of_pos a (by decide : (0 : Int) < 1000000000)
  have hy := Int.emod_nonneg b (by decide : (1000000000 : Int) ≠ 0)
  have hy' := Int.emod_lt_of_pos b (by decide : (0 : Int) < 1000000000)
  have hu : 0 ≤ a / 1000000000 ∧ a / 1000000000 ≤ 1000000000 := by omega
  have hv : 0 ≤ b / 1000000000 ∧ b / 1000000000 ≤ 1000000000 := by omega
  have m1 := mul_bd (X := 1000000000) (Y := 1000000000) hx (by omega) hy (by omega)
  have m2 := mul_bd (X := 1000000000) (Y := 1000000000) hu.1 hu.2 hy (by omega)
  have m3 := mul_bd (X := 1000000000) (Y := 1000000000) hx (by omega) hv.1 hv.2
  have m4 := mul_bd (X := 1000000000) (Y := 1000000000) hu.1 hu.2 hv.1 hv.2
  unfold spec_l02Wide.f
  rw [tdiv_nn ha, tdiv_nn hb, tmod_nn ha, tmod_nn hb]
  generalize a / 1000000000 = x at *
  generalize a % 1000000000 = y at *
  generalize b / 1000000000 = z at *
  generalize b % 1000000000 = u at *
  rw [e]
  rw [show wrap64 x = x from wid (by omega) (by omega), show wrap64 z = z from wid (by omega) (by omega)]
  generalize x * z = p at *
  generalize x * u = q at *
  generalize y * z = r at *
  generalize y * u = s at *
  rw [show wrap64 p = p from wid (by omega) (by omega), show wrap64 q = q from wid (by omega) (by omega), show wrap64 r = r from wid (by omega) (by omega), show wrap64 s = s from wid (by omega) (by omega)]
  rw [tdiv_nn m1.1, tmod_nn m1.1, show wrap64 (q + r) = q + r from wid (by omega) (by omega)]
  rw [show wrap64 (s / 1000000000) = s / 1000000000 from wid (by omega) (by omega), show wrap64 (q + r + s / 1000000000) = q + r + s / 1000000000 from wid (by omega) (by omega)]
  rw [tdiv_nn (by omega), tmod_nn (by omega)]
  rw [show wrap64 ((q + r + s / 1000000000) / 1000000000) = (q + r + s / 1000000000) / 1000000000 from wid (by omega) (by omega)]
  rw [show wrap64 ((q + r + s / 1000000000) % 1000000000 * 1000000000) = (q + r + s / 1000000000) % 1000000000 * 1000000000 from wid (by omega) (by omega)]
  rw [show wrap64 (p + (q + r + s / 1000000000) / 1000000000) = p + (q + r + s / 1000000000) / 1000000000 from wid (by omega) (by omega)]
  rw [show wrap64 ((q + r + s / 1000000000) % 1000000000 * 1000000000 + s % 1000000000) = (q + r + s / 1000000000) % 1000000000 * 1000000000 + s % 1000000000 from wid (by omega) (by omega)]
  congr 1
  refine Prod.ext ?_ ?_ <;> show _ = _ <;> simp only <;> omega

/-- The ten turns: ten times the rest, by c. -/
theorem l02MulDiv_turns (c low out rest T : Int) (hc : 1 ≤ c) (hc' : c ≤ 1000000000000000000) (hr : 0 ≤ rest) (hr' : rest < c) (hT : 1 ≤ T) (hT' : T ≤ 1000000000000000000) (hl : 0 ≤ low) (hl' : low < 1000000000000000000)
    (ho : 0 ≤ out) (ho' : out ≤ 100000000000000000) {res : Int × Bool}
    (h : Ev (fun k => spec_l02MulDiv.l0 k c low (out * 10 + (10 * rest + low / T % 10) / c) ((10 * rest + low / T % 10) % c) (T / 10)) res) :
    ∀ (d : Nat) (i q r : Int), 0 ≤ i → i + d = 10 → 0 ≤ q → q ≤ i → 0 ≤ r → r < c → r + c * q = i * rest → Ev (fun k => spec_l02MulDiv.l1 k c low out rest T q r i) res := by
  intro d
  induction d with
  | zero =>
    intro i q r hi hd hq hqi hr0 hrc e
    obtain rfl : i = 10 := by omega
    refine Ev.step (f := fun k => spec_l02MulDiv.l0 k c low (out * 10 + (10 * rest + low / T % 10) / c) ((10 * rest + low / T % 10) % c) (T / 10)) (fun k => ?_) h
    rw [spec_l02MulDiv.l1, if_neg (by omega), if_neg (by omega), if_neg (by omega)]
    have hd0 : 0 ≤ low / T := Int.ediv_nonneg hl (by omega)
    have hd1 : low / T ≤ low := Int.ediv_le_self _ hl
    rw [tdiv_nn hl, show wrap64 (low / T) = low / T from wid (by omega) (by omega), tmod_nn hd0]
    have hd2 := Int.emod_nonneg (low / T) (by decide : (10 : Int) ≠ 0)
    have hd3 := Int.emod_lt_of_pos (low / T) (by decide : (0 : Int) < 10)
    generalize low / T % 10 = dg at *
    rw [show wrap64 (r + dg) = r + dg from wid (by omega) (by omega), tdiv_nn (by omega), tmod_nn (by omega), tdiv_nn (by omega)]
    have e3 : 10 * rest + dg = (r + dg) + c * q := by omega
    have hq3 : (10 * rest + dg) / c = (r + dg) / c + q := by rw [e3, Int.add_mul_ediv_left _ _ (by omega)]
    have hm3 : (10 * rest + dg) % c = (r + dg) % c := by rw [e3, Int.add_mul_emod_self_left]
    have hb1 : 0 ≤ (r + dg) / c := Int.ediv_nonneg (by omega) (by omega)
    have hb2 : (r + dg) / c ≤ r + dg := Int.ediv_le_self _ (by omega)
    rw [hq3, hm3]
    have hle : (r + dg) / c ≤ 10 := by
      have : (r + dg) / c < 11 := by
        rw [Int.ediv_lt_iff_lt_mul (by omega)]
        omega
      omega
    rw [show wrap64 ((r + dg) / c) = (r + dg) / c from wid (by omega) (by omega)]
    rw [show wrap64 (q + (r + dg) / c) = (r + dg) / c + q from by rw [wid (by omega) (by omega)]; omega]
    rw [show wrap64 (out * 10) = out * 10 from wid (by omega) (by omega)]
    rw [show wrap64 (out * 10 + ((r + dg) / c + q)) = out * 10 + ((r + dg) / c + q) from wid (by omega) (by omega)]
    rw [show wrap64 (T / 10) = T / 10 from wid (by omega) (by omega)]
  | succ d ih =>
    intro i q r hi hd hq hqi hr0 hrc e
    by_cases hge : r + rest ≥ c
    · refine Ev.step (fun k => ?_) (ih (i + 1) (q + 1) (r + rest - c) (by omega) (by omega) (by omega) (by omega) (by omega) (by omega) (by rw [Int.mul_add, Int.add_mul]; omega))
      rw [spec_l02MulDiv.l1, if_pos (by omega), show wrap64 (r + rest) = r + rest from wid (by omega) (by omega), if_pos hge, show wrap64 (q + 1) = q + 1 from wid (by omega) (by omega), show wrap64 (i + 1) = i + 1 from wid (by omega) (by omega), show wrap64 (r + rest - c) = r + rest - c from wid (by omega) (by omega)]
    · refine Ev.step (fun k => ?_) (ih (i + 1) q (r + rest) (by omega) (by omega) (by omega) (by omega) (by omega) (by omega) (by rw [Int.add_mul]; omega))
      rw [spec_l02MulDiv.l1, if_pos (by omega), show wrap64 (r + rest) = r + rest from wid (by omega) (by omega), if_neg hge, show wrap64 (i + 1) = i + 1 from wid (by omega) (by omega)]

theorem l02MulDiv_digits (c low : Int) (hc : 1 ≤ c) (hc' : c ≤ 1000000000000000000) (hl : 0 ≤ low) (hl' : low < 1000000000000000000) :
    ∀ (j : Nat) (out rest : Int), j ≤ 18 → 0 ≤ rest → rest < c → 0 ≤ out → out < 10 ^ (18 - j) →
      Ev (fun k => spec_l02MulDiv.l0 k c low out rest (if j = 0 then 0 else 10 ^ (j - 1))) (out * 10 ^ j + (rest * 10 ^ j + low % 10 ^ j) / c, true) := by
  intro j
  induction j with
  | zero =>
    intro out rest hj hr hr' ho ho'
    refine Ev.step (f := fun _ => some (out, true)) (fun k => by rw [if_pos rfl, spec_l02MulDiv.l0, if_neg (by omega)]) ?_
    have : (rest * 10 ^ 0 + low % 10 ^ 0) / c = 0 := by
      rw [show (10 : Int) ^ 0 = 1 from rfl, Int.emod_one, Int.mul_one, Int.add_zero]
      exact Int.ediv_eq_zero_of_lt hr hr'
    rw [this]
    rw [show out * 10 ^ 0 + 0 = out from by rw [show (10 : Int) ^ 0 = 1 from rfl]; omega]
    exact Ev.now _
  | succ j ih =>
    intro out rest hj hr hr' ho ho'
    have hT : (1 : Int) ≤ 10 ^ j := by have h_ : (0 : Int) < 10 ^ j := Int.pow_pos (by decide); omega
    have hT2 : ∀ m : Nat, m ≤ 18 → (10 : Int) ^ m ≤ 1000000000000000000 := by decide
    have hT3 : ∀ m : Nat, m ≤ 17 → (10 : Int) ^ m ≤ 100000000000000000 := by decide
    have hTT := hT2 j (by omega)
    have hO := hT3 (18 - (j + 1)) (by omega)
    have hd2 := Int.emod_nonneg (low / 10 ^ j) (by decide : (10 : Int) ≠ 0)
    have hd3 := Int.emod_lt_of_pos (low / 10 ^ j) (by decide : (0 : Int) < 10)
    have hp : (10 : Int) ^ (j + 1) = 10 * 10 ^ j := by rw [Int.pow_succ, Int.mul_comm]
    have hp2 : (10 : Int) ^ (18 - j) = 10 * 10 ^ (18 - (j + 1)) := by rw [show 18 - j = (18 - (j + 1)) + 1 from by omega, Int.pow_succ, Int.mul_comm]
    have key := digit_step c (10 ^ j) out rest low hc hT hr hl
    have hq1 : 0 ≤ (10 * rest + low / 10 ^ j % 10) / c := Int.ediv_nonneg (by omega) (by omega)
    have hq2 : (10 * rest + low / 10 ^ j % 10) / c < 10 := by
      rw [Int.ediv_lt_iff_lt_mul (by omega)]
      omega
    have hm1 := Int.emod_nonneg (10 * rest + low / 10 ^ j % 10) (by omega : c ≠ 0)
    have hm2 := Int.emod_lt_of_pos (10 * rest + low / 10 ^ j % 10) (by omega : 0 < c)
    have := ih (out * 10 + (10 * rest + low / 10 ^ j % 10) / c) ((10 * rest + low / 10 ^ j % 10) % c) (by omega) hm1 hm2 (by omega) (by rw [hp2]; omega)
    rw [key, ← hp] at this
    have hdiv : (if j = 0 then (0 : Int) else 10 ^ (j - 1)) = 10 ^ j / 10 := by
      cases j with
      | zero => rfl
      | succ m => rw [if_neg (by omega), Int.pow_succ, Int.mul_ediv_cancel _ (by decide)]; rfl
    rw [hdiv] at this
    have h1 := l02MulDiv_turns c low out rest (10 ^ j) hc hc' hr hr' hT hTT hl hl' ho (by omega) this 10 0 0 0 (by omega) (by omega) (by omega) (by omega) (by omega) (by omega) (by omega)
    refine Ev.step (fun k => ?_) h1
    rw [if_neg (by omega), spec_l02MulDiv.l0, if_pos (by rw [show j + 1 - 1 = j from rfl]; omega)]
    rfl

/-- The reference's quotient of a product: whole, and whether it is an amount. -/
theorem l02MulDiv_ev (a b c : Int) (ha : 0 ≤ a) (ha' : a ≤ 1000000000000000000) (hb : 0 ≤ b) (hb' : b ≤ 1000000000000000000) (hc : 1 ≤ c) (hc' : c ≤ 1000000000000000000) :
    Ev (fun k => spec_l02MulDiv.f k a b c) (if a * b / c ≤ 1000000000000000000 then (a * b / c, true) else (1000000000000000000, false)) := by
  unfold spec_l02MulDiv.f
  rw [l02Wide_eq a b ha ha' hb hb']
  simp only [Option.bind_some]
  have hP : 0 ≤ a * b := Int.mul_nonneg ha hb
  generalize a * b = P at *
  have e := Int.mul_ediv_add_emod P 1000000000000000000
  have hl := Int.emod_nonneg P (by decide : (1000000000000000000 : Int) ≠ 0)
  have hl' := Int.emod_lt_of_pos P (by decide : (0 : Int) < 1000000000000000000)
  have hh : 0 ≤ P / 1000000000000000000 := Int.ediv_nonneg hP (by decide)
  generalize P / 1000000000000000000 = high at *
  generalize P % 1000000000000000000 = low at *
  by_cases hge : high ≥ c
  · simp only [if_pos hge]
    by_cases heq : high = c
    · simp only [if_pos heq]
      subst heq
      have hq : P / high = 1000000000000000000 + low / high := by
        rw [← e, Int.mul_comm, Int.mul_add_ediv_left _ _ (by omega)]
      by_cases hlt : low < high
      · have h0 : low / high = 0 := Int.ediv_eq_zero_of_lt hl hlt
        rw [hq, h0, if_pos (by omega), decide_eq_true hlt]
        exact Ev.now _
      · have h0 : 1 ≤ low / high := by rw [Int.le_ediv_iff_mul_le (by omega)]; omega
        rw [hq, if_neg (by omega), decide_eq_false hlt]
        exact Ev.now _
    · simp only [if_neg heq]
      have h0 : 1000000000000000001 ≤ P / c := by
        rw [Int.le_ediv_iff_mul_le (by omega)]
        omega
      rw [if_neg (by omega)]
      exact Ev.now _
  · simp only [if_neg hge]
    have := l02MulDiv_digits c low hc hc' hl hl' 18 0 high (by omega) hh (by omega) (by omega) (by decide)
    have hq : P / c ≤ 1000000000000000000 := by
      have : P / c < 1000000000000000001 := by
        rw [Int.ediv_lt_iff_lt_mul (by omega)]
        omega
      omega
    rw [if_pos hq]
    rw [show (0 : Int) * 10 ^ 18 + (high * 10 ^ 18 + low % 10 ^ 18) / c = P / c from by
      rw [show (10 : Int) ^ 18 = 1000000000000000000 from rfl, Int.emod_eq_of_lt hl hl', ← e, Int.mul_comm high]; omega] at this
    exact this
end Go.Proofs.Ytppgnndolgmcfaa.U

/- bits.Div64: the quotient of two words by one, as Knuth divides; and the program's MulDiv by it. -/
namespace Go.Proofs.Ytppgnndolgmcfaa.U
open Go Go.RowKit Go.Proofs.Ytppgnndolgmcfaa.Q Go.Proofs.YtppgnndolgmcfaaW.PrintWords Go.Proofs.YtppgnndolgmcfaaW.PrintLast Go.Proofs.YtppgnndolgmcfaaW.PrintMore
set_option linter.unusedVariables false
set_option linter.unusedSimpArgs false

theorem le_of_prod {Y q Q M : Int} (hY : 1 ≤ Y) (h1 : q * Y ≤ M) (h2 : M < (Q + 1) * Y) : q ≤ Q := by
  refine Int.not_lt.1 fun h => ?_
  have : (Q + 1) * Y ≤ q * Y := Int.mul_le_mul_of_nonneg_right (by omega) (by omega)
  omega
theorem lt_of_prod {Y q Q M : Int} (hY : 1 ≤ Y) (h1 : M < q * Y) (h2 : Q * Y ≤ M) : Q < q := by
  refine Int.not_le.1 fun h => ?_
  have : q * Y ≤ Q * Y := Int.mul_le_mul_of_nonneg_right h (by omega)
  omega

theorem ev_ex {g : Nat → Option (Int × Int)} {a : Int} (h : ∃ b, ∀ k, g (k + 1) = some (a, b)) : ∃ b, Ev g (a, b) := by
  obtain ⟨b, h⟩ := h
  exact ⟨b, Ev.step h (Ev.now _)⟩

/-- What the two loops of Div64 decide: a guess that is too great, and one that is not. -/
theorem guess (Y y1 y0 u v q r Q : Int) (hY : Y = y1 * 4294967296 + y0) (hy1 : 2147483648 ≤ y1) (hy0 : 0 ≤ y0) (hy0' : y0 < 4294967296) (hu : u < Y) (hv : 0 ≤ v) (hv' : v < 4294967296)
    (hQ1 : Q * Y ≤ u * 4294967296 + v) (hQ2 : u * 4294967296 + v < (Q + 1) * Y) (he : q * y1 + r = u) :
    (q * Y ≤ u * 4294967296 + v ↔ q * y0 ≤ r * 4294967296 + v) ∧ (4294967296 ≤ r → q < 4294967296) ∧ Q < 4294967296 := by
  have e1 : q * Y = (u - r) * 4294967296 + q * y0 := by subst hY; rw [← he]; grind
  refine ⟨by rw [e1, Int.sub_mul]; omega, fun hr => ?_, ?_⟩
  · refine Int.not_le.1 fun h => ?_
    have : 4294967296 * y1 ≤ q * y1 := Int.mul_le_mul_of_nonneg_right h (by omega)
    omega
  · refine Int.not_le.1 fun h => ?_
    have : 4294967296 * Y ≤ Q * Y := Int.mul_le_mul_of_nonneg_right h (by omega)
    omega

section
variable (Y s y1 y0 u v : Int)

theorem div_l0 (z : Int) (hY : Y = y1 * 4294967296 + y0) (hy1 : 2147483648 ≤ y1) (hy1' : y1 < 4294967296) (hy0 : 0 ≤ y0) (hy0' : y0 < 4294967296) (hu0 : 0 ≤ u) (hu : u < Y) (hv : 0 ≤ v) (hv' : v < 4294967296) (Q : Int) (hQ0 : 0 ≤ Q)
    (hQ1 : Q * Y ≤ u * 4294967296 + v) (hQ2 : u * 4294967296 + v < (Q + 1) * Y) {res : Int × Int} (h : Ev (fun k => bits_Div64.j2 k Y s y1 y0 u v z Q) res) :
    ∀ (n : Nat) (q r : Int), Q ≤ q → q - Q ≤ n → 0 ≤ r → r < 4294967296 → q * y1 + r = u → q < 17179869184 → Ev (fun k => bits_Div64.l0 k Y s y1 y0 u v z q r) res := by
  intro n
  induction n with
  | zero =>
    intro q r hq hn hr hr' he hb
    obtain rfl : q = Q := by omega
    obtain ⟨g1, g2, g3⟩ := guess Y y1 y0 u v q r q hY hy1 hy0 hy0' hu hv hv' hQ1 hQ2 he
    have m0 := mul_bd (X := 4294967295) (Y := 4294967295) hQ0 (by omega) hy0 (by omega)
    have ht : ¬ IntKind.u64.wrap (q * y0) > IntKind.u64.wrap (IntKind.u64.wrap (4294967296 * r) + v) := by
      rw [u64id m0.1 (by omega), u64id (n := 4294967296 * r) (by omega) (by omega), u64id (n := 4294967296 * r + v) (by omega) (by omega)]
      have := g1.1 hQ1
      omega
    refine Ev.step (fun k => by rw [bits_Div64.l0, if_neg (by omega), decide_eq_false ht]) ?_
    exact Ev.step (fun k => by rw [bits_Div64.j1, if_neg (by decide)]) h
  | succ n ih =>
    intro q r hq hn hr hr' he hb
    obtain ⟨g1, g2, g3⟩ := guess Y y1 y0 u v q r Q hY hy1 hy0 hy0' hu hv hv' hQ1 hQ2 he
    have down : Q < q → Ev (fun k => bits_Div64.j1 k Y s y1 y0 u v z q r true) res := by
      intro hgt
      have he' : (q - 1) * y1 + (r + y1) = u := by rw [Int.sub_mul]; omega
      by_cases hbig : r + y1 ≥ 4294967296
      · obtain ⟨g1', g2', _⟩ := guess Y y1 y0 u v (q - 1) (r + y1) Q hY hy1 hy0 hy0' hu hv hv' hQ1 hQ2 he'
        have hq32 := g2' hbig
        have m0 := mul_bd (X := 4294967295) (Y := 4294967295) (x := q - 1) (by omega) (by omega) hy0 (by omega)
        have hle := le_of_prod (by omega) (g1'.2 (by omega)) hQ2
        obtain rfl : q - 1 = Q := by omega
        refine Ev.step (fun k => ?_) h
        rw [bits_Div64.j1, if_pos rfl, u64id (n := r + y1) (by omega) (by omega), if_pos hbig, u64id (n := q - 1) (by omega) (by omega)]
      · refine Ev.step (fun k => ?_) (ih (q - 1) (r + y1) (by omega) (by omega) (by omega) (by omega) he' (by omega))
        rw [bits_Div64.j1, if_pos rfl, u64id (n := r + y1) (by omega) (by omega), if_neg hbig, u64id (n := q - 1) (by omega) (by omega)]
    by_cases hbig : q ≥ 4294967296
    · exact Ev.step (fun k => by rw [bits_Div64.l0, if_pos hbig]) (down (by omega))
    · have m0 := mul_bd (X := 4294967295) (Y := 4294967295) (x := q) (by omega) (by omega) hy0 (by omega)
      have e1 : IntKind.u64.wrap (q * y0) = q * y0 := u64id m0.1 (by omega)
      have e2 : IntKind.u64.wrap (IntKind.u64.wrap (4294967296 * r) + v) = 4294967296 * r + v := by rw [u64id (n := 4294967296 * r) (by omega) (by omega), u64id (by omega) (by omega)]
      by_cases ht : q * y0 > 4294967296 * r + v
      · refine Ev.step (fun k => by rw [bits_Div64.l0, if_neg hbig, e1, e2, decide_eq_true ht]) (down ?_)
        refine lt_of_prod (Y := Y) (by omega) (Int.not_le.1 fun hh => ?_) hQ1
        have := g1.1 hh
        omega
      · have hle := le_of_prod (by omega) (g1.2 (by omega)) hQ2
        obtain rfl : q = Q := by omega
        refine Ev.step (fun k => by rw [bits_Div64.l0, if_neg hbig, e1, e2, decide_eq_false ht]) ?_
        exact Ev.step (fun k => by rw [bits_Div64.j1, if_neg (by decide)]) h

/-- The second loop: the lower word of the quotient; the rest is left open. -/
theorem div_l1 (hY : Y = y1 * 4294967296 + y0) (hy1 : 2147483648 ≤ y1) (hy1' : y1 < 4294967296) (hy0 : 0 ≤ y0) (hy0' : y0 < 4294967296) (hu0 : 0 ≤ u) (hu : u < Y) (hv : 0 ≤ v) (hv' : v < 4294967296) (Q : Int) (hQ0 : 0 ≤ Q)
    (hQ1 : Q * Y ≤ u * 4294967296 + v) (hQ2 : u * 4294967296 + v < (Q + 1) * Y) (hs : 0 ≤ s) (P : Int) (hP : 0 ≤ P) (hP' : P < 4294967296) :
    ∀ (n : Nat) (q r : Int), Q ≤ q → q - Q ≤ n → 0 ≤ r → r < 4294967296 → q * y1 + r = u → q < 17179869184 → ∃ rem, Ev (fun k => bits_Div64.l1 k Y s y1 y0 v P r u q) (P * 4294967296 + Q, rem) := by
  intro n
  induction n with
  | zero =>
    intro q r hq hn hr hr' he hb
    obtain rfl : q = Q := by omega
    obtain ⟨g1, g2, g3⟩ := guess Y y1 y0 u v q r q hY hy1 hy0 hy0' hu hv hv' hQ1 hQ2 he
    have m0 := mul_bd (X := 4294967295) (Y := 4294967295) hQ0 (by omega) hy0 (by omega)
    have ht : ¬ IntKind.u64.wrap (q * y0) > IntKind.u64.wrap (IntKind.u64.wrap (4294967296 * r) + v) := by
      rw [u64id m0.1 (by omega), u64id (n := 4294967296 * r) (by omega) (by omega), u64id (n := 4294967296 * r + v) (by omega) (by omega)]
      have := g1.1 hQ1
      omega
    obtain ⟨rem, hrem⟩ : ∃ rem, Ev (fun k => bits_Div64.j4 k Y s y1 y0 v P r u q false) (P * 4294967296 + q, rem) := by
      apply ev_ex
      apply Exists.intro
      intro k
      rw [bits_Div64.j4, if_neg (by decide), if_pos hs, u64id (n := P * 4294967296) (by omega) (by omega), u64id (n := P * 4294967296 + q) (by omega) (by omega)]
    exact ⟨rem, Ev.step (fun k => by rw [bits_Div64.l1, if_neg (by omega), decide_eq_false ht]) hrem⟩
  | succ n ih =>
    intro q r hq hn hr hr' he hb
    obtain ⟨g1, g2, g3⟩ := guess Y y1 y0 u v q r Q hY hy1 hy0 hy0' hu hv hv' hQ1 hQ2 he
    have down : Q < q → ∃ rem, Ev (fun k => bits_Div64.j4 k Y s y1 y0 v P r u q true) (P * 4294967296 + Q, rem) := by
      intro hgt
      have he' : (q - 1) * y1 + (r + y1) = u := by rw [Int.sub_mul]; omega
      by_cases hbig : r + y1 ≥ 4294967296
      · obtain ⟨g1', g2', _⟩ := guess Y y1 y0 u v (q - 1) (r + y1) Q hY hy1 hy0 hy0' hu hv hv' hQ1 hQ2 he'
        have hq32 := g2' hbig
        have m0 := mul_bd (X := 4294967295) (Y := 4294967295) (x := q - 1) (by omega) (by omega) hy0 (by omega)
        have hle := le_of_prod (by omega) (g1'.2 (by omega)) hQ2
        obtain rfl : q - 1 = Q := by omega
        apply ev_ex
        apply Exists.intro
        intro k
        rw [bits_Div64.j4, if_pos rfl, u64id (n := r + y1) (by omega) (by omega), if_pos hbig, if_pos hs, u64id (n := q - 1) (by omega) (by omega), u64id (n := P * 4294967296) (by omega) (by omega), u64id (n := P * 4294967296 + (q - 1)) (by omega) (by omega)]
      · obtain ⟨rem, hrem⟩ := ih (q - 1) (r + y1) (by omega) (by omega) (by omega) (by omega) he' (by omega)
        refine ⟨rem, Ev.step (fun k => ?_) hrem⟩
        rw [bits_Div64.j4, if_pos rfl, u64id (n := r + y1) (by omega) (by omega), if_neg hbig, u64id (n := q - 1) (by omega) (by omega)]
    by_cases hbig : q ≥ 4294967296
    · obtain ⟨rem, hrem⟩ := down (by omega)
      exact ⟨rem, Ev.step (fun k => by rw [bits_Div64.l1, if_pos hbig]) hrem⟩
    · have m0 := mul_bd (X := 4294967295) (Y := 4294967295) (x := q) (by omega) (by omega) hy0 (by omega)
      have e1 : IntKind.u64.wrap (q * y0) = q * y0 := u64id m0.1 (by omega)
      have e2 : IntKind.u64.wrap (IntKind.u64.wrap (4294967296 * r) + v) = 4294967296 * r + v := by rw [u64id (n := 4294967296 * r) (by omega) (by omega), u64id (by omega) (by omega)]
      by_cases ht : q * y0 > 4294967296 * r + v
      · obtain ⟨rem, hrem⟩ := down (by
          refine lt_of_prod (Y := Y) (by omega) (Int.not_le.1 fun hh => ?_) hQ1
          have := g1.1 hh
          omega)
        exact ⟨rem, Ev.step (fun k => by rw [bits_Div64.l1, if_neg hbig, e1, e2, decide_eq_true ht]) hrem⟩
      · have hle := le_of_prod (by omega) (g1.2 (by omega)) hQ2
        obtain rfl : q = Q := by omega
        obtain ⟨rem, hrem⟩ : ∃ rem, Ev (fun k => bits_Div64.j4 k Y s y1 y0 v P r u q false) (P * 4294967296 + q, rem) := by
          apply ev_ex
          apply Exists.intro
          intro k
          rw [bits_Div64.j4, if_neg (by decide), if_pos hs, u64id (n := P * 4294967296) (by omega) (by omega), u64id (n := P * 4294967296 + q) (by omega) (by omega)]
        exact ⟨rem, Ev.step (fun k => by rw [bits_Div64.l1, if_neg hbig, e1, e2, decide_eq_false ht]) hrem⟩
end

/-- The first guess: the upper word by the divisor's upper half. -/
theorem first_guess (Y y1 y0 u v Q : Int) (hY : Y = y1 * 4294967296 + y0) (hy1 : 2147483648 ≤ y1) (hy1' : y1 < 4294967296) (hy0 : 0 ≤ y0) (hu0 : 0 ≤ u) (hu64 : u < 18446744073709551616) (hv : 0 ≤ v) (hv' : v < 4294967296) (hQ0 : 0 ≤ Q) (hQ1 : Q * Y ≤ u * 4294967296 + v) :
    Q ≤ u / y1 ∧ 0 ≤ u / y1 ∧ u / y1 < 17179869184 ∧ 0 ≤ u - u / y1 * y1 ∧ u - u / y1 * y1 < 4294967296 ∧ u / y1 * y1 + (u - u / y1 * y1) = u ∧ u / y1 * y1 ≤ u ∧ 0 ≤ u / y1 * y1 := by
  have h1 := knuth_lower Y y1 y0 u v Q hY hy0 hv hv' hQ0 hQ1
  have h2 := Int.mul_ediv_add_emod u y1
  have h3 := Int.emod_nonneg u (by omega : y1 ≠ 0)
  have h4 := Int.emod_lt_of_pos u (by omega : 0 < y1)
  have h5 : 0 ≤ u / y1 := Int.ediv_nonneg hu0 (by omega)
  have h6 : u / y1 < 17179869184 := by rw [Int.ediv_lt_iff_lt_mul (by omega)]; omega
  have h7 : Q ≤ u / y1 := by rw [Int.le_ediv_iff_mul_le (by omega)]; exact h1
  rw [Int.mul_comm] at h2
  have h8 : 0 ≤ u / y1 * y1 := Int.mul_nonneg h5 (by omega)
  refine ⟨h7, h5, h6, ?_, ?_, ?_, ?_, h8⟩ <;> omega

theorem div_main (s Y y1 y0 u v z : Int) (hY : Y = y1 * 4294967296 + y0) (hy1 : 2147483648 ≤ y1) (hy1' : y1 < 4294967296) (hy0 : 0 ≤ y0) (hy0' : y0 < 4294967296) (hu0 : 0 ≤ u) (hu : u < Y) (hv : 0 ≤ v) (hv' : v < 4294967296) (hz : 0 ≤ z) (hz' : z < 4294967296) (hs : 0 ≤ s) :
    ∃ rem, Ev (fun k => bits_Div64.l0 k Y s y1 y0 u v z (u / y1) (u - u / y1 * y1)) (((u * 4294967296 + v) * 4294967296 + z) / Y, rem) := by
  have hY0 : 1 ≤ Y := by omega
  have hYb : Y < 18446744073709551616 := by omega
  have a1 := Int.mul_ediv_add_emod (u * 4294967296 + v) Y
  have a2 := Int.emod_nonneg (u * 4294967296 + v) (by omega : Y ≠ 0)
  have a3 := Int.emod_lt_of_pos (u * 4294967296 + v) (by omega : 0 < Y)
  have a4 : 0 ≤ (u * 4294967296 + v) / Y := Int.ediv_nonneg (by omega) (by omega)
  generalize (u * 4294967296 + v) / Y = Q at *
  generalize hR : (u * 4294967296 + v) % Y = R at *
  rw [Int.mul_comm] at a1
  have hQ1 : Q * Y ≤ u * 4294967296 + v := by omega
  have hQ2 : u * 4294967296 + v < (Q + 1) * Y := by rw [Int.add_mul]; omega
  have b1 := Int.mul_ediv_add_emod (R * 4294967296 + z) Y
  have b2 := Int.emod_nonneg (R * 4294967296 + z) (by omega : Y ≠ 0)
  have b3 := Int.emod_lt_of_pos (R * 4294967296 + z) (by omega : 0 < Y)
  have b4 : 0 ≤ (R * 4294967296 + z) / Y := Int.ediv_nonneg (by omega) (by omega)
  have tot : ((u * 4294967296 + v) * 4294967296 + z) / Y = Q * 4294967296 + (R * 4294967296 + z) / Y := by
    have e : (u * 4294967296 + v) * 4294967296 + z = (R * 4294967296 + z) + Y * (Q * 4294967296) := by rw [← a1]; grind
    rw [e, Int.add_mul_ediv_left _ _ (by omega)]
    omega
  rw [tot]
  clear tot
  generalize (R * 4294967296 + z) / Y = P at *
  generalize (R * 4294967296 + z) % Y = R2 at *
  rw [Int.mul_comm] at b1
  have hP1 : P * Y ≤ R * 4294967296 + z := by omega
  have hP2 : R * 4294967296 + z < (P + 1) * Y := by rw [Int.add_mul]; omega
  obtain ⟨c1, c2, c3, c4, c5, c6, c7, c8⟩ := first_guess Y y1 y0 u v Q hY hy1 hy1' hy0 hu0 (by omega) hv hv' a4 hQ1
  obtain ⟨d1, d2, d3, d4, d5, d6, d7, d8⟩ := first_guess Y y1 y0 R z P hY hy1 hy1' hy0 a2 (by omega) hz hz' b4 hP1
  have q32 := (guess Y y1 y0 u v _ _ Q hY hy1 hy0 hy0' hu hv hv' hQ1 hQ2 c6).2.2
  obtain ⟨rem, hrem⟩ := div_l1 Y s y1 y0 R z hY hy1 hy1' hy0 hy0' a2 a3 hz hz' P b4 hP1 hP2 hs Q a4 q32 (R / y1 - P).toNat (R / y1) (R - R / y1 * y1) d1 (by omega) d4 d5 d6 d3
  refine ⟨rem, ?_⟩
  refine div_l0 Y s y1 y0 u v z hY hy1 hy1' hy0 hy0' hu0 hu hv hv' Q a4 hQ1 hQ2 ?_ (u / y1 - Q).toNat (u / y1) _ c1 (by omega) c4 c5 c6 c3
  have hw : IntKind.u64.wrap (IntKind.u64.wrap (IntKind.u64.wrap (u * 4294967296) + v) - IntKind.u64.wrap (Q * Y)) = R := by
    simp only [u64w]
    omega
  refine Ev.step (fun k => ?_) hrem
  rw [bits_Div64.j2, if_neg (by omega), hw, tdiv_nn a2, u64id (n := R / y1) d2 (by omega), u64id (n := R / y1 * y1) d8 (by omega), u64id (n := R - R / y1 * y1) d4 (by omega)]

end Go.Proofs.Ytppgnndolgmcfaa.U

/- The program's MulDiv: the quotient of a product, through Div64. -/
namespace Go.Proofs.Ytppgnndolgmcfaa.U
open Go Go.RowKit Go.Proofs.Ytppgnndolgmcfaa.Q Go.Proofs.YtppgnndolgmcfaaW.PrintWords Go.Proofs.YtppgnndolgmcfaaW.PrintLast Go.Proofs.YtppgnndolgmcfaaW.PrintMore
set_option linter.unusedVariables false
set_option linter.unusedSimpArgs false

theorem u64_64 (n : Int) (h0 : 0 ≤ n) (h1 : n < 2 ^ 64) : IntKind.u64.wrap n = n := u64id h0 h1

theorem Div64_ev (hi lo y : Int) (h0 : 0 ≤ hi) (h1 : hi < y) (h2 : y < 18446744073709551616) (h3 : 0 ≤ lo) (h4 : lo < 18446744073709551616) :
    ∃ rem, Ev (fun k => bits_Div64.f k hi lo y) ((hi * 18446744073709551616 + lo) / y, rem) := by
  unfold bits_Div64.f
  simp only [if_neg (show ¬ y = 0 by omega), if_neg (show ¬ y ≤ hi by omega)]
  by_cases hz : hi = 0
  · subst hz
    simp only [if_pos rfl]
    rw [tdiv_nn h3, u64id (Int.ediv_nonneg h3 (by omega)) (by have := Int.ediv_le_self y h3; omega)]
    rw [show (0 * 18446744073709551616 + lo) = lo by omega]
    exact ⟨_, Ev.now _⟩
  · simp only [if_neg hz]
    have hyn : y.toNat ≠ 0 := by omega
    have hy64 : y.toNat < 2 ^ 64 := by omega
    obtain ⟨b1, b2, b3⟩ := Lib.bitLenAux_bounds 64 y.toNat hy64 hyn
    have b4 : Lib.bitLen y.toNat ≤ 64 := Lib.bitLen_le _ 64 (Nat.le_refl _) hy64
    have bl : Lib.bitLenAux 64 y.toNat = Lib.bitLen y.toNat := rfl
    rw [bl] at b1 b2 b3
    have hlz : bits_LeadingZeros64.f y = some (64 - (Lib.bitLen y.toNat : Int)) := by unfold bits_LeadingZeros64.f; rw [if_pos ⟨by omega, h2⟩]
    rw [hlz]
    simp only [Option.bind_some]
    generalize Lib.bitLen y.toNat = L at *
    obtain ⟨s, hs⟩ : ∃ s, L + s = 64 := ⟨64 - L, by omega⟩
    have ew : IntKind.u64.wrap (64 - (L : Int)) = (s : Int) := by rw [u64id (by omega) (by omega)]; omega
    rw [ew]
    have ew2 : IntKind.u64.wrap (64 - (s : Int)) = (L : Int) := by rw [u64id (by omega) (by omega)]; omega
    rw [ew2]
    simp only [if_pos (show (0 : Int) ≤ (s : Int) by omega), if_pos (show (0 : Int) ≤ (L : Int) by omega)]
    have hp : (0 : Int) < 2 ^ s := Int.pow_pos (by decide)
    have hD : (0 : Int) < 2 ^ L := Int.pow_pos (by decide)
    have hpD : (2 : Int) ^ s * 2 ^ L = 18446744073709551616 := by rw [← Int.pow_add, show s + L = 64 from by omega]; rfl
    have hL1 : (2 : Int) ^ L = 2 * 2 ^ (L - 1) := by
      obtain ⟨m, rfl⟩ : ∃ m, L = m + 1 := ⟨L - 1, by omega⟩
      rw [Int.pow_succ, Int.mul_comm]; rfl
    have c2 : (2 : Int) ^ (L - 1) ≤ y := by have : ((2 ^ (L - 1) : Nat) : Int) ≤ (y.toNat : Int) := by exact_mod_cast b2
                                            rw [Int.toNat_of_nonneg (by omega)] at this; exact_mod_cast this
    have c3 : y < (2 : Int) ^ L := by have : ((y.toNat : Nat) : Int) < ((2 ^ L : Nat) : Int) := by exact_mod_cast b3
                                      rw [Int.toNat_of_nonneg (by omega)] at this; exact_mod_cast this
    have hshl : ∀ x : Int, shl .u64 x (s : Int) = x * 2 ^ s % 18446744073709551616 := by
      intro x
      unfold shl
      rw [Int.toNat_natCast, Nat.min_eq_left (by simp [IntKind.bits]; omega), u64w]
    have hshr : shr .u64 lo (L : Int) = lo / 2 ^ L := by
      unfold shr
      rw [Int.toNat_natCast, Nat.min_eq_left (by simp [IntKind.bits]; omega)]
    rw [hshl, hshl, hshl, hshr]
    have hmask : ∀ x : Int, 0 ≤ x → x < 18446744073709551616 → Go.bits .and .u64 x 4294967295 = x % 4294967296 := by
      intro x hx hx'
      exact bits_mask .u64 64 (by decide) u64_64 32 (by decide) x hx hx'
    have hjoin : ∀ a b : Int, 0 ≤ a → a % 2 ^ s = 0 → a < 18446744073709551616 → 0 ≤ b → b < 2 ^ s → Go.bits .or .u64 a b = a + b := by
      intro a b ha hm ha' hb hb'
      have : (2 : Int) ^ s ≤ 18446744073709551616 := by have h_ := Int.mul_le_mul_of_nonneg_left (show (1 : Int) ≤ 2 ^ L by omega) (show (0 : Int) ≤ 2 ^ s by omega); rw [hpD] at h_; omega
      exact bits_join .u64 64 (by decide) u64_64 s a b ha hm (by show a < 18446744073709551616; exact ha') hb hb' (by show b < 18446744073709551616; omega)
    generalize hpp : (2 : Int) ^ s = p at *
    generalize (2 : Int) ^ L = D at *
    generalize (2 : Int) ^ (L - 1) = D1 at *
    have y63 : 9223372036854775808 ≤ y * p := by
      have : D1 * p ≤ y * p := Int.mul_le_mul_of_nonneg_right c2 (by omega)
      have e : 2 * (D1 * p) = 18446744073709551616 := by rw [← hpD, hL1]; grind
      omega
    have y64 : y * p < 18446744073709551616 := by
      have : y * p < D * p := Int.mul_lt_mul_of_pos_right c3 hp
      rw [Int.mul_comm D] at this
      omega
    have hip : hi * p ≤ y * p - p := by
      have : (hi + 1) * p ≤ y * p := Int.mul_le_mul_of_nonneg_right (by omega) (by omega)
      rw [Int.add_mul] at this
      omega
    have hip0 : 0 ≤ hi * p := Int.mul_nonneg h0 (by omega)
    have lo1 : 0 ≤ lo / D := Int.ediv_nonneg h3 (by omega)
    have lo2 : lo / D < p := by
      rw [Int.ediv_lt_iff_lt_mul (by omega)]
      omega
    have lo3 : lo * p = lo / D * 18446744073709551616 + lo * p % 18446744073709551616 := by
      have e1 : lo * p / 18446744073709551616 = lo / D := by rw [← hpD, Int.mul_comm lo, Int.mul_ediv_mul_of_pos _ _ hp]
      rw [← e1]
      omega
    rw [Int.emod_eq_of_lt (by omega) y64, Int.emod_eq_of_lt hip0 (by omega)]
    rw [hmask (y * p) (by omega) y64, hmask (lo * p % 18446744073709551616) (by omega) (by omega), hjoin (hi * p) (lo / D) hip0 (Int.mul_emod_left _ _) (by omega) lo1 lo2]
    simp only [if_neg (show ¬ y * p / 4294967296 = 0 by omega)]
    have hq : (hi * 18446744073709551616 + lo) / y = (((hi * p + lo / D) * 4294967296 + lo * p % 18446744073709551616 / 4294967296) * 4294967296 + lo * p % 18446744073709551616 % 4294967296) / (y * p) := by
      have e : ((hi * p + lo / D) * 4294967296 + lo * p % 18446744073709551616 / 4294967296) * 4294967296 + lo * p % 18446744073709551616 % 4294967296 = (hi * 18446744073709551616 + lo) * p := by
        have : hi * 18446744073709551616 * p = hi * p * 18446744073709551616 := by grind
        rw [Int.add_mul (hi * 18446744073709551616) lo p, this]
        generalize lo * p % 18446744073709551616 = m at *
        omega
      rw [e, Int.mul_ediv_mul_of_pos_left _ _ hp]
    rw [hq]
    have d1 : 0 ≤ hi * p + lo / D := by omega
    have d2 : hi * p + lo / D < y * p := by omega
    have d3 : 0 ≤ lo * p % 18446744073709551616 := by omega
    have d4 : lo * p % 18446744073709551616 < 18446744073709551616 := by omega
    generalize hi * p + lo / D = u at *
    generalize lo * p % 18446744073709551616 = w at *
    generalize y * p = Y at *
    have f1 : 0 ≤ u / (Y / 4294967296) := Int.ediv_nonneg d1 (by omega)
    have f2 : u / (Y / 4294967296) ≤ u := Int.ediv_le_self _ d1
    have f3 := Int.mul_ediv_add_emod u (Y / 4294967296)
    have f4 := Int.emod_nonneg u (show Y / 4294967296 ≠ 0 by omega)
    have f5 : 0 ≤ u / (Y / 4294967296) * (Y / 4294967296) := Int.mul_nonneg f1 (by omega)
    rw [Int.mul_comm] at f3
    rw [tdiv_nn d1, u64id (n := u / (Y / 4294967296)) f1 (by omega), u64id (n := u / (Y / 4294967296) * (Y / 4294967296)) f5 (by omega), u64id (n := u - u / (Y / 4294967296) * (Y / 4294967296)) (by omega) (by omega)]
    exact div_main (s : Int) Y (Y / 4294967296) (Y % 4294967296) u (w / 4294967296) (w % 4294967296) (by omega) (by omega) (by omega) (by omega) (by omega) d1 d2 (by omega) (by omega) (by omega) (by omega) (by omega)

theorem within_eq (n a b : Int) : impl_within.f n a b = some (decide (a ≤ n ∧ n ≤ b)) := by
  unfold impl_within.f
  by_cases h : n ≥ a
  · rw [if_pos h]; congr 1; exact decide_eq_decide.2 ⟨fun x => ⟨h, x⟩, fun x => x.2⟩
  · rw [if_neg h, decide_eq_false (fun x => h x.1)]
theorem isAmount_eq (n : Int) : impl_isAmount.f n = some (decide (0 ≤ n ∧ n ≤ 1000000000000000000)) := by unfold impl_isAmount.f; rw [within_eq]; rfl
theorem isSome_eq (n : Int) : impl_isSome.f n = some (decide (1 ≤ n ∧ n ≤ 1000000000000000000)) := by unfold impl_isSome.f; rw [within_eq]; rfl

/-- The program's MulDiv. -/
theorem MulDiv_ev (a b c : Int) (ha : 0 ≤ a) (ha' : a ≤ 1000000000000000000) (hb : 0 ≤ b) (hb' : b ≤ 1000000000000000000) (hc : 1 ≤ c) (hc' : c ≤ 1000000000000000000) :
    Ev (fun k => impl_MulDiv.f k a b c) (if a * b / c ≤ 1000000000000000000 then (a * b / c, 0) else (0, 13)) := by
  unfold impl_MulDiv.f
  simp only [isAmount_eq, isSome_eq, decide_eq_true (show 0 ≤ a ∧ a ≤ 1000000000000000000 from ⟨ha, ha'⟩), decide_eq_true (show 0 ≤ b ∧ b ≤ 1000000000000000000 from ⟨hb, hb'⟩), decide_eq_true (show 1 ≤ c ∧ c ≤ 1000000000000000000 from ⟨hc, hc'⟩), Option.bind_some, if_true, Bool.not_true]
  have hm := mul_bd ha ha' hb hb'
  have hP0 := hm.1
  have hmul : bits_Mul64.f a b = some (a * b / 18446744073709551616, a * b % 18446744073709551616) := by
    unfold bits_Mul64.f
    rw [if_pos ⟨ha, by omega, hb, by omega⟩]
  have hstep : ∀ k, impl_MulDiv.j0 (k + 1) a b c false = (if a * b / 18446744073709551616 ≥ c then some (0, 13) else (bits_Div64.f k (a * b / 18446744073709551616) (a * b % 18446744073709551616) c).bind fun bt198 => if bt198.1 > 1000000000000000000 then some (0, 13) else some (wrap64 bt198.1, 0)) := by
    intro k
    rw [impl_MulDiv.j0, if_neg (by decide), u64id (n := a) (by omega) (by omega), u64id (n := b) (by omega) (by omega), u64id (n := c) (by omega) (by omega), hmul]
    rfl
  refine Ev.step hstep ?_
  have e := Int.mul_ediv_add_emod (a * b) 18446744073709551616
  generalize a * b = P at *
  have hh : 0 ≤ P / 18446744073709551616 := Int.ediv_nonneg hP0 (by decide)
  by_cases hge : P / 18446744073709551616 ≥ c
  · simp only [if_pos hge]
    have : 1000000000000000001 ≤ P / c := by rw [Int.le_ediv_iff_mul_le (by omega)]; omega
    rw [if_neg (by omega)]
    exact Ev.now _
  · simp only [if_neg hge]
    obtain ⟨rem, hrem⟩ := Div64_ev (P / 18446744073709551616) (P % 18446744073709551616) c hh (by omega) (by omega) (by omega) (by omega)
    rw [show P / 18446744073709551616 * 18446744073709551616 + P % 18446744073709551616 = P from by omega] at hrem
    refine Ev.bind hrem ?_
    have hq0 : 0 ≤ P / c := Int.ediv_nonneg hP0 (by omega)
    by_cases hbig : P / c > 1000000000000000000
    · simp only [if_pos hbig, if_neg (show ¬ P / c ≤ 1000000000000000000 by omega)]
      exact Ev.now _
    · simp only [if_neg hbig, if_pos (show P / c ≤ 1000000000000000000 by omega), wid (n := P / c) (by omega) (by omega)]
      exact Ev.now _

end Go.Proofs.Ytppgnndolgmcfaa.U

/- The greatest number whose square is at most a product: as the reference and as the program look for it. -/
namespace Go.Proofs.Ytppgnndolgmcfaa.U
open Go Go.RowKit Go.Proofs.Ytppgnndolgmcfaa.Q Go.Proofs.YtppgnndolgmcfaaW.PrintWords Go.Proofs.YtppgnndolgmcfaaW.PrintLast Go.Proofs.YtppgnndolgmcfaaW.PrintMore
set_option linter.unusedVariables false
set_option linter.unusedSimpArgs false

theorem root_upto (P : Int) (hP : 0 ≤ P) : ∀ M : Nat, ∃ R : Int, 0 ≤ R ∧ R ≤ M ∧ R * R ≤ P ∧ (R = M ∨ P < (R + 1) * (R + 1))
  | 0 => ⟨0, by omega, by omega, by omega, .inl rfl⟩
  | M + 1 => by
    obtain ⟨R, h0, h1, h2, h3⟩ := root_upto P hP M
    rcases h3 with rfl | h3
    · by_cases h : ((M : Int) + 1) * ((M : Int) + 1) ≤ P
      · exact ⟨(M : Int) + 1, by omega, by omega, h, .inl (by omega)⟩
      · exact ⟨M, h0, by omega, h2, .inr (by omega)⟩
    · exact ⟨R, h0, by omega, h2, .inr h3⟩

/-- The root of a product of two amounts. -/
theorem root_of (a b : Int) (ha : 0 ≤ a) (ha' : a ≤ 1000000000000000000) (hb : 0 ≤ b) (hb' : b ≤ 1000000000000000000) :
    ∃ R : Int, 0 ≤ R ∧ R ≤ 1000000000000000000 ∧ R * R ≤ a * b ∧ a * b < (R + 1) * (R + 1) := by
  have m := mul_bd ha ha' hb hb'
  obtain ⟨R, h0, h1, h2, h3⟩ := root_upto (a * b) m.1 1000000000000000000
  refine ⟨R, h0, by omega, h2, ?_⟩
  rcases h3 with h3 | h3
  · have h4 : R = 1000000000000000000 := by omega
    subst h4
    omega
  · exact h3

theorem sq_le {x y : Int} (hx : 0 ≤ x) (h : x ≤ y) : x * x ≤ y * y := Int.mul_le_mul h h hx (by omega)

theorem root_lt {P R m : Int} (h0 : 0 ≤ R) (h2 : R * R ≤ P) (hm : P < m * m) (hm0 : 0 ≤ m) : R < m := by
  refine Int.not_le.1 fun h => ?_
  have := sq_le hm0 h
  omega
theorem root_le {P R m : Int} (h0 : 0 ≤ R) (h3 : P < (R + 1) * (R + 1)) (hm : m * m ≤ P) : m ≤ R := by
  refine Int.not_lt.1 fun h => ?_
  have := sq_le (x := R + 1) (y := m) (by omega) (by omega)
  omega

theorem l02Less_eq (a b c d : Int) (ha : 0 ≤ a) (ha' : a ≤ 1000000000000000000) (hb : 0 ≤ b) (hb' : b ≤ 1000000000000000000) (hc : 0 ≤ c) (hc' : c ≤ 1000000000000000000) (hd : 0 ≤ d) (hd' : d ≤ 1000000000000000000) :
    spec_l02Less.f a b c d = some (decide (a * b < c * d)) := by
  unfold spec_l02Less.f
  rw [l02Wide_eq a b ha ha' hb hb', l02Wide_eq c d hc hc' hd hd']
  simp only [Option.bind_some]
  generalize a * b = P
  generalize c * d = Q
  by_cases h1 : P / 1000000000000000000 < Q / 1000000000000000000
  · rw [if_pos h1, decide_eq_true (by omega)]
  · rw [if_neg h1]
    by_cases h2 : P / 1000000000000000000 = Q / 1000000000000000000
    · rw [if_pos h2]
      congr 1
      exact decide_eq_decide.2 ⟨fun h => by omega, fun h => by omega⟩
    · rw [if_neg h2, decide_eq_false (by omega)]

theorem l02Root_ev (a b R : Int) (ha : 0 ≤ a) (ha' : a ≤ 1000000000000000000) (hb : 0 ≤ b) (hb' : b ≤ 1000000000000000000) (h0 : 0 ≤ R) (h1 : R ≤ 1000000000000000000) (h2 : R * R ≤ a * b) (h3 : a * b < (R + 1) * (R + 1)) :
    Ev (fun k => spec_l02Root.f k a b) R := by
  have key : ∀ (n : Nat) (low high : Int), 0 ≤ low → low ≤ R → R ≤ high → high ≤ 1000000000000000000 → high - low ≤ n → Ev (fun k => spec_l02Root.l0 k a b low high) R := by
    intro n
    induction n with
    | zero =>
      intro low high g0 g1 g2 g3 g4
      obtain rfl : low = R := by omega
      exact Ev.step (fun k => by rw [spec_l02Root.l0, if_neg (by omega)]) (Ev.now _)
    | succ n ih =>
      intro low high g0 g1 g2 g3 g4
      by_cases hlt : low < high
      · have e1 : wrap64 (wrap64 (high - low) + 1) = high - low + 1 := by rw [wid (n := high - low) (by omega) (by omega), wid (by omega) (by omega)]
        have e2 : wrap64 (low + wrap64 (Int.tdiv (high - low + 1) 2)) = low + (high - low + 1) / 2 := by rw [tdiv_nn (by omega), wid (n := (high - low + 1) / 2) (by omega) (by omega), wid (by omega) (by omega)]
        by_cases hm : a * b < (low + (high - low + 1) / 2) * (low + (high - low + 1) / 2)
        · have := root_lt h0 h2 hm (by omega)
          refine Ev.step (fun k => ?_) (ih low (low + (high - low + 1) / 2 - 1) g0 g1 (by omega) (by omega) (by omega))
          rw [spec_l02Root.l0, if_pos hlt, e1, e2, l02Less_eq a b _ _ ha ha' hb hb' (by omega) (by omega) (by omega) (by omega), decide_eq_true hm]
          simp only [Option.bind_some, if_true]
          rw [wid (n := low + (high - low + 1) / 2 - 1) (by omega) (by omega)]
        · have := root_le (m := low + (high - low + 1) / 2) h0 h3 (by omega)
          refine Ev.step (fun k => ?_) (ih (low + (high - low + 1) / 2) high (by omega) this g2 g3 (by omega))
          rw [spec_l02Root.l0, if_pos hlt, e1, e2, l02Less_eq a b _ _ ha ha' hb hb' (by omega) (by omega) (by omega) (by omega), decide_eq_false hm]
          rfl
      · obtain rfl : low = R := by omega
        exact Ev.step (fun k => by rw [spec_l02Root.l0, if_neg hlt]) (Ev.now _)
  exact key 1000000000000000000 0 1000000000000000000 (by omega) h0 h1 (by omega) (by omega)

theorem RootOf_ev (a b R : Int) (ha : 0 ≤ a) (ha' : a ≤ 1000000000000000000) (hb : 0 ≤ b) (hb' : b ≤ 1000000000000000000) (h0 : 0 ≤ R) (h1 : R ≤ 1000000000000000000) (h2 : R * R ≤ a * b) (h3 : a * b < (R + 1) * (R + 1)) :
    Ev (fun k => impl_RootOf.f k a b) (R, 0) := by
  have mulw : ∀ x y : Int, 0 ≤ x → x ≤ 1000000000000000000 → 0 ≤ y → y ≤ 1000000000000000000 → bits_Mul64.f (IntKind.u64.wrap x) (IntKind.u64.wrap y) = some (x * y / 18446744073709551616, x * y % 18446744073709551616) := by
    intro x y hx hx' hy hy'
    rw [u64id hx (by omega), u64id hy (by omega)]
    unfold bits_Mul64.f
    rw [if_pos ⟨hx, by omega, hy, by omega⟩]
  have key : ∀ (n : Nat) (low high : Int), 0 ≤ low → low ≤ R → R ≤ high → high ≤ 1000000000000000000 → high - low ≤ n → Ev (fun k => impl_RootOf.l0 k (a * b / 18446744073709551616) (a * b % 18446744073709551616) low high) (R, 0) := by
    intro n
    induction n with
    | zero =>
      intro low high g0 g1 g2 g3 g4
      obtain rfl : low = R := by omega
      exact Ev.step (fun k => by rw [impl_RootOf.l0, if_neg (by omega)]) (Ev.now _)
    | succ n ih =>
      intro low high g0 g1 g2 g3 g4
      by_cases hlt : low < high
      · have e1 : wrap64 (wrap64 (high - low) + 1) = high - low + 1 := by rw [wid (n := high - low) (by omega) (by omega), wid (by omega) (by omega)]
        have e2 : wrap64 (low + wrap64 (Int.tdiv (high - low + 1) 2)) = low + (high - low + 1) / 2 := by rw [tdiv_nn (by omega), wid (n := (high - low + 1) / 2) (by omega) (by omega), wid (by omega) (by omega)]
        have em := mulw (low + (high - low + 1) / 2) (low + (high - low + 1) / 2) (by omega) (by omega) (by omega) (by omega)
        by_cases hm : a * b < (low + (high - low + 1) / 2) * (low + (high - low + 1) / 2)
        · have := root_lt h0 h2 hm (by omega)
          refine Ev.step (fun k => ?_) (ih low (low + (high - low + 1) / 2 - 1) g0 g1 (by omega) (by omega) (by omega))
          rw [impl_RootOf.l0, if_pos hlt, e1, e2, em]
          simp only [Option.bind_some]
          rw [wid (n := low + (high - low + 1) / 2 - 1) (by omega) (by omega)]
          generalize (low + (high - low + 1) / 2) * (low + (high - low + 1) / 2) = S at *
          rw [if_neg (by omega)]
          by_cases h5 : S / 18446744073709551616 = a * b / 18446744073709551616
          · rw [if_pos h5, if_neg (by omega)]
          · rw [if_neg h5]
        · have := root_le (m := low + (high - low + 1) / 2) h0 h3 (by omega)
          refine Ev.step (fun k => ?_) (ih (low + (high - low + 1) / 2) high (by omega) this g2 g3 (by omega))
          rw [impl_RootOf.l0, if_pos hlt, e1, e2, em]
          simp only [Option.bind_some]
          generalize (low + (high - low + 1) / 2) * (low + (high - low + 1) / 2) = S at *
          by_cases h4 : S / 18446744073709551616 < a * b / 18446744073709551616
          · rw [if_pos h4]
          · rw [if_neg h4, if_pos (by omega), if_pos (by omega)]
      · obtain rfl : low = R := by omega
        exact Ev.step (fun k => by rw [impl_RootOf.l0, if_neg hlt]) (Ev.now _)
  unfold impl_RootOf.f
  simp only [isAmount_eq, decide_eq_true (show 0 ≤ a ∧ a ≤ 1000000000000000000 from ⟨ha, ha'⟩), decide_eq_true (show 0 ≤ b ∧ b ≤ 1000000000000000000 from ⟨hb, hb'⟩), Option.bind_some, if_true, Bool.not_true]
  refine Ev.step (fun k => ?_) (key 1000000000000000000 0 1000000000000000000 (by omega) h0 h1 (by omega) (by omega))
  rw [impl_RootOf.j0, if_neg (by decide), mulw a b ha ha' hb hb']
  rfl

end Go.Proofs.Ytppgnndolgmcfaa.U

namespace Go.Proofs.Ytppgnndolgmcfaa.Q
open Go.RowKit Go.Proofs.YtppgnndolgmcfaaW.PrintWords Go.Proofs.YtppgnndolgmcfaaW.PrintLast Go.Proofs.YtppgnndolgmcfaaW.PrintMore
attribute [local go_sem] max2_int min2_int max_two min_two max_three min_three max_four min_four   -- for this text's walks alone
set_option linter.unusedVariables false
set_option linter.unusedSimpArgs false

/-! ### spec_l00Letter: function 76 -/
def spec_l00Letter.f (a0 : Int) : Option (Bool) := if a0 ≥ 97 then (if a0 ≤ 122 then (some true) else (if a0 ≥ 65 then (if a0 ≤ 90 then (some true) else (some (a0 == 95))) else (some (a0 == 95)))) else (if a0 ≥ 65 then (if a0 ≤ 90 then (some true) else (some (a0 == 95))) else (some (a0 == 95)))
set_option maxHeartbeats 8000000 in
set_option maxRecDepth 100000 in
theorem spec_l00Letter.calls (a0 : Int) (r : Bool) (w : World) (h : spec_l00Letter.f a0 = some r) :
    Calls Try.prog 76 #[.int .u8 a0] w fun e w' => e = .returned (.bool r) ∧ Drawn0 w w' := by
  have H : (if a0 ≥ 97 then (if a0 ≤ 122 then (some true) else (if a0 ≥ 65 then (if a0 ≤ 90 then (some true) else (some (a0 == 95))) else (some (a0 == 95)))) else (if a0 ≥ 65 then (if a0 ≤ 90 then (some true) else (some (a0 == 95))) else (some (a0 == 95)))) = some r := h
  clear h
  by_cases c2 : a0 ≥ 97
  · rw [if_pos c2] at H
    have c2b0 : decide (97 ≤ a0) = true := decide_eq_true c2
    clear c2
    by_cases c3 : a0 ≤ 122
    · rw [if_pos c3] at H
      have c3b0 : decide (a0 ≤ 122) = true := decide_eq_true c3
      clear c3
      obtain rfl := Option.some.inj H
      go_enter Try.func76, Try.ntmps76
      go_wp2
      go_ret
      exact ⟨by first | rfl | (simp; done) | (simp [*]; done), by repeat (first | exact Drawn0.refl _ | apply Drawn0.step)⟩
    · rw [if_neg c3] at H
      have c3b0 : decide (a0 ≤ 122) = false := decide_eq_false c3
      clear c3
      by_cases c4 : a0 ≥ 65
      · rw [if_pos c4] at H
        have c4b0 : decide (65 ≤ a0) = true := decide_eq_true c4
        clear c4
        by_cases c5 : a0 ≤ 90
        · rw [if_pos c5] at H
          have c5b0 : decide (a0 ≤ 90) = true := decide_eq_true c5
          clear c5
          obtain rfl := Option.some.inj H
          go_enter Try.func76, Try.ntmps76
          go_wp2
          go_ret
          exact ⟨by first | rfl | (simp; done) | (simp [*]; done), by repeat (first | exact Drawn0.refl _ | apply Drawn0.step)⟩
        · rw [if_neg c5] at H
          have c5b0 : decide (a0 ≤ 90) = false := decide_eq_false c5
          clear c5
          obtain rfl := Option.some.inj H
          go_enter Try.func76, Try.ntmps76
          go_wp2
          go_ret
          exact ⟨by first | rfl | (simp; done) | (simp [*]; done), by repeat (first | exact Drawn0.refl _ | apply Drawn0.step)⟩
      · rw [if_neg c4] at H
        have c4b0 : decide (65 ≤ a0) = false := decide_eq_false c4
        clear c4
        obtain rfl := Option.some.inj H
        go_enter Try.func76, Try.ntmps76
        go_wp2
        go_ret
        exact ⟨by first | rfl | (simp; done) | (simp [*]; done), by repeat (first | exact Drawn0.refl _ | apply Drawn0.step)⟩
  · rw [if_neg c2] at H
    have c2b0 : decide (97 ≤ a0) = false := decide_eq_false c2
    clear c2
    by_cases c6 : a0 ≥ 65
    · rw [if_pos c6] at H
      have c6b0 : decide (65 ≤ a0) = true := decide_eq_true c6
      clear c6
      by_cases c7 : a0 ≤ 90
      · rw [if_pos c7] at H
        have c7b0 : decide (a0 ≤ 90) = true := decide_eq_true c7
        clear c7
        obtain rfl := Option.some.inj H
        go_enter Try.func76, Try.ntmps76
        go_wp2
        go_ret
        exact ⟨by first | rfl | (simp; done) | (simp [*]; done), by repeat (first | exact Drawn0.refl _ | apply Drawn0.step)⟩
      · rw [if_neg c7] at H
        have c7b0 : decide (a0 ≤ 90) = false := decide_eq_false c7
        clear c7
        obtain rfl := Option.some.inj H
        go_enter Try.func76, Try.ntmps76
        go_wp2
        go_ret
        exact ⟨by first | rfl | (simp; done) | (simp [*]; done), by repeat (first | exact Drawn0.refl _ | apply Drawn0.step)⟩
    · rw [if_neg c6] at H
      have c6b0 : decide (65 ≤ a0) = false := decide_eq_false c6
      clear c6
      obtain rfl := Option.some.inj H
      go_enter Try.func76, Try.ntmps76
      go_wp2
      go_ret
      exact ⟨by first | rfl | (simp; done) | (simp [*]; done), by repeat (first | exact Drawn0.refl _ | apply Drawn0.step)⟩

end Go.Proofs.Ytppgnndolgmcfaa.Q

namespace Go.Proofs.Ytppgnndolgmcfaa.Q
open Go.RowKit Go.Proofs.YtppgnndolgmcfaaW.PrintWords Go.Proofs.YtppgnndolgmcfaaW.PrintLast Go.Proofs.YtppgnndolgmcfaaW.PrintMore
attribute [local go_sem] max2_int min2_int max_two min_two max_three min_three max_four min_four   -- for this text's walks alone
set_option linter.unusedVariables false
set_option linter.unusedSimpArgs false

/-! ### spec_l00Digit: function 77 -/
def spec_l00Digit.f (a0 : Int) : Option (Bool) := if a0 ≥ 48 then (some (decide (a0 ≤ 57))) else (some false)
set_option maxHeartbeats 8000000 in
set_option maxRecDepth 100000 in
theorem spec_l00Digit.calls (a0 : Int) (r : Bool) (w : World) (h : spec_l00Digit.f a0 = some r) :
    Calls Try.prog 77 #[.int .u8 a0] w fun e w' => e = .returned (.bool r) ∧ Drawn0 w w' := by
  have H : (if a0 ≥ 48 then (some (decide (a0 ≤ 57))) else (some false)) = some r := h
  clear h
  by_cases c2 : a0 ≥ 48
  · rw [if_pos c2] at H
    have c2b0 : decide (48 ≤ a0) = true := decide_eq_true c2
    clear c2
    obtain rfl := Option.some.inj H
    go_enter Try.func77, Try.ntmps77
    go_wp2
    go_ret
    exact ⟨by first | rfl | (simp; done) | (simp [*]; done), by repeat (first | exact Drawn0.refl _ | apply Drawn0.step)⟩
  · rw [if_neg c2] at H
    have c2b0 : decide (48 ≤ a0) = false := decide_eq_false c2
    clear c2
    obtain rfl := Option.some.inj H
    go_enter Try.func77, Try.ntmps77
    go_wp2
    go_ret
    exact ⟨by first | rfl | (simp; done) | (simp [*]; done), by repeat (first | exact Drawn0.refl _ | apply Drawn0.step)⟩

end Go.Proofs.Ytppgnndolgmcfaa.Q

namespace Go.Proofs.Ytppgnndolgmcfaa.Q
open Go.RowKit Go.Proofs.YtppgnndolgmcfaaW.PrintWords Go.Proofs.YtppgnndolgmcfaaW.PrintLast Go.Proofs.YtppgnndolgmcfaaW.PrintMore
attribute [local go_sem] max2_int min2_int max_two min_two max_three min_three max_four min_four   -- for this text's walks alone
set_option linter.unusedVariables false
set_option linter.unusedSimpArgs false

/-! ### spec_l00Word: function 69 -/
mutual
def spec_l00Word.j0 : Nat → ByteArray → Bool → Option (Bool)
  | 0, _, _ => none
  | k + 1, x0, x17 => if x17 = true then (some false) else (spec_l00Word.l0 k x0 1)
def spec_l00Word.l0 : Nat → ByteArray → Int → Option (Bool)
  | 0, _, _ => none
  | k + 1, x0, x3 => if x3 < (x0.size : Int) then (if 0 ≤ x3 then ((spec_l00Letter.f (bt x0 x3)).bind fun t134 => (if t134 = true then (spec_l00Word.l0 k x0 (wrap64 (x3 + 1))) else ((spec_l00Digit.f (bt x0 x3)).bind fun t135 => (if t135 = true then (spec_l00Word.l0 k x0 (wrap64 (x3 + 1))) else (some false))))) else (none)) else (some true)
end
def spec_l00Word.f (k : Nat) (a0 : ByteArray) : Option (Bool) := if (a0.size : Int) < 1 then (spec_l00Word.j0 k a0 true) else (if (a0.size : Int) > 40 then (spec_l00Word.j0 k a0 true) else (if 0 < (a0.size : Int) then ((spec_l00Letter.f (bt a0 0)).bind fun t133 => (spec_l00Word.j0 k a0 (!t133))) else (none)))
theorem spec_l00Word.mono_l : ∀ k, (∀ y0 y1, LeO (spec_l00Word.j0 k y0 y1) (spec_l00Word.j0 (k + 1) y0 y1)) ∧ (∀ y0 y1, LeO (spec_l00Word.l0 k y0 y1) (spec_l00Word.l0 (k + 1) y0 y1))
  | 0 => ⟨fun _ _ r h => by simp [spec_l00Word.j0] at h, fun _ _ r h => by simp [spec_l00Word.l0] at h⟩
  | k + 1 => by
    obtain ⟨ih0, ih1⟩ := spec_l00Word.mono_l k
    refine ⟨?_, ?_⟩
    · intro y0 y1
      unfold spec_l00Word.j0
      repeat' first
      | (with_reducible exact ih0 _ _)
      | (with_reducible exact ih1 _ _)
      | (with_reducible exact LeO.refl _)
      | (with_reducible exact LeO.none _)
      | (with_reducible refine LeO.ite ?_ ?_)
      | (with_reducible refine LeO.bind ?_ (fun _ => ?_))
      | exact ih0 _ _
      | exact ih1 _ _
      | exact LeO.none _
      | refine LeO.ite ?_ ?_
      | refine LeO.bind ?_ (fun _ => ?_)
    · intro y0 y1
      unfold spec_l00Word.l0
      repeat' first
      | (with_reducible exact ih0 _ _)
      | (with_reducible exact ih1 _ _)
      | (with_reducible exact LeO.refl _)
      | (with_reducible exact LeO.none _)
      | (with_reducible refine LeO.ite ?_ ?_)
      | (with_reducible refine LeO.bind ?_ (fun _ => ?_))
      | exact ih0 _ _
      | exact ih1 _ _
      | exact LeO.none _
      | refine LeO.ite ?_ ?_
      | refine LeO.bind ?_ (fun _ => ?_)
theorem spec_l00Word.mono : ∀ a0 k, LeO (spec_l00Word.f k a0) (spec_l00Word.f (k + 1) a0) := by
  intro a0 k
  obtain ⟨ih0, ih1⟩ := spec_l00Word.mono_l k
  unfold spec_l00Word.f
  repeat' first
      | (with_reducible exact ih0 _ _)
      | (with_reducible exact ih1 _ _)
      | (with_reducible exact LeO.refl _)
      | (with_reducible exact LeO.none _)
      | (with_reducible refine LeO.ite ?_ ?_)
      | (with_reducible refine LeO.bind ?_ (fun _ => ?_))
      | exact ih0 _ _
      | exact ih1 _ _
      | exact LeO.none _
      | refine LeO.ite ?_ ?_
      | refine LeO.bind ?_ (fun _ => ?_)
set_option maxHeartbeats 8000000 in
set_option maxRecDepth 100000 in
theorem spec_l00Word.calls (k : Nat) (a0 : ByteArray) (r : Bool) (w : World) (h : spec_l00Word.f k a0 = some r) :
    Calls Try.prog 69 #[.string a0] w fun e w' => e = .returned (.bool r) ∧ Drawn0 w w' := by
  have H : (if (a0.size : Int) < 1 then (spec_l00Word.j0 k a0 true) else (if (a0.size : Int) > 40 then (spec_l00Word.j0 k a0 true) else (if 0 < (a0.size : Int) then ((spec_l00Letter.f (bt a0 0)).bind fun t133 => (spec_l00Word.j0 k a0 (!t133))) else (none)))) = some r := h
  clear h
  have HC2 := Aside0.mk H
  clear H
  go_enter Try.func69, Try.ntmps69
  go_upto_region 1 with (fail)
  go_cut [17] (fun v17 wc => ∃ (kq : Nat) (x17_1 : Bool), v17 = .bool x17_1 ∧ Aside0 (spec_l00Word.j0 kq a0 x17_1 = some r) ∧ Aside0 (kq ≤ k) ∧ Drawn0 w wc)
  case first =>
    have H := HC2.out
    clear HC2
    by_cases c3 : (a0.size : Int) < 1
    · rw [if_pos c3] at H
      have c3b0 : decide ((a0.size : Int) < 1) = true := decide_eq_true c3
      have c3b1 : decide (a0.size < 1) = true := decide_eq_true (by omega)
      clear c3
      (first | rw [c3b0] | (simp only [i64_w, i32_w]; rw [c3b0]) | skip)
      have H' := Aside0.mk H
      clear H
      go_wp2
      go_meet
      case rel => exact ⟨_, (true), (by first | rfl | (simp; done) | (simp [*]; done)), H', ⟨by first | omega | exact Nat.le_refl _⟩, by repeat (first | exact Drawn0.refl _ | apply Drawn0.step)⟩
    · rw [if_neg c3] at H
      have c3b0 : decide ((a0.size : Int) < 1) = false := decide_eq_false c3
      have c3b1 : decide (a0.size < 1) = false := decide_eq_false (by omega)
      clear c3
      (first | rw [c3b0] | (simp only [i64_w, i32_w]; rw [c3b0]) | skip)
      by_cases c4 : (a0.size : Int) > 40
      · rw [if_pos c4] at H
        have c4b0 : decide (40 < (a0.size : Int)) = true := decide_eq_true c4
        have c4b1 : decide (40 < a0.size) = true := decide_eq_true (by omega)
        clear c4
        have H' := Aside0.mk H
        clear H
        go_wp2
        go_meet
        case rel => exact ⟨_, (true), (by first | rfl | (simp; done) | (simp [*]; done)), H', ⟨by first | omega | exact Nat.le_refl _⟩, by repeat (first | exact Drawn0.refl _ | apply Drawn0.step)⟩
      · rw [if_neg c4] at H
        have c4b0 : decide (40 < (a0.size : Int)) = false := decide_eq_false c4
        have c4b1 : decide (40 < a0.size) = false := decide_eq_false (by omega)
        clear c4
        by_cases c5 : 0 < (a0.size : Int)
        · rw [if_pos c5] at H
          have c5b0 : decide (0 < (a0.size : Int)) = true := decide_eq_true c5
          have c5b1 : decide (0 < a0.size) = true := decide_eq_true (by omega)
          clear c5
          replace H := Option.bind_eq_some_iff.mp H
          obtain ⟨t133, A70, H⟩ := H
          replace H : (spec_l00Word.j0 k a0 (!t133)) = some r := H
          have A7 := Aside0.mk A70
          clear A70
          have H' := Aside0.mk H
          clear H
          have p6 : 0 ≤ (0 : Int) := (by omega)
          have q6 : 0 < a0.size := (by have : (0 : Int) < (a0.size : Int) := of_decide_eq_true (by first | (with_reducible assumption) | assumption); omega)
          have hx6 : ∀ h : 0 < a0.size, ((a0[0]'h).toNat : Int) = bt a0 0 := bt_at a0 0
          clear p6
          have qi6 : (0 < (a0.size : Int)) = True := eq_true (of_decide_eq_true (by first | (with_reducible assumption) | assumption))
          replace q6 := eq_true q6
          go_wp2_with (first | (go_at_call 76; (with_reducible refine (spec_l00Letter.calls (bt a0 0) t133 _ A7.out).mono ?_); rintro e w' ⟨rfl, ⟨nd, rfl⟩⟩))
          go_meet
          case rel => exact ⟨_, (!t133), (by first | rfl | (simp; done) | (simp [*]; done)), H', ⟨by first | omega | exact Nat.le_refl _⟩, by repeat (first | exact Drawn0.refl _ | apply Drawn0.step)⟩
        · rw [if_neg c5] at H
          exact absurd H (by simp)
  case rest =>
    clear HC2
    try clear p2
    try clear c3
    try clear c3b0
    try clear c3b1
    try clear c4
    try clear c4b0
    try clear c4b1
    try clear c5
    try clear c5b0
    try clear c5b1
    try clear c6
    try clear p6
    try clear q6
    try clear hx6
    try clear qi6
    try clear p6
    try clear q6
    obtain ⟨kq, x17_1, rfl, HA, HJ1, ⟨mc1, rfl⟩⟩ := hcut
    cases kq with
    | zero => exact absurd HA.out (by simp [spec_l00Word.j0])
    | succ kj1 =>
      have H := HA.out
      clear HA
      simp only [spec_l00Word.j0] at H
      by_cases c8 : x17_1 = true
      · subst c8
        have H1 : (some false) = some r := by rw [if_pos rfl] at H; exact H
        clear H
        have H := H1
        clear H1
        obtain rfl := Option.some.inj H
        go_wp2
        go_ret
        exact ⟨by first | rfl | (simp; done) | (simp [*]; done), by repeat (first | exact Drawn0.refl _ | apply Drawn0.step)⟩
      · replace c8 := Bool.eq_false_iff.mpr c8
        subst c8
        have H1 : (spec_l00Word.l0 kj1 a0 1) = some r := by rw [if_neg (show ¬ (false = true) by decide)] at H; exact H
        clear H
        have H := H1
        clear H1
        have H' := Aside0.mk H
        clear H
        go_wp2
        go_loopg [3] kj1 (fun kq v3 w' => ∃ (x3_2 : Int), v3 = .int .i64 x3_2 ∧ Aside0 (spec_l00Word.l0 kq a0 x3_2 = some r) ∧ Aside0 (kq ≤ kj1) ∧ Drawn0 w w')
        case atStart => exact ⟨(1), (by first | rfl | (simp; done) | (simp [*]; done)), H', ⟨Nat.le_refl _⟩, by repeat (first | exact Drawn0.refl _ | apply Drawn0.step)⟩
        case round =>
          clear H'
          try clear c1
          try clear p2
          try clear c3
          try clear c3b0
          try clear c3b1
          try clear c4
          try clear c4b0
          try clear c4b1
          try clear c5
          try clear c5b0
          try clear c5b1
          try clear c6
          try clear p6
          try clear q6
          try clear hx6
          try clear qi6
          try clear c8
          try clear p2
          try clear p6
          try clear q6
          obtain ⟨x3_2, rfl, HA, HK2, ⟨m2, rfl⟩⟩ := hrel
          cases gk with
          | zero => exact absurd HA.out (by simp [spec_l00Word.l0])
          | succ k2 =>
            have H := HA.out
            clear HA
            simp only [spec_l00Word.l0] at H
            by_cases c9 : x3_2 < (a0.size : Int)
            · rw [if_pos c9] at H
              have c9b0 : decide (x3_2 < (a0.size : Int)) = true := decide_eq_true c9
              clear c9
              by_cases c10 : 0 ≤ x3_2
              · rw [if_pos c10] at H
                have c10b0 : decide (0 ≤ x3_2) = true := decide_eq_true c10
                clear c10
                replace H := Option.bind_eq_some_iff.mp H
                obtain ⟨t134, A120, H⟩ := H
                replace H : (if t134 = true then (spec_l00Word.l0 k2 a0 (wrap64 (x3_2 + 1))) else ((spec_l00Digit.f (bt a0 x3_2)).bind fun t135 => (if t135 = true then (spec_l00Word.l0 k2 a0 (wrap64 (x3_2 + 1))) else (some false)))) = some r := H
                have A12 := Aside0.mk A120
                clear A120
                by_cases c13 : t134 = true
                · subst c13
                  have H1 : (spec_l00Word.l0 k2 a0 (wrap64 (x3_2 + 1))) = some r := by rw [if_pos rfl] at H; exact H
                  clear H
                  have H := H1
                  clear H1
                  have H' := Aside0.mk H
                  clear H
                  have p11 : 0 ≤ (x3_2 : Int) := of_decide_eq_true (by first | (with_reducible assumption) | assumption)
                  have q11 : x3_2 < (a0.size : Int) := of_decide_eq_true (by first | (with_reducible assumption) | assumption)
                  have hx11 := bt_at a0 x3_2
                  replace p11 := eq_true p11
                  replace q11 := eq_true q11
                  go_wp2_with (first | ((with_reducible refine gate_callee (f := 76) rfl ?_); refine goesL_ (some 27) rfl rfl Try.func76 (by kernel_rfl) rfl #[.int .u8 (bt a0 x3_2)] rfl (by (try simp only [List.map_toArray, List.map_cons, List.map_nil]); first | done | rfl | (simp only [List.length_drop, List.length_take]; rfl)) ?_; (with_reducible refine (spec_l00Letter.calls (bt a0 x3_2) true _ A12.out).mono ?_); rintro e w' ⟨rfl, ⟨nd, rfl⟩⟩; refine ⟨_, rfl, ?_⟩))
                  go_roundg k2
                  case measure => have := HJ1.out; have := HK2.out; omega
                  case rel => exact ⟨(wrap64 (x3_2 + 1)), (by first | rfl | (simp; done) | (simp [*]; done)), H', ⟨by have := HJ1.out; have := HK2.out; omega⟩, by repeat (first | exact Drawn0.refl _ | apply Drawn0.step)⟩
                · replace c13 := Bool.eq_false_iff.mpr c13
                  subst c13
                  have H1 : ((spec_l00Digit.f (bt a0 x3_2)).bind fun t135 => (if t135 = true then (spec_l00Word.l0 k2 a0 (wrap64 (x3_2 + 1))) else (some false))) = some r := by rw [if_neg (show ¬ (false = true) by decide)] at H; exact H
                  clear H
                  have H := H1
                  clear H1
                  replace H := Option.bind_eq_some_iff.mp H
                  obtain ⟨t135, A150, H⟩ := H
                  replace H : (if t135 = true then (spec_l00Word.l0 k2 a0 (wrap64 (x3_2 + 1))) else (some false)) = some r := H
                  have A15 := Aside0.mk A150
                  clear A150
                  by_cases c16 : t135 = true
                  · subst c16
                    have H1 : (spec_l00Word.l0 k2 a0 (wrap64 (x3_2 + 1))) = some r := by rw [if_pos rfl] at H; exact H
                    clear H
                    have H := H1
                    clear H1
                    have H' := Aside0.mk H
                    clear H
                    have p11 : 0 ≤ (x3_2 : Int) := of_decide_eq_true (by first | (with_reducible assumption) | assumption)
                    have q11 : x3_2 < (a0.size : Int) := of_decide_eq_true (by first | (with_reducible assumption) | assumption)
                    have hx11 := bt_at a0 x3_2
                    replace p11 := eq_true p11
                    replace q11 := eq_true q11
                    go_wp2_with (first | ((with_reducible refine gate_callee (f := 76) rfl ?_); refine goesL_ (some 27) rfl rfl Try.func76 (by kernel_rfl) rfl #[.int .u8 (bt a0 x3_2)] rfl (by (try simp only [List.map_toArray, List.map_cons, List.map_nil]); first | done | rfl | (simp only [List.length_drop, List.length_take]; rfl)) ?_; (with_reducible refine (spec_l00Letter.calls (bt a0 x3_2) false _ A12.out).mono ?_); rintro e w' ⟨rfl, ⟨nd, rfl⟩⟩; refine ⟨_, rfl, ?_⟩; have p14 : 0 ≤ (x3_2 : Int) := of_decide_eq_true (by first | (with_reducible assumption) | assumption); have q14 : x3_2 < (a0.size : Int) := of_decide_eq_true (by first | (with_reducible assumption) | assumption); have hx14 := bt_at a0 x3_2; replace p14 := eq_true p14; replace q14 := eq_true q14) | (go_at_call 77; (with_reducible refine (spec_l00Digit.calls (bt a0 x3_2) true _ A15.out).mono ?_); rintro e w' ⟨rfl, ⟨nd, rfl⟩⟩))
                    go_roundg k2
                    case measure => have := HJ1.out; have := HK2.out; omega
                    case rel => exact ⟨(wrap64 (x3_2 + 1)), (by first | rfl | (simp; done) | (simp [*]; done)), H', ⟨by have := HJ1.out; have := HK2.out; omega⟩, by repeat (first | exact Drawn0.refl _ | apply Drawn0.step)⟩
                  · replace c16 := Bool.eq_false_iff.mpr c16
                    subst c16
                    have H1 : (some false) = some r := by rw [if_neg (show ¬ (false = true) by decide)] at H; exact H
                    clear H
                    have H := H1
                    clear H1
                    obtain rfl := Option.some.inj H
                    have p11 : 0 ≤ (x3_2 : Int) := of_decide_eq_true (by first | (with_reducible assumption) | assumption)
                    have q11 : x3_2 < (a0.size : Int) := of_decide_eq_true (by first | (with_reducible assumption) | assumption)
                    have hx11 := bt_at a0 x3_2
                    replace p11 := eq_true p11
                    replace q11 := eq_true q11
                    go_wp2_with (first | ((with_reducible refine gate_callee (f := 76) rfl ?_); refine goesL_ (some 27) rfl rfl Try.func76 (by kernel_rfl) rfl #[.int .u8 (bt a0 x3_2)] rfl (by (try simp only [List.map_toArray, List.map_cons, List.map_nil]); first | done | rfl | (simp only [List.length_drop, List.length_take]; rfl)) ?_; (with_reducible refine (spec_l00Letter.calls (bt a0 x3_2) false _ A12.out).mono ?_); rintro e w' ⟨rfl, ⟨nd, rfl⟩⟩; refine ⟨_, rfl, ?_⟩; have p14 : 0 ≤ (x3_2 : Int) := of_decide_eq_true (by first | (with_reducible assumption) | assumption); have q14 : x3_2 < (a0.size : Int) := of_decide_eq_true (by first | (with_reducible assumption) | assumption); have hx14 := bt_at a0 x3_2; replace p14 := eq_true p14; replace q14 := eq_true q14) | (go_at_call 77; (with_reducible refine (spec_l00Digit.calls (bt a0 x3_2) false _ A15.out).mono ?_); rintro e w' ⟨rfl, ⟨nd, rfl⟩⟩))
                    go_ret
                    exact ⟨by first | rfl | (simp; done) | (simp [*]; done), by repeat (first | exact Drawn0.refl _ | apply Drawn0.step)⟩
              · rw [if_neg c10] at H
                exact absurd H (by simp)
            · rw [if_neg c9] at H
              have c9b0 : decide (x3_2 < (a0.size : Int)) = false := decide_eq_false c9
              clear c9
              obtain rfl := Option.some.inj H
              go_wp2
              go_ret
              exact ⟨by first | rfl | (simp; done) | (simp [*]; done), by repeat (first | exact Drawn0.refl _ | apply Drawn0.step)⟩

end Go.Proofs.Ytppgnndolgmcfaa.Q

namespace Go.Proofs.Ytppgnndolgmcfaa.Q
open Go.RowKit Go.Proofs.YtppgnndolgmcfaaW.PrintWords Go.Proofs.YtppgnndolgmcfaaW.PrintLast Go.Proofs.YtppgnndolgmcfaaW.PrintMore
attribute [local go_sem] max2_int min2_int max_two min_two max_three min_three max_four min_four   -- for this text's walks alone
set_option linter.unusedVariables false
set_option linter.unusedSimpArgs false

/-! ### spec_NameOK: function 54 -/
def spec_NameOK.f (k : Nat) (a0 : ByteArray) : Option (Bool) := (spec_l00Word.f k a0).bind fun t136 => (some t136)
theorem spec_NameOK.mono : ∀ a0 k, LeO (spec_NameOK.f k a0) (spec_NameOK.f (k + 1) a0) := by
  intro a0 k
  unfold spec_NameOK.f
  repeat' first
      | (with_reducible exact spec_l00Word.mono _ _)
      | (with_reducible exact LeO.refl _)
      | (with_reducible exact LeO.none _)
      | (with_reducible refine LeO.ite ?_ ?_)
      | (with_reducible refine LeO.bind ?_ (fun _ => ?_))
      | exact spec_l00Word.mono _ _
      | exact LeO.none _
      | refine LeO.ite ?_ ?_
      | refine LeO.bind ?_ (fun _ => ?_)
set_option maxHeartbeats 8000000 in
set_option maxRecDepth 100000 in
theorem spec_NameOK.calls (k : Nat) (a0 : ByteArray) (r : Bool) (w : World) (h : spec_NameOK.f k a0 = some r) :
    Calls Try.prog 54 #[.string a0] w fun e w' => e = .returned (.bool r) ∧ Drawn0 w w' := by
  have H : ((spec_l00Word.f k a0).bind fun t136 => (some t136)) = some r := h
  clear h
  replace H := Option.bind_eq_some_iff.mp H
  obtain ⟨t136, A20, H⟩ := H
  replace H : (some t136) = some r := H
  have A2 := Aside0.mk A20
  clear A20
  obtain rfl := Option.some.inj H
  go_enter Try.func54, Try.ntmps54
  go_wp2_with (first | ((with_reducible refine gate_callee (f := 69) rfl ?_); refine goesL_ (some 4) rfl rfl Try.func69 (by kernel_rfl) rfl #[.string a0] rfl (by (try simp only [List.map_toArray, List.map_cons, List.map_nil]); first | done | rfl | (simp only [List.length_drop, List.length_take]; rfl)) ?_; (with_reducible refine (spec_l00Word.calls k a0 t136 _ A2.out).mono ?_); rintro e w' ⟨rfl, ⟨nd, rfl⟩⟩; refine ⟨_, rfl, ?_⟩))
  go_ret
  exact ⟨by first | rfl | (simp; done) | (simp [*]; done), by repeat (first | exact Drawn0.refl _ | apply Drawn0.step)⟩

end Go.Proofs.Ytppgnndolgmcfaa.Q

namespace Go.Proofs.Ytppgnndolgmcfaa.Q
open Go.RowKit Go.Proofs.YtppgnndolgmcfaaW.PrintWords Go.Proofs.YtppgnndolgmcfaaW.PrintLast Go.Proofs.YtppgnndolgmcfaaW.PrintMore
attribute [local go_sem] max2_int min2_int max_two min_two max_three min_three max_four min_four   -- for this text's walks alone
set_option linter.unusedVariables false
set_option linter.unusedSimpArgs false

/-! ### spec_l05Name: function 38 -/
def spec_l05Name.f (k : Nat) (a0 : ByteArray) : Option (Bool) := if (a0.size : Int) ≤ 12 then ((spec_NameOK.f k a0).bind fun t137 => (some t137)) else (some false)
theorem spec_l05Name.mono : ∀ a0 k, LeO (spec_l05Name.f k a0) (spec_l05Name.f (k + 1) a0) := by
  intro a0 k
  unfold spec_l05Name.f
  repeat' first
      | (with_reducible exact spec_NameOK.mono _ _)
      | (with_reducible exact LeO.refl _)
      | (with_reducible exact LeO.none _)
      | (with_reducible refine LeO.ite ?_ ?_)
      | (with_reducible refine LeO.bind ?_ (fun _ => ?_))
      | exact spec_NameOK.mono _ _
      | exact LeO.none _
      | refine LeO.ite ?_ ?_
      | refine LeO.bind ?_ (fun _ => ?_)
set_option maxHeartbeats 8000000 in
set_option maxRecDepth 100000 in
theorem spec_l05Name.calls (k : Nat) (a0 : ByteArray) (r : Bool) (w : World) (h : spec_l05Name.f k a0 = some r) :
    Calls Try.prog 38 #[.string a0] w fun e w' => e = .returned (.bool r) ∧ Drawn0 w w' := by
  have H : (if (a0.size : Int) ≤ 12 then ((spec_NameOK.f k a0).bind fun t137 => (some t137)) else (some false)) = some r := h
  clear h
  by_cases c2 : (a0.size : Int) ≤ 12
  · rw [if_pos c2] at H
    have c2b0 : decide ((a0.size : Int) ≤ 12) = true := decide_eq_true c2
    have c2b1 : decide (a0.size ≤ 12) = true := decide_eq_true (by omega)
    clear c2
    replace H := Option.bind_eq_some_iff.mp H
    obtain ⟨t137, A30, H⟩ := H
    replace H : (some t137) = some r := H
    have A3 := Aside0.mk A30
    clear A30
    obtain rfl := Option.some.inj H
    go_enter Try.func38, Try.ntmps38
    go_wp2_with (first | (go_at_call 54; (with_reducible refine (spec_NameOK.calls k a0 t137 _ A3.out).mono ?_); rintro e w' ⟨rfl, ⟨nd, rfl⟩⟩))
    go_ret
    exact ⟨by first | rfl | (simp; done) | (simp [*]; done), by repeat (first | exact Drawn0.refl _ | apply Drawn0.step)⟩
  · rw [if_neg c2] at H
    have c2b0 : decide ((a0.size : Int) ≤ 12) = false := decide_eq_false c2
    have c2b1 : decide (a0.size ≤ 12) = false := decide_eq_false (by omega)
    clear c2
    obtain rfl := Option.some.inj H
    go_enter Try.func38, Try.ntmps38
    go_wp2
    go_ret
    exact ⟨by first | rfl | (simp; done) | (simp [*]; done), by repeat (first | exact Drawn0.refl _ | apply Drawn0.step)⟩

end Go.Proofs.Ytppgnndolgmcfaa.Q

namespace Go.Proofs.Ytppgnndolgmcfaa.Q
open Go.RowKit Go.Proofs.YtppgnndolgmcfaaW.PrintWords Go.Proofs.YtppgnndolgmcfaaW.PrintLast Go.Proofs.YtppgnndolgmcfaaW.PrintMore
attribute [local go_sem] max2_int min2_int max_two min_two max_three min_three max_four min_four   -- for this text's walks alone
set_option linter.unusedVariables false
set_option linter.unusedSimpArgs false

/-! ### spec_l08Name: function 39 -/
def spec_l08Name.f (k : Nat) (a0 : ByteArray) : Option (Bool) := (spec_l05Name.f k a0).bind fun t138 => (if t138 = true then (if a0.toList = ([101, 115, 99, 114, 111, 119] : List UInt8) then (some false) else (if a0.toList = ([111, 114, 100, 101, 114, 115] : List UInt8) then (some false) else (if a0.toList = ([116, 97, 107, 101, 115] : List UInt8) then (some false) else (some (a0.toList != ([112, 111, 111, 108] : List UInt8)))))) else (some false))
theorem spec_l08Name.mono : ∀ a0 k, LeO (spec_l08Name.f k a0) (spec_l08Name.f (k + 1) a0) := by
  intro a0 k
  unfold spec_l08Name.f
  repeat' first
      | (with_reducible exact spec_l05Name.mono _ _)
      | (with_reducible exact LeO.refl _)
      | (with_reducible exact LeO.none _)
      | (with_reducible refine LeO.ite ?_ ?_)
      | (with_reducible refine LeO.bind ?_ (fun _ => ?_))
      | exact spec_l05Name.mono _ _
      | exact LeO.none _
      | refine LeO.ite ?_ ?_
      | refine LeO.bind ?_ (fun _ => ?_)
set_option maxHeartbeats 8000000 in
set_option maxRecDepth 100000 in
theorem spec_l08Name.calls (k : Nat) (a0 : ByteArray) (r : Bool) (w : World) (h : spec_l08Name.f k a0 = some r) :
    Calls Try.prog 39 #[.string a0] w fun e w' => e = .returned (.bool r) ∧ Drawn0 w w' := by
  have H : ((spec_l05Name.f k a0).bind fun t138 => (if t138 = true then (if a0.toList = ([101, 115, 99, 114, 111, 119] : List UInt8) then (some false) else (if a0.toList = ([111, 114, 100, 101, 114, 115] : List UInt8) then (some false) else (if a0.toList = ([116, 97, 107, 101, 115] : List UInt8) then (some false) else (some (a0.toList != ([112, 111, 111, 108] : List UInt8)))))) else (some false))) = some r := h
  clear h
  replace H := Option.bind_eq_some_iff.mp H
  obtain ⟨t138, A20, H⟩ := H
  replace H : (if t138 = true then (if a0.toList = ([101, 115, 99, 114, 111, 119] : List UInt8) then (some false) else (if a0.toList = ([111, 114, 100, 101, 114, 115] : List UInt8) then (some false) else (if a0.toList = ([116, 97, 107, 101, 115] : List UInt8) then (some false) else (some (a0.toList != ([112, 111, 111, 108] : List UInt8)))))) else (some false)) = some r := H
  have A2 := Aside0.mk A20
  clear A20
  by_cases c3 : t138 = true
  · subst c3
    have H1 : (if a0.toList = ([101, 115, 99, 114, 111, 119] : List UInt8) then (some false) else (if a0.toList = ([111, 114, 100, 101, 114, 115] : List UInt8) then (some false) else (if a0.toList = ([116, 97, 107, 101, 115] : List UInt8) then (some false) else (some (a0.toList != ([112, 111, 111, 108] : List UInt8)))))) = some r := by rw [if_pos rfl] at H; exact H
    clear H
    have H := H1
    clear H1
    by_cases c4 : a0.toList = ([101, 115, 99, 114, 111, 119] : List UInt8)
    · rw [if_pos c4] at H
      have c4b0 : (a0.toList == ([101, 115, 99, 114, 111, 119] : List UInt8)) = true := beq_iff_eq.mpr c4
      have c4b1 : (a0.toList != ([101, 115, 99, 114, 111, 119] : List UInt8)) = false := bne_eq_false_iff_eq.mpr c4
      clear c4
      obtain rfl := Option.some.inj H
      go_enter Try.func39, Try.ntmps39
      go_wp2_with (first | ((with_reducible refine gate_callee (f := 38) rfl ?_); refine goesL_ (some 4) rfl rfl Try.func38 (by kernel_rfl) rfl #[.string a0] rfl (by (try simp only [List.map_toArray, List.map_cons, List.map_nil]); first | done | rfl | (simp only [List.length_drop, List.length_take]; rfl)) ?_; (with_reducible refine (spec_l05Name.calls k a0 true _ A2.out).mono ?_); rintro e w' ⟨rfl, ⟨nd, rfl⟩⟩; refine ⟨_, rfl, ?_⟩))
      go_ret
      exact ⟨by first | rfl | (simp; done) | (simp [*]; done), by repeat (first | exact Drawn0.refl _ | apply Drawn0.step)⟩
    · rw [if_neg c4] at H
      have c4b0 : (a0.toList == ([101, 115, 99, 114, 111, 119] : List UInt8)) = false := beq_eq_false_iff_ne.mpr c4
      have c4b1 : (a0.toList != ([101, 115, 99, 114, 111, 119] : List UInt8)) = true := bne_iff_ne.mpr c4
      by_cases c5 : a0.toList = ([111, 114, 100, 101, 114, 115] : List UInt8)
      · rw [if_pos c5] at H
        have c5b0 : (a0.toList == ([111, 114, 100, 101, 114, 115] : List UInt8)) = true := beq_iff_eq.mpr c5
        have c5b1 : (a0.toList != ([111, 114, 100, 101, 114, 115] : List UInt8)) = false := bne_eq_false_iff_eq.mpr c5
        clear c5
        obtain rfl := Option.some.inj H
        go_enter Try.func39, Try.ntmps39
        go_wp2_with (first | ((with_reducible refine gate_callee (f := 38) rfl ?_); refine goesL_ (some 4) rfl rfl Try.func38 (by kernel_rfl) rfl #[.string a0] rfl (by (try simp only [List.map_toArray, List.map_cons, List.map_nil]); first | done | rfl | (simp only [List.length_drop, List.length_take]; rfl)) ?_; (with_reducible refine (spec_l05Name.calls k a0 true _ A2.out).mono ?_); rintro e w' ⟨rfl, ⟨nd, rfl⟩⟩; refine ⟨_, rfl, ?_⟩))
        go_ret
        exact ⟨by first | rfl | (simp; done) | (simp [*]; done), by repeat (first | exact Drawn0.refl _ | apply Drawn0.step)⟩
      · rw [if_neg c5] at H
        have c5b0 : (a0.toList == ([111, 114, 100, 101, 114, 115] : List UInt8)) = false := beq_eq_false_iff_ne.mpr c5
        have c5b1 : (a0.toList != ([111, 114, 100, 101, 114, 115] : List UInt8)) = true := bne_iff_ne.mpr c5
        by_cases c6 : a0.toList = ([116, 97, 107, 101, 115] : List UInt8)
        · rw [if_pos c6] at H
          have c6b0 : (a0.toList == ([116, 97, 107, 101, 115] : List UInt8)) = true := beq_iff_eq.mpr c6
          have c6b1 : (a0.toList != ([116, 97, 107, 101, 115] : List UInt8)) = false := bne_eq_false_iff_eq.mpr c6
          clear c6
          obtain rfl := Option.some.inj H
          go_enter Try.func39, Try.ntmps39
          go_wp2_with (first | ((with_reducible refine gate_callee (f := 38) rfl ?_); refine goesL_ (some 4) rfl rfl Try.func38 (by kernel_rfl) rfl #[.string a0] rfl (by (try simp only [List.map_toArray, List.map_cons, List.map_nil]); first | done | rfl | (simp only [List.length_drop, List.length_take]; rfl)) ?_; (with_reducible refine (spec_l05Name.calls k a0 true _ A2.out).mono ?_); rintro e w' ⟨rfl, ⟨nd, rfl⟩⟩; refine ⟨_, rfl, ?_⟩))
          go_ret
          exact ⟨by first | rfl | (simp; done) | (simp [*]; done), by repeat (first | exact Drawn0.refl _ | apply Drawn0.step)⟩
        · rw [if_neg c6] at H
          have c6b0 : (a0.toList == ([116, 97, 107, 101, 115] : List UInt8)) = false := beq_eq_false_iff_ne.mpr c6
          have c6b1 : (a0.toList != ([116, 97, 107, 101, 115] : List UInt8)) = true := bne_iff_ne.mpr c6
          obtain rfl := Option.some.inj H
          go_enter Try.func39, Try.ntmps39
          go_wp2_with (first | ((with_reducible refine gate_callee (f := 38) rfl ?_); refine goesL_ (some 4) rfl rfl Try.func38 (by kernel_rfl) rfl #[.string a0] rfl (by (try simp only [List.map_toArray, List.map_cons, List.map_nil]); first | done | rfl | (simp only [List.length_drop, List.length_take]; rfl)) ?_; (with_reducible refine (spec_l05Name.calls k a0 true _ A2.out).mono ?_); rintro e w' ⟨rfl, ⟨nd, rfl⟩⟩; refine ⟨_, rfl, ?_⟩))
          go_ret
          exact ⟨by first | rfl | (simp; done) | (simp [*]; done), by repeat (first | exact Drawn0.refl _ | apply Drawn0.step)⟩
  · replace c3 := Bool.eq_false_iff.mpr c3
    subst c3
    have H1 : (some false) = some r := by rw [if_neg (show ¬ (false = true) by decide)] at H; exact H
    clear H
    have H := H1
    clear H1
    obtain rfl := Option.some.inj H
    go_enter Try.func39, Try.ntmps39
    go_wp2_with (first | ((with_reducible refine gate_callee (f := 38) rfl ?_); refine goesL_ (some 4) rfl rfl Try.func38 (by kernel_rfl) rfl #[.string a0] rfl (by (try simp only [List.map_toArray, List.map_cons, List.map_nil]); first | done | rfl | (simp only [List.length_drop, List.length_take]; rfl)) ?_; (with_reducible refine (spec_l05Name.calls k a0 false _ A2.out).mono ?_); rintro e w' ⟨rfl, ⟨nd, rfl⟩⟩; refine ⟨_, rfl, ?_⟩))
    go_ret
    exact ⟨by first | rfl | (simp; done) | (simp [*]; done), by repeat (first | exact Drawn0.refl _ | apply Drawn0.step)⟩

end Go.Proofs.Ytppgnndolgmcfaa.Q

namespace Go.Proofs.Ytppgnndolgmcfaa.Q
open Go.RowKit Go.Proofs.YtppgnndolgmcfaaW.PrintWords Go.Proofs.YtppgnndolgmcfaaW.PrintLast Go.Proofs.YtppgnndolgmcfaaW.PrintMore
attribute [local go_sem] max2_int min2_int max_two min_two max_three min_three max_four min_four   -- for this text's walks alone
set_option linter.unusedVariables false
set_option linter.unusedSimpArgs false

/-! ### impl_NameOK: function 70 -/
def impl_NameOK.l0 : Nat → ByteArray → Int → Int → Option (Bool)
  | 0, _, _, _ => none
  | k + 1, x0, x7, x8 => if x8 < x7 then (if 0 ≤ x8 then (if x8 < (x0.size : Int) then (if (bt x0 x8) ≥ 97 then (if (bt x0 x8) ≤ 122 then (impl_NameOK.l0 k x0 x7 (wrap64 (x8 + 1))) else (if (bt x0 x8) ≥ 65 then (if (bt x0 x8) ≤ 90 then (impl_NameOK.l0 k x0 x7 (wrap64 (x8 + 1))) else (if ((bt x0 x8) = 95) then (impl_NameOK.l0 k x0 x7 (wrap64 (x8 + 1))) else (if x8 = 0 then (some false) else (if (bt x0 x8) < 48 then (some false) else (if (bt x0 x8) > 57 then (some false) else (impl_NameOK.l0 k x0 x7 (wrap64 (x8 + 1)))))))) else (if ((bt x0 x8) = 95) then (impl_NameOK.l0 k x0 x7 (wrap64 (x8 + 1))) else (if x8 = 0 then (some false) else (if (bt x0 x8) < 48 then (some false) else (if (bt x0 x8) > 57 then (some false) else (impl_NameOK.l0 k x0 x7 (wrap64 (x8 + 1))))))))) else (if (bt x0 x8) ≥ 65 then (if (bt x0 x8) ≤ 90 then (impl_NameOK.l0 k x0 x7 (wrap64 (x8 + 1))) else (if ((bt x0 x8) = 95) then (impl_NameOK.l0 k x0 x7 (wrap64 (x8 + 1))) else (if x8 = 0 then (some false) else (if (bt x0 x8) < 48 then (some false) else (if (bt x0 x8) > 57 then (some false) else (impl_NameOK.l0 k x0 x7 (wrap64 (x8 + 1)))))))) else (if ((bt x0 x8) = 95) then (impl_NameOK.l0 k x0 x7 (wrap64 (x8 + 1))) else (if x8 = 0 then (some false) else (if (bt x0 x8) < 48 then (some false) else (if (bt x0 x8) > 57 then (some false) else (impl_NameOK.l0 k x0 x7 (wrap64 (x8 + 1))))))))) else (none)) else (none)) else ((impl_within.f (x0.size : Int) 1 40).bind fun t148 => (some t148))
def impl_NameOK.f (k : Nat) (a0 : ByteArray) : Option (Bool) := impl_NameOK.l0 k a0 (a0.size : Int) 0
theorem impl_NameOK.mono_l : ∀ k, (∀ y0 y1 y2, LeO (impl_NameOK.l0 k y0 y1 y2) (impl_NameOK.l0 (k + 1) y0 y1 y2))
  | 0 => fun _ _ _ r h => by simp [impl_NameOK.l0] at h
  | k + 1 => by
    have ih0 := impl_NameOK.mono_l k
    · intro y0 y1 y2
      unfold impl_NameOK.l0
      repeat' first
      | (with_reducible exact ih0 _ _ _)
      | (with_reducible exact LeO.refl _)
      | (with_reducible exact LeO.none _)
      | (with_reducible refine LeO.ite ?_ ?_)
      | (with_reducible refine LeO.bind ?_ (fun _ => ?_))
      | exact ih0 _ _ _
      | exact LeO.none _
      | refine LeO.ite ?_ ?_
      | refine LeO.bind ?_ (fun _ => ?_)
theorem impl_NameOK.mono : ∀ a0 k, LeO (impl_NameOK.f k a0) (impl_NameOK.f (k + 1) a0) := by
  intro a0 k
  have ih0 := impl_NameOK.mono_l k
  unfold impl_NameOK.f
  repeat' first
      | (with_reducible exact ih0 _ _ _)
      | (with_reducible exact LeO.refl _)
      | (with_reducible exact LeO.none _)
      | (with_reducible refine LeO.ite ?_ ?_)
      | (with_reducible refine LeO.bind ?_ (fun _ => ?_))
      | exact ih0 _ _ _
      | exact LeO.none _
      | refine LeO.ite ?_ ?_
      | refine LeO.bind ?_ (fun _ => ?_)
set_option maxHeartbeats 8000000 in
set_option maxRecDepth 100000 in
theorem impl_NameOK.calls (k : Nat) (a0 : ByteArray) (r : Bool) (w : World) (h : impl_NameOK.f k a0 = some r) :
    Calls Try.prog 70 #[.string a0] w fun e w' => e = .returned (.bool r) ∧ Drawn0 w w' := by
  have H : (impl_NameOK.l0 k a0 (a0.size : Int) 0) = some r := h
  clear h
  have H' := Aside0.mk H
  clear H
  go_enter Try.func70, Try.ntmps70
  go_wp2
  go_loopg [8] k (fun kq v8 w' => ∃ (x8_1 : Int), v8 = .int .i64 x8_1 ∧ Aside0 (impl_NameOK.l0 kq a0 (a0.size : Int) x8_1 = some r) ∧ Aside0 (kq ≤ k) ∧ Drawn0 w w')
  case atStart => exact ⟨(0), (by first | rfl | (simp; done) | (simp [*]; done)), H', ⟨Nat.le_refl _⟩, by repeat (first | exact Drawn0.refl _ | apply Drawn0.step)⟩
  case round =>
    clear H'
    obtain ⟨x8_1, rfl, HA, HK1, ⟨m1, rfl⟩⟩ := hrel
    cases gk with
    | zero => exact absurd HA.out (by simp [impl_NameOK.l0])
    | succ k1 =>
      have H := HA.out
      clear HA
      simp only [impl_NameOK.l0] at H
      by_cases c2 : x8_1 < (a0.size : Int)
      · rw [if_pos c2] at H
        have c2b0 : decide (x8_1 < (a0.size : Int)) = true := decide_eq_true c2
        clear c2
        by_cases c3 : 0 ≤ x8_1
        · rw [if_pos c3] at H
          have c3b0 : decide (0 ≤ x8_1) = true := decide_eq_true c3
          clear c3
          by_cases c4 : x8_1 < (a0.size : Int)
          · rw [if_pos c4] at H
            have c4b0 : decide (x8_1 < (a0.size : Int)) = true := decide_eq_true c4
            clear c4
            by_cases c6 : (bt a0 x8_1) ≥ 97
            · rw [if_pos c6] at H
              have c6b0 : decide (97 ≤ (bt a0 x8_1)) = true := decide_eq_true c6
              clear c6
              by_cases c7 : (bt a0 x8_1) ≤ 122
              · rw [if_pos c7] at H
                have c7b0 : decide ((bt a0 x8_1) ≤ 122) = true := decide_eq_true c7
                clear c7
                have H' := Aside0.mk H
                clear H
                have p5 : 0 ≤ (x8_1 : Int) := of_decide_eq_true (by first | (with_reducible assumption) | assumption)
                have q5 : x8_1 < (a0.size : Int) := of_decide_eq_true (by first | (with_reducible assumption) | assumption)
                have hx5 := bt_at a0 x8_1
                replace p5 := eq_true p5
                replace q5 := eq_true q5
                go_wp2
                go_roundg k1
                case measure => have := HK1.out; omega
                case rel => exact ⟨(wrap64 (x8_1 + 1)), (by first | rfl | (simp; done) | (simp [*]; done)), H', ⟨by have := HK1.out; omega⟩, by repeat (first | exact Drawn0.refl _ | apply Drawn0.step)⟩
              · rw [if_neg c7] at H
                have c7b0 : decide ((bt a0 x8_1) ≤ 122) = false := decide_eq_false c7
                clear c7
                by_cases c8 : (bt a0 x8_1) ≥ 65
                · rw [if_pos c8] at H
                  have c8b0 : decide (65 ≤ (bt a0 x8_1)) = true := decide_eq_true c8
                  clear c8
                  by_cases c9 : (bt a0 x8_1) ≤ 90
                  · rw [if_pos c9] at H
                    have c9b0 : decide ((bt a0 x8_1) ≤ 90) = true := decide_eq_true c9
                    clear c9
                    have H' := Aside0.mk H
                    clear H
                    have p5 : 0 ≤ (x8_1 : Int) := of_decide_eq_true (by first | (with_reducible assumption) | assumption)
                    have q5 : x8_1 < (a0.size : Int) := of_decide_eq_true (by first | (with_reducible assumption) | assumption)
                    have hx5 := bt_at a0 x8_1
                    replace p5 := eq_true p5
                    replace q5 := eq_true q5
                    go_wp2
                    go_roundg k1
                    case measure => have := HK1.out; omega
                    case rel => exact ⟨(wrap64 (x8_1 + 1)), (by first | rfl | (simp; done) | (simp [*]; done)), H', ⟨by have := HK1.out; omega⟩, by repeat (first | exact Drawn0.refl _ | apply Drawn0.step)⟩
                  · rw [if_neg c9] at H
                    have c9b0 : decide ((bt a0 x8_1) ≤ 90) = false := decide_eq_false c9
                    clear c9
                    by_cases c10 : ((bt a0 x8_1) = 95)
                    · rw [if_pos c10] at H
                      have c10b0 : ((bt a0 x8_1) == 95) = true := beq_iff_eq.mpr c10
                      have c10b1 : ((bt a0 x8_1) != 95) = false := bne_eq_false_iff_eq.mpr c10
                      clear c10
                      have H' := Aside0.mk H
                      clear H
                      have p5 : 0 ≤ (x8_1 : Int) := of_decide_eq_true (by first | (with_reducible assumption) | assumption)
                      have q5 : x8_1 < (a0.size : Int) := of_decide_eq_true (by first | (with_reducible assumption) | assumption)
                      have hx5 := bt_at a0 x8_1
                      replace p5 := eq_true p5
                      replace q5 := eq_true q5
                      go_wp2
                      go_roundg k1
                      case measure => have := HK1.out; omega
                      case rel => exact ⟨(wrap64 (x8_1 + 1)), (by first | rfl | (simp; done) | (simp [*]; done)), H', ⟨by have := HK1.out; omega⟩, by repeat (first | exact Drawn0.refl _ | apply Drawn0.step)⟩
                    · rw [if_neg c10] at H
                      have c10b0 : ((bt a0 x8_1) == 95) = false := beq_eq_false_iff_ne.mpr c10
                      have c10b1 : ((bt a0 x8_1) != 95) = true := bne_iff_ne.mpr c10
                      by_cases c11 : x8_1 = 0
                      · rw [if_pos c11] at H
                        have c11b0 : (x8_1 == 0) = true := beq_iff_eq.mpr c11
                        have c11b1 : (x8_1 != 0) = false := bne_eq_false_iff_eq.mpr c11
                        clear c11
                        obtain rfl := Option.some.inj H
                        have p5 : 0 ≤ (x8_1 : Int) := of_decide_eq_true (by first | (with_reducible assumption) | assumption)
                        have q5 : x8_1 < (a0.size : Int) := of_decide_eq_true (by first | (with_reducible assumption) | assumption)
                        have hx5 := bt_at a0 x8_1
                        replace p5 := eq_true p5
                        replace q5 := eq_true q5
                        go_wp2
                        go_ret
                        exact ⟨by first | rfl | (simp; done) | (simp [*]; done), by repeat (first | exact Drawn0.refl _ | apply Drawn0.step)⟩
                      · rw [if_neg c11] at H
                        have c11b0 : (x8_1 == 0) = false := beq_eq_false_iff_ne.mpr c11
                        have c11b1 : (x8_1 != 0) = true := bne_iff_ne.mpr c11
                        by_cases c12 : (bt a0 x8_1) < 48
                        · rw [if_pos c12] at H
                          have c12b0 : decide ((bt a0 x8_1) < 48) = true := decide_eq_true c12
                          clear c12
                          obtain rfl := Option.some.inj H
                          have p5 : 0 ≤ (x8_1 : Int) := of_decide_eq_true (by first | (with_reducible assumption) | assumption)
                          have q5 : x8_1 < (a0.size : Int) := of_decide_eq_true (by first | (with_reducible assumption) | assumption)
                          have hx5 := bt_at a0 x8_1
                          replace p5 := eq_true p5
                          replace q5 := eq_true q5
                          go_wp2
                          go_ret
                          exact ⟨by first | rfl | (simp; done) | (simp [*]; done), by repeat (first | exact Drawn0.refl _ | apply Drawn0.step)⟩
                        · rw [if_neg c12] at H
                          have c12b0 : decide ((bt a0 x8_1) < 48) = false := decide_eq_false c12
                          clear c12
                          by_cases c13 : (bt a0 x8_1) > 57
                          · rw [if_pos c13] at H
                            have c13b0 : decide (57 < (bt a0 x8_1)) = true := decide_eq_true c13
                            clear c13
                            obtain rfl := Option.some.inj H
                            have p5 : 0 ≤ (x8_1 : Int) := of_decide_eq_true (by first | (with_reducible assumption) | assumption)
                            have q5 : x8_1 < (a0.size : Int) := of_decide_eq_true (by first | (with_reducible assumption) | assumption)
                            have hx5 := bt_at a0 x8_1
                            replace p5 := eq_true p5
                            replace q5 := eq_true q5
                            go_wp2
                            go_ret
                            exact ⟨by first | rfl | (simp; done) | (simp [*]; done), by repeat (first | exact Drawn0.refl _ | apply Drawn0.step)⟩
                          · rw [if_neg c13] at H
                            have c13b0 : decide (57 < (bt a0 x8_1)) = false := decide_eq_false c13
                            clear c13
                            have H' := Aside0.mk H
                            clear H
                            have p5 : 0 ≤ (x8_1 : Int) := of_decide_eq_true (by first | (with_reducible assumption) | assumption)
                            have q5 : x8_1 < (a0.size : Int) := of_decide_eq_true (by first | (with_reducible assumption) | assumption)
                            have hx5 := bt_at a0 x8_1
                            replace p5 := eq_true p5
                            replace q5 := eq_true q5
                            go_wp2
                            go_roundg k1
                            case measure => have := HK1.out; omega
                            case rel => exact ⟨(wrap64 (x8_1 + 1)), (by first | rfl | (simp; done) | (simp [*]; done)), H', ⟨by have := HK1.out; omega⟩, by repeat (first | exact Drawn0.refl _ | apply Drawn0.step)⟩
                · rw [if_neg c8] at H
                  have c8b0 : decide (65 ≤ (bt a0 x8_1)) = false := decide_eq_false c8
                  clear c8
                  by_cases c14 : ((bt a0 x8_1) = 95)
                  · rw [if_pos c14] at H
                    have c14b0 : ((bt a0 x8_1) == 95) = true := beq_iff_eq.mpr c14
                    have c14b1 : ((bt a0 x8_1) != 95) = false := bne_eq_false_iff_eq.mpr c14
                    clear c14
                    have H' := Aside0.mk H
                    clear H
                    have p5 : 0 ≤ (x8_1 : Int) := of_decide_eq_true (by first | (with_reducible assumption) | assumption)
                    have q5 : x8_1 < (a0.size : Int) := of_decide_eq_true (by first | (with_reducible assumption) | assumption)
                    have hx5 := bt_at a0 x8_1
                    replace p5 := eq_true p5
                    replace q5 := eq_true q5
                    go_wp2
                    go_roundg k1
                    case measure => have := HK1.out; omega
                    case rel => exact ⟨(wrap64 (x8_1 + 1)), (by first | rfl | (simp; done) | (simp [*]; done)), H', ⟨by have := HK1.out; omega⟩, by repeat (first | exact Drawn0.refl _ | apply Drawn0.step)⟩
                  · rw [if_neg c14] at H
                    have c14b0 : ((bt a0 x8_1) == 95) = false := beq_eq_false_iff_ne.mpr c14
                    have c14b1 : ((bt a0 x8_1) != 95) = true := bne_iff_ne.mpr c14
                    by_cases c15 : x8_1 = 0
                    · rw [if_pos c15] at H
                      have c15b0 : (x8_1 == 0) = true := beq_iff_eq.mpr c15
                      have c15b1 : (x8_1 != 0) = false := bne_eq_false_iff_eq.mpr c15
                      clear c15
                      obtain rfl := Option.some.inj H
                      have p5 : 0 ≤ (x8_1 : Int) := of_decide_eq_true (by first | (with_reducible assumption) | assumption)
                      have q5 : x8_1 < (a0.size : Int) := of_decide_eq_true (by first | (with_reducible assumption) | assumption)
                      have hx5 := bt_at a0 x8_1
                      replace p5 := eq_true p5
                      replace q5 := eq_true q5
                      go_wp2
                      go_ret
                      exact ⟨by first | rfl | (simp; done) | (simp [*]; done), by repeat (first | exact Drawn0.refl _ | apply Drawn0.step)⟩
                    · rw [if_neg c15] at H
                      have c15b0 : (x8_1 == 0) = false := beq_eq_false_iff_ne.mpr c15
                      have c15b1 : (x8_1 != 0) = true := bne_iff_ne.mpr c15
                      by_cases c16 : (bt a0 x8_1) < 48
                      · rw [if_pos c16] at H
                        have c16b0 : decide ((bt a0 x8_1) < 48) = true := decide_eq_true c16
                        clear c16
                        obtain rfl := Option.some.inj H
                        have p5 : 0 ≤ (x8_1 : Int) := of_decide_eq_true (by first | (with_reducible assumption) | assumption)
                        have q5 : x8_1 < (a0.size : Int) := of_decide_eq_true (by first | (with_reducible assumption) | assumption)
                        have hx5 := bt_at a0 x8_1
                        replace p5 := eq_true p5
                        replace q5 := eq_true q5
                        go_wp2
                        go_ret
                        exact ⟨by first | rfl | (simp; done) | (simp [*]; done), by repeat (first | exact Drawn0.refl _ | apply Drawn0.step)⟩
                      · rw [if_neg c16] at H
                        have c16b0 : decide ((bt a0 x8_1) < 48) = false := decide_eq_false c16
                        clear c16
                        by_cases c17 : (bt a0 x8_1) > 57
                        · rw [if_pos c17] at H
                          have c17b0 : decide (57 < (bt a0 x8_1)) = true := decide_eq_true c17
                          clear c17
                          obtain rfl := Option.some.inj H
                          have p5 : 0 ≤ (x8_1 : Int) := of_decide_eq_true (by first | (with_reducible assumption) | assumption)
                          have q5 : x8_1 < (a0.size : Int) := of_decide_eq_true (by first | (with_reducible assumption) | assumption)
                          have hx5 := bt_at a0 x8_1
                          replace p5 := eq_true p5
                          replace q5 := eq_true q5
                          go_wp2
                          go_ret
                          exact ⟨by first | rfl | (simp; done) | (simp [*]; done), by repeat (first | exact Drawn0.refl _ | apply Drawn0.step)⟩
                        · rw [if_neg c17] at H
                          have c17b0 : decide (57 < (bt a0 x8_1)) = false := decide_eq_false c17
                          clear c17
                          have H' := Aside0.mk H
                          clear H
                          have p5 : 0 ≤ (x8_1 : Int) := of_decide_eq_true (by first | (with_reducible assumption) | assumption)
                          have q5 : x8_1 < (a0.size : Int) := of_decide_eq_true (by first | (with_reducible assumption) | assumption)
                          have hx5 := bt_at a0 x8_1
                          replace p5 := eq_true p5
                          replace q5 := eq_true q5
                          go_wp2
                          go_roundg k1
                          case measure => have := HK1.out; omega
                          case rel => exact ⟨(wrap64 (x8_1 + 1)), (by first | rfl | (simp; done) | (simp [*]; done)), H', ⟨by have := HK1.out; omega⟩, by repeat (first | exact Drawn0.refl _ | apply Drawn0.step)⟩
            · rw [if_neg c6] at H
              have c6b0 : decide (97 ≤ (bt a0 x8_1)) = false := decide_eq_false c6
              clear c6
              by_cases c18 : (bt a0 x8_1) ≥ 65
              · rw [if_pos c18] at H
                have c18b0 : decide (65 ≤ (bt a0 x8_1)) = true := decide_eq_true c18
                clear c18
                by_cases c19 : (bt a0 x8_1) ≤ 90
                · rw [if_pos c19] at H
                  have c19b0 : decide ((bt a0 x8_1) ≤ 90) = true := decide_eq_true c19
                  clear c19
                  have H' := Aside0.mk H
                  clear H
                  have p5 : 0 ≤ (x8_1 : Int) := of_decide_eq_true (by first | (with_reducible assumption) | assumption)
                  have q5 : x8_1 < (a0.size : Int) := of_decide_eq_true (by first | (with_reducible assumption) | assumption)
                  have hx5 := bt_at a0 x8_1
                  replace p5 := eq_true p5
                  replace q5 := eq_true q5
                  go_wp2
                  go_roundg k1
                  case measure => have := HK1.out; omega
                  case rel => exact ⟨(wrap64 (x8_1 + 1)), (by first | rfl | (simp; done) | (simp [*]; done)), H', ⟨by have := HK1.out; omega⟩, by repeat (first | exact Drawn0.refl _ | apply Drawn0.step)⟩
                · rw [if_neg c19] at H
                  have c19b0 : decide ((bt a0 x8_1) ≤ 90) = false := decide_eq_false c19
                  clear c19
                  by_cases c20 : ((bt a0 x8_1) = 95)
                  · rw [if_pos c20] at H
                    have c20b0 : ((bt a0 x8_1) == 95) = true := beq_iff_eq.mpr c20
                    have c20b1 : ((bt a0 x8_1) != 95) = false := bne_eq_false_iff_eq.mpr c20
                    clear c20
                    have H' := Aside0.mk H
                    clear H
                    have p5 : 0 ≤ (x8_1 : Int) := of_decide_eq_true (by first | (with_reducible assumption) | assumption)
                    have q5 : x8_1 < (a0.size : Int) := of_decide_eq_true (by first | (with_reducible assumption) | assumption)
                    have hx5 := bt_at a0 x8_1
                    replace p5 := eq_true p5
                    replace q5 := eq_true q5
                    go_wp2
                    go_roundg k1
                    case measure => have := HK1.out; omega
                    case rel => exact ⟨(wrap64 (x8_1 + 1)), (by first | rfl | (simp; done) | (simp [*]; done)), H', ⟨by have := HK1.out; omega⟩, by repeat (first | exact Drawn0.refl _ | apply Drawn0.step)⟩
                  · rw [if_neg c20] at H
                    have c20b0 : ((bt a0 x8_1) == 95) = false := beq_eq_false_iff_ne.mpr c20
                    have c20b1 : ((bt a0 x8_1) != 95) = true := bne_iff_ne.mpr c20
                    by_cases c21 : x8_1 = 0
                    · rw [if_pos c21] at H
                      have c21b0 : (x8_1 == 0) = true := beq_iff_eq.mpr c21
                      have c21b1 : (x8_1 != 0) = false := bne_eq_false_iff_eq.mpr c21
                      clear c21
                      obtain rfl := Option.some.inj H
                      have p5 : 0 ≤ (x8_1 : Int) := of_decide_eq_true (by first | (with_reducible assumption) | assumption)
                      have q5 : x8_1 < (a0.size : Int) := of_decide_eq_true (by first | (with_reducible assumption) | assumption)
                      have hx5 := bt_at a0 x8_1
                      replace p5 := eq_true p5
                      replace q5 := eq_true q5
                      go_wp2
                      go_ret
                      exact ⟨by first | rfl | (simp; done) | (simp [*]; done), by repeat (first | exact Drawn0.refl _ | apply Drawn0.step)⟩
                    · rw [if_neg c21] at H
                      have c21b0 : (x8_1 == 0) = false := beq_eq_false_iff_ne.mpr c21
                      have c21b1 : (x8_1 != 0) = true := bne_iff_ne.mpr c21
                      by_cases c22 : (bt a0 x8_1) < 48
                      · rw [if_pos c22] at H
                        have c22b0 : decide ((bt a0 x8_1) < 48) = true := decide_eq_true c22
                        clear c22
                        obtain rfl := Option.some.inj H
                        have p5 : 0 ≤ (x8_1 : Int) := of_decide_eq_true (by first | (with_reducible assumption) | assumption)
                        have q5 : x8_1 < (a0.size : Int) := of_decide_eq_true (by first | (with_reducible assumption) | assumption)
                        have hx5 := bt_at a0 x8_1
                        replace p5 := eq_true p5
                        replace q5 := eq_true q5
                        go_wp2
                        go_ret
                        exact ⟨by first | rfl | (simp; done) | (simp [*]; done), by repeat (first | exact Drawn0.refl _ | apply Drawn0.step)⟩
                      · rw [if_neg c22] at H
                        have c22b0 : decide ((bt a0 x8_1) < 48) = false := decide_eq_false c22
                        clear c22
                        by_cases c23 : (bt a0 x8_1) > 57
                        · rw [if_pos c23] at H
                          have c23b0 : decide (57 < (bt a0 x8_1)) = true := decide_eq_true c23
                          clear c23
                          obtain rfl := Option.some.inj H
                          have p5 : 0 ≤ (x8_1 : Int) := of_decide_eq_true (by first | (with_reducible assumption) | assumption)
                          have q5 : x8_1 < (a0.size : Int) := of_decide_eq_true (by first | (with_reducible assumption) | assumption)
                          have hx5 := bt_at a0 x8_1
                          replace p5 := eq_true p5
                          replace q5 := eq_true q5
                          go_wp2
                          go_ret
                          exact ⟨by first | rfl | (simp; done) | (simp [*]; done), by repeat (first | exact Drawn0.refl _ | apply Drawn0.step)⟩
                        · rw [if_neg c23] at H
                          have c23b0 : decide (57 < (bt a0 x8_1)) = false := decide_eq_false c23
                          clear c23
                          have H' := Aside0.mk H
                          clear H
                          have p5 : 0 ≤ (x8_1 : Int) := of_decide_eq_true (by first | (with_reducible assumption) | assumption)
                          have q5 : x8_1 < (a0.size : Int) := of_decide_eq_true (by first | (with_reducible assumption) | assumption)
                          have hx5 := bt_at a0 x8_1
                          replace p5 := eq_true p5
                          replace q5 := eq_true q5
                          go_wp2
                          go_roundg k1
                          case measure => have := HK1.out; omega
                          case rel => exact ⟨(wrap64 (x8_1 + 1)), (by first | rfl | (simp; done) | (simp [*]; done)), H', ⟨by have := HK1.out; omega⟩, by repeat (first | exact Drawn0.refl _ | apply Drawn0.step)⟩
              · rw [if_neg c18] at H
                have c18b0 : decide (65 ≤ (bt a0 x8_1)) = false := decide_eq_false c18
                clear c18
                by_cases c24 : ((bt a0 x8_1) = 95)
                · rw [if_pos c24] at H
                  have c24b0 : ((bt a0 x8_1) == 95) = true := beq_iff_eq.mpr c24
                  have c24b1 : ((bt a0 x8_1) != 95) = false := bne_eq_false_iff_eq.mpr c24
                  clear c24
                  have H' := Aside0.mk H
                  clear H
                  have p5 : 0 ≤ (x8_1 : Int) := of_decide_eq_true (by first | (with_reducible assumption) | assumption)
                  have q5 : x8_1 < (a0.size : Int) := of_decide_eq_true (by first | (with_reducible assumption) | assumption)
                  have hx5 := bt_at a0 x8_1
                  replace p5 := eq_true p5
                  replace q5 := eq_true q5
                  go_wp2
                  go_roundg k1
                  case measure => have := HK1.out; omega
                  case rel => exact ⟨(wrap64 (x8_1 + 1)), (by first | rfl | (simp; done) | (simp [*]; done)), H', ⟨by have := HK1.out; omega⟩, by repeat (first | exact Drawn0.refl _ | apply Drawn0.step)⟩
                · rw [if_neg c24] at H
                  have c24b0 : ((bt a0 x8_1) == 95) = false := beq_eq_false_iff_ne.mpr c24
                  have c24b1 : ((bt a0 x8_1) != 95) = true := bne_iff_ne.mpr c24
                  by_cases c25 : x8_1 = 0
                  · rw [if_pos c25] at H
                    have c25b0 : (x8_1 == 0) = true := beq_iff_eq.mpr c25
                    have c25b1 : (x8_1 != 0) = false := bne_eq_false_iff_eq.mpr c25
                    clear c25
                    obtain rfl := Option.some.inj H
                    have p5 : 0 ≤ (x8_1 : Int) := of_decide_eq_true (by first | (with_reducible assumption) | assumption)
                    have q5 : x8_1 < (a0.size : Int) := of_decide_eq_true (by first | (with_reducible assumption) | assumption)
                    have hx5 := bt_at a0 x8_1
                    replace p5 := eq_true p5
                    replace q5 := eq_true q5
                    go_wp2
                    go_ret
                    exact ⟨by first | rfl | (simp; done) | (simp [*]; done), by repeat (first | exact Drawn0.refl _ | apply Drawn0.step)⟩
                  · rw [if_neg c25] at H
                    have c25b0 : (x8_1 == 0) = false := beq_eq_false_iff_ne.mpr c25
                    have c25b1 : (x8_1 != 0) = true := bne_iff_ne.mpr c25
                    by_cases c26 : (bt a0 x8_1) < 48
                    · rw [if_pos c26] at H
                      have c26b0 : decide ((bt a0 x8_1) < 48) = true := decide_eq_true c26
                      clear c26
                      obtain rfl := Option.some.inj H
                      have p5 : 0 ≤ (x8_1 : Int) := of_decide_eq_true (by first | (with_reducible assumption) | assumption)
                      have q5 : x8_1 < (a0.size : Int) := of_decide_eq_true (by first | (with_reducible assumption) | assumption)
                      have hx5 := bt_at a0 x8_1
                      replace p5 := eq_true p5
                      replace q5 := eq_true q5
                      go_wp2
                      go_ret
                      exact ⟨by first | rfl | (simp; done) | (simp [*]; done), by repeat (first | exact Drawn0.refl _ | apply Drawn0.step)⟩
                    · rw [if_neg c26] at H
                      have c26b0 : decide ((bt a0 x8_1) < 48) = false := decide_eq_false c26
                      clear c26
                      by_cases c27 : (bt a0 x8_1) > 57
                      · rw [if_pos c27] at H
                        have c27b0 : decide (57 < (bt a0 x8_1)) = true := decide_eq_true c27
                        clear c27
                        obtain rfl := Option.some.inj H
                        have p5 : 0 ≤ (x8_1 : Int) := of_decide_eq_true (by first | (with_reducible assumption) | assumption)
                        have q5 : x8_1 < (a0.size : Int) := of_decide_eq_true (by first | (with_reducible assumption) | assumption)
                        have hx5 := bt_at a0 x8_1
                        replace p5 := eq_true p5
                        replace q5 := eq_true q5
                        go_wp2
                        go_ret
                        exact ⟨by first | rfl | (simp; done) | (simp [*]; done), by repeat (first | exact Drawn0.refl _ | apply Drawn0.step)⟩
                      · rw [if_neg c27] at H
                        have c27b0 : decide (57 < (bt a0 x8_1)) = false := decide_eq_false c27
                        clear c27
                        have H' := Aside0.mk H
                        clear H
                        have p5 : 0 ≤ (x8_1 : Int) := of_decide_eq_true (by first | (with_reducible assumption) | assumption)
                        have q5 : x8_1 < (a0.size : Int) := of_decide_eq_true (by first | (with_reducible assumption) | assumption)
                        have hx5 := bt_at a0 x8_1
                        replace p5 := eq_true p5
                        replace q5 := eq_true q5
                        go_wp2
                        go_roundg k1
                        case measure => have := HK1.out; omega
                        case rel => exact ⟨(wrap64 (x8_1 + 1)), (by first | rfl | (simp; done) | (simp [*]; done)), H', ⟨by have := HK1.out; omega⟩, by repeat (first | exact Drawn0.refl _ | apply Drawn0.step)⟩
          · rw [if_neg c4] at H
            exact absurd H (by simp)
        · rw [if_neg c3] at H
          exact absurd H (by simp)
      · rw [if_neg c2] at H
        have c2b0 : decide (x8_1 < (a0.size : Int)) = false := decide_eq_false c2
        clear c2
        replace H := Option.bind_eq_some_iff.mp H
        obtain ⟨t148, A280, H⟩ := H
        replace H : (some t148) = some r := H
        have A28 := Aside0.mk A280
        clear A280
        obtain rfl := Option.some.inj H
        go_wp2_with (first | ((with_reducible refine gate_callee (f := 42) rfl ?_); refine goesL_ (some 49) rfl rfl Try.func42 (by kernel_rfl) rfl #[.int .i64 (a0.size : Int), .int .i64 1, .int .i64 40] rfl (by (try simp only [List.map_toArray, List.map_cons, List.map_nil]); first | done | rfl | (simp only [List.length_drop, List.length_take]; rfl)) ?_; (with_reducible refine (impl_within.calls (a0.size : Int) 1 40 t148 _ A28.out).mono ?_); rintro e w' ⟨rfl, ⟨nd, rfl⟩⟩; refine ⟨_, rfl, ?_⟩))
        go_ret
        exact ⟨by first | rfl | (simp; done) | (simp [*]; done), by repeat (first | exact Drawn0.refl _ | apply Drawn0.step)⟩

end Go.Proofs.Ytppgnndolgmcfaa.Q

namespace Go.Proofs.Ytppgnndolgmcfaa.Q
open Go.RowKit Go.Proofs.YtppgnndolgmcfaaW.PrintWords Go.Proofs.YtppgnndolgmcfaaW.PrintLast Go.Proofs.YtppgnndolgmcfaaW.PrintMore
attribute [local go_sem] max2_int min2_int max_two min_two max_three min_three max_four min_four   -- for this text's walks alone
set_option linter.unusedVariables false
set_option linter.unusedSimpArgs false

/-! ### impl_DenomOK: function 55 -/
def impl_DenomOK.f (k : Nat) (a0 : ByteArray) : Option (Bool) := (impl_NameOK.f k a0).bind fun t149 => (if t149 = true then (some (decide ((a0.size : Int) ≤ 12))) else (some false))
theorem impl_DenomOK.mono : ∀ a0 k, LeO (impl_DenomOK.f k a0) (impl_DenomOK.f (k + 1) a0) := by
  intro a0 k
  unfold impl_DenomOK.f
  repeat' first
      | (with_reducible exact impl_NameOK.mono _ _)
      | (with_reducible exact LeO.refl _)
      | (with_reducible exact LeO.none _)
      | (with_reducible refine LeO.ite ?_ ?_)
      | (with_reducible refine LeO.bind ?_ (fun _ => ?_))
      | exact impl_NameOK.mono _ _
      | exact LeO.none _
      | refine LeO.ite ?_ ?_
      | refine LeO.bind ?_ (fun _ => ?_)
set_option maxHeartbeats 8000000 in
set_option maxRecDepth 100000 in
theorem impl_DenomOK.calls (k : Nat) (a0 : ByteArray) (r : Bool) (w : World) (h : impl_DenomOK.f k a0 = some r) :
    Calls Try.prog 55 #[.string a0] w fun e w' => e = .returned (.bool r) ∧ Drawn0 w w' := by
  have H : ((impl_NameOK.f k a0).bind fun t149 => (if t149 = true then (some (decide ((a0.size : Int) ≤ 12))) else (some false))) = some r := h
  clear h
  replace H := Option.bind_eq_some_iff.mp H
  obtain ⟨t149, A20, H⟩ := H
  replace H : (if t149 = true then (some (decide ((a0.size : Int) ≤ 12))) else (some false)) = some r := H
  have A2 := Aside0.mk A20
  clear A20
  by_cases c3 : t149 = true
  · subst c3
    have H1 : (some (decide ((a0.size : Int) ≤ 12))) = some r := by rw [if_pos rfl] at H; exact H
    clear H
    have H := H1
    clear H1
    obtain rfl := Option.some.inj H
    go_enter Try.func55, Try.ntmps55
    go_wp2_with (first | ((with_reducible refine gate_callee (f := 70) rfl ?_); refine goesL_ (some 4) rfl rfl Try.func70 (by kernel_rfl) rfl #[.string a0] rfl (by (try simp only [List.map_toArray, List.map_cons, List.map_nil]); first | done | rfl | (simp only [List.length_drop, List.length_take]; rfl)) ?_; (with_reducible refine (impl_NameOK.calls k a0 true _ A2.out).mono ?_); rintro e w' ⟨rfl, ⟨nd, rfl⟩⟩; refine ⟨_, rfl, ?_⟩))
    go_ret
    exact ⟨by first | rfl | (simp; done) | (simp [*]; done), by repeat (first | exact Drawn0.refl _ | apply Drawn0.step)⟩
  · replace c3 := Bool.eq_false_iff.mpr c3
    subst c3
    have H1 : (some false) = some r := by rw [if_neg (show ¬ (false = true) by decide)] at H; exact H
    clear H
    have H := H1
    clear H1
    obtain rfl := Option.some.inj H
    go_enter Try.func55, Try.ntmps55
    go_wp2_with (first | ((with_reducible refine gate_callee (f := 70) rfl ?_); refine goesL_ (some 4) rfl rfl Try.func70 (by kernel_rfl) rfl #[.string a0] rfl (by (try simp only [List.map_toArray, List.map_cons, List.map_nil]); first | done | rfl | (simp only [List.length_drop, List.length_take]; rfl)) ?_; (with_reducible refine (impl_NameOK.calls k a0 false _ A2.out).mono ?_); rintro e w' ⟨rfl, ⟨nd, rfl⟩⟩; refine ⟨_, rfl, ?_⟩))
    go_ret
    exact ⟨by first | rfl | (simp; done) | (simp [*]; done), by repeat (first | exact Drawn0.refl _ | apply Drawn0.step)⟩

end Go.Proofs.Ytppgnndolgmcfaa.Q

namespace Go.Proofs.Ytppgnndolgmcfaa.Q
open Go.RowKit Go.Proofs.YtppgnndolgmcfaaW.PrintWords Go.Proofs.YtppgnndolgmcfaaW.PrintLast Go.Proofs.YtppgnndolgmcfaaW.PrintMore
attribute [local go_sem] max2_int min2_int max_two min_two max_three min_three max_four min_four   -- for this text's walks alone
set_option linter.unusedVariables false
set_option linter.unusedSimpArgs false

/-! ### impl_areNames: function 40 -/
def impl_areNames.l0 : Nat → List ByteArray → Int → Int → Option (Bool)
  | 0, _, _, _ => none
  | k + 1, x5, x6, x7 => if x7 < x6 then (if 0 ≤ x7 then (if x7 < (x5.length : Int) then ((impl_DenomOK.f k (rdOf ByteArray.empty x5 x7)).bind fun t151 => (if t151 = true then (impl_areNames.l0 k x5 x6 (wrap64 (x7 + 1))) else (some false))) else (none)) else (none)) else (some true)
def impl_areNames.f (k : Nat) (l0 : List ByteArray) : Option (Bool) := impl_areNames.l0 k l0 (l0.length : Int) 0
theorem impl_areNames.mono_l : ∀ k, (∀ y0 y1 y2, LeO (impl_areNames.l0 k y0 y1 y2) (impl_areNames.l0 (k + 1) y0 y1 y2))
  | 0 => fun _ _ _ r h => by simp [impl_areNames.l0] at h
  | k + 1 => by
    have ih0 := impl_areNames.mono_l k
    · intro y0 y1 y2
      unfold impl_areNames.l0
      repeat' first
      | (with_reducible exact ih0 _ _ _)
      | (with_reducible exact impl_DenomOK.mono _ _)
      | (with_reducible exact LeO.refl _)
      | (with_reducible exact LeO.none _)
      | (with_reducible refine LeO.ite ?_ ?_)
      | (with_reducible refine LeO.bind ?_ (fun _ => ?_))
      | exact ih0 _ _ _
      | exact impl_DenomOK.mono _ _
      | exact LeO.none _
      | refine LeO.ite ?_ ?_
      | refine LeO.bind ?_ (fun _ => ?_)
theorem impl_areNames.mono : ∀ a0 k, LeO (impl_areNames.f k a0) (impl_areNames.f (k + 1) a0) := by
  intro a0 k
  have ih0 := impl_areNames.mono_l k
  unfold impl_areNames.f
  repeat' first
      | (with_reducible exact ih0 _ _ _)
      | (with_reducible exact impl_DenomOK.mono _ _)
      | (with_reducible exact LeO.refl _)
      | (with_reducible exact LeO.none _)
      | (with_reducible refine LeO.ite ?_ ?_)
      | (with_reducible refine LeO.bind ?_ (fun _ => ?_))
      | exact ih0 _ _ _
      | exact impl_DenomOK.mono _ _
      | exact LeO.none _
      | refine LeO.ite ?_ ?_
      | refine LeO.bind ?_ (fun _ => ?_)
set_option maxHeartbeats 8000000 in
set_option maxRecDepth 100000 in
theorem impl_areNames.calls (k : Nat) (A0 : Option Addr) (c0 : Nat) (l0 : List ByteArray) (r : Bool) (w : World) (hr0 : Kd.C Kd.string w A0 l0.length l0) (hc0 : l0.length ≤ c0) (h : impl_areNames.f k l0 = some r) :
    Calls Try.prog 40 #[.slice A0 l0.length c0] w fun e w' => e = .returned (.bool r) ∧ Drawn0 w w' := by
  have HR0 := Aside0.mk hr0
  have HC0 := Aside0.mk hc0
  clear hr0 hc0
  have H : (impl_areNames.l0 k l0 (l0.length : Int) 0) = some r := h
  clear h
  have H' := Aside0.mk H
  clear H
  go_enter Try.func40, Try.ntmps40
  go_wp2
  go_loopg [7] k (fun kq v7 w' => ∃ (x7_1 : Int), v7 = .int .i64 x7_1 ∧ Aside0 (impl_areNames.l0 kq l0 (l0.length : Int) x7_1 = some r) ∧ Aside0 (kq ≤ k) ∧ Drawn0 w w')
  case atStart => exact ⟨(0), (by first | rfl | (simp; done) | (simp [*]; done)), H', ⟨Nat.le_refl _⟩, by repeat (first | exact Drawn0.refl _ | apply Drawn0.step)⟩
  case round =>
    clear H'
    obtain ⟨x7_1, rfl, HA, HK1, ⟨m1, rfl⟩⟩ := hrel
    cases gk with
    | zero => exact absurd HA.out (by simp [impl_areNames.l0])
    | succ k1 =>
      have H := HA.out
      clear HA
      simp only [impl_areNames.l0] at H
      by_cases c2 : x7_1 < (l0.length : Int)
      · rw [if_pos c2] at H
        have c2b0 : decide (x7_1 < (l0.length : Int)) = true := decide_eq_true c2
        clear c2
        by_cases c3 : 0 ≤ x7_1
        · rw [if_pos c3] at H
          have c3b0 : decide (0 ≤ x7_1) = true := decide_eq_true c3
          clear c3
          by_cases c4 : x7_1 < (l0.length : Int)
          · rw [if_pos c4] at H
            have c4b0 : decide (x7_1 < (l0.length : Int)) = true := decide_eq_true c4
            clear c4
            replace H := Option.bind_eq_some_iff.mp H
            obtain ⟨t151, A50, H⟩ := H
            replace H : (if t151 = true then (impl_areNames.l0 k1 l0 (l0.length : Int) (wrap64 (x7_1 + 1))) else (some false)) = some r := H
            have A5 := Aside0.mk A50
            clear A50
            by_cases c6 : t151 = true
            · subst c6
              have H1 : (impl_areNames.l0 k1 l0 (l0.length : Int) (wrap64 (x7_1 + 1))) = some r := by rw [if_pos rfl] at H; exact H
              clear H
              have H := H1
              clear H1
              have H' := Aside0.mk H
              clear H
              have p150 : 0 ≤ (x7_1 : Int) := of_decide_eq_true (by first | (with_reducible assumption) | assumption)
              have q150 : x7_1 < (l0.length : Int) := of_decide_eq_true (by first | (with_reducible assumption) | assumption)
              obtain ⟨ad150, e150, hx150_0⟩ := Kd.at_string HR0.out x7_1 p150 q150
              cases e150
              replace p150 := eq_true p150
              replace q150 := eq_true q150
              go_wp2_with (first | ((with_reducible refine gate_callee (f := 55) rfl ?_); refine goesL_ (some 12) rfl rfl Try.func55 (by kernel_rfl) rfl #[.string (rdOf ByteArray.empty l0 x7_1)] rfl (by (try simp only [List.map_toArray, List.map_cons, List.map_nil]); first | done | rfl | (simp only [List.length_drop, List.length_take]; rfl)) ?_; (with_reducible refine (impl_DenomOK.calls k1 (rdOf ByteArray.empty l0 x7_1) true _ A5.out).mono ?_); rintro e w' ⟨rfl, ⟨nd, rfl⟩⟩; refine ⟨_, rfl, ?_⟩))
              go_roundg k1
              case measure => have := HK1.out; omega
              case rel => exact ⟨(wrap64 (x7_1 + 1)), (by first | rfl | (simp; done) | (simp [*]; done)), H', ⟨by have := HK1.out; omega⟩, by repeat (first | exact Drawn0.refl _ | apply Drawn0.step)⟩
            · replace c6 := Bool.eq_false_iff.mpr c6
              subst c6
              have H1 : (some false) = some r := by rw [if_neg (show ¬ (false = true) by decide)] at H; exact H
              clear H
              have H := H1
              clear H1
              obtain rfl := Option.some.inj H
              have p150 : 0 ≤ (x7_1 : Int) := of_decide_eq_true (by first | (with_reducible assumption) | assumption)
              have q150 : x7_1 < (l0.length : Int) := of_decide_eq_true (by first | (with_reducible assumption) | assumption)
              obtain ⟨ad150, e150, hx150_0⟩ := Kd.at_string HR0.out x7_1 p150 q150
              cases e150
              replace p150 := eq_true p150
              replace q150 := eq_true q150
              go_wp2_with (first | ((with_reducible refine gate_callee (f := 55) rfl ?_); refine goesL_ (some 12) rfl rfl Try.func55 (by kernel_rfl) rfl #[.string (rdOf ByteArray.empty l0 x7_1)] rfl (by (try simp only [List.map_toArray, List.map_cons, List.map_nil]); first | done | rfl | (simp only [List.length_drop, List.length_take]; rfl)) ?_; (with_reducible refine (impl_DenomOK.calls k1 (rdOf ByteArray.empty l0 x7_1) false _ A5.out).mono ?_); rintro e w' ⟨rfl, ⟨nd, rfl⟩⟩; refine ⟨_, rfl, ?_⟩))
              go_ret
              exact ⟨by first | rfl | (simp; done) | (simp [*]; done), by repeat (first | exact Drawn0.refl _ | apply Drawn0.step)⟩
          · rw [if_neg c4] at H
            exact absurd H (by simp)
        · rw [if_neg c3] at H
          exact absurd H (by simp)
      · rw [if_neg c2] at H
        have c2b0 : decide (x7_1 < (l0.length : Int)) = false := decide_eq_false c2
        clear c2
        obtain rfl := Option.some.inj H
        go_wp2
        go_ret
        exact ⟨by first | rfl | (simp; done) | (simp [*]; done), by repeat (first | exact Drawn0.refl _ | apply Drawn0.step)⟩

end Go.Proofs.Ytppgnndolgmcfaa.Q

namespace Go.Proofs.Ytppgnndolgmcfaa.Q
open Go.RowKit Go.Proofs.YtppgnndolgmcfaaW.PrintWords Go.Proofs.YtppgnndolgmcfaaW.PrintLast Go.Proofs.YtppgnndolgmcfaaW.PrintMore
attribute [local go_sem] max2_int min2_int max_two min_two max_three min_three max_four min_four   -- for this text's walks alone
set_option linter.unusedVariables false
set_option linter.unusedSimpArgs false


/-! ### slices_IndexFunc_string_string: function 68 -/
/-- slices.IndexFunc over texts, at a plain predicate that captures nothing. -/
theorem slices_IndexFunc_string_string.at_ (g : Nat) (eg : ∀ args w, (callFunc g args).run Try.prog w = .ok (.enter g args) w) (p : ByteArray → Bool)
    (hp : ∀ x W, Calls Try.prog g #[.string x] W fun e W' => e = .returned (.bool (p x)) ∧ Drawn0 W W')
    (A0 : Option Addr) (c0 : Nat) (l0 : List ByteArray) (w : World) (hr0 : Kd.C Kd.string w A0 l0.length l0) :
    Calls Try.prog 68 #[.slice A0 l0.length c0, .func (.func g) #[] #[]] w fun e w' => (∃ r : Int, e = .returned (.int .i64 r) ∧ Aside0 (decide (0 ≤ r) = l0.any p)) ∧ Drawn0 w w' := by
  have HR0 := Aside0.mk hr0
  have hmax : l0.length ≤ 9223372036854775807 := hr0.2.1
  clear hr0
  go_enter Try.func68, Try.ntmps68
  go_wp2
  go_loopg [5, 8] l0.length (fun gg _ s8 wr => ∃ kk : Nat, kk ≤ l0.length ∧ l0.length - kk ≤ gg ∧ s8 = .int .i64 kk ∧ Aside0 ((l0.take kk).any p = false) ∧ Drawn0 w wr)
  case atStart => exact ⟨0, Nat.zero_le _, by omega, rfl, ⟨rfl⟩, by repeat (first | exact Drawn0.refl _ | apply Drawn0.step)⟩
  case round =>
    obtain ⟨kk, hkk, hg, rfl, A, ⟨m1, rfl⟩⟩ := hrel
    by_cases hlt : kk < l0.length
    · have hltz : (kk : Int) < (l0.length : Int) := by omega
      have p145 : 0 ≤ (kk : Int) := by omega
      obtain ⟨ad145, e145, hx145_0⟩ := Kd.at_string HR0.out kk p145 hltz
      cases e145
      rw [Int.toNat_natCast] at hx145_0
      have hT : Aside0 ((l0.take (kk + 1)).any p = p (rdOf ByteArray.empty l0 kk)) := ⟨by
        have hx : l0[kk]? = some (rdOf ByteArray.empty l0 kk) := by
          simp only [rdOf, Int.toNat_natCast, List.getD_eq_getElem?_getD]
          rw [List.getElem?_eq_getElem hlt]; rfl
        rw [List.take_add_one, hx, List.any_append, A.out]; simp⟩
      generalize rdOf ByteArray.empty l0 kk = x at *
      have hcall := hp x
      clear hp
      cases hq : p x with
      | true =>
        rw [hq] at hcall hT
        clear hq
        go_wp2_with (go_at_fn g; refine (hcall _).mono ?_; rintro e w' ⟨rfl, ⟨q', rfl⟩⟩)
        go_ret
        refine ⟨⟨_, rfl, ⟨?_⟩⟩, by repeat (first | exact Drawn0.refl _ | apply Drawn0.step)⟩
        have h2 : l0.any p = true := by
          have := hT.out
          rw [← List.take_append_drop (kk + 1) l0, List.any_append, this]; rfl
        rw [h2]; simp
      | false =>
        rw [hq] at hcall hT
        clear hq
        go_wp2_with (go_at_fn g; refine (hcall _).mono ?_; rintro e w' ⟨rfl, ⟨q', rfl⟩⟩)
        go_roundg (l0.length - (kk + 1))
        case measure => omega
        case rel => exact ⟨kk + 1, by omega, by omega, by go_num, hT, by repeat (first | exact Drawn0.refl _ | apply Drawn0.step)⟩
    · have hltz : ¬ (kk : Int) < (l0.length : Int) := by omega
      have hkl : Aside0 (kk = l0.length) := ⟨by omega⟩
      go_wp2
      go_ret
      refine ⟨⟨_, rfl, ⟨?_⟩⟩, by repeat (first | exact Drawn0.refl _ | apply Drawn0.step)⟩
      have := A.out
      rw [hkl.out, List.take_length] at this
      rw [this]; rfl

end Go.Proofs.Ytppgnndolgmcfaa.Q

namespace Go.Proofs.Ytppgnndolgmcfaa.Q
open Go.RowKit Go.Proofs.YtppgnndolgmcfaaW.PrintWords Go.Proofs.YtppgnndolgmcfaaW.PrintLast Go.Proofs.YtppgnndolgmcfaaW.PrintMore
attribute [local go_sem] max2_int min2_int max_two min_two max_three min_three max_four min_four   -- for this text's walks alone
set_option linter.unusedVariables false
set_option linter.unusedSimpArgs false


/-! ### slices_ContainsFunc_string_string: function 52 -/
theorem slices_ContainsFunc_string_string.at_ (g : Nat) (eg : ∀ args w, (callFunc g args).run Try.prog w = .ok (.enter g args) w) (p : ByteArray → Bool)
    (hp : ∀ x W, Calls Try.prog g #[.string x] W fun e W' => e = .returned (.bool (p x)) ∧ Drawn0 W W')
    (A0 : Option Addr) (c0 : Nat) (l0 : List ByteArray) (w : World) (hr0 : Kd.C Kd.string w A0 l0.length l0) :
    Calls Try.prog 52 #[.slice A0 l0.length c0, .func (.func g) #[] #[]] w fun e w' => e = .returned (.bool (l0.any p)) ∧ Drawn0 w w' := by
  go_enter Try.func52, Try.ntmps52
  go_wp2_with (go_at_call 68; refine (slices_IndexFunc_string_string.at_ g eg p hp A0 c0 l0 _ hr0).mono ?_; rintro e w' ⟨⟨r, rfl, hr⟩, ⟨q', rfl⟩⟩)
  go_ret
  exact ⟨by rw [← hr.out]; first | rfl | (simp; done), by repeat (first | exact Drawn0.refl _ | apply Drawn0.step)⟩

end Go.Proofs.Ytppgnndolgmcfaa.Q

namespace Go.Proofs.Ytppgnndolgmcfaa.Q
open Go.RowKit Go.Proofs.YtppgnndolgmcfaaW.PrintWords Go.Proofs.YtppgnndolgmcfaaW.PrintLast Go.Proofs.YtppgnndolgmcfaaW.PrintMore
attribute [local go_sem] max2_int min2_int max_two min_two max_three min_three max_four min_four   -- for this text's walks alone
set_option linter.unusedVariables false
set_option linter.unusedSimpArgs false


/-! ### impl_isPeople: function 41 -/
def impl_isPeople.bad (t : ByteArray) : Bool := t.toList == ([101, 115, 99, 114, 111, 119] : List UInt8) || (t.toList == ([111, 114, 100, 101, 114, 115] : List UInt8) || (t.toList == ([116, 97, 107, 101, 115] : List UInt8) || t.toList == ([112, 111, 111, 108] : List UInt8)))
def impl_isPeople.f (k : Nat) (l0 : List ByteArray) : Option Bool := (impl_areNames.f k l0).bind fun t => if t = true then some (!(l0.any impl_isPeople.bad)) else some false
theorem impl_isPeople.mono : ∀ a0 k, LeO (impl_isPeople.f k a0) (impl_isPeople.f (k + 1) a0) := fun a0 k => LeO.bind (impl_areNames.mono _ _) (fun _ => LeO.refl _)
theorem impl_isPeople.lit (a0 : ByteArray) (w : World) :
    Calls Try.prog 56 #[.string a0] w fun e w' => e = .returned (.bool (impl_isPeople.bad a0)) ∧ Drawn0 w w' := by
  unfold impl_isPeople.bad
  cases h1 : (a0.toList == ([101, 115, 99, 114, 111, 119] : List UInt8)) <;> cases h2 : (a0.toList == ([111, 114, 100, 101, 114, 115] : List UInt8)) <;> cases h3 : (a0.toList == ([116, 97, 107, 101, 115] : List UInt8)) <;>
  · go_enter Try.func56, Try.ntmps56
    go_wp2
    go_ret
    exact ⟨by first | rfl | (simp; done) | (simp [*]; done), by repeat (first | exact Drawn0.refl _ | apply Drawn0.step)⟩
theorem impl_isPeople.calls (k : Nat) (A0 : Option Addr) (c0 : Nat) (l0 : List ByteArray) (r : Bool) (w : World) (hr0 : Kd.C Kd.string w A0 l0.length l0) (hc0 : l0.length ≤ c0) (h : impl_isPeople.f k l0 = some r) :
    Calls Try.prog 41 #[.slice A0 l0.length c0] w fun e w' => e = .returned (.bool r) ∧ Drawn0 w w' := by
  obtain ⟨t, ht, h⟩ := Option.bind_eq_some_iff.mp h
  have HA := Aside0.mk ht
  clear ht
  cases t with
  | true =>
    rw [if_pos rfl] at h
    obtain rfl := Option.some.inj h
    go_enter Try.func41, Try.ntmps41
    go_wp2_with (first
      | (go_at_call 40; refine (impl_areNames.calls k A0 c0 l0 _ _ hr0 hc0 HA.out).mono ?_; rintro e w' ⟨rfl, ⟨q', rfl⟩⟩)
      | (go_at_call 52; refine (slices_ContainsFunc_string_string.at_ 56 (enters_of Try.func56 (by kernel_rfl) rfl) _ impl_isPeople.lit A0 c0 l0 _ (by exact Kd.C_drewN hr0 _)).mono ?_; rintro e w' ⟨rfl, ⟨q', rfl⟩⟩))
    go_ret
    exact ⟨rfl, by repeat (first | exact Drawn0.refl _ | apply Drawn0.step)⟩
  | false =>
    rw [if_neg (by decide)] at h
    obtain rfl := Option.some.inj h
    go_enter Try.func41, Try.ntmps41
    go_wp2_with (first
      | (go_at_call 40; refine (impl_areNames.calls k A0 c0 l0 _ _ hr0 hc0 HA.out).mono ?_; rintro e w' ⟨rfl, ⟨q', rfl⟩⟩))
    go_ret
    exact ⟨rfl, by repeat (first | exact Drawn0.refl _ | apply Drawn0.step)⟩

end Go.Proofs.Ytppgnndolgmcfaa.Q

/- Names of accounts and denominations: as the reference and as the program read them. -/
namespace Go.Proofs.Ytppgnndolgmcfaa.U
open Go Go.RowKit Go.Proofs.Ytppgnndolgmcfaa.Q Go.Proofs.YtppgnndolgmcfaaW.PrintWords Go.Proofs.YtppgnndolgmcfaaW.PrintLast Go.Proofs.YtppgnndolgmcfaaW.PrintMore
set_option linter.unusedVariables false
set_option linter.unusedSimpArgs false

def Letter (c : Int) : Prop := (97 ≤ c ∧ c ≤ 122) ∨ (65 ≤ c ∧ c ≤ 90) ∨ c = 95
def Digit (c : Int) : Prop := 48 ≤ c ∧ c ≤ 57
def IsName (x : ByteArray) : Prop := 1 ≤ x.size ∧ x.size ≤ 40 ∧ ∀ j : Int, 0 ≤ j → j < (x.size : Int) → Letter (bt x j) ∨ (j ≠ 0 ∧ Digit (bt x j))
instance (c : Int) : Decidable (Letter c) := by unfold Letter; infer_instance
instance (c : Int) : Decidable (Digit c) := by unfold Digit; infer_instance

theorem nameok_l0 (x : ByteArray) (hn : (x.size : Int) ≤ 140737488351232) (d : Nat) : ∀ i : Int, 0 ≤ i → i ≤ (x.size : Int) → (x.size : Int) - i = d →
    ∃ b, Ev (fun k => impl_NameOK.l0 k x (x.size : Int) i) b ∧ (b = true ↔ (∀ j : Int, i ≤ j → j < (x.size : Int) → Letter (bt x j) ∨ (j ≠ 0 ∧ Digit (bt x j))) ∧ 1 ≤ x.size ∧ x.size ≤ 40) := by
  induction d with
  | zero =>
    intro i h0 h1 hd
    refine ⟨decide (1 ≤ (x.size : Int) ∧ (x.size : Int) ≤ 40), Ev.step (fun k => ?_) (Ev.now _), ?_⟩
    · rw [impl_NameOK.l0, if_neg (by omega)]
      unfold impl_within.f
      by_cases h : (x.size : Int) ≥ 1
      · rw [if_pos h]
        simp only [Option.bind_some]
        congr 1
        exact decide_eq_decide.2 ⟨fun y => ⟨h, y⟩, fun y => y.2⟩
      · rw [if_neg h, decide_eq_false (fun y => h y.1)]
        rfl
    · rw [decide_eq_true_iff]
      exact ⟨fun h => ⟨fun j hj hj' => by omega, by omega, by omega⟩, fun h => by omega⟩
  | succ d ih =>
    intro i h0 h1 hd
    have hlt : i < (x.size : Int) := by omega
    by_cases hg : Letter (bt x i) ∨ (i ≠ 0 ∧ Digit (bt x i))
    · obtain ⟨b, hb, hb'⟩ := ih (i + 1) (by omega) (by omega) (by omega)
      refine ⟨b, Ev.step (fun k => ?_) hb, hb'.trans ⟨fun h => ⟨fun j hj hj' => ?_, h.2⟩, fun h => ⟨fun j hj hj' => h.1 j (by omega) hj', h.2⟩⟩⟩
      · rw [impl_NameOK.l0, if_pos hlt, if_pos h0, if_pos hlt, wid (n := i + 1) (by omega) (by omega)]
        unfold Letter Digit at hg
        generalize bt x i = c at *
        repeat' split
        all_goals first | rfl | (exfalso; omega)
      · by_cases e : j = i
        · subst e; exact hg
        · exact h.1 j (by omega) hj'
    · refine ⟨false, Ev.step (fun k => ?_) (Ev.now _), ⟨(fun h => by cases h), fun h => absurd (h.1 i (Int.le_refl _) hlt) hg⟩⟩
      rw [impl_NameOK.l0, if_pos hlt, if_pos h0, if_pos hlt]
      unfold Letter Digit at hg
      generalize bt x i = c at *
      repeat' split
      all_goals first | rfl | (exfalso; omega)

theorem NameOK_ev (x : ByteArray) (hn : (x.size : Int) ≤ 140737488351232) : ∃ b, Ev (fun k => impl_NameOK.f k x) b ∧ (b = true ↔ IsName x) := by
  obtain ⟨b, hb, hb'⟩ := nameok_l0 x hn x.size 0 (by omega) (by omega) (by omega)
  exact ⟨b, hb, hb'.trans ⟨fun h => ⟨h.2.1, h.2.2, h.1⟩, fun h => ⟨h.2.2, h.1, h.2.1⟩⟩⟩

theorem bool_of_iff {b : Bool} {p : Prop} [Decidable p] (h : b = true ↔ p) : b = decide p := by rw [Bool.eq_iff_iff, h, decide_eq_true_iff]
theorem letter_eq (c : Int) : spec_l00Letter.f c = some (decide (Letter c)) := by
  unfold spec_l00Letter.f
  repeat' split
  all_goals
    refine congrArg some (bool_of_iff ?_)
    unfold Letter
    first
    | exact ⟨fun _ => by omega, fun _ => rfl⟩
    | (rw [beq_iff_eq]; omega)
theorem digit_eq (c : Int) : spec_l00Digit.f c = some (decide (Digit c)) := by
  unfold spec_l00Digit.f
  split
  · refine congrArg some (bool_of_iff ?_)
    unfold Digit
    rw [decide_eq_true_iff]
    omega
  · refine congrArg some (bool_of_iff ?_)
    unfold Digit
    exact ⟨(fun h => by cases h), fun h => by omega⟩

theorem word_l0 (x : ByteArray) (hn : (x.size : Int) ≤ 40) (d : Nat) : ∀ i : Int, 1 ≤ i → i ≤ (x.size : Int) → (x.size : Int) - i = d →
    ∃ b, Ev (fun k => spec_l00Word.l0 k x i) b ∧ (b = true ↔ ∀ j : Int, i ≤ j → j < (x.size : Int) → Letter (bt x j) ∨ (j ≠ 0 ∧ Digit (bt x j))) := by
  induction d with
  | zero =>
    intro i h0 h1 hd
    exact ⟨true, Ev.step (fun k => by rw [spec_l00Word.l0, if_neg (by omega)]) (Ev.now _), ⟨fun _ j hj hj' => by omega, fun _ => rfl⟩⟩
  | succ d ih =>
    intro i h0 h1 hd
    have hlt : i < (x.size : Int) := by omega
    have hstep : ∀ k, spec_l00Word.l0 (k + 1) x i = if decide (Letter (bt x i)) = true then spec_l00Word.l0 k x (i + 1) else if decide (Digit (bt x i)) = true then spec_l00Word.l0 k x (i + 1) else some false := by
      intro k
      rw [spec_l00Word.l0, if_pos hlt, if_pos (by omega), letter_eq, digit_eq, wid (n := i + 1) (by omega) (by omega)]
      rfl
    by_cases hg : Letter (bt x i) ∨ Digit (bt x i)
    · obtain ⟨b, hb, hb'⟩ := ih (i + 1) (by omega) (by omega) (by omega)
      refine ⟨b, Ev.step (fun k => ?_) hb, hb'.trans ⟨fun h j hj hj' => ?_, fun h j hj hj' => h j (by omega) hj'⟩⟩
      · rw [hstep]
        rcases hg with hg | hg
        · rw [if_pos (decide_eq_true hg)]
        · rw [if_pos (decide_eq_true hg)]
          split <;> rfl
      · by_cases e : j = i
        · subst e; exact hg.imp id (fun y => ⟨by omega, y⟩)
        · exact h j (by omega) hj'
    · refine ⟨false, Ev.step (fun k => ?_) (Ev.now _), ⟨(fun h => by cases h), fun h => absurd ((h i (Int.le_refl _) hlt).imp id (fun y => y.2)) hg⟩⟩
      rw [hstep, if_neg (by rw [decide_eq_true_iff]; exact fun y => hg (.inl y)), if_neg (by rw [decide_eq_true_iff]; exact fun y => hg (.inr y))]

theorem Word_ev (x : ByteArray) : ∃ b, Ev (fun k => spec_l00Word.f k x) b ∧ (b = true ↔ IsName x) := by
  unfold spec_l00Word.f
  have hf : Ev (fun k => spec_l00Word.j0 k x true) false := Ev.step (fun k => by rw [spec_l00Word.j0, if_pos rfl]) (Ev.now _)
  by_cases h1 : (x.size : Int) < 1
  · simp only [if_pos h1]
    exact ⟨false, hf, ⟨(fun h => by cases h), fun h => by have := h.1; omega⟩⟩
  simp only [if_neg h1]
  by_cases h2 : (x.size : Int) > 40
  · simp only [if_pos h2]
    exact ⟨false, hf, ⟨(fun h => by cases h), fun h => by have := h.2.1; omega⟩⟩
  simp only [if_neg h2, if_pos (show (0 : Int) < (x.size : Int) by omega), letter_eq, Option.bind_some]
  by_cases h3 : Letter (bt x 0)
  · obtain ⟨b, hb, hb'⟩ := word_l0 x (by omega) (x.size - 1) 1 (by omega) (by omega) (by omega)
    refine ⟨b, ?_, hb'.trans ⟨fun h => ⟨by omega, by omega, fun j hj hj' => ?_⟩, fun h j hj hj' => h.2.2 j (by omega) hj'⟩⟩
    · rw [decide_eq_true h3]
      exact Ev.step (fun k => by rw [Bool.not_true, spec_l00Word.j0, if_neg (by decide)]) hb
    · by_cases e : j = 0
      · subst e; exact .inl h3
      · exact h j (by omega) hj'
  · rw [decide_eq_false h3]
    refine ⟨false, hf, ⟨(fun h => by cases h), fun h => ?_⟩⟩
    rcases h.2.2 0 (by omega) (by omega) with h | h
    · exact absurd h h3
    · exact absurd rfl h.1

noncomputable instance (x : ByteArray) : Decidable (IsName x) := Classical.propDecidable _
/-- A name of at most twelve bytes. -/
noncomputable def nameB (x : ByteArray) : Bool := decide (IsName x ∧ x.size ≤ 12)
noncomputable def peopleB (x : ByteArray) : Bool := nameB x && !impl_isPeople.bad x

theorem DenomOK_ev (x : ByteArray) (hn : (x.size : Int) ≤ 140737488351232) : Ev (fun k => impl_DenomOK.f k x) (nameB x) := by
  obtain ⟨b, hb, hb'⟩ := NameOK_ev x hn
  unfold impl_DenomOK.f
  refine Ev.bind hb ?_
  unfold nameB
  by_cases h : IsName x
  · simp only [hb'.2 h, if_true]
    rw [show decide ((x.size : Int) ≤ 12) = decide (IsName x ∧ x.size ≤ 12) from by rw [Bool.eq_iff_iff, decide_eq_true_iff, decide_eq_true_iff]; exact ⟨fun y => ⟨h, by omega⟩, fun y => by have := y.2; omega⟩]
    exact Ev.now _
  · obtain rfl : b = false := by cases b; rfl; exact absurd (hb'.1 rfl) h
    rw [decide_eq_false (fun y : IsName x ∧ x.size ≤ 12 => h y.1)]
    exact Ev.now _

theorem l05Name_ev (x : ByteArray) : Ev (fun k => spec_l05Name.f k x) (nameB x) := by
  obtain ⟨b, hb, hb'⟩ := Word_ev x
  unfold spec_l05Name.f nameB
  by_cases h12 : (x.size : Int) ≤ 12
  · simp only [if_pos h12]
    have : Ev (fun k => spec_NameOK.f k x) b := by unfold spec_NameOK.f; exact Ev.bind hb (Ev.now _)
    refine Ev.bind this ?_
    rw [show b = decide (IsName x ∧ x.size ≤ 12) from by rw [Bool.eq_iff_iff, decide_eq_true_iff, hb']; exact ⟨fun y => ⟨y, by omega⟩, fun y => y.1⟩]
    exact Ev.now _
  · simp only [if_neg h12]
    rw [decide_eq_false (fun y : IsName x ∧ x.size ≤ 12 => h12 (by have := y.2; omega))]
    exact Ev.now _

theorem l08Name_ev (x : ByteArray) : Ev (fun k => spec_l08Name.f k x) (peopleB x) := by
  unfold spec_l08Name.f
  refine Ev.bind (l05Name_ev x) ?_
  unfold peopleB impl_isPeople.bad
  cases nameB x with
  | false => exact Ev.now _
  | true =>
    simp only [if_true, Bool.true_and]
    by_cases h1 : x.toList = ([101, 115, 99, 114, 111, 119] : List UInt8)
    · simp only [h1, if_true]; exact Ev.now _
    · simp only [if_neg h1]
      by_cases h2 : x.toList = ([111, 114, 100, 101, 114, 115] : List UInt8)
      · simp only [h2, if_true]; exact Ev.now _
      · simp only [if_neg h2]
        by_cases h3 : x.toList = ([116, 97, 107, 101, 115] : List UInt8)
        · simp only [h3, if_true]; exact Ev.now _
        · simp only [if_neg h3, beq_eq_false_iff_ne.2 h1, beq_eq_false_iff_ne.2 h2, beq_eq_false_iff_ne.2 h3, Bool.false_or]
          exact Ev.now _

theorem areNames_go (l : List ByteArray) (hl : l.length < 1000000) (hn : ∀ x ∈ l, (x.size : Int) ≤ 140737488351232) : ∀ (d : Nat) (i : Nat), i + d = l.length →
    Ev (fun k => impl_areNames.l0 k l (l.length : Int) (i : Int)) ((l.drop i).all nameB) := by
  intro d
  induction d with
  | zero =>
    intro i hi
    refine Ev.step (fun k => ?_) (Ev.now _)
    rw [impl_areNames.l0, if_neg (by omega), List.drop_of_length_le (by omega)]
    rfl
  | succ d ih =>
    intro i hi
    have hlt : i < l.length := by omega
    have hx : rdOf ByteArray.empty l (i : Int) = l[i] := by simp [rdOf, List.getD_eq_getElem?_getD, List.getElem?_eq_getElem hlt]
    have h1 := DenomOK_ev l[i] (hn _ (List.getElem_mem hlt))
    have h2 := ih (i + 1) (by omega)
    rw [List.drop_eq_getElem_cons hlt, List.all_cons]
    have hstep : ∀ k, impl_areNames.l0 (k + 1) l (l.length : Int) (i : Int) = (impl_DenomOK.f k l[i]).bind fun t => if t = true then impl_areNames.l0 k l (l.length : Int) ((i + 1 : Nat) : Int) else some false := by
      intro k
      rw [impl_areNames.l0, if_pos (by omega), if_pos (by omega), if_pos (by omega), hx, wid (n := (i : Int) + 1) (by omega) (by omega)]
      rfl
    refine Ev.step hstep (Ev.bind h1 ?_)
    cases nameB l[i] with
    | false => exact Ev.now _
    | true =>
      simp only [if_true, Bool.true_and]
      exact h2
theorem areNames_ev (l : List ByteArray) (hl : l.length < 1000000) (hn : ∀ x ∈ l, (x.size : Int) ≤ 140737488351232) : Ev (fun k => impl_areNames.f k l) (l.all nameB) := by
  have := areNames_go l hl hn l.length 0 (by omega)
  unfold impl_areNames.f
  simpa using this
theorem isPeople_ev (l : List ByteArray) (hl : l.length < 1000000) (hn : ∀ x ∈ l, (x.size : Int) ≤ 140737488351232) : Ev (fun k => impl_isPeople.f k l) (l.all peopleB) := by
  unfold impl_isPeople.f
  refine Ev.bind (areNames_ev l hl hn) ?_
  have e : l.all peopleB = (l.all nameB && !l.any impl_isPeople.bad) := by
    clear hl hn
    induction l with
    | nil => rfl
    | cons a l ih =>
      simp only [List.all_cons, List.any_cons, ih, peopleB]
      cases nameB a <;> cases impl_isPeople.bad a <;> cases l.all nameB <;> cases l.any impl_isPeople.bad <;> rfl
  rw [e]
  cases l.all nameB with
  | false => exact Ev.now _
  | true => simp only [if_true, Bool.true_and]; exact Ev.now _

end Go.Proofs.Ytppgnndolgmcfaa.U

/- The quotes of a pool, and what a payment of an order buys: plain values, and that the reference and the program both come to them. -/
namespace Go.Proofs.Ytppgnndolgmcfaa.U
open Go Go.RowKit Go.Proofs.Ytppgnndolgmcfaa.Q Go.Proofs.YtppgnndolgmcfaaW.PrintWords Go.Proofs.YtppgnndolgmcfaaW.PrintLast Go.Proofs.YtppgnndolgmcfaaW.PrintMore
set_option linter.unusedVariables false
set_option linter.unusedSimpArgs false

theorem l01In_eq (n a b : Int) : spec_l01In.f n a b = some (decide (a ≤ n ∧ n ≤ b)) := by
  unfold spec_l01In.f
  by_cases h : n ≥ a
  · rw [if_pos h]; congr 1; exact decide_eq_decide.2 ⟨fun x => ⟨h, x⟩, fun x => x.2⟩
  · rw [if_neg h, decide_eq_false (fun x => h x.1)]

def inB (n : Int) : Bool := decide (1 ≤ n ∧ n ≤ 1000000000000000000)
theorem inB_iff {n : Int} : inB n = true ↔ 1 ≤ n ∧ n ≤ 1000000000000000000 := by unfold inB; rw [decide_eq_true_iff]
theorem isSome_B (n : Int) : impl_isSome.f n = some (inB n) := isSome_eq n
theorem l01In_B (n : Int) : spec_l01In.f n 1 1000000000000000000 = some (inB n) := l01In_eq n 1 _

/-! ### pools -/
def poolB (a b c : Int) : Bool := (a == 0 && (b == 0 && (c == 0))) || (inB a && (inB b && inB c))
theorem PoolOK_eq (a b c : Int) : impl_PoolOK.f a b c = some (poolB a b c) := by
  unfold impl_PoolOK.f poolB
  simp only [isSome_B, Option.bind_some]
  cases (a == 0 && (b == 0 && (c == 0))) <;> cases inB a <;> cases inB b <;> cases inB c <;> rfl
theorem specPoolOK_ev (a b c : Int) : Ev (fun k => spec_PoolOK.f k a b c) (poolB a b c) := by
  unfold spec_PoolOK.f poolB
  have hj : ∀ z : Bool, Ev (fun k => spec_PoolOK.j0 k z a b c) (z || (inB a && (inB b && inB c))) := by
    intro z
    refine Ev.step (fun k => ?_) (Ev.now _)
    rw [spec_PoolOK.j0]
    simp only [l01In_B, Option.bind_some]
    cases z <;> cases inB a <;> cases inB b <;> cases inB c <;> rfl
  by_cases h1 : a = 0
  · simp only [if_pos h1]
    by_cases h2 : b = 0
    · simp only [if_pos h2, beq_iff_eq.2 h1, beq_iff_eq.2 h2, Bool.true_and]
      exact hj _
    · simp only [if_neg h2, beq_eq_false_iff_ne.2 h2, Bool.false_and, Bool.and_false]
      exact hj _
  · simp only [if_neg h1, beq_eq_false_iff_ne.2 h1, Bool.false_and]
    exact hj _
theorem poolB_iff {a b c : Int} : poolB a b c = true ↔ (a = 0 ∧ b = 0 ∧ c = 0) ∨ ((1 ≤ a ∧ a ≤ 1000000000000000000) ∧ (1 ≤ b ∧ b ≤ 1000000000000000000) ∧ 1 ≤ c ∧ c ≤ 1000000000000000000) := by
  unfold poolB
  simp only [Bool.or_eq_true, Bool.and_eq_true, beq_iff_eq, inB_iff]

/-! ### a swap -/
def feeV (n : Int) : Int := n * 997 / 1000
def gotV (i o n : Int) : Int := o * feeV n / (i + feeV n)
def swapV (i o n : Int) : Int × Int := if i + n > 1000000000000000000 then (0, 13) else if feeV n = 0 then (0, 17) else if gotV i o n = 0 then (0, 17) else (gotV i o n, 0)
theorem fee_bd {n : Int} (h : 1 ≤ n) : 0 ≤ feeV n ∧ feeV n ≤ n := by unfold feeV; omega
theorem got_bd {i o n : Int} (hi : 1 ≤ i) (ho : 1 ≤ o) (hn : 1 ≤ n) : 0 ≤ gotV i o n ∧ gotV i o n < o := by
  have hf := fee_bd hn
  unfold gotV
  generalize feeV n = f at *
  refine ⟨Int.ediv_nonneg (Int.mul_nonneg (by omega) (by omega)) (by omega), ?_⟩
  rw [Int.ediv_lt_iff_lt_mul (by omega), Int.mul_add]
  have : 1 ≤ o * i := by
    have := Int.mul_le_mul ho hi (by omega : (0 : Int) ≤ 1) (by omega)
    omega
  omega

theorem l10Swap_ev (i o n : Int) (hi : 1 ≤ i) (hi' : i ≤ 1000000000000000000) (ho : 1 ≤ o) (ho' : o ≤ 1000000000000000000) (hn : 1 ≤ n) (hn' : n ≤ 1000000000000000000) :
    Ev (fun k => spec_l10Swap.f k i o n) (swapV i o n) := by
  unfold spec_l10Swap.f swapV
  have hf := fee_bd hn
  have h1 := l02MulDiv_ev n 997 1000 (by omega) hn' (by omega) (by omega) (by omega) (by omega)
  rw [if_pos (by show feeV n ≤ _; omega)] at h1
  refine Ev.bind h1 ?_
  simp only
  rw [wid (n := i + n) (by omega) (by omega)]
  have ef : n * 997 / 1000 = feeV n := rfl
  rw [ef]
  by_cases hov : i + n > 1000000000000000000
  · simp only [if_pos hov]; exact Ev.now _
  simp only [if_neg hov]
  by_cases hz : feeV n = 0
  · simp only [if_pos hz]; exact Ev.now _
  simp only [if_neg hz]
  have hg := got_bd hi ho hn
  have h2 := l02MulDiv_ev o (feeV n) (i + feeV n) (by omega) ho' (by omega) (by omega) (by omega) (by omega)
  have eg : o * feeV n / (i + feeV n) = gotV i o n := rfl
  rw [eg, if_pos (by omega)] at h2
  rw [wid (n := i + feeV n) (by omega) (by omega)]
  refine Ev.bind h2 ?_
  simp only [if_true]
  by_cases hq : gotV i o n = 0
  · simp only [if_pos hq]; exact Ev.now _
  · simp only [if_neg hq]; exact Ev.now _

def quoteSwapV (i o n : Int) : Int × Int := if (inB i && (inB o && inB n)) = true then swapV i o n else (0, 4)
theorem specQuoteSwap_ev (i o n : Int) : Ev (fun k => spec_QuoteSwap.f k i o n) (quoteSwapV i o n) := by
  unfold spec_QuoteSwap.f quoteSwapV
  simp only [l01In_B, Option.bind_some]
  cases h1 : inB i with
  | false => exact Ev.now _
  | true =>
    cases h2 : inB o with
    | false => exact Ev.now _
    | true =>
      cases h3 : inB n with
      | false => exact Ev.now _
      | true =>
        simp only [Bool.and_true, if_true]
        rw [inB_iff] at h1 h2 h3
        exact Ev.bind (l10Swap_ev i o n h1.1 h1.2 h2.1 h2.2 h3.1 h3.2) (Ev.now _)
theorem implQuoteSwap_ev (i o n : Int) : Ev (fun k => impl_QuoteSwap.f k i o n) (quoteSwapV i o n) := by
  unfold impl_QuoteSwap.f quoteSwapV
  simp only [isSome_B, Option.bind_some]
  have hbad : Ev (fun k => impl_QuoteSwap.j0 k i o n true) (0, 4) := Ev.step (fun k => by rw [impl_QuoteSwap.j0, if_pos rfl]) (Ev.now _)
  cases h1 : inB i with
  | false => exact hbad
  | true =>
    cases h2 : inB o with
    | false => exact hbad
    | true =>
      cases h3 : inB n with
      | false => exact hbad
      | true =>
        simp only [Bool.and_true, if_true, Bool.not_true]
        rw [inB_iff] at h1 h2 h3
        have hf := fee_bd h3.1
        have ef : n * 997 / 1000 = feeV n := rfl
        have hm1 := MulDiv_ev n 997 1000 (by omega) h3.2 (by omega) (by omega) (by omega) (by omega)
        rw [ef, if_pos (by omega)] at hm1
        unfold swapV
        by_cases hov : i + n > 1000000000000000000
        · simp only [if_pos hov]
          exact Ev.step (fun k => by rw [impl_QuoteSwap.j0, if_neg (by decide), wid (n := i + n) (by omega) (by omega), if_pos hov]) (Ev.now _)
        simp only [if_neg hov]
        have hg := got_bd h1.1 h2.1 h3.1
        have hm2 := MulDiv_ev o (feeV n) (i + feeV n) (by omega) h2.2 (by omega) (by omega) (by omega) (by omega)
        have eg : o * feeV n / (i + feeV n) = gotV i o n := rfl
        rw [eg, if_pos (by omega)] at hm2
        refine Ev.step (f := fun k => (impl_MulDiv.f k n 997 1000).bind fun b1 => (impl_MulDiv.f k o b1.1 (wrap64 (i + b1.1))).bind fun b2 => if b2.1 = 0 then some (0, 17) else some (b2.1, 0)) (fun k => by rw [impl_QuoteSwap.j0, if_neg (by decide), wid (n := i + n) (by omega) (by omega), if_neg hov]) ?_
        refine Ev.bind hm1 ?_
        simp only
        rw [wid (n := i + feeV n) (by omega) (by omega)]
        refine Ev.bind hm2 ?_
        simp only
        by_cases hz : feeV n = 0
        · have : gotV i o n = 0 := by unfold gotV; rw [hz]; simp
          simp only [if_pos hz, if_pos this]
          exact Ev.now _
        · simp only [if_neg hz]
          by_cases hq : gotV i o n = 0
          · simp only [if_pos hq]; exact Ev.now _
          · simp only [if_neg hq]; exact Ev.now _

/-! ### shares -/
def remV (A B S n : Int) : Int × Int × Int := if n > S then (0, 0, 12) else if A * n / S = 0 then (0, 0, 17) else if B * n / S = 0 then (0, 0, 17) else (A * n / S, B * n / S, 0)
def quoteRemoveV (A B S n : Int) : Int × Int × Int := if poolB A B S = true then (if inB n = true then remV A B S n else (0, 0, 4)) else (0, 0, 1)
theorem part_bd {A n S : Int} (hA : 1 ≤ A) (hn : 1 ≤ n) (hS : n ≤ S) : 0 ≤ A * n / S ∧ A * n / S ≤ A := by
  refine ⟨Int.ediv_nonneg (Int.mul_nonneg (by omega) (by omega)) (by omega), ?_⟩
  have : A * n ≤ A * S := Int.mul_le_mul_of_nonneg_left hS (by omega)
  have h := Int.ediv_le_ediv (by omega : 0 < S) this
  rwa [Int.mul_ediv_cancel _ (by omega)] at h
theorem specQuoteRemove_ev (A B S n : Int) : Ev (fun k => spec_QuoteRemove.f k A B S n) (quoteRemoveV A B S n) := by
  unfold spec_QuoteRemove.f quoteRemoveV
  refine Ev.bind (specPoolOK_ev A B S) ?_
  simp only [l01In_B, Option.bind_some]
  cases hp : poolB A B S with
  | false => exact Ev.now _
  | true =>
    simp only [if_true]
    cases h1 : inB n with
    | false => exact Ev.now _
    | true =>
      simp only [if_true]
      rw [inB_iff] at h1
      rw [poolB_iff] at hp
      unfold spec_l10Remove.f remV
      by_cases hgt : n > S
      · simp only [if_pos hgt]; exact Ev.now _
      simp only [if_neg hgt]
      rcases hp with hp | ⟨a1, a2, a3⟩
      · omega
      have p1 := part_bd a1.1 h1.1 (by omega : n ≤ S)
      have p2 := part_bd a2.1 h1.1 (by omega : n ≤ S)
      have m1 := l02MulDiv_ev A n S (by omega) a1.2 (by omega) h1.2 a3.1 a3.2
      rw [if_pos (by omega)] at m1
      have m2 := l02MulDiv_ev B n S (by omega) a2.2 (by omega) h1.2 a3.1 a3.2
      rw [if_pos (by omega)] at m2
      refine Ev.bind (a := if A * n / S = 0 then (0, 0, 17) else if B * n / S = 0 then (0, 0, 17) else (A * n / S, B * n / S, 0)) ?_ ?_
      · refine Ev.bind m1 (Ev.bind m2 ?_)
        simp only
        by_cases z1 : A * n / S = 0
        · simp only [if_pos z1]; exact Ev.now _
        · simp only [if_neg z1]
          by_cases z2 : B * n / S = 0
          · simp only [if_pos z2]; exact Ev.now _
          · simp only [if_neg z2]; exact Ev.now _
      · exact Ev.now _
theorem implQuoteRemove_ev (A B S n : Int) : Ev (fun k => impl_QuoteRemove.f k A B S n) (quoteRemoveV A B S n) := by
  unfold impl_QuoteRemove.f quoteRemoveV
  simp only [PoolOK_eq, isSome_B, Option.bind_some]
  cases hp : poolB A B S with
  | false => exact Ev.now _
  | true =>
    simp only [if_true]
    cases h1 : inB n with
    | false => exact Ev.now _
    | true =>
      simp only [if_true]
      rw [inB_iff] at h1
      rw [poolB_iff] at hp
      unfold remV
      by_cases hgt : n > S
      · simp only [if_pos hgt]; exact Ev.now _
      simp only [if_neg hgt]
      rcases hp with hp | ⟨a1, a2, a3⟩
      · omega
      have p1 := part_bd a1.1 h1.1 (by omega : n ≤ S)
      have p2 := part_bd a2.1 h1.1 (by omega : n ≤ S)
      have m1 := MulDiv_ev A n S (by omega) a1.2 (by omega) h1.2 a3.1 a3.2
      rw [if_pos (by omega)] at m1
      have m2 := MulDiv_ev B n S (by omega) a2.2 (by omega) h1.2 a3.1 a3.2
      rw [if_pos (by omega)] at m2
      refine Ev.bind m1 (Ev.bind m2 ?_)
      simp only
      by_cases z1 : A * n / S = 0
      · simp only [if_pos z1]; exact Ev.now _
      · simp only [if_neg z1]
        by_cases z2 : B * n / S = 0
        · simp only [if_pos z2]; exact Ev.now _
        · simp only [if_neg z2]; exact Ev.now _

/-- What is given for what is added, R the root of its product. -/
def addEndV (S n : Int) : Int × Int := if n = 0 then (0, 17) else if S + n > 1000000000000000000 then (0, 13) else (n, 0)
def addV (R A B S a b : Int) : Int × Int :=
  if A + a > 1000000000000000000 ∨ B + b > 1000000000000000000 then (0, 13) else
  if S = 0 then addEndV S R else
  if a * S / A > 1000000000000000000 ∨ b * S / B > 1000000000000000000 then (0, 13) else addEndV S (mn (a * S / A) (b * S / B))
def quoteAddV (R A B S a b : Int) : Int × Int := if poolB A B S = true then (if (inB a && inB b) = true then addV R A B S a b else (0, 4)) else (0, 1)

theorem mn_cases (a b : Int) : mn a b = a ∨ mn a b = b := by unfold mn; split; exact .inr rfl; exact .inl rfl

theorem specQuoteAdd_ev (R A B S a b : Int) (hR0 : 0 ≤ R) (hR1 : R ≤ 1000000000000000000) (hR2 : R * R ≤ a * b) (hR3 : a * b < (R + 1) * (R + 1)) : Ev (fun k => spec_QuoteAdd.f k A B S a b) (quoteAddV R A B S a b) := by
  unfold spec_QuoteAdd.f quoteAddV
  refine Ev.bind (specPoolOK_ev A B S) ?_
  simp only [l01In_B, Option.bind_some]
  cases hp : poolB A B S with
  | false => exact Ev.now _
  | true =>
    simp only [if_true]
    cases h1 : inB a with
    | false => exact Ev.now _
    | true =>
      cases h2 : inB b with
      | false => exact Ev.now _
      | true =>
        simp only [if_true, Bool.and_true]
        rw [inB_iff] at h1 h2
        rw [poolB_iff] at hp
        have hend : ∀ n : Int, 0 ≤ n → n ≤ 1000000000000000000 → 0 ≤ S → S ≤ 1000000000000000000 → Ev (fun k => spec_l10Add.j1 k n A B S) (addEndV S n) := by
          intro n hn hn' hS hS'
          unfold addEndV
          refine Ev.step (f := fun _ => if n = 0 then some (0, 17) else if S + n > 1000000000000000000 then some (0, 13) else some (n, 0)) (fun k => by rw [spec_l10Add.j1, wid (n := S + n) (by omega) (by omega)]) ?_
          by_cases z1 : n = 0
          · simp only [if_pos z1]; exact Ev.now _
          · simp only [if_neg z1]
            by_cases z2 : S + n > 1000000000000000000
            · simp only [if_pos z2]; exact Ev.now _
            · simp only [if_neg z2]; exact Ev.now _
        have hbad : Ev (fun k => spec_l10Add.j0 k a b true A B S) (0, 13) := Ev.step (fun k => by rw [spec_l10Add.j0, if_pos rfl]) (Ev.now _)
        have hgood : ¬ (A + a > 1000000000000000000 ∨ B + b > 1000000000000000000) → Ev (fun k => spec_l10Add.j0 k a b false A B S) (addV R A B S a b) := by
          intro hno
          unfold addV
          rw [if_neg hno]
          by_cases hS : S = 0
          · rw [if_pos hS]
            refine Ev.step (f := fun k => (spec_l02Root.f k a b).bind fun t => spec_l10Add.j1 k t A B S) (fun k => by rw [spec_l10Add.j0, if_neg (by decide), if_pos hS]) ?_
            exact Ev.bind (l02Root_ev a b R (by omega) h1.2 (by omega) h2.2 hR0 hR1 hR2 hR3) (hend R hR0 hR1 (by omega) (by omega))
          · rw [if_neg hS]
            rcases hp with hp | ⟨a1, a2, a3⟩
            · omega
            have m1 := l02MulDiv_ev a S A (by omega) h1.2 (by omega) a3.2 a1.1 a1.2
            have m2 := l02MulDiv_ev b S B (by omega) h2.2 (by omega) a3.2 a2.1 a2.2
            have q1 : 0 ≤ a * S / A := Int.ediv_nonneg (Int.mul_nonneg (by omega) (by omega)) (by omega)
            have q2 : 0 ≤ b * S / B := Int.ediv_nonneg (Int.mul_nonneg (by omega) (by omega)) (by omega)
            refine Ev.step (f := fun k => (spec_l02MulDiv.f k a S A).bind fun b1 => (spec_l02MulDiv.f k b S B).bind fun b2 => if b1.2 = true then (if b2.2 = true then spec_l10Add.j1 k (mn b1.1 b2.1) A B S else some (0, 13)) else some (0, 13)) (fun k => by rw [spec_l10Add.j0, if_neg (by decide), if_neg hS]) ?_
            refine Ev.bind m1 (Ev.bind m2 ?_)
            by_cases c1 : a * S / A ≤ 1000000000000000000
            · by_cases c2 : b * S / B ≤ 1000000000000000000
              · simp only [if_pos c1, if_pos c2, if_true]
                rw [if_neg (by omega)]
                refine hend _ ?_ ?_ (by omega) a3.2 <;> rcases mn_cases (a * S / A) (b * S / B) with e | e <;> rw [e] <;> omega
              · simp only [if_pos c1, if_neg c2, if_true]
                rw [if_pos (by omega)]
                exact Ev.now _
            · simp only [if_neg c1]
              rw [if_pos (show a * S / A > 1000000000000000000 ∨ b * S / B > 1000000000000000000 from .inl (by omega))]
              exact Ev.now _
        refine Ev.bind (a := addV R A B S a b) ?_ (Ev.now _)
        unfold spec_l10Add.f
        have hAb : 0 ≤ A ∧ A ≤ 1000000000000000000 ∧ 0 ≤ B ∧ B ≤ 1000000000000000000 := by omega
        rw [wid (n := A + a) (by omega) (by omega), wid (n := B + b) (by omega) (by omega)]
        by_cases o1 : A + a > 1000000000000000000
        · simp only [if_pos o1]
          have : addV R A B S a b = (0, 13) := by unfold addV; rw [if_pos (.inl o1)]
          rw [this]; exact hbad
        · simp only [if_neg o1]
          by_cases o2 : B + b > 1000000000000000000
          · have : addV R A B S a b = (0, 13) := by unfold addV; rw [if_pos (.inr o2)]
            rw [this, decide_eq_true o2]; exact hbad
          · rw [decide_eq_false o2]
            exact hgood (by omega)

theorem firstOf_ev (x y : Int) : Ev (fun k => impl_firstOf.f k [x, y]) (if x = 0 then y else x) := by
  unfold impl_firstOf.f
  have r0 : rd [x, y] 0 = x := rfl
  have r1 : rd [x, y] 1 = y := rfl
  have w0 : wrap64 (0 + 1) = 1 := by rw [wid (by omega) (by omega)]; rfl
  have w1 : wrap64 (1 + 1) = 2 := by rw [wid (by omega) (by omega)]; rfl
  have hl : (([x, y] : List Int).length : Int) = 2 := rfl
  by_cases h : x = 0
  · rw [if_pos h]
    refine Ev.step (fun k => by rw [impl_firstOf.l0, if_pos (by rw [hl]; omega), if_pos (by omega), if_pos (by rw [hl]; omega), r0, if_pos h, w0]) ?_
    by_cases h2 : y = 0
    · refine Ev.step (fun k => by rw [impl_firstOf.l0, if_pos (by rw [hl]; omega), if_pos (by omega), if_pos (by rw [hl]; omega), r1, if_pos h2, w1]) ?_
      refine Ev.step (fun k => by rw [impl_firstOf.l0, if_neg (by rw [hl]; omega)]) ?_
      rw [h2]; exact Ev.now _
    · exact Ev.step (fun k => by rw [impl_firstOf.l0, if_pos (by rw [hl]; omega), if_pos (by omega), if_pos (by rw [hl]; omega), r1, if_neg h2]) (Ev.now _)
  · rw [if_neg h]
    exact Ev.step (fun k => by rw [impl_firstOf.l0, if_pos (by rw [hl]; omega), if_pos (by omega), if_pos (by rw [hl]; omega), r0, if_neg h]) (Ev.now _)

theorem implQuoteAdd_ev (R A B S a b : Int) (hR0 : 0 ≤ R) (hR1 : R ≤ 1000000000000000000) (hR2 : R * R ≤ a * b) (hR3 : a * b < (R + 1) * (R + 1)) : Ev (fun k => impl_QuoteAdd.f k A B S a b) (quoteAddV R A B S a b) := by
  unfold impl_QuoteAdd.f quoteAddV
  simp only [PoolOK_eq, isSome_B, Option.bind_some]
  cases hp : poolB A B S with
  | false => exact Ev.now _
  | true =>
    simp only [if_true]
    have hbad : Ev (fun k => impl_QuoteAdd.j0 k a b true A B S) (0, 4) := Ev.step (fun k => by rw [impl_QuoteAdd.j0, if_pos rfl]) (Ev.now _)
    cases h1 : inB a with
    | false => exact hbad
    | true =>
      cases h2 : inB b with
      | false => exact hbad
      | true =>
        simp only [if_true, Bool.and_true, Bool.not_true]
        rw [inB_iff] at h1 h2
        rw [poolB_iff] at hp
        have hAb : 0 ≤ A ∧ A ≤ 1000000000000000000 ∧ 0 ≤ B ∧ B ≤ 1000000000000000000 ∧ 0 ≤ S ∧ S ≤ 1000000000000000000 := by omega
        refine Ev.step (f := fun k => if A + a > 1000000000000000000 then some (0, 13) else if B + b > 1000000000000000000 then some (0, 13) else (impl_Pool_shares.f k A B S a b).bind fun b1 => if b1.2 = 0 then (if b1.1 = 0 then some (0, 17) else if wrap64 (S + b1.1) > 1000000000000000000 then some (0, 13) else some (b1.1, 0)) else some (0, 13))
          (fun k => by rw [impl_QuoteAdd.j0, if_neg (by decide), wid (n := A + a) (by omega) (by omega), wid (n := B + b) (by omega) (by omega)]) ?_
        by_cases o1 : A + a > 1000000000000000000
        · have : addV R A B S a b = (0, 13) := by unfold addV; rw [if_pos (.inl o1)]
          simp only [if_pos o1, this]; exact Ev.now _
        by_cases o2 : B + b > 1000000000000000000
        · have : addV R A B S a b = (0, 13) := by unfold addV; rw [if_pos (.inr o2)]
          simp only [if_neg o1, if_pos o2, this]; exact Ev.now _
        simp only [if_neg o1, if_neg o2]
        have hend : ∀ n : Int, 0 ≤ n → n ≤ 1000000000000000000 → Ev (fun (_ : Nat) => if n = 0 then some ((0, 17) : Int × Int) else if wrap64 (S + n) > 1000000000000000000 then some (0, 13) else some (n, 0)) (addEndV S n) := by
          intro n hn hn'
          unfold addEndV
          rw [wid (n := S + n) (by omega) (by omega)]
          by_cases z1 : n = 0
          · simp only [if_pos z1]; exact Ev.now _
          · simp only [if_neg z1]
            by_cases z2 : S + n > 1000000000000000000
            · simp only [if_pos z2]; exact Ev.now _
            · simp only [if_neg z2]; exact Ev.now _
        unfold impl_Pool_shares.f addV
        rw [if_neg (by omega)]
        by_cases hS : S = 0
        · simp only [if_pos hS]
          refine Ev.bind (a := (R, 0)) (Ev.bind (RootOf_ev a b R (by omega) h1.2 (by omega) h2.2 hR0 hR1 hR2 hR3) (Ev.now _)) ?_
          exact hend R hR0 hR1
        · simp only [if_neg hS]
          rcases hp with hp | ⟨a1, a2, a3⟩
          · omega
          have m1 := MulDiv_ev a S A (by omega) h1.2 (by omega) a3.2 a1.1 a1.2
          have m2 := MulDiv_ev b S B (by omega) h2.2 (by omega) a3.2 a2.1 a2.2
          have q1 : 0 ≤ a * S / A := Int.ediv_nonneg (Int.mul_nonneg (by omega) (by omega)) (by omega)
          have q2 : 0 ≤ b * S / B := Int.ediv_nonneg (Int.mul_nonneg (by omega) (by omega)) (by omega)
          by_cases c1 : a * S / A ≤ 1000000000000000000
          · by_cases c2 : b * S / B ≤ 1000000000000000000
            · rw [if_pos c1] at m1
              rw [if_pos c2] at m2
              rw [if_neg (by omega)]
              refine Ev.bind (a := (mn (a * S / A) (b * S / B), 0)) (Ev.bind m1 (Ev.bind m2 (Ev.bind (firstOf_ev 0 0) (Ev.now _)))) ?_
              refine hend _ ?_ ?_ <;> rcases mn_cases (a * S / A) (b * S / B) with e | e <;> rw [e] <;> omega
            · rw [if_pos c1] at m1
              rw [if_neg c2] at m2
              rw [if_pos (by omega)]
              refine Ev.bind (a := (mn (a * S / A) 0, 13)) (Ev.bind m1 (Ev.bind m2 (Ev.bind (firstOf_ev 0 13) (Ev.now _)))) ?_
              exact Ev.now _
          · rw [if_neg c1] at m1
            rw [if_pos (by omega)]
            by_cases c2 : b * S / B ≤ 1000000000000000000
            · rw [if_pos c2] at m2
              refine Ev.bind (a := (mn 0 (b * S / B), 13)) (Ev.bind m1 (Ev.bind m2 (Ev.bind (firstOf_ev 13 0) (Ev.now _)))) ?_
              exact Ev.now _
            · rw [if_neg c2] at m2
              refine Ev.bind (a := (mn 0 0, 13)) (Ev.bind m1 (Ev.bind m2 (Ev.bind (firstOf_ev 13 13) (Ev.now _)))) ?_
              exact Ev.now _

end Go.Proofs.Ytppgnndolgmcfaa.U

namespace Go.Proofs.Ytppgnndolgmcfaa.Q
open Go.RowKit Go.Proofs.YtppgnndolgmcfaaW.PrintWords Go.Proofs.YtppgnndolgmcfaaW.PrintLast Go.Proofs.YtppgnndolgmcfaaW.PrintMore
attribute [local go_sem] max2_int min2_int max_two min_two max_three min_three max_four min_four   -- for this text's walks alone
set_option linter.unusedVariables false
set_option linter.unusedSimpArgs false

/-- A state of type 71 at block g of W; what its slices lead to came in by w0. -/
def IsS71 (w0 W : World) (g : Nat) (f0 : List Int) (f1 : Int) (f2 : Int) : Prop := ∃ A0 c0, W.heap[g]? = some (.cells #[.slice A0 f0.length c0, .int .i64 f1, .int .i64 f2] 71 (0, 0)) ∧ w0.heap.size ≤ g ∧ Kd.C (Kd.int .u8) w0 A0 f0.length f0
theorem IsS71.grown {w0 W : World} {g : Nat} {f0 : List Int} {f1 : Int} {f2 : Int} {W1 : World} {row : Option Nat} (h : IsS71 w0 W g f0 f1 f2) (hw : W.grownBy W1 row) (hne : some g ≠ row) : IsS71 w0 W1 g f0 f1 f2 := by
  obtain ⟨A0, c0, hb, hg, hr0⟩ := h
  exact ⟨A0, c0, blk_grown hb hw hne, hg, hr0⟩
theorem IsS71.own_neN {w0 W : World} {g : Nat} {f0 : List Int} {f1 : Int} {f2 : Int} {α : Type} {d : Kd α} {e : Nat} {base : Nat} {ok : Nat → Prop} {v : Value} {xs : List α} (h : IsS71 w0 W g f0 f1 f2) (ho : Kd.N d e W base ok v xs) (ht : e ≠ 71) : some g ≠ v.ownBlock := by
  obtain ⟨A0, c0, hb, hg, hr0⟩ := h
  exact Kd.N_ne ho hb ht
theorem IsS71.fresh {w0 W : World} {g : Nat} {f0 : List Int} {f1 : Int} {f2 : Int} (h : IsS71 w0 W g f0 f1 f2) : ∀ k, W.heap.size ≤ k → k ≠ g := by
  obtain ⟨A0, c0, hb, hg, hr0⟩ := h
  exact Kd.freshB hb
theorem IsS71.kept {w0 W : World} {g : Nat} {f0 : List Int} {f1 : Int} {f2 : Int} {W1 : World} {S : Nat → Prop} (h : IsS71 w0 W g f0 f1 f2) (hk : Kept W W1 S) (hne : ¬ S g) : IsS71 w0 W1 g f0 f1 f2 := by
  obtain ⟨A0, c0, hb, hg, hr0⟩ := h
  exact ⟨A0, c0, blk_kept hb hk hne, hg, hr0⟩
theorem IsS71.below {w0 W : World} {g : Nat} {f0 : List Int} {f1 : Int} {f2 : Int} {W1 : World} (h : IsS71 w0 W g f0 f1 f2) (hw : Below W.heap.size W W1) : IsS71 w0 W1 g f0 f1 f2 := h.grown (grown_of_below hw none) (by simp)
theorem IsS71.alloc {w0 W : World} {g : Nat} {f0 : List Int} {f1 : Int} {f2 : Int} (h : IsS71 w0 W g f0 f1 f2) (o : Obj) : IsS71 w0 (W.alloc o) g f0 f1 f2 := h.below (below_alloc (Below.refl _ _) o)
theorem IsS71.drewN {w0 W : World} {g : Nat} {f0 : List Int} {f1 : Int} {f2 : Int} (h : IsS71 w0 W g f0 f1 f2) (m : Nat) : IsS71 w0 (W.drewN m) g f0 f1 f2 := h
theorem IsS71.drew {w0 W : World} {g : Nat} {f0 : List Int} {f1 : Int} {f2 : Int} (h : IsS71 w0 W g f0 f1 f2) : IsS71 w0 W.drew g f0 f1 f2 := h
theorem IsS71.at_ {w0 W : World} {g : Nat} {f0 : List Int} {f1 : Int} {f2 : Int} {w' : World} {m : Nat} (hq : W.drewN m = w') (h : IsS71 w0 W g f0 f1 f2) : IsS71 w0 w' g f0 f1 f2 := by subst hq; exact IsS71.drewN h m
theorem IsS71.apart {w0 W : World} {g : Nat} {f0 : List Int} {f1 : Int} {f2 : Int} {α : Type} {d : Kd α} {e : Nat} {base : Nat} {ok : Nat → Prop} {v : Value} {xs : List α} (h : IsS71 w0 W g f0 f1 f2) (ho : d.R e W base ok v xs) (ht : ∀ q, q ∈ e :: d.E → q ≠ 71) : d.R e W base (fun k => ok k ∧ k ≠ g) v xs := by
  obtain ⟨A0, c0, hb, hg, hr0⟩ := h
  exact Kd.R_types ho hb ht
theorem IsS71.own_ne {w0 W : World} {g : Nat} {f0 : List Int} {f1 : Int} {f2 : Int} {α : Type} {d : Kd α} {e : Nat} {base : Nat} {ok : Nat → Prop} {v : Value} {xs : List α} (h : IsS71 w0 W g f0 f1 f2) (ho : d.R e W base ok v xs) (ht : e ≠ 71) : some g ≠ v.ownBlock := by
  obtain ⟨A0, c0, hb, hg, hr0⟩ := h
  exact Kd.R_ne ho hb ht
theorem IsS71.apartQ {w0 W : World} {g : Nat} {f0 : List Int} {f1 : Int} {f2 : Int} {α : Type} {d : Kd α} {e : Nat} {base : Nat} {ok : Nat → Prop} {v : Value} {xs : List α} (h : IsS71 w0 W g f0 f1 f2) (ho : d.Q e W base ok v xs) (ht : ∀ q, q ∈ e :: d.E → q ≠ 71) : d.Q e W base (fun k => ok k ∧ k ≠ g) v xs := by
  obtain ⟨A0, c0, hb, hg, hr0⟩ := h
  exact Kd.Q_types ho hb ht
theorem IsS71.own_neQ {w0 W : World} {g : Nat} {f0 : List Int} {f1 : Int} {f2 : Int} {α : Type} {d : Kd α} {e : Nat} {base : Nat} {ok : Nat → Prop} {v : Value} {xs : List α} (h : IsS71 w0 W g f0 f1 f2) (ho : d.Q e W base ok v xs) (ht : e ≠ 71) : some g ≠ v.ownBlock := by
  obtain ⟨A0, c0, hb, hg, hr0⟩ := h
  exact Kd.Q_ne ho hb ht
theorem IsS71.apartS {w0 W : World} {g : Nat} {f0 : List Int} {f1 : Int} {f2 : Int} {α : Type} {d : Kd α} {e : Nat} {base : Nat} {ok : Nat → Prop} {v : Value} {xs : List α} (h : IsS71 w0 W g f0 f1 f2) (ho : d.S e W base ok v xs) (ht : ∀ q, q ∈ e :: d.E → q ≠ 71) : d.S e W base (fun k => ok k ∧ k ≠ g) v xs := by
  obtain ⟨A0, c0, hb, hg, hr0⟩ := h
  exact Kd.S_types ho hb ht
theorem IsS71.own_neS {w0 W : World} {g : Nat} {f0 : List Int} {f1 : Int} {f2 : Int} {α : Type} {d : Kd α} {e : Nat} {base : Nat} {ok : Nat → Prop} {v : Value} {xs : List α} (h : IsS71 w0 W g f0 f1 f2) (ho : d.S e W base ok v xs) (ht : e ≠ 71) : some g ≠ v.ownBlock := by
  obtain ⟨A0, c0, hb, hg, hr0⟩ := h
  exact Kd.S_ne ho hb ht
theorem IsS71.lt {w0 W : World} {g : Nat} {f0 : List Int} {f1 : Int} {f2 : Int} (h : IsS71 w0 W g f0 f1 f2) : g < W.heap.size := by
  obtain ⟨A0, c0, hb, hg, hr0⟩ := h
  exact blk_lt hb
theorem IsS71.ge {w0 W : World} {g : Nat} {f0 : List Int} {f1 : Int} {f2 : Int} (h : IsS71 w0 W g f0 f1 f2) : w0.heap.size ≤ g := by
  obtain ⟨A0, c0, hb, hg, hr0⟩ := h
  exact hg
theorem IsS71.ne_blk {w0 W : World} {g : Nat} {f0 : List Int} {f1 : Int} {f2 : Int} {a : Nat} {cs : Array Value} {t : TypeId} {fr : Nat × Nat} (h : IsS71 w0 W g f0 f1 f2) (hb2 : W.heap[a]? = some (.cells cs t fr)) (ht : t ≠ 71) : g ≠ a := by
  obtain ⟨A0, c0, hb, hg, hr0⟩ := h
  rintro rfl
  rw [hb] at hb2
  injection hb2 with hb2
  injection hb2 with _ ht2
  exact ht ht2.symm
theorem IsS71.far {w0 W : World} {g : Nat} {f0 : List Int} {f1 : Int} {f2 : Int} {p : Addr} (h : IsS71 w0 W g f0 f1 f2) (hne : g ≠ p.block) (u : Value) : IsS71 w0 (W.setCell p u) g f0 f1 f2 := by
  obtain ⟨A0, c0, hb, hg, hr0⟩ := h
  exact ⟨A0, c0, blk_far hb hne u, hg, hr0⟩
theorem cellS71_0 {W : World} {g : Nat} {A0 : Option Addr} {c0 : Nat} {f0 : List Int} {f1 : Int} {f2 : Int} (h : W.heap[g]? = some (.cells #[.slice A0 f0.length c0, .int .i64 f1, .int .i64 f2] 71 (0, 0))) : W.cell? ⟨g, 0, none⟩ = some (.slice A0 f0.length c0) := (blk_cell h 0).trans rfl
theorem cellS71_1 {W : World} {g : Nat} {A0 : Option Addr} {c0 : Nat} {f0 : List Int} {f1 : Int} {f2 : Int} (h : W.heap[g]? = some (.cells #[.slice A0 f0.length c0, .int .i64 f1, .int .i64 f2] 71 (0, 0))) : W.cell? ⟨g, 1, none⟩ = some (.int .i64 f1) := (blk_cell h 1).trans rfl
theorem IsS71.set_1 {w0 W : World} {g : Nat} {f0 : List Int} {f1 : Int} {f2 : Int} (h : IsS71 w0 W g f0 f1 f2) (x : Int) : IsS71 w0 (W.setCell ⟨g, 1, none⟩ (.int .i64 x)) g f0 x f2 := by
  obtain ⟨A0, c0, hb, hg, hr0⟩ := h
  exact ⟨A0, c0, by simpa using blk_set hb 1 (.int .i64 x), hg, hr0⟩
theorem cellS71_2 {W : World} {g : Nat} {A0 : Option Addr} {c0 : Nat} {f0 : List Int} {f1 : Int} {f2 : Int} (h : W.heap[g]? = some (.cells #[.slice A0 f0.length c0, .int .i64 f1, .int .i64 f2] 71 (0, 0))) : W.cell? ⟨g, 2, none⟩ = some (.int .i64 f2) := (blk_cell h 2).trans rfl
theorem IsS71.set_2 {w0 W : World} {g : Nat} {f0 : List Int} {f1 : Int} {f2 : Int} (h : IsS71 w0 W g f0 f1 f2) (x : Int) : IsS71 w0 (W.setCell ⟨g, 2, none⟩ (.int .i64 x)) g f0 f1 x := by
  obtain ⟨A0, c0, hb, hg, hr0⟩ := h
  exact ⟨A0, c0, by simpa using blk_set hb 2 (.int .i64 x), hg, hr0⟩
theorem IsS71.new (w0 W : World) (A0 : Option Addr) (c0 : Nat) (f0 : List Int) (f1 : Int) (f2 : Int) (hB : Below w0.heap.size w0 W) (hr0 : Kd.C (Kd.int .u8) w0 A0 f0.length f0) : IsS71 w0 (W.alloc (.cells #[.slice A0 f0.length c0, .int .i64 f1, .int .i64 f2] 71)) W.heap.size f0 f1 f2 := ⟨A0, c0, by simpa using heap_alloc_new W _, hB.size, hr0⟩

/-! ### spec_l00Source: function 50 -/
def spec_l00Source.f (l0 : List Int) : Option (List Int × Int × Int) := some (l0, 0, (l0.length : Int) % 1000)
set_option maxHeartbeats 8000000 in
set_option maxRecDepth 100000 in
theorem spec_l00Source.calls (A0 : Option Addr) (c0 : Nat) (l0 : List Int) (r1 : List Int) (r2 : Int) (r3 : Int) (w0 w : World) (hB : Below w0.heap.size w0 w) (hr0 : Kd.C (Kd.int .u8) w0 A0 l0.length l0) (hc0 : l0.length ≤ c0) (h : spec_l00Source.f l0 = some (r1, r2, r3)) :
    Calls Try.prog 50 #[.slice A0 l0.length c0] w fun e w' => ∃ g_ : Nat, e = .returned (.pointer (some ⟨g_, 0, none⟩)) ∧ IsS71 w0 w' g_ r1 r2 r3 ∧ Below w0.heap.size w0 w' ∧ Below w.heap.size w w' := by
  have hu71 := Try.underlying71
  have HR0 := Aside0.mk hr0
  have HC0 := Aside0.mk hc0
  clear hr0 hc0
  have HBW := Aside0.mk (Below.refl w.heap.size w)
  have HW0 := Aside0.mk hB.size
  have HB := Aside0.mk hB
  clear hB
  have H : (some (l0, 0, (l0.length : Int) % 1000)) = some (r1, r2, r3) := h
  clear h
  simp only [Option.some.injEq, Prod.mk.injEq] at H
  obtain ⟨rfl, rfl, rfl⟩ := H
  go_enter Try.func50, Try.ntmps50
  go_wp2_with (first | ((with_reducible refine gate_dst (N := 8) rfl ?_); refine box_event ?hg (N := 8) ?hd (cs := #[.slice A0 l0.length c0, .int .i64 0, .int .i64 ((l0.length : Int) % 1000)]) (t := 71) ?hr ?_; (case hd => rfl); (case hg => rfl); (case hr => first | (go_simp; done) | (go_simp; rfl)); intro gb358 hg w2 hbox hb; have n0_ := Aside0.mk (below_step HBW.out hb); have n1_ := Aside0.mk (below_step (by repeat (first | (with_reducible first | exact HB.out | apply below_alloc | apply pw_below_drewN | apply below_drew1) | exact HB.out)) hb); have n2_ := Aside0.mk (hbox); have n3_ := Aside0.mk ((by rw [hg]; exact (below_size (by repeat (first | (with_reducible first | exact HBW.out | apply below_alloc | apply pw_below_drewN | apply below_drew1) | exact HBW.out))) : w.heap.size ≤ gb358)); have n4_ := Aside0.mk ((Nat.le_trans HW0.out (by rw [hg]; exact (below_size (by repeat (first | (with_reducible first | exact HBW.out | apply below_alloc | apply pw_below_drewN | apply below_drew1) | exact HBW.out))) : w.heap.size ≤ gb358) : w0.heap.size ≤ gb358)); clear HBW; clear HB; have HBW := n0_; have HB := n1_; have BK358 := n2_; have GW358 := n3_; have GE358 := n4_; clear n0_ n1_ n2_ n3_ n4_; clear hb hbox hg))
  go_ret
  exact ⟨_, rfl, (show IsS71 w0 _ gb358 l0 0 ((l0.length : Int) % 1000) from ⟨_, _, by (with_reducible repeat (first | refine blk_drewN ?_ _ | refine blk_drew ?_ | refine blk_alloc ?_ _)); exact BK358.out, GE358.out, HR0.out⟩), by repeat (first | (with_reducible first | exact HB.out | apply below_alloc | apply pw_below_drewN | apply below_drew1 | refine below_set ?_ GE358.out) | exact HB.out), by repeat (first | (with_reducible first | exact HBW.out | apply below_alloc | apply pw_below_drewN | apply below_drew1 | refine below_set ?_ GW358.out) | exact HBW.out)⟩

end Go.Proofs.Ytppgnndolgmcfaa.Q

namespace Go.Proofs.Ytppgnndolgmcfaa.Q
open Go.RowKit Go.Proofs.YtppgnndolgmcfaaW.PrintWords Go.Proofs.YtppgnndolgmcfaaW.PrintLast Go.Proofs.YtppgnndolgmcfaaW.PrintMore
attribute [local go_sem] max2_int min2_int max_two min_two max_three min_three max_four min_four   -- for this text's walks alone
set_option linter.unusedVariables false
set_option linter.unusedSimpArgs false


/-! ### spec_l00Src_byte: function 75 -/
def spec_l00Src_byte.f (s0_0 : List Int) (s0_1 : Int) (s0_2 : Int) : Option (Int × Int × Int) :=
  if 0 ≤ s0_1 then (if s0_1 < 1000000000 then (if s0_1 < (s0_0.length : Int) then
    (some (wrap64 (rd s0_0 s0_1), s0_1 + 1, Int.tmod (wrap64 ((wrap64 ((wrap64 (s0_2 * 31)) + (wrap64 (rd s0_0 s0_1)))) + 7)) 2147483648))
  else (if s0_1 + 1 > 3000 then (some (0, s0_1 + 1, s0_2))
    else (some (Int.tmod (wrap64 (Int.tdiv (Int.tmod (wrap64 ((wrap64 (s0_2 * 1103515245)) + 12345)) 2147483648) 65536)) 256, s0_1 + 1, Int.tmod (wrap64 ((wrap64 (s0_2 * 1103515245)) + 12345)) 2147483648)))) else none) else none
set_option maxHeartbeats 8000000 in
set_option maxRecDepth 100000 in
theorem spec_l00Src_byte.calls (g : Nat) (s0_0 : List Int) (s0_1 : Int) (s0_2 : Int) (r1 : Int) (r2 : Int) (r3 : Int) (w0 w : World) (hI : IsS71 w0 w g s0_0 s0_1 s0_2) (hB : Below w0.heap.size w0 w) (h : spec_l00Src_byte.f s0_0 s0_1 s0_2 = some (r1, r2, r3)) :
    Calls Try.prog 75 #[.pointer (some ⟨g, 0, none⟩)] w fun e w' => e = .returned (.int .i64 r1) ∧ IsS71 w0 w' g s0_0 r2 r3 ∧ Below w0.heap.size w0 w' ∧ KeepBut w w' g none := by
  have HI0 := Aside0.mk hI
  have HK := Aside0.mk (KeepBut.refl w g none)
  have HL := Aside0.mk hB.size
  have HW0 := Aside0.mk hB.size
  have HB := Aside0.mk hB
  obtain ⟨A0, c0, hblk, hge, hC⟩ := hI
  have BK := Aside0.mk hblk
  have HC := Aside0.mk hC
  have HBB := Aside0.mk hB
  have hmax : s0_0.length ≤ 9223372036854775807 := Kd.C_max hC
  clear hB hblk hC
  have hcz0 := (blk_cell BK.out 0).trans rfl
  have hcz1 := (blk_cell BK.out 1).trans rfl
  have hcz2 := (blk_cell BK.out 2).trans rfl
  have hf0 := blk_frozen BK.out 0
  have hf1 := blk_frozen BK.out 1
  have hf2 := blk_frozen BK.out 2
  unfold spec_l00Src_byte.f at h
  by_cases c1 : 0 ≤ s0_1
  · rw [if_pos c1] at h
    by_cases c2 : s0_1 < 1000000000
    · rw [if_pos c2] at h
      by_cases c3 : s0_1 < (s0_0.length : Int)
      · rw [if_pos c3] at h
        obtain ⟨ad, e1, hx0⟩ := Kd.at_int HC.out s0_1 c1 c3
        cases e1
        have hx := (Kd.at_int (Kd.C_below HC.out HBB.out) s0_1 c1 c3)
        obtain ⟨ad', e1', hx⟩ := hx
        obtain rfl : ad = ad' := by injection e1'
        have hlt := World.block_lt_of_cell? _ _ hx0
        have hne : ∀ (W : World) (j : Nat) (u : Value), (W.setCell ⟨g, j, none⟩ u).cell? (ad.add s0_1.toNat) = W.cell? (ad.add s0_1.toNat) := by
          intro W j u
          apply World.cell?_setCell_other
          intro e
          have h9 := congrArg Addr.block e
          have h8 : (ad.add s0_1.toNat).block = ad.block := by unfold Addr.add; split <;> rfl
          simp only at h9
          omega
        clear hx0 hlt e1'
        simp only [Option.some.injEq, Prod.mk.injEq] at h
        obtain ⟨h1, h2, h3⟩ := h
        have H1 := Aside0.mk h1
        have H2 := Aside0.mk h2
        have H3 := Aside0.mk h3
        clear h1 h2 h3
        go_enter Try.func75, Try.ntmps75
        go_wp2
        go_quiet (fail)
        go_wp2
        have hw1 : IntKind.i64.wrap s0_1 = s0_1 := IntWalk.i64_in _ (by omega)
        clear c2
        go_region
        all_goals go_wp2
        all_goals go_quiet (fail)
        all_goals go_wp2
        go_ret
        obtain rfl := H1.out
        obtain rfl := H2.out
        obtain rfl := H3.out
        exact ⟨rfl, by repeat (first | (with_reducible first | exact HI0.out | apply IsS71.alloc | apply IsS71.drewN | apply IsS71.drew | apply IsS71.set_1 | apply IsS71.set_2) | exact HI0.out), by repeat (first | (with_reducible first | exact HB.out | apply below_alloc | apply pw_below_drewN | apply below_drew1 | refine below_set ?_ (IsS71.ge HI0.out)) | exact HB.out), by repeat (first | (with_reducible first | exact HK.out | apply KeepBut.set_ | apply keep_drewN | apply keep_drew | apply keep_alloc) | exact HK.out)⟩
      · rw [if_neg c3] at h
        have c3b : ¬ s0_1 + 1 ≤ (s0_0.length : Int) := by omega
        by_cases c4 : s0_1 + 1 > 3000
        · rw [if_pos c4] at h
          simp only [Option.some.injEq, Prod.mk.injEq] at h
          obtain ⟨h1, h2, h3⟩ := h
          have H1 := Aside0.mk h1
          have H2 := Aside0.mk h2
          have H3 := Aside0.mk h3
          clear h1 h2 h3 c3
          go_enter Try.func75, Try.ntmps75
          go_wp2
          go_quiet (fail)
          go_wp2
          go_ret
          obtain rfl := H1.out
          obtain rfl := H2.out
          obtain rfl := H3.out
          exact ⟨rfl, by repeat (first | (with_reducible first | exact HI0.out | apply IsS71.alloc | apply IsS71.drewN | apply IsS71.drew | apply IsS71.set_1 | apply IsS71.set_2) | exact HI0.out), by repeat (first | (with_reducible first | exact HB.out | apply below_alloc | apply pw_below_drewN | apply below_drew1 | refine below_set ?_ (IsS71.ge HI0.out)) | exact HB.out), by repeat (first | (with_reducible first | exact HK.out | apply KeepBut.set_ | apply keep_drewN | apply keep_drew | apply keep_alloc) | exact HK.out)⟩
        · rw [if_neg c4] at h
          simp only [Option.some.injEq, Prod.mk.injEq] at h
          obtain ⟨h1, h2, h3⟩ := h
          have H1 := Aside0.mk h1
          have H2 := Aside0.mk h2
          have H3 := Aside0.mk h3
          clear h1 h2 h3 c3
          go_enter Try.func75, Try.ntmps75
          go_wp2
          go_quiet (fail)
          go_wp2
          go_ret
          obtain rfl := H1.out
          obtain rfl := H2.out
          obtain rfl := H3.out
          exact ⟨rfl, by repeat (first | (with_reducible first | exact HI0.out | apply IsS71.alloc | apply IsS71.drewN | apply IsS71.drew | apply IsS71.set_1 | apply IsS71.set_2) | exact HI0.out), by repeat (first | (with_reducible first | exact HB.out | apply below_alloc | apply pw_below_drewN | apply below_drew1 | refine below_set ?_ (IsS71.ge HI0.out)) | exact HB.out), by repeat (first | (with_reducible first | exact HK.out | apply KeepBut.set_ | apply keep_drewN | apply keep_drew | apply keep_alloc) | exact HK.out)⟩
    · rw [if_neg c2] at h; cases h
  · rw [if_neg c1] at h; cases h

end Go.Proofs.Ytppgnndolgmcfaa.Q

namespace Go.Proofs.Ytppgnndolgmcfaa.Q
open Go.RowKit Go.Proofs.YtppgnndolgmcfaaW.PrintWords Go.Proofs.YtppgnndolgmcfaaW.PrintLast Go.Proofs.YtppgnndolgmcfaaW.PrintMore
attribute [local go_sem] max2_int min2_int max_two min_two max_three min_three max_four min_four   -- for this text's walks alone
set_option linter.unusedVariables false
set_option linter.unusedSimpArgs false

/-! ### spec_l00Src_next: function 66 -/
def spec_l00Src_next.f (s0_0 : List Int) (s0_1 : Int) (s0_2 : Int) (a1 : Int) : Option (Int × Int × Int) := if a1 ≤ 1 then (some (0, s0_1, s0_2)) else (if a1 ≤ 256 then ((spec_l00Src_byte.f s0_0 s0_1 s0_2).bind fun bt359 => (if a1 = 0 then (none) else (some (Int.tmod bt359.1 a1, bt359.2.1, bt359.2.2)))) else ((spec_l00Src_byte.f s0_0 s0_1 s0_2).bind fun bt362 => ((spec_l00Src_byte.f s0_0 bt362.2.1 bt362.2.2).bind fun bt365 => ((spec_l00Src_byte.f s0_0 bt365.2.1 bt365.2.2).bind fun bt368 => (if a1 = 0 then (none) else (some (Int.tmod (wrap64 ((wrap64 ((wrap64 (bt362.1 * 65536)) + (wrap64 (bt365.1 * 256)))) + bt368.1)) a1, bt368.2.1, bt368.2.2)))))))
set_option maxHeartbeats 8000000 in
set_option maxRecDepth 100000 in
theorem spec_l00Src_next.calls (g : Nat) (s0_0 : List Int) (s0_1 : Int) (s0_2 : Int) (a1 : Int) (r1 : Int) (r2 : Int) (r3 : Int) (w0 w : World) (hI : IsS71 w0 w g s0_0 s0_1 s0_2) (hB : Below w0.heap.size w0 w) (h : spec_l00Src_next.f s0_0 s0_1 s0_2 a1 = some (r1, r2, r3)) :
    Calls Try.prog 66 #[.pointer (some ⟨g, 0, none⟩), .int .i64 a1] w fun e w' => e = .returned (.int .i64 r1) ∧ IsS71 w0 w' g s0_0 r2 r3 ∧ Below w0.heap.size w0 w' ∧ KeepBut w w' g none := by
  have HI0 := Aside0.mk hI
  have HK := Aside0.mk (KeepBut.refl w g none)
  have HL := Aside0.mk hB.size
  clear hI
  have HW0 := Aside0.mk hB.size
  have HB := Aside0.mk hB
  clear hB
  have H : (if a1 ≤ 1 then (some (0, s0_1, s0_2)) else (if a1 ≤ 256 then ((spec_l00Src_byte.f s0_0 s0_1 s0_2).bind fun bt359 => (if a1 = 0 then (none) else (some (Int.tmod bt359.1 a1, bt359.2.1, bt359.2.2)))) else ((spec_l00Src_byte.f s0_0 s0_1 s0_2).bind fun bt362 => ((spec_l00Src_byte.f s0_0 bt362.2.1 bt362.2.2).bind fun bt365 => ((spec_l00Src_byte.f s0_0 bt365.2.1 bt365.2.2).bind fun bt368 => (if a1 = 0 then (none) else (some (Int.tmod (wrap64 ((wrap64 ((wrap64 (bt362.1 * 65536)) + (wrap64 (bt365.1 * 256)))) + bt368.1)) a1, bt368.2.1, bt368.2.2)))))))) = some (r1, r2, r3) := h
  clear h
  by_cases c3 : a1 ≤ 1
  · rw [if_pos c3] at H
    have c3b0 : decide (a1 ≤ 1) = true := decide_eq_true c3
    clear c3
    simp only [Option.some.injEq, Prod.mk.injEq] at H
    obtain ⟨rfl, rfl, rfl⟩ := H
    go_enter Try.func66, Try.ntmps66
    go_wp2
    go_ret
    exact ⟨by first | rfl | (simp [errW_none, errW_some] <;> rfl) | (simp [*, errW_none, errW_some] <;> rfl), by repeat (first | (with_reducible first | exact HI0.out | apply IsS71.alloc | apply IsS71.drewN | apply IsS71.drew | apply IsS71.set_1 | apply IsS71.set_2) | exact HI0.out), by repeat (first | (with_reducible first | exact HB.out | apply below_alloc | apply pw_below_drewN | apply below_drew1 | refine below_set ?_ (IsS71.ge HI0.out)) | exact HB.out), by repeat (first | (with_reducible first | exact HK.out | apply KeepBut.set_ | apply keep_drewN | apply keep_drew | apply keep_alloc) | exact HK.out)⟩
  · rw [if_neg c3] at H
    have c3b0 : decide (a1 ≤ 1) = false := decide_eq_false c3
    clear c3
    by_cases c4 : a1 ≤ 256
    · rw [if_pos c4] at H
      have c4b0 : decide (a1 ≤ 256) = true := decide_eq_true c4
      clear c4
      replace H := Option.bind_eq_some_iff.mp H
      obtain ⟨⟨t359, t360, t361⟩, A50, H⟩ := H
      replace H : (if a1 = 0 then (none) else (some (Int.tmod t359 a1, t360, t361))) = some (r1, r2, r3) := H
      have A5 := Aside0.mk A50
      clear A50
      by_cases c6 : a1 = 0
      · rw [if_pos c6] at H
        exact absurd H (by simp)
      · rw [if_neg c6] at H
        have c6b0 : (a1 == 0) = false := beq_eq_false_iff_ne.mpr c6
        have c6b1 : (a1 != 0) = true := bne_iff_ne.mpr c6
        simp only [Option.some.injEq, Prod.mk.injEq] at H
        obtain ⟨rfl, rfl, rfl⟩ := H
        go_enter Try.func66, Try.ntmps66
        go_wp2_with (first | ((with_reducible refine gate_callee (f := 75) rfl ?_); refine goesL_ (some 13) rfl rfl Try.func75 (by kernel_rfl) rfl #[.pointer (some ⟨g, 0, none⟩)] rfl (by (try simp only [List.map_toArray, List.map_cons, List.map_nil]); first | done | rfl | (simp only [List.length_drop, List.length_take]; rfl)) ?_; (with_reducible refine (spec_l00Src_byte.calls g s0_0 s0_1 s0_2 t359 t360 t361 w0 _ ?side1 ?side2 A5.out).mono ?_); (case side1 => repeat (first | (with_reducible first | exact HI0.out | apply IsS71.alloc | apply IsS71.drewN | apply IsS71.drew | apply IsS71.set_1 | apply IsS71.set_2) | exact HI0.out)); (case side2 => repeat (first | (with_reducible first | exact HB.out | apply below_alloc | apply pw_below_drewN | apply below_drew1 | refine below_set ?_ (IsS71.ge HI0.out)) | exact HB.out)); rintro e w7 ⟨rfl, hi, hb, hk⟩; refine ⟨_, rfl, ?_⟩; have n0_ := Aside0.mk (KeepBut.trans (by repeat (first | (with_reducible first | exact HK.out | apply KeepBut.set_ | apply keep_drewN | apply keep_drew | apply keep_alloc) | exact HK.out)) hk (.inl rfl)); have n1_ := Aside0.mk (hb); have n2_ := Aside0.mk (hi); clear HK; clear HB; clear HI0; have HK := n0_; have HB := n1_; have HI0 := n2_; clear n0_ n1_ n2_; (try clear hb); (try clear hb2); (try clear hk); (try clear hi)))
        go_ret
        exact ⟨by first | rfl | (simp [errW_none, errW_some] <;> rfl) | (simp [*, errW_none, errW_some] <;> rfl), by repeat (first | (with_reducible first | exact HI0.out | apply IsS71.alloc | apply IsS71.drewN | apply IsS71.drew | apply IsS71.set_1 | apply IsS71.set_2) | exact HI0.out), by repeat (first | (with_reducible first | exact HB.out | apply below_alloc | apply pw_below_drewN | apply below_drew1 | refine below_set ?_ (IsS71.ge HI0.out)) | exact HB.out), by repeat (first | (with_reducible first | exact HK.out | apply KeepBut.set_ | apply keep_drewN | apply keep_drew | apply keep_alloc) | exact HK.out)⟩
    · rw [if_neg c4] at H
      have c4b0 : decide (a1 ≤ 256) = false := decide_eq_false c4
      clear c4
      replace H := Option.bind_eq_some_iff.mp H
      obtain ⟨⟨t362, t363, t364⟩, A80, H⟩ := H
      replace H : ((spec_l00Src_byte.f s0_0 t363 t364).bind fun bt365 => ((spec_l00Src_byte.f s0_0 bt365.2.1 bt365.2.2).bind fun bt368 => (if a1 = 0 then (none) else (some (Int.tmod (wrap64 ((wrap64 ((wrap64 (t362 * 65536)) + (wrap64 (bt365.1 * 256)))) + bt368.1)) a1, bt368.2.1, bt368.2.2))))) = some (r1, r2, r3) := H
      have A8 := Aside0.mk A80
      clear A80
      replace H := Option.bind_eq_some_iff.mp H
      obtain ⟨⟨t365, t366, t367⟩, A90, H⟩ := H
      replace H : ((spec_l00Src_byte.f s0_0 t366 t367).bind fun bt368 => (if a1 = 0 then (none) else (some (Int.tmod (wrap64 ((wrap64 ((wrap64 (t362 * 65536)) + (wrap64 (t365 * 256)))) + bt368.1)) a1, bt368.2.1, bt368.2.2)))) = some (r1, r2, r3) := H
      have A9 := Aside0.mk A90
      clear A90
      replace H := Option.bind_eq_some_iff.mp H
      obtain ⟨⟨t368, t369, t370⟩, A100, H⟩ := H
      replace H : (if a1 = 0 then (none) else (some (Int.tmod (wrap64 ((wrap64 ((wrap64 (t362 * 65536)) + (wrap64 (t365 * 256)))) + t368)) a1, t369, t370))) = some (r1, r2, r3) := H
      have A10 := Aside0.mk A100
      clear A100
      by_cases c11 : a1 = 0
      · rw [if_pos c11] at H
        exact absurd H (by simp)
      · rw [if_neg c11] at H
        have c11b0 : (a1 == 0) = false := beq_eq_false_iff_ne.mpr c11
        have c11b1 : (a1 != 0) = true := bne_iff_ne.mpr c11
        simp only [Option.some.injEq, Prod.mk.injEq] at H
        obtain ⟨rfl, rfl, rfl⟩ := H
        go_enter Try.func66, Try.ntmps66
        go_wp2_with (first | ((with_reducible refine gate_callee (f := 75) rfl ?_); refine goesL_ (some 17) rfl rfl Try.func75 (by kernel_rfl) rfl #[.pointer (some ⟨g, 0, none⟩)] rfl (by (try simp only [List.map_toArray, List.map_cons, List.map_nil]); first | done | rfl | (simp only [List.length_drop, List.length_take]; rfl)) ?_; (with_reducible refine (spec_l00Src_byte.calls g s0_0 s0_1 s0_2 t362 t363 t364 w0 _ ?side1 ?side2 A8.out).mono ?_); (case side1 => repeat (first | (with_reducible first | exact HI0.out | apply IsS71.alloc | apply IsS71.drewN | apply IsS71.drew | apply IsS71.set_1 | apply IsS71.set_2) | exact HI0.out)); (case side2 => repeat (first | (with_reducible first | exact HB.out | apply below_alloc | apply pw_below_drewN | apply below_drew1 | refine below_set ?_ (IsS71.ge HI0.out)) | exact HB.out)); rintro e w12 ⟨rfl, hi, hb, hk⟩; refine ⟨_, rfl, ?_⟩; have n0_ := Aside0.mk (KeepBut.trans (by repeat (first | (with_reducible first | exact HK.out | apply KeepBut.set_ | apply keep_drewN | apply keep_drew | apply keep_alloc) | exact HK.out)) hk (.inl rfl)); have n1_ := Aside0.mk (hb); have n2_ := Aside0.mk (hi); clear HK; clear HB; clear HI0; have HK := n0_; have HB := n1_; have HI0 := n2_; clear n0_ n1_ n2_; (try clear hb); (try clear hb2); (try clear hk); (try clear hi)) | ((with_reducible refine gate_callee (f := 75) rfl ?_); refine goesL_ (some 19) rfl rfl Try.func75 (by kernel_rfl) rfl #[.pointer (some ⟨g, 0, none⟩)] rfl (by (try simp only [List.map_toArray, List.map_cons, List.map_nil]); first | done | rfl | (simp only [List.length_drop, List.length_take]; rfl)) ?_; (with_reducible refine (spec_l00Src_byte.calls g s0_0 t363 t364 t365 t366 t367 w0 _ ?side1 ?side2 A9.out).mono ?_); (case side1 => repeat (first | (with_reducible first | exact HI0.out | apply IsS71.alloc | apply IsS71.drewN | apply IsS71.drew | apply IsS71.set_1 | apply IsS71.set_2) | exact HI0.out)); (case side2 => repeat (first | (with_reducible first | exact HB.out | apply below_alloc | apply pw_below_drewN | apply below_drew1 | refine below_set ?_ (IsS71.ge HI0.out)) | exact HB.out)); rintro e w13 ⟨rfl, hi, hb, hk⟩; refine ⟨_, rfl, ?_⟩; have n0_ := Aside0.mk (KeepBut.trans (by repeat (first | (with_reducible first | exact HK.out | apply KeepBut.set_ | apply keep_drewN | apply keep_drew | apply keep_alloc) | exact HK.out)) hk (.inl rfl)); have n1_ := Aside0.mk (hb); have n2_ := Aside0.mk (hi); clear HK; clear HB; clear HI0; have HK := n0_; have HB := n1_; have HI0 := n2_; clear n0_ n1_ n2_; (try clear hb); (try clear hb2); (try clear hk); (try clear hi)) | ((with_reducible refine gate_callee (f := 75) rfl ?_); refine goesL_ (some 21) rfl rfl Try.func75 (by kernel_rfl) rfl #[.pointer (some ⟨g, 0, none⟩)] rfl (by (try simp only [List.map_toArray, List.map_cons, List.map_nil]); first | done | rfl | (simp only [List.length_drop, List.length_take]; rfl)) ?_; (with_reducible refine (spec_l00Src_byte.calls g s0_0 t366 t367 t368 t369 t370 w0 _ ?side1 ?side2 A10.out).mono ?_); (case side1 => repeat (first | (with_reducible first | exact HI0.out | apply IsS71.alloc | apply IsS71.drewN | apply IsS71.drew | apply IsS71.set_1 | apply IsS71.set_2) | exact HI0.out)); (case side2 => repeat (first | (with_reducible first | exact HB.out | apply below_alloc | apply pw_below_drewN | apply below_drew1 | refine below_set ?_ (IsS71.ge HI0.out)) | exact HB.out)); rintro e w14 ⟨rfl, hi, hb, hk⟩; refine ⟨_, rfl, ?_⟩; have n0_ := Aside0.mk (KeepBut.trans (by repeat (first | (with_reducible first | exact HK.out | apply KeepBut.set_ | apply keep_drewN | apply keep_drew | apply keep_alloc) | exact HK.out)) hk (.inl rfl)); have n1_ := Aside0.mk (hb); have n2_ := Aside0.mk (hi); clear HK; clear HB; clear HI0; have HK := n0_; have HB := n1_; have HI0 := n2_; clear n0_ n1_ n2_; (try clear hb); (try clear hb2); (try clear hk); (try clear hi)))
        go_ret
        exact ⟨by first | rfl | (simp [errW_none, errW_some] <;> rfl) | (simp [*, errW_none, errW_some] <;> rfl), by repeat (first | (with_reducible first | exact HI0.out | apply IsS71.alloc | apply IsS71.drewN | apply IsS71.drew | apply IsS71.set_1 | apply IsS71.set_2) | exact HI0.out), by repeat (first | (with_reducible first | exact HB.out | apply below_alloc | apply pw_below_drewN | apply below_drew1 | refine below_set ?_ (IsS71.ge HI0.out)) | exact HB.out), by repeat (first | (with_reducible first | exact HK.out | apply KeepBut.set_ | apply keep_drewN | apply keep_drew | apply keep_alloc) | exact HK.out)⟩

end Go.Proofs.Ytppgnndolgmcfaa.Q

namespace Go.Proofs.Ytppgnndolgmcfaa.Q
open Go.RowKit Go.Proofs.YtppgnndolgmcfaaW.PrintWords Go.Proofs.YtppgnndolgmcfaaW.PrintLast Go.Proofs.YtppgnndolgmcfaaW.PrintMore
attribute [local go_sem] max2_int min2_int max_two min_two max_three min_three max_four min_four   -- for this text's walks alone
set_option linter.unusedVariables false
set_option linter.unusedSimpArgs false

/-! ### spec_l00Src_pick: function 74 -/
def spec_l00Src_pick.f (s0_0 : List Int) (s0_1 : Int) (s0_2 : Int) (l1 : List ByteArray) : Option (ByteArray × Int × Int) := if (l1.length : Int) = 0 then (some ((⟨#[]⟩ : ByteArray), s0_1, s0_2)) else ((spec_l00Src_next.f s0_0 s0_1 s0_2 (l1.length : Int)).bind fun bt371 => (if 0 ≤ bt371.1 then (if bt371.1 < (l1.length : Int) then (some (rdOf ByteArray.empty l1 bt371.1, bt371.2.1, bt371.2.2)) else (none)) else (none)))
set_option maxHeartbeats 8000000 in
set_option maxRecDepth 100000 in
theorem spec_l00Src_pick.calls (g : Nat) (s0_0 : List Int) (s0_1 : Int) (s0_2 : Int) (A1 : Option Addr) (c1 : Nat) (l1 : List ByteArray) (r1 : ByteArray) (r2 : Int) (r3 : Int) (w0 w : World) (hI : IsS71 w0 w g s0_0 s0_1 s0_2) (hB : Below w0.heap.size w0 w) (hr1 : Kd.C Kd.string w A1 l1.length l1) (hc1 : l1.length ≤ c1) (hf1 : ∀ ad, A1 = some ad → 0 < l1.length → ad.block ≠ g) (h : spec_l00Src_pick.f s0_0 s0_1 s0_2 l1 = some (r1, r2, r3)) :
    Calls Try.prog 74 #[.pointer (some ⟨g, 0, none⟩), .slice A1 l1.length c1] w fun e w' => e = .returned (.string r1) ∧ IsS71 w0 w' g s0_0 r2 r3 ∧ Below w0.heap.size w0 w' ∧ KeepBut w w' g none := by
  have HR1 := Aside0.mk hr1
  have HC1 := Aside0.mk hc1
  clear hr1 hc1
  have HI0 := Aside0.mk hI
  have HK := Aside0.mk (KeepBut.refl w g none)
  have HL := Aside0.mk hB.size
  clear hI
  have HW0 := Aside0.mk hB.size
  have HB := Aside0.mk hB
  clear hB
  have H : (if (l1.length : Int) = 0 then (some ((⟨#[]⟩ : ByteArray), s0_1, s0_2)) else ((spec_l00Src_next.f s0_0 s0_1 s0_2 (l1.length : Int)).bind fun bt371 => (if 0 ≤ bt371.1 then (if bt371.1 < (l1.length : Int) then (some (rdOf ByteArray.empty l1 bt371.1, bt371.2.1, bt371.2.2)) else (none)) else (none)))) = some (r1, r2, r3) := h
  clear h
  by_cases c3 : (l1.length : Int) = 0
  · rw [if_pos c3] at H
    have c3b0 : ((l1.length : Int) == 0) = true := beq_iff_eq.mpr c3
    have c3b1 : ((l1.length : Int) != 0) = false := bne_eq_false_iff_eq.mpr c3
    clear c3
    simp only [Option.some.injEq, Prod.mk.injEq] at H
    obtain ⟨rfl, rfl, rfl⟩ := H
    go_enter Try.func74, Try.ntmps74
    go_wp2
    go_ret
    exact ⟨by first | rfl | (simp [errW_none, errW_some] <;> rfl) | (simp [*, errW_none, errW_some] <;> rfl), by repeat (first | (with_reducible first | exact HI0.out | apply IsS71.alloc | apply IsS71.drewN | apply IsS71.drew | apply IsS71.set_1 | apply IsS71.set_2) | exact HI0.out), by repeat (first | (with_reducible first | exact HB.out | apply below_alloc | apply pw_below_drewN | apply below_drew1 | refine below_set ?_ (IsS71.ge HI0.out)) | exact HB.out), by repeat (first | (with_reducible first | exact HK.out | apply KeepBut.set_ | apply keep_drewN | apply keep_drew | apply keep_alloc) | exact HK.out)⟩
  · rw [if_neg c3] at H
    have c3b0 : ((l1.length : Int) == 0) = false := beq_eq_false_iff_ne.mpr c3
    have c3b1 : ((l1.length : Int) != 0) = true := bne_iff_ne.mpr c3
    have c3b2 : ¬ (l1 = []) := fun h_ => c3 (by rw [h_]; rfl)
    replace H := Option.bind_eq_some_iff.mp H
    obtain ⟨⟨t371, t372, t373⟩, A40, H⟩ := H
    replace H : (if 0 ≤ t371 then (if t371 < (l1.length : Int) then (some (rdOf ByteArray.empty l1 t371, t372, t373)) else (none)) else (none)) = some (r1, r2, r3) := H
    have A4 := Aside0.mk A40
    clear A40
    by_cases c5 : 0 ≤ t371
    · rw [if_pos c5] at H
      have c5b0 : decide (0 ≤ t371) = true := decide_eq_true c5
      clear c5
      by_cases c6 : t371 < (l1.length : Int)
      · rw [if_pos c6] at H
        have c6b0 : decide (t371 < (l1.length : Int)) = true := decide_eq_true c6
        clear c6
        simp only [Option.some.injEq, Prod.mk.injEq] at H
        obtain ⟨rfl, rfl, rfl⟩ := H
        go_enter Try.func74, Try.ntmps74
        go_wp2_with (first | ((with_reducible refine gate_callee (f := 66) rfl ?_); refine goesL_ (some 12) rfl rfl Try.func66 (by kernel_rfl) rfl #[.pointer (some ⟨g, 0, none⟩), .int .i64 (l1.length : Int)] rfl (by (try simp only [List.map_toArray, List.map_cons, List.map_nil]); first | done | rfl | (simp only [List.length_drop, List.length_take]; rfl)) ?_; (with_reducible refine (spec_l00Src_next.calls g s0_0 s0_1 s0_2 (l1.length : Int) t371 t372 t373 w0 _ ?side1 ?side2 A4.out).mono ?_); (case side1 => repeat (first | (with_reducible first | exact HI0.out | apply IsS71.alloc | apply IsS71.drewN | apply IsS71.drew | apply IsS71.set_1 | apply IsS71.set_2) | exact HI0.out)); (case side2 => repeat (first | (with_reducible first | exact HB.out | apply below_alloc | apply pw_below_drewN | apply below_drew1 | refine below_set ?_ (IsS71.ge HI0.out)) | exact HB.out)); rintro e w7 ⟨rfl, hi, hb, hk⟩; refine ⟨_, rfl, ?_⟩; have n0_ := Aside0.mk (KeepBut.trans (by repeat (first | (with_reducible first | exact HK.out | apply KeepBut.set_ | apply keep_drewN | apply keep_drew | apply keep_alloc) | exact HK.out)) hk (.inl rfl)); have n1_ := Aside0.mk (hb); have n2_ := Aside0.mk (hi); clear HK; clear HB; clear HI0; have HK := n0_; have HB := n1_; have HI0 := n2_; clear n0_ n1_ n2_; (try clear hb); (try clear hb2); (try clear hk); (try clear hi); have p374 : 0 ≤ (t371 : Int) := of_decide_eq_true (by first | (with_reducible assumption) | assumption); have q374 : t371 < (l1.length : Int) := of_decide_eq_true (by first | (with_reducible assumption) | assumption); obtain ⟨ad374, e374, hx374_0⟩ := Kd.at_string HR1.out t371 p374 q374; cases e374; replace hx374_0 := keep_cell HK.out hx374_0 (by first | (rw [add_block]; exact hf1 _ rfl (by omega)) | exact hf1 _ rfl (by omega) | exact hf1 ad374 rfl (by omega)); replace p374 := eq_true p374; replace q374 := eq_true q374))
        go_ret
        exact ⟨by first | rfl | (simp [errW_none, errW_some] <;> rfl) | (simp [*, errW_none, errW_some] <;> rfl), by repeat (first | (with_reducible first | exact HI0.out | apply IsS71.alloc | apply IsS71.drewN | apply IsS71.drew | apply IsS71.set_1 | apply IsS71.set_2) | exact HI0.out), by repeat (first | (with_reducible first | exact HB.out | apply below_alloc | apply pw_below_drewN | apply below_drew1 | refine below_set ?_ (IsS71.ge HI0.out)) | exact HB.out), by repeat (first | (with_reducible first | exact HK.out | apply KeepBut.set_ | apply keep_drewN | apply keep_drew | apply keep_alloc) | exact HK.out)⟩
      · rw [if_neg c6] at H
        exact absurd H (by simp)
    · rw [if_neg c5] at H
      exact absurd H (by simp)

end Go.Proofs.Ytppgnndolgmcfaa.Q

namespace Go.Proofs.Ytppgnndolgmcfaa.Q
open Go.RowKit Go.Proofs.YtppgnndolgmcfaaW.PrintWords Go.Proofs.YtppgnndolgmcfaaW.PrintLast Go.Proofs.YtppgnndolgmcfaaW.PrintMore
attribute [local go_sem] max2_int min2_int max_two min_two max_three min_three max_four min_four   -- for this text's walks alone
set_option linter.unusedVariables false
set_option linter.unusedSimpArgs false

/-! ### spec_l00Src_chance: function 67 -/
def spec_l00Src_chance.f (s0_0 : List Int) (s0_1 : Int) (s0_2 : Int) (a1 : Int) : Option (Bool × Int × Int) := (spec_l00Src_next.f s0_0 s0_1 s0_2 a1).bind fun bt387 => (some ((bt387.1 == (wrap64 (a1 - 1))), bt387.2.1, bt387.2.2))
set_option maxHeartbeats 8000000 in
set_option maxRecDepth 100000 in
theorem spec_l00Src_chance.calls (g : Nat) (s0_0 : List Int) (s0_1 : Int) (s0_2 : Int) (a1 : Int) (r1 : Bool) (r2 : Int) (r3 : Int) (w0 w : World) (hI : IsS71 w0 w g s0_0 s0_1 s0_2) (hB : Below w0.heap.size w0 w) (h : spec_l00Src_chance.f s0_0 s0_1 s0_2 a1 = some (r1, r2, r3)) :
    Calls Try.prog 67 #[.pointer (some ⟨g, 0, none⟩), .int .i64 a1] w fun e w' => e = .returned (.bool r1) ∧ IsS71 w0 w' g s0_0 r2 r3 ∧ Below w0.heap.size w0 w' ∧ KeepBut w w' g none := by
  have HI0 := Aside0.mk hI
  have HK := Aside0.mk (KeepBut.refl w g none)
  have HL := Aside0.mk hB.size
  clear hI
  have HW0 := Aside0.mk hB.size
  have HB := Aside0.mk hB
  clear hB
  have H : ((spec_l00Src_next.f s0_0 s0_1 s0_2 a1).bind fun bt387 => (some ((bt387.1 == (wrap64 (a1 - 1))), bt387.2.1, bt387.2.2))) = some (r1, r2, r3) := h
  clear h
  replace H := Option.bind_eq_some_iff.mp H
  obtain ⟨⟨t387, t388, t389⟩, A30, H⟩ := H
  replace H : (some ((t387 == (wrap64 (a1 - 1))), t388, t389)) = some (r1, r2, r3) := H
  have A3 := Aside0.mk A30
  clear A30
  simp only [Option.some.injEq, Prod.mk.injEq] at H
  obtain ⟨rfl, rfl, rfl⟩ := H
  go_enter Try.func67, Try.ntmps67
  go_wp2_with (first | ((with_reducible refine gate_callee (f := 66) rfl ?_); refine goesL_ (some 7) rfl rfl Try.func66 (by kernel_rfl) rfl #[.pointer (some ⟨g, 0, none⟩), .int .i64 a1] rfl (by (try simp only [List.map_toArray, List.map_cons, List.map_nil]); first | done | rfl | (simp only [List.length_drop, List.length_take]; rfl)) ?_; (with_reducible refine (spec_l00Src_next.calls g s0_0 s0_1 s0_2 a1 t387 t388 t389 w0 _ ?side1 ?side2 A3.out).mono ?_); (case side1 => repeat (first | (with_reducible first | exact HI0.out | apply IsS71.alloc | apply IsS71.drewN | apply IsS71.drew | apply IsS71.set_1 | apply IsS71.set_2) | exact HI0.out)); (case side2 => repeat (first | (with_reducible first | exact HB.out | apply below_alloc | apply pw_below_drewN | apply below_drew1 | refine below_set ?_ (IsS71.ge HI0.out)) | exact HB.out)); rintro e w4 ⟨rfl, hi, hb, hk⟩; refine ⟨_, rfl, ?_⟩; have n0_ := Aside0.mk (KeepBut.trans (by repeat (first | (with_reducible first | exact HK.out | apply KeepBut.set_ | apply keep_drewN | apply keep_drew | apply keep_alloc) | exact HK.out)) hk (.inl rfl)); have n1_ := Aside0.mk (hb); have n2_ := Aside0.mk (hi); clear HK; clear HB; clear HI0; have HK := n0_; have HB := n1_; have HI0 := n2_; clear n0_ n1_ n2_; (try clear hb); (try clear hb2); (try clear hk); (try clear hi)))
  go_ret
  exact ⟨by first | rfl | (simp [errW_none, errW_some] <;> rfl) | (simp [*, errW_none, errW_some] <;> rfl), by repeat (first | (with_reducible first | exact HI0.out | apply IsS71.alloc | apply IsS71.drewN | apply IsS71.drew | apply IsS71.set_1 | apply IsS71.set_2) | exact HI0.out), by repeat (first | (with_reducible first | exact HB.out | apply below_alloc | apply pw_below_drewN | apply below_drew1 | refine below_set ?_ (IsS71.ge HI0.out)) | exact HB.out), by repeat (first | (with_reducible first | exact HK.out | apply KeepBut.set_ | apply keep_drewN | apply keep_drew | apply keep_alloc) | exact HK.out)⟩

end Go.Proofs.Ytppgnndolgmcfaa.Q

/- The reference's draws: one of so many, out of a code of bytes. -/
namespace Go.Proofs.Ytppgnndolgmcfaa.U
open Go Go.RowKit Go.Proofs.Ytppgnndolgmcfaa.Q Go.Proofs.YtppgnndolgmcfaaW.PrintWords Go.Proofs.YtppgnndolgmcfaaW.PrintLast Go.Proofs.YtppgnndolgmcfaaW.PrintMore
set_option linter.unusedVariables false
set_option linter.unusedSimpArgs false

def Bytes (l : List Int) : Prop := ∀ x ∈ l, 0 ≤ x ∧ x < 256
theorem bytes_of {l : List Int} (h : ∀ x ∈ l, (Lit.int .u8 x).wf = true) : Bytes l := by
  intro x hx
  have := h x hx
  simp [Lit.wf, IntKind.min, IntKind.max, IntKind.bits, IntKind.signed] at this
  omega
theorem rd_byte {l : List Int} (h : Bytes l) {i : Int} (h0 : 0 ≤ i) (h1 : i < (l.length : Int)) : 0 ≤ rd l i ∧ rd l i < 256 := by
  obtain ⟨n, rfl⟩ := Int.eq_ofNat_of_zero_le h0
  have hn : n < l.length := by omega
  have : rd l (n : Int) = l[n] := by simp [rd, List.getD_eq_getElem?_getD, List.getElem?_eq_getElem hn]
  rw [this]
  exact h _ (List.getElem_mem hn)

/-- A source's state: how many were drawn (at most n), and the seed. -/
def Src (n a s : Int) : Prop := 0 ≤ a ∧ a ≤ n ∧ 0 ≤ s ∧ s < 2147483648

theorem seed_bd (x : Int) (h : 0 ≤ x) : 0 ≤ Int.tmod x 2147483648 ∧ Int.tmod x 2147483648 < 2147483648 := by
  rw [tmod_nn h]; omega

theorem byte_ok {l : List Int} (hl : Bytes l) {n a s : Int} (h : Src n a s) (hn : n < 1000000000) :
    ∃ v a' s', spec_l00Src_byte.f l a s = some (v, a', s') ∧ 0 ≤ v ∧ v < 256 ∧ Src (n + 1) a' s' := by
  obtain ⟨h0, h1, h2, h3⟩ := h
  unfold spec_l00Src_byte.f
  rw [if_pos h0, if_pos (by omega)]
  by_cases hlt : a < (l.length : Int)
  · rw [if_pos hlt]
    have hb := rd_byte hl h0 hlt
    generalize rd l a = b at *
    rw [wid (n := b) (by omega) (by omega), wid (n := s * 31) (by omega) (by omega), wid (n := s * 31 + b) (by omega) (by omega), wid (n := s * 31 + b + 7) (by omega) (by omega)]
    have := seed_bd (s * 31 + b + 7) (by omega)
    exact ⟨_, _, _, rfl, hb.1, hb.2, by omega, by omega, this.1, this.2⟩
  · rw [if_neg hlt]
    by_cases h5 : a + 1 > 3000
    · rw [if_pos h5]
      exact ⟨_, _, _, rfl, by omega, by omega, by omega, by omega, h2, h3⟩
    · rw [if_neg h5]
      rw [wid (n := s * 1103515245) (by omega) (by omega), wid (n := s * 1103515245 + 12345) (by omega) (by omega)]
      have := seed_bd (s * 1103515245 + 12345) (by omega)
      generalize Int.tmod (s * 1103515245 + 12345) 2147483648 = t at *
      rw [tdiv_nn this.1, wid (n := t / 65536) (by omega) (by omega), tmod_nn (by omega)]
      exact ⟨_, _, _, rfl, by omega, by omega, by omega, by omega, this.1, this.2⟩

theorem next_ok {l : List Int} (hl : Bytes l) {n a s : Int} (h : Src n a s) (hn : n < 900000000) (m : Int) (hm : m ≤ 1000000000000) :
    ∃ v a' s', spec_l00Src_next.f l a s m = some (v, a', s') ∧ 0 ≤ v ∧ (v < m ∨ (m ≤ 1 ∧ v = 0)) ∧ Src (n + 3) a' s' := by
  unfold spec_l00Src_next.f
  by_cases h1 : m ≤ 1
  · rw [if_pos h1]
    obtain ⟨g0, g1, g2, g3⟩ := h
    exact ⟨0, a, s, rfl, by omega, .inr ⟨h1, rfl⟩, g0, by omega, g2, g3⟩
  rw [if_neg h1]
  by_cases h2 : m ≤ 256
  · rw [if_pos h2]
    obtain ⟨v, a', s', e, v0, v1, g⟩ := byte_ok hl h (by omega)
    rw [e]
    simp only [Option.bind_some]
    rw [if_neg (by omega), tmod_nn v0]
    have q1 := Int.emod_nonneg v (by omega : m ≠ 0)
    have q2 := Int.emod_lt_of_pos v (by omega : 0 < m)
    obtain ⟨g0, g1, g2, g3⟩ := g
    exact ⟨_, _, _, rfl, q1, .inl q2, g0, by omega, g2, g3⟩
  · rw [if_neg h2]
    obtain ⟨v, a', s', e, v0, v1, g⟩ := byte_ok hl h (by omega)
    rw [e]
    simp only [Option.bind_some]
    obtain ⟨v', a'', s'', e', v0', v1', g'⟩ := byte_ok hl g (by omega)
    rw [e']
    simp only [Option.bind_some]
    obtain ⟨v2, a3, s3, e2, v02, v12, g2⟩ := byte_ok hl g' (by omega)
    rw [e2]
    simp only [Option.bind_some]
    rw [if_neg (by omega), wid (n := v * 65536) (by omega) (by omega), wid (n := v' * 256) (by omega) (by omega), wid (n := v * 65536 + v' * 256) (by omega) (by omega), wid (n := v * 65536 + v' * 256 + v2) (by omega) (by omega), tmod_nn (by omega)]
    have q1 := Int.emod_nonneg (v * 65536 + v' * 256 + v2) (by omega : m ≠ 0)
    have q2 := Int.emod_lt_of_pos (v * 65536 + v' * 256 + v2) (by omega : 0 < m)
    obtain ⟨g0, g1, g2, g3⟩ := g2
    exact ⟨_, _, _, rfl, q1, .inl q2, g0, by omega, g2, g3⟩

/-- 'at' of the laws: one of n that some bytes make. -/
theorem at_ok {l : List Int} (hl : Bytes l) (hlen : (l.length : Int) ≤ 140737488351232) (i n : Int) (hi : 0 ≤ i) (hi' : i ≤ 1000) (hn : 2 ≤ n) (hn' : n ≤ 1000000) :
    ∃ v, laws_at.f l i n = some v ∧ 0 ≤ v ∧ v < n := by
  unfold laws_at.f
  rw [if_neg (by omega)]
  by_cases h0 : (l.length : Int) = 0
  · rw [if_pos h0, if_neg (by omega), wid (n := i * 7) (by omega) (by omega), tmod_nn (by omega)]
    exact ⟨_, rfl, Int.emod_nonneg _ (by omega), Int.emod_lt_of_pos _ (by omega)⟩
  · rw [if_neg h0]
    have p1 := Int.emod_nonneg i (by omega : (l.length : Int) ≠ 0)
    have p2 := Int.emod_lt_of_pos i (by omega : 0 < (l.length : Int))
    have p3 := Int.emod_nonneg (i + 1) (by omega : (l.length : Int) ≠ 0)
    have p4 := Int.emod_lt_of_pos (i + 1) (by omega : 0 < (l.length : Int))
    rw [tmod_nn hi, wid (n := i + 1) (by omega) (by omega), tmod_nn (by omega)]
    rw [if_pos p1, if_pos p2, if_pos p3, if_pos p4, if_neg (by omega)]
    have b1 := rd_byte hl p1 p2
    have b2 := rd_byte hl p3 p4
    generalize rd l (i % (l.length : Int)) = x at *
    generalize rd l ((i + 1) % (l.length : Int)) = y at *
    have d0 : 0 ≤ i / (l.length : Int) := Int.ediv_nonneg hi (by omega)
    have d1 : i / (l.length : Int) ≤ i := Int.ediv_le_self _ hi
    rw [tdiv_nn hi]
    generalize i / (l.length : Int) = z at *
    rw [wid (n := x) (by omega) (by omega), wid (n := y) (by omega) (by omega), wid (n := z) (by omega) (by omega), wid (n := x * 31) (by omega) (by omega), wid (n := x * 31 + y) (by omega) (by omega), wid (n := x * 31 + y + z) (by omega) (by omega), tmod_nn (by omega)]
    exact ⟨_, rfl, Int.emod_nonneg _ (by omega), Int.emod_lt_of_pos _ (by omega)⟩

theorem pick_ok {l : List Int} (hl : Bytes l) {n a s : Int} (h : Src n a s) (hn : n < 900000000) (ws : List ByteArray) (h0 : ws ≠ []) (hw : ws.length < 200) :
    ∃ w a' s', spec_l00Src_pick.f l a s ws = some (w, a', s') ∧ w ∈ ws ∧ Src (n + 3) a' s' := by
  unfold spec_l00Src_pick.f
  have hlen : 0 < ws.length := List.length_pos_iff.2 h0
  rw [if_neg (by omega)]
  obtain ⟨v, a', s', e, v0, v1, g⟩ := next_ok hl h hn (ws.length : Int) (by omega)
  rw [e]
  simp only [Option.bind_some]
  have hv : v < (ws.length : Int) := by omega
  rw [if_pos v0, if_pos hv]
  obtain ⟨m, rfl⟩ := Int.eq_ofNat_of_zero_le v0
  have hm : m < ws.length := by omega
  have : rdOf ByteArray.empty ws (m : Int) = ws[m] := by simp [rdOf, List.getD_eq_getElem?_getD, List.getElem?_eq_getElem hm]
  exact ⟨_, _, _, rfl, by rw [this]; exact List.getElem_mem hm, g⟩

theorem chance_ok {l : List Int} (hl : Bytes l) {n a s : Int} (h : Src n a s) (hn : n < 900000000) (m : Int) (hm : 0 ≤ m ∧ m ≤ 1000000) :
    ∃ b a' s', spec_l00Src_chance.f l a s m = some (b, a', s') ∧ Src (n + 3) a' s' := by
  unfold spec_l00Src_chance.f
  obtain ⟨v, a', s', e, v0, v1, g⟩ := next_ok hl h hn m (by omega)
  rw [e]
  exact ⟨_, _, _, rfl, g⟩

theorem source_eq (l : List Int) : spec_l00Source.f l = some (l, 0, (l.length : Int) % 1000) := rfl
theorem source_src (l : List Int) : Src 0 0 ((l.length : Int) % 1000) := by unfold Src; omega

end Go.Proofs.Ytppgnndolgmcfaa.U

/- Shares are the lesser part of what is added, and lead back to no more than that. -/
namespace Go.Proofs.Ytppgnndolgmcfaa.Pure
open Go Go.RowKit Go.Proofs.Ytppgnndolgmcfaa.Q Go.Proofs.Ytppgnndolgmcfaa.U Go.Proofs.YtppgnndolgmcfaaW.PrintWords Go.Proofs.YtppgnndolgmcfaaW.PrintLast Go.Proofs.YtppgnndolgmcfaaW.PrintMore
set_option linter.unusedVariables false
set_option linter.unusedSimpArgs false

/-- What n shares of S + n lead back to of A + a is at most a, if n is at most a * S / A. -/
theorem back_le {A S a n : Int} (hA : 1 ≤ A) (hS : 1 ≤ S) (ha : 1 ≤ a) (hn : 0 ≤ n) (h : n * A ≤ a * S) : (A + a) * n / (S + n) ≤ a := by
  have h1 : (A + a) * n ≤ a * (S + n) := by
    have e : a * (S + n) - (A + a) * n = a * S - n * A := by grind
    omega
  have h2 := Int.ediv_le_ediv (by omega : 0 < S + n) h1
  rwa [Int.mul_ediv_cancel _ (by omega)] at h2

theorem shares_j1 (l1 : List Int) (hw : Bytes l1) (hl : (l1.length : Int) ≤ 1048576) (A B S : Int) (hp : poolB A B S = true) (h1 : A ≤ 1000) (h2 : B ≤ 1000) (h3 : S ≤ 1000) : Ev (fun k => laws_FnShares.j1 k l1 A B S) true := by
  obtain ⟨x, ex, p, q⟩ := at_ok hw (by omega) 0 1000 (by omega) (by omega) (by omega) (by omega)
  obtain ⟨y, ey, p', q'⟩ := at_ok hw (by omega) 1 1000 (by omega) (by omega) (by omega) (by omega)
  have w1 : wrap64 (1 + x) = 1 + x := wid (by omega) (by omega)
  have w2 : wrap64 (1 + y) = 1 + y := wid (by omega) (by omega)
  refine Ev.step (f := fun k => (impl_QuoteAdd.f k A B S (1 + x) (1 + y)).bind fun b1 => (spec_QuoteAdd.f k A B S (1 + x) (1 + y)).bind fun b2 =>
    if b1.2 = b2.2 then (if b1.1 = b2.1 then (impl_PoolOK.f A B S).bind fun t => laws_FnShares.j2 k (1 + x) (1 + y) b1.1 b1.2 (!t) A B S else laws_FnShares.j2 k (1 + x) (1 + y) b1.1 b1.2 true A B S) else laws_FnShares.j2 k (1 + x) (1 + y) b1.1 b1.2 true A B S) (fun k => ?_) ?_
  · rw [laws_FnShares.j1, ex, ey]
    simp only [Option.bind_some, w1, w2]
  have ha : 1 ≤ 1 + x ∧ 1 + x ≤ 1000 := by omega
  have hb : 1 ≤ 1 + y ∧ 1 + y ≤ 1000 := by omega
  generalize 1 + x = a at *
  generalize 1 + y = b at *
  clear w1 w2 ex ey p q p' q'
  obtain ⟨R, r0, r1, r2, r3⟩ := root_of a b (by omega) (by omega) (by omega) (by omega)
  refine Ev.bind (implQuoteAdd_ev R A B S a b r0 r1 r2 r3) (Ev.bind (specQuoteAdd_ev R A B S a b r0 r1 r2 r3) ?_)
  simp only [if_true, PoolOK_eq, hp, Option.bind_some, Bool.not_true]
  have hp' := poolB_iff.1 hp
  have hv : quoteAddV R A B S a b = addV R A B S a b := by
    unfold quoteAddV
    rw [if_pos hp, if_pos (by simp only [Bool.and_eq_true, inB_iff]; omega)]
  rw [hv]
  unfold addV
  rw [if_neg (by omega)]
  have hpr : Ev (fun k => laws_FnShares.j2 k a b 0 17 false A B S) true := Ev.step (fun k => by rw [laws_FnShares.j2, if_neg (by decide), if_neg (by decide)]; rfl) (Ev.now _)
  have mab := mul_bd (X := 1000) (Y := 1000) (x := a) (y := b) (by omega) (by omega) (by omega) (by omega)
  -- behind a quote n
  have behind : ∀ n : Int, 1 ≤ n → n ≤ 1000000 → (∀ u v : Int, u = (A + a) * n / (S + n) → v = (B + b) * n / (S + n) → 1 ≤ u → 1 ≤ v → Ev (fun k => laws_FnShares.j3 k a b n u v 0 false A B S) true) → Ev (fun k => laws_FnShares.j2 k a b n 0 false A B S) true := by
    intro n hn hn' hk
    have hpq : poolB (A + a) (B + b) (S + n) = true := poolB_iff.2 (.inr (by omega))
    refine Ev.step (f := fun k => (impl_QuoteRemove.f k (A + a) (B + b) (S + n) n).bind fun b1 => (spec_QuoteRemove.f k (A + a) (B + b) (S + n) n).bind fun b2 =>
      if b1.2.2 = b2.2.2 then (if b1.1 = b2.1 then laws_FnShares.j3 k a b n b1.1 b1.2.1 b1.2.2 (b1.2.1 != b2.2.1) A B S else laws_FnShares.j3 k a b n b1.1 b1.2.1 b1.2.2 true A B S) else laws_FnShares.j3 k a b n b1.1 b1.2.1 b1.2.2 true A B S) (fun k => ?_) ?_
    · rw [laws_FnShares.j2, if_neg (by decide), if_pos rfl, wid (n := A + a) (by omega) (by omega), wid (n := B + b) (by omega) (by omega), wid (n := S + n) (by omega) (by omega)]
    refine Ev.bind (implQuoteRemove_ev _ _ _ _) (Ev.bind (specQuoteRemove_ev _ _ _ _) ?_)
    simp only [if_true, bne_self_eq_false]
    have hq : quoteRemoveV (A + a) (B + b) (S + n) n = remV (A + a) (B + b) (S + n) n := by
      unfold quoteRemoveV
      rw [if_pos hpq, if_pos (by rw [inB_iff]; omega)]
    rw [hq]
    unfold remV
    rw [if_neg (by omega)]
    have hno : ∀ u v : Int, Ev (fun k => laws_FnShares.j3 k a b n u v 17 false A B S) true := fun u v => Ev.step (fun k => by rw [laws_FnShares.j3, if_neg (by decide), if_neg (by decide)]; rfl) (Ev.now _)
    by_cases z1 : (A + a) * n / (S + n) = 0
    · rw [if_pos z1]; exact hno _ _
    rw [if_neg z1]
    by_cases z2 : (B + b) * n / (S + n) = 0
    · rw [if_pos z2]; exact hno _ _
    rw [if_neg z2]
    have u0 : 0 ≤ (A + a) * n / (S + n) := Int.ediv_nonneg (Int.mul_nonneg (by omega) (by omega)) (by omega)
    have v0 : 0 ≤ (B + b) * n / (S + n) := Int.ediv_nonneg (Int.mul_nonneg (by omega) (by omega)) (by omega)
    have u1 : 1 ≤ (A + a) * n / (S + n) := by omega
    have v1 : 1 ≤ (B + b) * n / (S + n) := by omega
    exact hk _ _ rfl rfl u1 v1
  by_cases hS : S = 0
  · rw [if_pos hS]
    have hz : A = 0 ∧ B = 0 := by omega
    obtain ⟨rfl, rfl⟩ := hz
    subst hS
    unfold addEndV
    by_cases hR : R = 0
    · rw [if_pos hR]; exact hpr
    have hR6 : R ≤ 1000000 := by
      have : R * 1 ≤ R * R := Int.mul_le_mul_of_nonneg_left (by omega) r0
      omega
    rw [if_neg hR, if_neg (by omega)]
    refine behind R (by omega) hR6 ?_
    intro u v hu hv _ _
    have eu : u = a := by rw [hu, show (0 + a) * R / (0 + R) = a * R / R from by simp, Int.mul_ediv_cancel _ (by omega)]
    have ev : v = b := by rw [hv, show (0 + b) * R / (0 + R) = b * R / R from by simp, Int.mul_ediv_cancel _ (by omega)]
    have m6 := mul_bd (X := 1000001) (Y := 1000001) (x := R + 1) (y := R + 1) (by omega) (by omega) (by omega) (by omega)
    have m7 := mul_bd (X := 1000001) (Y := 1000001) (x := R) (y := R) (by omega) (by omega) (by omega) (by omega)
    refine Ev.step (fun k => ?_) (Ev.now _)
    rw [laws_FnShares.j3, if_neg (by decide), if_pos rfl, if_pos rfl, if_pos eu, if_pos ev]
    rw [wid (n := R * R) (by omega) (by omega), wid (n := a * b) (by omega) (by omega), wid (n := R + 1) (by omega) (by omega), wid (n := (R + 1) * (R + 1)) (by omega) (by omega), if_pos r2, decide_eq_true r3]
  · rw [if_neg hS]
    obtain ⟨⟨a1, a2⟩, ⟨b1, b2⟩, c1, c2⟩ : (1 ≤ A ∧ A ≤ 1000000000000000000) ∧ (1 ≤ B ∧ B ≤ 1000000000000000000) ∧ 1 ≤ S ∧ S ≤ 1000000000000000000 := by omega
    have maS := mul_bd (X := 1000) (Y := 1000) (x := a) (y := S) (by omega) (by omega) (by omega) (by omega)
    have mbS := mul_bd (X := 1000) (Y := 1000) (x := b) (y := S) (by omega) (by omega) (by omega) (by omega)
    have qa := Int.ediv_le_self A maS.1
    have qb := Int.ediv_le_self B mbS.1
    have qa0 : 0 ≤ a * S / A := Int.ediv_nonneg maS.1 (by omega)
    have qb0 : 0 ≤ b * S / B := Int.ediv_nonneg mbS.1 (by omega)
    have ga : a * S / A * A ≤ a * S := Int.ediv_mul_le _ (by omega)
    have gb : b * S / B * B ≤ b * S := Int.ediv_mul_le _ (by omega)
    rw [if_neg (by omega)]
    have hmn : mn (a * S / A) (b * S / B) ≤ a * S / A ∧ mn (a * S / A) (b * S / B) ≤ b * S / B ∧ 0 ≤ mn (a * S / A) (b * S / B) := by unfold mn; omega
    generalize mn (a * S / A) (b * S / B) = n at *
    unfold addEndV
    by_cases hn0 : n = 0
    · rw [if_pos hn0]; exact hpr
    rw [if_neg hn0, if_neg (by omega)]
    refine behind n (by omega) (by omega) ?_
    intro u v hu hv _ _
    have hA : n * A ≤ a * S := by
      have h5 : n * A ≤ a * S / A * A := Int.mul_le_mul_of_nonneg_right hmn.1 (by omega)
      omega
    have hB : n * B ≤ b * S := by
      have h5 : n * B ≤ b * S / B * B := Int.mul_le_mul_of_nonneg_right hmn.2.1 (by omega)
      omega
    have hu' : u ≤ a := by rw [hu]; exact back_le a1 c1 ha.1 (by omega) hA
    have hv' : v ≤ b := by rw [hv]; exact back_le b1 c1 hb.1 (by omega) hB
    have m6 := mul_bd (X := 1000000) (Y := 1000) (x := n) (y := A) (by omega) (by omega) (by omega) (by omega)
    have m7 := mul_bd (X := 1000000) (Y := 1000) (x := n) (y := B) (by omega) (by omega) (by omega) (by omega)
    refine Ev.step (fun k => ?_) (Ev.now _)
    rw [laws_FnShares.j3, if_neg (by decide), if_pos rfl, if_neg hS, if_pos hu', if_pos hv']
    rw [wid (n := n * A) (by omega) (by omega), wid (n := a * S) (by omega) (by omega), wid (n := n * B) (by omega) (by omega), wid (n := b * S) (by omega) (by omega), if_pos hA, decide_eq_true hB]

theorem FnShares : laws_FnShares.Pure := by
  intro l0 l1 _ hl0 hw0 _ hl1 hw1
  refine Ev.rounds (?_ : Ev (fun k => laws_FnShares.f k l0 l1) true)
  have hlong : Ev (fun k => laws_FnShares.j0 k l0 l1 true) true := Ev.step (fun k => by rw [laws_FnShares.j0, if_pos rfl]) (Ev.now _)
  unfold laws_FnShares.f
  by_cases h0 : (l0.length : Int) > 1048576
  · simp only [if_pos h0]; exact hlong
  simp only [if_neg h0]
  by_cases h1 : (l1.length : Int) > 1048576
  · simp only [decide_eq_true h1]; exact hlong
  simp only [decide_eq_false h1]
  have b0 := bytes_of hw0
  have b1 := bytes_of hw1
  obtain ⟨x0, e0, p0, q0⟩ := at_ok b0 (by omega) 0 1000 (by omega) (by omega) (by omega) (by omega)
  obtain ⟨x1, e1, p1, q1⟩ := at_ok b0 (by omega) 1 1000 (by omega) (by omega) (by omega) (by omega)
  obtain ⟨x2, e2, p2, q2⟩ := at_ok b0 (by omega) 2 1000 (by omega) (by omega) (by omega) (by omega)
  obtain ⟨x3, e3, p3, q3⟩ := at_ok b0 (by omega) 3 5 (by omega) (by omega) (by omega) (by omega)
  refine Ev.step (f := fun k => if x3 = 0 then laws_FnShares.j1 k l1 0 0 0 else laws_FnShares.j1 k l1 (1 + x0) (1 + x1) (1 + x2)) (fun k => ?_) ?_
  · rw [laws_FnShares.j0, if_neg (by decide), e0, e1, e2, e3]
    simp only [Option.bind_some]
    rw [wid (n := 1 + x0) (by omega) (by omega), wid (n := 1 + x1) (by omega) (by omega), wid (n := 1 + x2) (by omega) (by omega)]
  by_cases hz : x3 = 0
  · simp only [if_pos hz]
    exact shares_j1 l1 b1 (by omega) 0 0 0 (poolB_iff.2 (.inl (by omega))) (by omega) (by omega) (by omega)
  · simp only [if_neg hz]
    exact shares_j1 l1 b1 (by omega) _ _ _ (poolB_iff.2 (.inr (by omega))) (by omega) (by omega) (by omega)
end Go.Proofs.Ytppgnndolgmcfaa.Pure
