/- Parts of the proof: what single Go functions compute, each with its walk, and plain laws over these. -/
import Derived.Test.YtppgnndolgmcfaaM0
import Derived.Test.YtppgnndolgmcfaaM1
import Derived.WalkKit
import Derived.ProofKit
import Derived.OpenShut
import Derived.ShutString
import Derived.ChangeOld
import Derived.Below
import Derived.ChangeArms
import Derived.DataReads
import Derived.Test.YtppgnndolgmcfaaWWords
namespace Go.Proofs.Ytppgnndolgmcfaa.Q
open Go.RowKit Go.Proofs.YtppgnndolgmcfaaW.PrintWords Go.Proofs.YtppgnndolgmcfaaW.PrintLast Go.Proofs.YtppgnndolgmcfaaW.PrintMore
attribute [local go_sem] max2_int min2_int max_two min_two max_three min_three max_four min_four   -- for this text's walks alone
set_option linter.unusedVariables false
set_option linter.unusedSimpArgs false

/-! ### spec_l05Name: function 38 -/
def spec_l05Name.f (k : Nat) (a0 : ByteArray) : Option (Bool) := if (a0.size : Int) ≤ 12 then ((spec_NameOK.f k a0).bind fun t137 => (some t137)) else (some false)
theorem spec_l05Name.mono : ∀ a0 k, LeO (spec_l05Name.f k a0) (spec_l05Name.f (k + 1) a0) := by
  intro a0 k
  unfold spec_l05Name.f
  repeat' first
      | (with_reducible exact spec_NameOK.mono _ _)
      | (with_reducible exact LeO.refl _)
      | (with_reducible exact LeO.none _)
      | (with_reducible refine LeO.ite ?_ ?_)
      | (with_reducible refine LeO.bind ?_ (fun _ => ?_))
      | exact spec_NameOK.mono _ _
      | exact LeO.none _
      | refine LeO.ite ?_ ?_
      | refine LeO.bind ?_ (fun _ => ?_)
set_option maxHeartbeats 8000000 in
set_option maxRecDepth 100000 in
theorem spec_l05Name.calls (k : Nat) (a0 : ByteArray) (r : Bool) (w : World) (h : spec_l05Name.f k a0 = some r) :
    Calls Try.prog 38 #[.string a0] w fun e w' => e = .returned (.bool r) ∧ Drawn0 w w' := by
  have H : (if (a0.size : Int) ≤ 12 then ((spec_NameOK.f k a0).bind fun t137 => (some t137)) else (some false)) = some r := h
  clear h
  by_cases c2 : (a0.size : Int) ≤ 12
  · rw [if_pos c2] at H
    have c2b0 : decide ((a0.size : Int) ≤ 12) = true := decide_eq_true c2
    have c2b1 : decide (a0.size ≤ 12) = true := decide_eq_true (by omega)
    clear c2
    replace H := Option.bind_eq_some_iff.mp H
    obtain ⟨t137, A30, H⟩ := H
    replace H : (some t137) = some r := H
    have A3 := Aside0.mk A30
    clear A30
    obtain rfl := Option.some.inj H
    go_enter Try.func38, Try.ntmps38
    go_wp2_with (first | (go_at_call 54; (with_reducible refine (spec_NameOK.calls k a0 t137 _ A3.out).mono ?_); rintro e w' ⟨rfl, ⟨nd, rfl⟩⟩))
    go_ret
    exact ⟨by first | rfl | (simp; done) | (simp [*]; done), by repeat (first | exact Drawn0.refl _ | apply Drawn0.step)⟩
  · rw [if_neg c2] at H
    have c2b0 : decide ((a0.size : Int) ≤ 12) = false := decide_eq_false c2
    have c2b1 : decide (a0.size ≤ 12) = false := decide_eq_false (by omega)
    clear c2
    obtain rfl := Option.some.inj H
    go_enter Try.func38, Try.ntmps38
    go_wp2
    go_ret
    exact ⟨by first | rfl | (simp; done) | (simp [*]; done), by repeat (first | exact Drawn0.refl _ | apply Drawn0.step)⟩

end Go.Proofs.Ytppgnndolgmcfaa.Q

namespace Go.Proofs.Ytppgnndolgmcfaa.Q
open Go.RowKit Go.Proofs.YtppgnndolgmcfaaW.PrintWords Go.Proofs.YtppgnndolgmcfaaW.PrintLast Go.Proofs.YtppgnndolgmcfaaW.PrintMore
attribute [local go_sem] max2_int min2_int max_two min_two max_three min_three max_four min_four   -- for this text's walks alone
set_option linter.unusedVariables false
set_option linter.unusedSimpArgs false

/-! ### spec_l08Name: function 39 -/
def spec_l08Name.f (k : Nat) (a0 : ByteArray) : Option (Bool) := (spec_l05Name.f k a0).bind fun t138 => (if t138 = true then (if a0.toList = ([101, 115, 99, 114, 111, 119] : List UInt8) then (some false) else (if a0.toList = ([111, 114, 100, 101, 114, 115] : List UInt8) then (some false) else (if a0.toList = ([116, 97, 107, 101, 115] : List UInt8) then (some false) else (some (a0.toList != ([112, 111, 111, 108] : List UInt8)))))) else (some false))
theorem spec_l08Name.mono : ∀ a0 k, LeO (spec_l08Name.f k a0) (spec_l08Name.f (k + 1) a0) := by
  intro a0 k
  unfold spec_l08Name.f
  repeat' first
      | (with_reducible exact spec_l05Name.mono _ _)
      | (with_reducible exact LeO.refl _)
      | (with_reducible exact LeO.none _)
      | (with_reducible refine LeO.ite ?_ ?_)
      | (with_reducible refine LeO.bind ?_ (fun _ => ?_))
      | exact spec_l05Name.mono _ _
      | exact LeO.none _
      | refine LeO.ite ?_ ?_
      | refine LeO.bind ?_ (fun _ => ?_)
set_option maxHeartbeats 8000000 in
set_option maxRecDepth 100000 in
theorem spec_l08Name.calls (k : Nat) (a0 : ByteArray) (r : Bool) (w : World) (h : spec_l08Name.f k a0 = some r) :
    Calls Try.prog 39 #[.string a0] w fun e w' => e = .returned (.bool r) ∧ Drawn0 w w' := by
  have H : ((spec_l05Name.f k a0).bind fun t138 => (if t138 = true then (if a0.toList = ([101, 115, 99, 114, 111, 119] : List UInt8) then (some false) else (if a0.toList = ([111, 114, 100, 101, 114, 115] : List UInt8) then (some false) else (if a0.toList = ([116, 97, 107, 101, 115] : List UInt8) then (some false) else (some (a0.toList != ([112, 111, 111, 108] : List UInt8)))))) else (some false))) = some r := h
  clear h
  replace H := Option.bind_eq_some_iff.mp H
  obtain ⟨t138, A20, H⟩ := H
  replace H : (if t138 = true then (if a0.toList = ([101, 115, 99, 114, 111, 119] : List UInt8) then (some false) else (if a0.toList = ([111, 114, 100, 101, 114, 115] : List UInt8) then (some false) else (if a0.toList = ([116, 97, 107, 101, 115] : List UInt8) then (some false) else (some (a0.toList != ([112, 111, 111, 108] : List UInt8)))))) else (some false)) = some r := H
  have A2 := Aside0.mk A20
  clear A20
  by_cases c3 : t138 = true
  · subst c3
    have H1 : (if a0.toList = ([101, 115, 99, 114, 111, 119] : List UInt8) then (some false) else (if a0.toList = ([111, 114, 100, 101, 114, 115] : List UInt8) then (some false) else (if a0.toList = ([116, 97, 107, 101, 115] : List UInt8) then (some false) else (some (a0.toList != ([112, 111, 111, 108] : List UInt8)))))) = some r := by rw [if_pos rfl] at H; exact H
    clear H
    have H := H1
    clear H1
    by_cases c4 : a0.toList = ([101, 115, 99, 114, 111, 119] : List UInt8)
    · rw [if_pos c4] at H
      have c4b0 : (a0.toList == ([101, 115, 99, 114, 111, 119] : List UInt8)) = true := beq_iff_eq.mpr c4
      have c4b1 : (a0.toList != ([101, 115, 99, 114, 111, 119] : List UInt8)) = false := bne_eq_false_iff_eq.mpr c4
      clear c4
      obtain rfl := Option.some.inj H
      go_enter Try.func39, Try.ntmps39
      go_wp2_with (first | ((with_reducible refine gate_callee (f := 38) rfl ?_); refine goesL_ (some 4) rfl rfl Try.func38 (by kernel_rfl) rfl #[.string a0] rfl (by (try simp only [List.map_toArray, List.map_cons, List.map_nil]); first | done | rfl | (simp only [List.length_drop, List.length_take]; rfl)) ?_; (with_reducible refine (spec_l05Name.calls k a0 true _ A2.out).mono ?_); rintro e w' ⟨rfl, ⟨nd, rfl⟩⟩; refine ⟨_, rfl, ?_⟩))
      go_ret
      exact ⟨by first | rfl | (simp; done) | (simp [*]; done), by repeat (first | exact Drawn0.refl _ | apply Drawn0.step)⟩
    · rw [if_neg c4] at H
      have c4b0 : (a0.toList == ([101, 115, 99, 114, 111, 119] : List UInt8)) = false := beq_eq_false_iff_ne.mpr c4
      have c4b1 : (a0.toList != ([101, 115, 99, 114, 111, 119] : List UInt8)) = true := bne_iff_ne.mpr c4
      by_cases c5 : a0.toList = ([111, 114, 100, 101, 114, 115] : List UInt8)
      · rw [if_pos c5] at H
        have c5b0 : (a0.toList == ([111, 114, 100, 101, 114, 115] : List UInt8)) = true := beq_iff_eq.mpr c5
        have c5b1 : (a0.toList != ([111, 114, 100, 101, 114, 115] : List UInt8)) = false := bne_eq_false_iff_eq.mpr c5
        clear c5
        obtain rfl := Option.some.inj H
        go_enter Try.func39, Try.ntmps39
        go_wp2_with (first | ((with_reducible refine gate_callee (f := 38) rfl ?_); refine goesL_ (some 4) rfl rfl Try.func38 (by kernel_rfl) rfl #[.string a0] rfl (by (try simp only [List.map_toArray, List.map_cons, List.map_nil]); first | done | rfl | (simp only [List.length_drop, List.length_take]; rfl)) ?_; (with_reducible refine (spec_l05Name.calls k a0 true _ A2.out).mono ?_); rintro e w' ⟨rfl, ⟨nd, rfl⟩⟩; refine ⟨_, rfl, ?_⟩))
        go_ret
        exact ⟨by first | rfl | (simp; done) | (simp [*]; done), by repeat (first | exact Drawn0.refl _ | apply Drawn0.step)⟩
      · rw [if_neg c5] at H
        have c5b0 : (a0.toList == ([111, 114, 100, 101, 114, 115] : List UInt8)) = false := beq_eq_false_iff_ne.mpr c5
        have c5b1 : (a0.toList != ([111, 114, 100, 101, 114, 115] : List UInt8)) = true := bne_iff_ne.mpr c5
        by_cases c6 : a0.toList = ([116, 97, 107, 101, 115] : List UInt8)
        · rw [if_pos c6] at H
          have c6b0 : (a0.toList == ([116, 97, 107, 101, 115] : List UInt8)) = true := beq_iff_eq.mpr c6
          have c6b1 : (a0.toList != ([116, 97, 107, 101, 115] : List UInt8)) = false := bne_eq_false_iff_eq.mpr c6
          clear c6
          obtain rfl := Option.some.inj H
          go_enter Try.func39, Try.ntmps39
          go_wp2_with (first | ((with_reducible refine gate_callee (f := 38) rfl ?_); refine goesL_ (some 4) rfl rfl Try.func38 (by kernel_rfl) rfl #[.string a0] rfl (by (try simp only [List.map_toArray, List.map_cons, List.map_nil]); first | done | rfl | (simp only [List.length_drop, List.length_take]; rfl)) ?_; (with_reducible refine (spec_l05Name.calls k a0 true _ A2.out).mono ?_); rintro e w' ⟨rfl, ⟨nd, rfl⟩⟩; refine ⟨_, rfl, ?_⟩))
          go_ret
          exact ⟨by first | rfl | (simp; done) | (simp [*]; done), by repeat (first | exact Drawn0.refl _ | apply Drawn0.step)⟩
        · rw [if_neg c6] at H
          have c6b0 : (a0.toList == ([116, 97, 107, 101, 115] : List UInt8)) = false := beq_eq_false_iff_ne.mpr c6
          have c6b1 : (a0.toList != ([116, 97, 107, 101, 115] : List UInt8)) = true := bne_iff_ne.mpr c6
          obtain rfl := Option.some.inj H
          go_enter Try.func39, Try.ntmps39
          go_wp2_with (first | ((with_reducible refine gate_callee (f := 38) rfl ?_); refine goesL_ (some 4) rfl rfl Try.func38 (by kernel_rfl) rfl #[.string a0] rfl (by (try simp only [List.map_toArray, List.map_cons, List.map_nil]); first | done | rfl | (simp only [List.length_drop, List.length_take]; rfl)) ?_; (with_reducible refine (spec_l05Name.calls k a0 true _ A2.out).mono ?_); rintro e w' ⟨rfl, ⟨nd, rfl⟩⟩; refine ⟨_, rfl, ?_⟩))
          go_ret
          exact ⟨by first | rfl | (simp; done) | (simp [*]; done), by repeat (first | exact Drawn0.refl _ | apply Drawn0.step)⟩
  · replace c3 := Bool.eq_false_iff.mpr c3
    subst c3
    have H1 : (some false) = some r := by rw [if_neg (show ¬ (false = true) by decide)] at H; exact H
    clear H
    have H := H1
    clear H1
    obtain rfl := Option.some.inj H
    go_enter Try.func39, Try.ntmps39
    go_wp2_with (first | ((with_reducible refine gate_callee (f := 38) rfl ?_); refine goesL_ (some 4) rfl rfl Try.func38 (by kernel_rfl) rfl #[.string a0] rfl (by (try simp only [List.map_toArray, List.map_cons, List.map_nil]); first | done | rfl | (simp only [List.length_drop, List.length_take]; rfl)) ?_; (with_reducible refine (spec_l05Name.calls k a0 false _ A2.out).mono ?_); rintro e w' ⟨rfl, ⟨nd, rfl⟩⟩; refine ⟨_, rfl, ?_⟩))
    go_ret
    exact ⟨by first | rfl | (simp; done) | (simp [*]; done), by repeat (first | exact Drawn0.refl _ | apply Drawn0.step)⟩

end Go.Proofs.Ytppgnndolgmcfaa.Q

namespace Go.Proofs.Ytppgnndolgmcfaa.Q
open Go.RowKit Go.Proofs.YtppgnndolgmcfaaW.PrintWords Go.Proofs.YtppgnndolgmcfaaW.PrintLast Go.Proofs.YtppgnndolgmcfaaW.PrintMore
attribute [local go_sem] max2_int min2_int max_two min_two max_three min_three max_four min_four   -- for this text's walks alone
set_option linter.unusedVariables false
set_option linter.unusedSimpArgs false

/-! ### impl_NameOK: function 70 -/
def impl_NameOK.l0 : Nat → ByteArray → Int → Int → Option (Bool)
  | 0, _, _, _ => none
  | k + 1, x0, x7, x8 => if x8 < x7 then (if 0 ≤ x8 then (if x8 < (x0.size : Int) then (if (bt x0 x8) ≥ 97 then (if (bt x0 x8) ≤ 122 then (impl_NameOK.l0 k x0 x7 (wrap64 (x8 + 1))) else (if (bt x0 x8) ≥ 65 then (if (bt x0 x8) ≤ 90 then (impl_NameOK.l0 k x0 x7 (wrap64 (x8 + 1))) else (if ((bt x0 x8) = 95) then (impl_NameOK.l0 k x0 x7 (wrap64 (x8 + 1))) else (if x8 = 0 then (some false) else (if (bt x0 x8) < 48 then (some false) else (if (bt x0 x8) > 57 then (some false) else (impl_NameOK.l0 k x0 x7 (wrap64 (x8 + 1)))))))) else (if ((bt x0 x8) = 95) then (impl_NameOK.l0 k x0 x7 (wrap64 (x8 + 1))) else (if x8 = 0 then (some false) else (if (bt x0 x8) < 48 then (some false) else (if (bt x0 x8) > 57 then (some false) else (impl_NameOK.l0 k x0 x7 (wrap64 (x8 + 1))))))))) else (if (bt x0 x8) ≥ 65 then (if (bt x0 x8) ≤ 90 then (impl_NameOK.l0 k x0 x7 (wrap64 (x8 + 1))) else (if ((bt x0 x8) = 95) then (impl_NameOK.l0 k x0 x7 (wrap64 (x8 + 1))) else (if x8 = 0 then (some false) else (if (bt x0 x8) < 48 then (some false) else (if (bt x0 x8) > 57 then (some false) else (impl_NameOK.l0 k x0 x7 (wrap64 (x8 + 1)))))))) else (if ((bt x0 x8) = 95) then (impl_NameOK.l0 k x0 x7 (wrap64 (x8 + 1))) else (if x8 = 0 then (some false) else (if (bt x0 x8) < 48 then (some false) else (if (bt x0 x8) > 57 then (some false) else (impl_NameOK.l0 k x0 x7 (wrap64 (x8 + 1))))))))) else (none)) else (none)) else ((impl_within.f (x0.size : Int) 1 40).bind fun t148 => (some t148))
def impl_NameOK.f (k : Nat) (a0 : ByteArray) : Option (Bool) := impl_NameOK.l0 k a0 (a0.size : Int) 0
theorem impl_NameOK.mono_l : ∀ k, (∀ y0 y1 y2, LeO (impl_NameOK.l0 k y0 y1 y2) (impl_NameOK.l0 (k + 1) y0 y1 y2))
  | 0 => fun _ _ _ r h => by simp [impl_NameOK.l0] at h
  | k + 1 => by
    have ih0 := impl_NameOK.mono_l k
    · intro y0 y1 y2
      unfold impl_NameOK.l0
      repeat' first
      | (with_reducible exact ih0 _ _ _)
      | (with_reducible exact LeO.refl _)
      | (with_reducible exact LeO.none _)
      | (with_reducible refine LeO.ite ?_ ?_)
      | (with_reducible refine LeO.bind ?_ (fun _ => ?_))
      | exact ih0 _ _ _
      | exact LeO.none _
      | refine LeO.ite ?_ ?_
      | refine LeO.bind ?_ (fun _ => ?_)
theorem impl_NameOK.mono : ∀ a0 k, LeO (impl_NameOK.f k a0) (impl_NameOK.f (k + 1) a0) := by
  intro a0 k
  have ih0 := impl_NameOK.mono_l k
  unfold impl_NameOK.f
  repeat' first
      | (with_reducible exact ih0 _ _ _)
      | (with_reducible exact LeO.refl _)
      | (with_reducible exact LeO.none _)
      | (with_reducible refine LeO.ite ?_ ?_)
      | (with_reducible refine LeO.bind ?_ (fun _ => ?_))
      | exact ih0 _ _ _
      | exact LeO.none _
      | refine LeO.ite ?_ ?_
      | refine LeO.bind ?_ (fun _ => ?_)
set_option maxHeartbeats 8000000 in
set_option maxRecDepth 100000 in
theorem impl_NameOK.calls (k : Nat) (a0 : ByteArray) (r : Bool) (w : World) (h : impl_NameOK.f k a0 = some r) :
    Calls Try.prog 70 #[.string a0] w fun e w' => e = .returned (.bool r) ∧ Drawn0 w w' := by
  have H : (impl_NameOK.l0 k a0 (a0.size : Int) 0) = some r := h
  clear h
  have H' := Aside0.mk H
  clear H
  go_enter Try.func70, Try.ntmps70
  go_wp2
  go_loopg [8] k (fun kq v8 w' => ∃ (x8_1 : Int), v8 = .int .i64 x8_1 ∧ Aside0 (impl_NameOK.l0 kq a0 (a0.size : Int) x8_1 = some r) ∧ Aside0 (kq ≤ k) ∧ Drawn0 w w')
  case atStart => exact ⟨(0), (by first | rfl | (simp; done) | (simp [*]; done)), H', ⟨Nat.le_refl _⟩, by repeat (first | exact Drawn0.refl _ | apply Drawn0.step)⟩
  case round =>
    clear H'
    obtain ⟨x8_1, rfl, HA, HK1, ⟨m1, rfl⟩⟩ := hrel
    cases gk with
    | zero => exact absurd HA.out (by simp [impl_NameOK.l0])
    | succ k1 =>
      have H := HA.out
      clear HA
      simp only [impl_NameOK.l0] at H
      by_cases c2 : x8_1 < (a0.size : Int)
      · rw [if_pos c2] at H
        have c2b0 : decide (x8_1 < (a0.size : Int)) = true := decide_eq_true c2
        clear c2
        by_cases c3 : 0 ≤ x8_1
        · rw [if_pos c3] at H
          have c3b0 : decide (0 ≤ x8_1) = true := decide_eq_true c3
          clear c3
          by_cases c4 : x8_1 < (a0.size : Int)
          · rw [if_pos c4] at H
            have c4b0 : decide (x8_1 < (a0.size : Int)) = true := decide_eq_true c4
            clear c4
            by_cases c6 : (bt a0 x8_1) ≥ 97
            · rw [if_pos c6] at H
              have c6b0 : decide (97 ≤ (bt a0 x8_1)) = true := decide_eq_true c6
              clear c6
              by_cases c7 : (bt a0 x8_1) ≤ 122
              · rw [if_pos c7] at H
                have c7b0 : decide ((bt a0 x8_1) ≤ 122) = true := decide_eq_true c7
                clear c7
                have H' := Aside0.mk H
                clear H
                have p5 : 0 ≤ (x8_1 : Int) := of_decide_eq_true (by first | (with_reducible assumption) | assumption)
                have q5 : x8_1 < (a0.size : Int) := of_decide_eq_true (by first | (with_reducible assumption) | assumption)
                have hx5 := bt_at a0 x8_1
                replace p5 := eq_true p5
                replace q5 := eq_true q5
                go_wp2
                go_roundg k1
                case measure => have := HK1.out; omega
                case rel => exact ⟨(wrap64 (x8_1 + 1)), (by first | rfl | (simp; done) | (simp [*]; done)), H', ⟨by have := HK1.out; omega⟩, by repeat (first | exact Drawn0.refl _ | apply Drawn0.step)⟩
              · rw [if_neg c7] at H
                have c7b0 : decide ((bt a0 x8_1) ≤ 122) = false := decide_eq_false c7
                clear c7
                by_cases c8 : (bt a0 x8_1) ≥ 65
                · rw [if_pos c8] at H
                  have c8b0 : decide (65 ≤ (bt a0 x8_1)) = true := decide_eq_true c8
                  clear c8
                  by_cases c9 : (bt a0 x8_1) ≤ 90
                  · rw [if_pos c9] at H
                    have c9b0 : decide ((bt a0 x8_1) ≤ 90) = true := decide_eq_true c9
                    clear c9
                    have H' := Aside0.mk H
                    clear H
                    have p5 : 0 ≤ (x8_1 : Int) := of_decide_eq_true (by first | (with_reducible assumption) | assumption)
                    have q5 : x8_1 < (a0.size : Int) := of_decide_eq_true (by first | (with_reducible assumption) | assumption)
                    have hx5 := bt_at a0 x8_1
                    replace p5 := eq_true p5
                    replace q5 := eq_true q5
                    go_wp2
                    go_roundg k1
                    case measure => have := HK1.out; omega
                    case rel => exact ⟨(wrap64 (x8_1 + 1)), (by first | rfl | (simp; done) | (simp [*]; done)), H', ⟨by have := HK1.out; omega⟩, by repeat (first | exact Drawn0.refl _ | apply Drawn0.step)⟩
                  · rw [if_neg c9] at H
                    have c9b0 : decide ((bt a0 x8_1) ≤ 90) = false := decide_eq_false c9
                    clear c9
                    by_cases c10 : ((bt a0 x8_1) = 95)
                    · rw [if_pos c10] at H
                      have c10b0 : ((bt a0 x8_1) == 95) = true := beq_iff_eq.mpr c10
                      have c10b1 : ((bt a0 x8_1) != 95) = false := bne_eq_false_iff_eq.mpr c10
                      clear c10
                      have H' := Aside0.mk H
                      clear H
                      have p5 : 0 ≤ (x8_1 : Int) := of_decide_eq_true (by first | (with_reducible assumption) | assumption)
                      have q5 : x8_1 < (a0.size : Int) := of_decide_eq_true (by first | (with_reducible assumption) | assumption)
                      have hx5 := bt_at a0 x8_1
                      replace p5 := eq_true p5
                      replace q5 := eq_true q5
                      go_wp2
                      go_roundg k1
                      case measure => have := HK1.out; omega
                      case rel => exact ⟨(wrap64 (x8_1 + 1)), (by first | rfl | (simp; done) | (simp [*]; done)), H', ⟨by have := HK1.out; omega⟩, by repeat (first | exact Drawn0.refl _ | apply Drawn0.step)⟩
                    · rw [if_neg c10] at H
                      have c10b0 : ((bt a0 x8_1) == 95) = false := beq_eq_false_iff_ne.mpr c10
                      have c10b1 : ((bt a0 x8_1) != 95) = true := bne_iff_ne.mpr c10
                      by_cases c11 : x8_1 = 0
                      · rw [if_pos c11] at H
                        have c11b0 : (x8_1 == 0) = true := beq_iff_eq.mpr c11
                        have c11b1 : (x8_1 != 0) = false := bne_eq_false_iff_eq.mpr c11
                        clear c11
                        obtain rfl := Option.some.inj H
                        have p5 : 0 ≤ (x8_1 : Int) := of_decide_eq_true (by first | (with_reducible assumption) | assumption)
                        have q5 : x8_1 < (a0.size : Int) := of_decide_eq_true (by first | (with_reducible assumption) | assumption)
                        have hx5 := bt_at a0 x8_1
                        replace p5 := eq_true p5
                        replace q5 := eq_true q5
                        go_wp2
                        go_ret
                        exact ⟨by first | rfl | (simp; done) | (simp [*]; done), by repeat (first | exact Drawn0.refl _ | apply Drawn0.step)⟩
                      · rw [if_neg c11] at H
                        have c11b0 : (x8_1 == 0) = false := beq_eq_false_iff_ne.mpr c11
                        have c11b1 : (x8_1 != 0) = true := bne_iff_ne.mpr c11
                        by_cases c12 : (bt a0 x8_1) < 48
                        · rw [if_pos c12] at H
                          have c12b0 : decide ((bt a0 x8_1) < 48) = true := decide_eq_true c12
                          clear c12
                          obtain rfl := Option.some.inj H
                          have p5 : 0 ≤ (x8_1 : Int) := of_decide_eq_true (by first | (with_reducible assumption) | assumption)
                          have q5 : x8_1 < (a0.size : Int) := of_decide_eq_true (by first | (with_reducible assumption) | assumption)
                          have hx5 := bt_at a0 x8_1
                          replace p5 := eq_true p5
                          replace q5 := eq_true q5
                          go_wp2
                          go_ret
                          exact ⟨by first | rfl | (simp; done) | (simp [*]; done), by repeat (first | exact Drawn0.refl _ | apply Drawn0.step)⟩
                        · rw [if_neg c12] at H
                          have c12b0 : decide ((bt a0 x8_1) < 48) = false := decide_eq_false c12
                          clear c12
                          by_cases c13 : (bt a0 x8_1) > 57
                          · rw [if_pos c13] at H
                            have c13b0 : decide (57 < (bt a0 x8_1)) = true := decide_eq_true c13
                            clear c13
                            obtain rfl := Option.some.inj H
                            have p5 : 0 ≤ (x8_1 : Int) := of_decide_eq_true (by first | (with_reducible assumption) | assumption)
                            have q5 : x8_1 < (a0.size : Int) := of_decide_eq_true (by first | (with_reducible assumption) | assumption)
                            have hx5 := bt_at a0 x8_1
                            replace p5 := eq_true p5
                            replace q5 := eq_true q5
                            go_wp2
                            go_ret
                            exact ⟨by first | rfl | (simp; done) | (simp [*]; done), by repeat (first | exact Drawn0.refl _ | apply Drawn0.step)⟩
                          · rw [if_neg c13] at H
                            have c13b0 : decide (57 < (bt a0 x8_1)) = false := decide_eq_false c13
                            clear c13
                            have H' := Aside0.mk H
                            clear H
                            have p5 : 0 ≤ (x8_1 : Int) := of_decide_eq_true (by first | (with_reducible assumption) | assumption)
                            have q5 : x8_1 < (a0.size : Int) := of_decide_eq_true (by first | (with_reducible assumption) | assumption)
                            have hx5 := bt_at a0 x8_1
                            replace p5 := eq_true p5
                            replace q5 := eq_true q5
                            go_wp2
                            go_roundg k1
                            case measure => have := HK1.out; omega
                            case rel => exact ⟨(wrap64 (x8_1 + 1)), (by first | rfl | (simp; done) | (simp [*]; done)), H', ⟨by have := HK1.out; omega⟩, by repeat (first | exact Drawn0.refl _ | apply Drawn0.step)⟩
                · rw [if_neg c8] at H
                  have c8b0 : decide (65 ≤ (bt a0 x8_1)) = false := decide_eq_false c8
                  clear c8
                  by_cases c14 : ((bt a0 x8_1) = 95)
                  · rw [if_pos c14] at H
                    have c14b0 : ((bt a0 x8_1) == 95) = true := beq_iff_eq.mpr c14
                    have c14b1 : ((bt a0 x8_1) != 95) = false := bne_eq_false_iff_eq.mpr c14
                    clear c14
                    have H' := Aside0.mk H
                    clear H
                    have p5 : 0 ≤ (x8_1 : Int) := of_decide_eq_true (by first | (with_reducible assumption) | assumption)
                    have q5 : x8_1 < (a0.size : Int) := of_decide_eq_true (by first | (with_reducible assumption) | assumption)
                    have hx5 := bt_at a0 x8_1
                    replace p5 := eq_true p5
                    replace q5 := eq_true q5
                    go_wp2
                    go_roundg k1
                    case measure => have := HK1.out; omega
                    case rel => exact ⟨(wrap64 (x8_1 + 1)), (by first | rfl | (simp; done) | (simp [*]; done)), H', ⟨by have := HK1.out; omega⟩, by repeat (first | exact Drawn0.refl _ | apply Drawn0.step)⟩
                  · rw [if_neg c14] at H
                    have c14b0 : ((bt a0 x8_1) == 95) = false := beq_eq_false_iff_ne.mpr c14
                    have c14b1 : ((bt a0 x8_1) != 95) = true := bne_iff_ne.mpr c14
                    by_cases c15 : x8_1 = 0
                    · rw [if_pos c15] at H
                      have c15b0 : (x8_1 == 0) = true := beq_iff_eq.mpr c15
                      have c15b1 : (x8_1 != 0) = false := bne_eq_false_iff_eq.mpr c15
                      clear c15
                      obtain rfl := Option.some.inj H
                      have p5 : 0 ≤ (x8_1 : Int) := of_decide_eq_true (by first | (with_reducible assumption) | assumption)
                      have q5 : x8_1 < (a0.size : Int) := of_decide_eq_true (by first | (with_reducible assumption) | assumption)
                      have hx5 := bt_at a0 x8_1
                      replace p5 := eq_true p5
                      replace q5 := eq_true q5
                      go_wp2
                      go_ret
                      exact ⟨by first | rfl | (simp; done) | (simp [*]; done), by repeat (first | exact Drawn0.refl _ | apply Drawn0.step)⟩
                    · rw [if_neg c15] at H
                      have c15b0 : (x8_1 == 0) = false := beq_eq_false_iff_ne.mpr c15
                      have c15b1 : (x8_1 != 0) = true := bne_iff_ne.mpr c15
                      by_cases c16 : (bt a0 x8_1) < 48
                      · rw [if_pos c16] at H
                        have c16b0 : decide ((bt a0 x8_1) < 48) = true := decide_eq_true c16
                        clear c16
                        obtain rfl := Option.some.inj H
                        have p5 : 0 ≤ (x8_1 : Int) := of_decide_eq_true (by first | (with_reducible assumption) | assumption)
                        have q5 : x8_1 < (a0.size : Int) := of_decide_eq_true (by first | (with_reducible assumption) | assumption)
                        have hx5 := bt_at a0 x8_1
                        replace p5 := eq_true p5
                        replace q5 := eq_true q5
                        go_wp2
                        go_ret
                        exact ⟨by first | rfl | (simp; done) | (simp [*]; done), by repeat (first | exact Drawn0.refl _ | apply Drawn0.step)⟩
                      · rw [if_neg c16] at H
                        have c16b0 : decide ((bt a0 x8_1) < 48) = false := decide_eq_false c16
                        clear c16
                        by_cases c17 : (bt a0 x8_1) > 57
                        · rw [if_pos c17] at H
                          have c17b0 : decide (57 < (bt a0 x8_1)) = true := decide_eq_true c17
                          clear c17
                          obtain rfl := Option.some.inj H
                          have p5 : 0 ≤ (x8_1 : Int) := of_decide_eq_true (by first | (with_reducible assumption) | assumption)
                          have q5 : x8_1 < (a0.size : Int) := of_decide_eq_true (by first | (with_reducible assumption) | assumption)
                          have hx5 := bt_at a0 x8_1
                          replace p5 := eq_true p5
                          replace q5 := eq_true q5
                          go_wp2
                          go_ret
                          exact ⟨by first | rfl | (simp; done) | (simp [*]; done), by repeat (first | exact Drawn0.refl _ | apply Drawn0.step)⟩
                        · rw [if_neg c17] at H
                          have c17b0 : decide (57 < (bt a0 x8_1)) = false := decide_eq_false c17
                          clear c17
                          have H' := Aside0.mk H
                          clear H
                          have p5 : 0 ≤ (x8_1 : Int) := of_decide_eq_true (by first | (with_reducible assumption) | assumption)
                          have q5 : x8_1 < (a0.size : Int) := of_decide_eq_true (by first | (with_reducible assumption) | assumption)
                          have hx5 := bt_at a0 x8_1
                          replace p5 := eq_true p5
                          replace q5 := eq_true q5
                          go_wp2
                          go_roundg k1
                          case measure => have := HK1.out; omega
                          case rel => exact ⟨(wrap64 (x8_1 + 1)), (by first | rfl | (simp; done) | (simp [*]; done)), H', ⟨by have := HK1.out; omega⟩, by repeat (first | exact Drawn0.refl _ | apply Drawn0.step)⟩
            · rw [if_neg c6] at H
              have c6b0 : decide (97 ≤ (bt a0 x8_1)) = false := decide_eq_false c6
              clear c6
              by_cases c18 : (bt a0 x8_1) ≥ 65
              · rw [if_pos c18] at H
                have c18b0 : decide (65 ≤ (bt a0 x8_1)) = true := decide_eq_true c18
                clear c18
                by_cases c19 : (bt a0 x8_1) ≤ 90
                · rw [if_pos c19] at H
                  have c19b0 : decide ((bt a0 x8_1) ≤ 90) = true := decide_eq_true c19
                  clear c19
                  have H' := Aside0.mk H
                  clear H
                  have p5 : 0 ≤ (x8_1 : Int) := of_decide_eq_true (by first | (with_reducible assumption) | assumption)
                  have q5 : x8_1 < (a0.size : Int) := of_decide_eq_true (by first | (with_reducible assumption) | assumption)
                  have hx5 := bt_at a0 x8_1
                  replace p5 := eq_true p5
                  replace q5 := eq_true q5
                  go_wp2
                  go_roundg k1
                  case measure => have := HK1.out; omega
                  case rel => exact ⟨(wrap64 (x8_1 + 1)), (by first | rfl | (simp; done) | (simp [*]; done)), H', ⟨by have := HK1.out; omega⟩, by repeat (first | exact Drawn0.refl _ | apply Drawn0.step)⟩
                · rw [if_neg c19] at H
                  have c19b0 : decide ((bt a0 x8_1) ≤ 90) = false := decide_eq_false c19
                  clear c19
                  by_cases c20 : ((bt a0 x8_1) = 95)
                  · rw [if_pos c20] at H
                    have c20b0 : ((bt a0 x8_1) == 95) = true := beq_iff_eq.mpr c20
                    have c20b1 : ((bt a0 x8_1) != 95) = false := bne_eq_false_iff_eq.mpr c20
                    clear c20
                    have H' := Aside0.mk H
                    clear H
                    have p5 : 0 ≤ (x8_1 : Int) := of_decide_eq_true (by first | (with_reducible assumption) | assumption)
                    have q5 : x8_1 < (a0.size : Int) := of_decide_eq_true (by first | (with_reducible assumption) | assumption)
                    have hx5 := bt_at a0 x8_1
                    replace p5 := eq_true p5
                    replace q5 := eq_true q5
                    go_wp2
                    go_roundg k1
                    case measure => have := HK1.out; omega
                    case rel => exact ⟨(wrap64 (x8_1 + 1)), (by first | rfl | (simp; done) | (simp [*]; done)), H', ⟨by have := HK1.out; omega⟩, by repeat (first | exact Drawn0.refl _ | apply Drawn0.step)⟩
                  · rw [if_neg c20] at H
                    have c20b0 : ((bt a0 x8_1) == 95) = false := beq_eq_false_iff_ne.mpr c20
                    have c20b1 : ((bt a0 x8_1) != 95) = true := bne_iff_ne.mpr c20
                    by_cases c21 : x8_1 = 0
                    · rw [if_pos c21] at H
                      have c21b0 : (x8_1 == 0) = true := beq_iff_eq.mpr c21
                      have c21b1 : (x8_1 != 0) = false := bne_eq_false_iff_eq.mpr c21
                      clear c21
                      obtain rfl := Option.some.inj H
                      have p5 : 0 ≤ (x8_1 : Int) := of_decide_eq_true (by first | (with_reducible assumption) | assumption)
                      have q5 : x8_1 < (a0.size : Int) := of_decide_eq_true (by first | (with_reducible assumption) | assumption)
                      have hx5 := bt_at a0 x8_1
                      replace p5 := eq_true p5
                      replace q5 := eq_true q5
                      go_wp2
                      go_ret
                      exact ⟨by first | rfl | (simp; done) | (simp [*]; done), by repeat (first | exact Drawn0.refl _ | apply Drawn0.step)⟩
                    · rw [if_neg c21] at H
                      have c21b0 : (x8_1 == 0) = false := beq_eq_false_iff_ne.mpr c21
                      have c21b1 : (x8_1 != 0) = true := bne_iff_ne.mpr c21
                      by_cases c22 : (bt a0 x8_1) < 48
                      · rw [if_pos c22] at H
                        have c22b0 : decide ((bt a0 x8_1) < 48) = true := decide_eq_true c22
                        clear c22
                        obtain rfl := Option.some.inj H
                        have p5 : 0 ≤ (x8_1 : Int) := of_decide_eq_true (by first | (with_reducible assumption) | assumption)
                        have q5 : x8_1 < (a0.size : Int) := of_decide_eq_true (by first | (with_reducible assumption) | assumption)
                        have hx5 := bt_at a0 x8_1
                        replace p5 := eq_true p5
                        replace q5 := eq_true q5
                        go_wp2
                        go_ret
                        exact ⟨by first | rfl | (simp; done) | (simp [*]; done), by repeat (first | exact Drawn0.refl _ | apply Drawn0.step)⟩
                      · rw [if_neg c22] at H
                        have c22b0 : decide ((bt a0 x8_1) < 48) = false := decide_eq_false c22
                        clear c22
                        by_cases c23 : (bt a0 x8_1) > 57
                        · rw [if_pos c23] at H
                          have c23b0 : decide (57 < (bt a0 x8_1)) = true := decide_eq_true c23
                          clear c23
                          obtain rfl := Option.some.inj H
                          have p5 : 0 ≤ (x8_1 : Int) := of_decide_eq_true (by first | (with_reducible assumption) | assumption)
                          have q5 : x8_1 < (a0.size : Int) := of_decide_eq_true (by first | (with_reducible assumption) | assumption)
                          have hx5 := bt_at a0 x8_1
                          replace p5 := eq_true p5
                          replace q5 := eq_true q5
                          go_wp2
                          go_ret
                          exact ⟨by first | rfl | (simp; done) | (simp [*]; done), by repeat (first | exact Drawn0.refl _ | apply Drawn0.step)⟩
                        · rw [if_neg c23] at H
                          have c23b0 : decide (57 < (bt a0 x8_1)) = false := decide_eq_false c23
                          clear c23
                          have H' := Aside0.mk H
                          clear H
                          have p5 : 0 ≤ (x8_1 : Int) := of_decide_eq_true (by first | (with_reducible assumption) | assumption)
                          have q5 : x8_1 < (a0.size : Int) := of_decide_eq_true (by first | (with_reducible assumption) | assumption)
                          have hx5 := bt_at a0 x8_1
                          replace p5 := eq_true p5
                          replace q5 := eq_true q5
                          go_wp2
                          go_roundg k1
                          case measure => have := HK1.out; omega
                          case rel => exact ⟨(wrap64 (x8_1 + 1)), (by first | rfl | (simp; done) | (simp [*]; done)), H', ⟨by have := HK1.out; omega⟩, by repeat (first | exact Drawn0.refl _ | apply Drawn0.step)⟩
              · rw [if_neg c18] at H
                have c18b0 : decide (65 ≤ (bt a0 x8_1)) = false := decide_eq_false c18
                clear c18
                by_cases c24 : ((bt a0 x8_1) = 95)
                · rw [if_pos c24] at H
                  have c24b0 : ((bt a0 x8_1) == 95) = true := beq_iff_eq.mpr c24
                  have c24b1 : ((bt a0 x8_1) != 95) = false := bne_eq_false_iff_eq.mpr c24
                  clear c24
                  have H' := Aside0.mk H
                  clear H
                  have p5 : 0 ≤ (x8_1 : Int) := of_decide_eq_true (by first | (with_reducible assumption) | assumption)
                  have q5 : x8_1 < (a0.size : Int) := of_decide_eq_true (by first | (with_reducible assumption) | assumption)
                  have hx5 := bt_at a0 x8_1
                  replace p5 := eq_true p5
                  replace q5 := eq_true q5
                  go_wp2
                  go_roundg k1
                  case measure => have := HK1.out; omega
                  case rel => exact ⟨(wrap64 (x8_1 + 1)), (by first | rfl | (simp; done) | (simp [*]; done)), H', ⟨by have := HK1.out; omega⟩, by repeat (first | exact Drawn0.refl _ | apply Drawn0.step)⟩
                · rw [if_neg c24] at H
                  have c24b0 : ((bt a0 x8_1) == 95) = false := beq_eq_false_iff_ne.mpr c24
                  have c24b1 : ((bt a0 x8_1) != 95) = true := bne_iff_ne.mpr c24
                  by_cases c25 : x8_1 = 0
                  · rw [if_pos c25] at H
                    have c25b0 : (x8_1 == 0) = true := beq_iff_eq.mpr c25
                    have c25b1 : (x8_1 != 0) = false := bne_eq_false_iff_eq.mpr c25
                    clear c25
                    obtain rfl := Option.some.inj H
                    have p5 : 0 ≤ (x8_1 : Int) := of_decide_eq_true (by first | (with_reducible assumption) | assumption)
                    have q5 : x8_1 < (a0.size : Int) := of_decide_eq_true (by first | (with_reducible assumption) | assumption)
                    have hx5 := bt_at a0 x8_1
                    replace p5 := eq_true p5
                    replace q5 := eq_true q5
                    go_wp2
                    go_ret
                    exact ⟨by first | rfl | (simp; done) | (simp [*]; done), by repeat (first | exact Drawn0.refl _ | apply Drawn0.step)⟩
                  · rw [if_neg c25] at H
                    have c25b0 : (x8_1 == 0) = false := beq_eq_false_iff_ne.mpr c25
                    have c25b1 : (x8_1 != 0) = true := bne_iff_ne.mpr c25
                    by_cases c26 : (bt a0 x8_1) < 48
                    · rw [if_pos c26] at H
                      have c26b0 : decide ((bt a0 x8_1) < 48) = true := decide_eq_true c26
                      clear c26
                      obtain rfl := Option.some.inj H
                      have p5 : 0 ≤ (x8_1 : Int) := of_decide_eq_true (by first | (with_reducible assumption) | assumption)
                      have q5 : x8_1 < (a0.size : Int) := of_decide_eq_true (by first | (with_reducible assumption) | assumption)
                      have hx5 := bt_at a0 x8_1
                      replace p5 := eq_true p5
                      replace q5 := eq_true q5
                      go_wp2
                      go_ret
                      exact ⟨by first | rfl | (simp; done) | (simp [*]; done), by repeat (first | exact Drawn0.refl _ | apply Drawn0.step)⟩
                    · rw [if_neg c26] at H
                      have c26b0 : decide ((bt a0 x8_1) < 48) = false := decide_eq_false c26
                      clear c26
                      by_cases c27 : (bt a0 x8_1) > 57
                      · rw [if_pos c27] at H
                        have c27b0 : decide (57 < (bt a0 x8_1)) = true := decide_eq_true c27
                        clear c27
                        obtain rfl := Option.some.inj H
                        have p5 : 0 ≤ (x8_1 : Int) := of_decide_eq_true (by first | (with_reducible assumption) | assumption)
                        have q5 : x8_1 < (a0.size : Int) := of_decide_eq_true (by first | (with_reducible assumption) | assumption)
                        have hx5 := bt_at a0 x8_1
                        replace p5 := eq_true p5
                        replace q5 := eq_true q5
                        go_wp2
                        go_ret
                        exact ⟨by first | rfl | (simp; done) | (simp [*]; done), by repeat (first | exact Drawn0.refl _ | apply Drawn0.step)⟩
                      · rw [if_neg c27] at H
                        have c27b0 : decide (57 < (bt a0 x8_1)) = false := decide_eq_false c27
                        clear c27
                        have H' := Aside0.mk H
                        clear H
                        have p5 : 0 ≤ (x8_1 : Int) := of_decide_eq_true (by first | (with_reducible assumption) | assumption)
                        have q5 : x8_1 < (a0.size : Int) := of_decide_eq_true (by first | (with_reducible assumption) | assumption)
                        have hx5 := bt_at a0 x8_1
                        replace p5 := eq_true p5
                        replace q5 := eq_true q5
                        go_wp2
                        go_roundg k1
                        case measure => have := HK1.out; omega
                        case rel => exact ⟨(wrap64 (x8_1 + 1)), (by first | rfl | (simp; done) | (simp [*]; done)), H', ⟨by have := HK1.out; omega⟩, by repeat (first | exact Drawn0.refl _ | apply Drawn0.step)⟩
          · rw [if_neg c4] at H
            exact absurd H (by simp)
        · rw [if_neg c3] at H
          exact absurd H (by simp)
      · rw [if_neg c2] at H
        have c2b0 : decide (x8_1 < (a0.size : Int)) = false := decide_eq_false c2
        clear c2
        replace H := Option.bind_eq_some_iff.mp H
        obtain ⟨t148, A280, H⟩ := H
        replace H : (some t148) = some r := H
        have A28 := Aside0.mk A280
        clear A280
        obtain rfl := Option.some.inj H
        go_wp2_with (first | ((with_reducible refine gate_callee (f := 42) rfl ?_); refine goesL_ (some 49) rfl rfl Try.func42 (by kernel_rfl) rfl #[.int .i64 (a0.size : Int), .int .i64 1, .int .i64 40] rfl (by (try simp only [List.map_toArray, List.map_cons, List.map_nil]); first | done | rfl | (simp only [List.length_drop, List.length_take]; rfl)) ?_; (with_reducible refine (impl_within.calls (a0.size : Int) 1 40 t148 _ A28.out).mono ?_); rintro e w' ⟨rfl, ⟨nd, rfl⟩⟩; refine ⟨_, rfl, ?_⟩))
        go_ret
        exact ⟨by first | rfl | (simp; done) | (simp [*]; done), by repeat (first | exact Drawn0.refl _ | apply Drawn0.step)⟩

end Go.Proofs.Ytppgnndolgmcfaa.Q

namespace Go.Proofs.Ytppgnndolgmcfaa.Q
open Go.RowKit Go.Proofs.YtppgnndolgmcfaaW.PrintWords Go.Proofs.YtppgnndolgmcfaaW.PrintLast Go.Proofs.YtppgnndolgmcfaaW.PrintMore
attribute [local go_sem] max2_int min2_int max_two min_two max_three min_three max_four min_four   -- for this text's walks alone
set_option linter.unusedVariables false
set_option linter.unusedSimpArgs false

/-! ### impl_DenomOK: function 55 -/
def impl_DenomOK.f (k : Nat) (a0 : ByteArray) : Option (Bool) := (impl_NameOK.f k a0).bind fun t149 => (if t149 = true then (some (decide ((a0.size : Int) ≤ 12))) else (some false))
theorem impl_DenomOK.mono : ∀ a0 k, LeO (impl_DenomOK.f k a0) (impl_DenomOK.f (k + 1) a0) := by
  intro a0 k
  unfold impl_DenomOK.f
  repeat' first
      | (with_reducible exact impl_NameOK.mono _ _)
      | (with_reducible exact LeO.refl _)
      | (with_reducible exact LeO.none _)
      | (with_reducible refine LeO.ite ?_ ?_)
      | (with_reducible refine LeO.bind ?_ (fun _ => ?_))
      | exact impl_NameOK.mono _ _
      | exact LeO.none _
      | refine LeO.ite ?_ ?_
      | refine LeO.bind ?_ (fun _ => ?_)
set_option maxHeartbeats 8000000 in
set_option maxRecDepth 100000 in
theorem impl_DenomOK.calls (k : Nat) (a0 : ByteArray) (r : Bool) (w : World) (h : impl_DenomOK.f k a0 = some r) :
    Calls Try.prog 55 #[.string a0] w fun e w' => e = .returned (.bool r) ∧ Drawn0 w w' := by
  have H : ((impl_NameOK.f k a0).bind fun t149 => (if t149 = true then (some (decide ((a0.size : Int) ≤ 12))) else (some false))) = some r := h
  clear h
  replace H := Option.bind_eq_some_iff.mp H
  obtain ⟨t149, A20, H⟩ := H
  replace H : (if t149 = true then (some (decide ((a0.size : Int) ≤ 12))) else (some false)) = some r := H
  have A2 := Aside0.mk A20
  clear A20
  by_cases c3 : t149 = true
  · subst c3
    have H1 : (some (decide ((a0.size : Int) ≤ 12))) = some r := by rw [if_pos rfl] at H; exact H
    clear H
    have H := H1
    clear H1
    obtain rfl := Option.some.inj H
    go_enter Try.func55, Try.ntmps55
    go_wp2_with (first | ((with_reducible refine gate_callee (f := 70) rfl ?_); refine goesL_ (some 4) rfl rfl Try.func70 (by kernel_rfl) rfl #[.string a0] rfl (by (try simp only [List.map_toArray, List.map_cons, List.map_nil]); first | done | rfl | (simp only [List.length_drop, List.length_take]; rfl)) ?_; (with_reducible refine (impl_NameOK.calls k a0 true _ A2.out).mono ?_); rintro e w' ⟨rfl, ⟨nd, rfl⟩⟩; refine ⟨_, rfl, ?_⟩))
    go_ret
    exact ⟨by first | rfl | (simp; done) | (simp [*]; done), by repeat (first | exact Drawn0.refl _ | apply Drawn0.step)⟩
  · replace c3 := Bool.eq_false_iff.mpr c3
    subst c3
    have H1 : (some false) = some r := by rw [if_neg (show ¬ (false = true) by decide)] at H; exact H
    clear H
    have H := H1
    clear H1
    obtain rfl := Option.some.inj H
    go_enter Try.func55, Try.ntmps55
    go_wp2_with (first | ((with_reducible refine gate_callee (f := 70) rfl ?_); refine goesL_ (some 4) rfl rfl Try.func70 (by kernel_rfl) rfl #[.string a0] rfl (by (try simp only [List.map_toArray, List.map_cons, List.map_nil]); first | done | rfl | (simp only [List.length_drop, List.length_take]; rfl)) ?_; (with_reducible refine (impl_NameOK.calls k a0 false _ A2.out).mono ?_); rintro e w' ⟨rfl, ⟨nd, rfl⟩⟩; refine ⟨_, rfl, ?_⟩))
    go_ret
    exact ⟨by first | rfl | (simp; done) | (simp [*]; done), by repeat (first | exact Drawn0.refl _ | apply Drawn0.step)⟩

end Go.Proofs.Ytppgnndolgmcfaa.Q

namespace Go.Proofs.Ytppgnndolgmcfaa.Q
open Go.RowKit Go.Proofs.YtppgnndolgmcfaaW.PrintWords Go.Proofs.YtppgnndolgmcfaaW.PrintLast Go.Proofs.YtppgnndolgmcfaaW.PrintMore
attribute [local go_sem] max2_int min2_int max_two min_two max_three min_three max_four min_four   -- for this text's walks alone
set_option linter.unusedVariables false
set_option linter.unusedSimpArgs false

/-! ### impl_areNames: function 40 -/
def impl_areNames.l0 : Nat → List ByteArray → Int → Int → Option (Bool)
  | 0, _, _, _ => none
  | k + 1, x5, x6, x7 => if x7 < x6 then (if 0 ≤ x7 then (if x7 < (x5.length : Int) then ((impl_DenomOK.f k (rdOf ByteArray.empty x5 x7)).bind fun t151 => (if t151 = true then (impl_areNames.l0 k x5 x6 (wrap64 (x7 + 1))) else (some false))) else (none)) else (none)) else (some true)
def impl_areNames.f (k : Nat) (l0 : List ByteArray) : Option (Bool) := impl_areNames.l0 k l0 (l0.length : Int) 0
theorem impl_areNames.mono_l : ∀ k, (∀ y0 y1 y2, LeO (impl_areNames.l0 k y0 y1 y2) (impl_areNames.l0 (k + 1) y0 y1 y2))
  | 0 => fun _ _ _ r h => by simp [impl_areNames.l0] at h
  | k + 1 => by
    have ih0 := impl_areNames.mono_l k
    · intro y0 y1 y2
      unfold impl_areNames.l0
      repeat' first
      | (with_reducible exact ih0 _ _ _)
      | (with_reducible exact impl_DenomOK.mono _ _)
      | (with_reducible exact LeO.refl _)
      | (with_reducible exact LeO.none _)
      | (with_reducible refine LeO.ite ?_ ?_)
      | (with_reducible refine LeO.bind ?_ (fun _ => ?_))
      | exact ih0 _ _ _
      | exact impl_DenomOK.mono _ _
      | exact LeO.none _
      | refine LeO.ite ?_ ?_
      | refine LeO.bind ?_ (fun _ => ?_)
theorem impl_areNames.mono : ∀ a0 k, LeO (impl_areNames.f k a0) (impl_areNames.f (k + 1) a0) := by
  intro a0 k
  have ih0 := impl_areNames.mono_l k
  unfold impl_areNames.f
  repeat' first
      | (with_reducible exact ih0 _ _ _)
      | (with_reducible exact impl_DenomOK.mono _ _)
      | (with_reducible exact LeO.refl _)
      | (with_reducible exact LeO.none _)
      | (with_reducible refine LeO.ite ?_ ?_)
      | (with_reducible refine LeO.bind ?_ (fun _ => ?_))
      | exact ih0 _ _ _
      | exact impl_DenomOK.mono _ _
      | exact LeO.none _
      | refine LeO.ite ?_ ?_
      | refine LeO.bind ?_ (fun _ => ?_)
set_option maxHeartbeats 8000000 in
set_option maxRecDepth 100000 in
theorem impl_areNames.calls (k : Nat) (A0 : Option Addr) (c0 : Nat) (l0 : List ByteArray) (r : Bool) (w : World) (hr0 : Kd.C Kd.string w A0 l0.length l0) (hc0 : l0.length ≤ c0) (h : impl_areNames.f k l0 = some r) :
    Calls Try.prog 40 #[.slice A0 l0.length c0] w fun e w' => e = .returned (.bool r) ∧ Drawn0 w w' := by
  have HR0 := Aside0.mk hr0
  have HC0 := Aside0.mk hc0
  clear hr0 hc0
  have H : (impl_areNames.l0 k l0 (l0.length : Int) 0) = some r := h
  clear h
  have H' := Aside0.mk H
  clear H
  go_enter Try.func40, Try.ntmps40
  go_wp2
  go_loopg [7] k (fun kq v7 w' => ∃ (x7_1 : Int), v7 = .int .i64 x7_1 ∧ Aside0 (impl_areNames.l0 kq l0 (l0.length : Int) x7_1 = some r) ∧ Aside0 (kq ≤ k) ∧ Drawn0 w w')
  case atStart => exact ⟨(0), (by first | rfl | (simp; done) | (simp [*]; done)), H', ⟨Nat.le_refl _⟩, by repeat (first | exact Drawn0.refl _ | apply Drawn0.step)⟩
  case round =>
    clear H'
    obtain ⟨x7_1, rfl, HA, HK1, ⟨m1, rfl⟩⟩ := hrel
    cases gk with
    | zero => exact absurd HA.out (by simp [impl_areNames.l0])
    | succ k1 =>
      have H := HA.out
      clear HA
      simp only [impl_areNames.l0] at H
      by_cases c2 : x7_1 < (l0.length : Int)
      · rw [if_pos c2] at H
        have c2b0 : decide (x7_1 < (l0.length : Int)) = true := decide_eq_true c2
        clear c2
        by_cases c3 : 0 ≤ x7_1
        · rw [if_pos c3] at H
          have c3b0 : decide (0 ≤ x7_1) = true := decide_eq_true c3
          clear c3
          by_cases c4 : x7_1 < (l0.length : Int)
          · rw [if_pos c4] at H
            have c4b0 : decide (x7_1 < (l0.length : Int)) = true := decide_eq_true c4
            clear c4
            replace H := Option.bind_eq_some_iff.mp H
            obtain ⟨t151, A50, H⟩ := H
            replace H : (if t151 = true then (impl_areNames.l0 k1 l0 (l0.length : Int) (wrap64 (x7_1 + 1))) else (some false)) = some r := H
            have A5 := Aside0.mk A50
            clear A50
            by_cases c6 : t151 = true
            · subst c6
              have H1 : (impl_areNames.l0 k1 l0 (l0.length : Int) (wrap64 (x7_1 + 1))) = some r := by rw [if_pos rfl] at H; exact H
              clear H
              have H := H1
              clear H1
              have H' := Aside0.mk H
              clear H
              have p150 : 0 ≤ (x7_1 : Int) := of_decide_eq_true (by first | (with_reducible assumption) | assumption)
              have q150 : x7_1 < (l0.length : Int) := of_decide_eq_true (by first | (with_reducible assumption) | assumption)
              obtain ⟨ad150, e150, hx150_0⟩ := Kd.at_string HR0.out x7_1 p150 q150
              cases e150
              replace p150 := eq_true p150
              replace q150 := eq_true q150
              go_wp2_with (first | ((with_reducible refine gate_callee (f := 55) rfl ?_); refine goesL_ (some 12) rfl rfl Try.func55 (by kernel_rfl) rfl #[.string (rdOf ByteArray.empty l0 x7_1)] rfl (by (try simp only [List.map_toArray, List.map_cons, List.map_nil]); first | done | rfl | (simp only [List.length_drop, List.length_take]; rfl)) ?_; (with_reducible refine (impl_DenomOK.calls k1 (rdOf ByteArray.empty l0 x7_1) true _ A5.out).mono ?_); rintro e w' ⟨rfl, ⟨nd, rfl⟩⟩; refine ⟨_, rfl, ?_⟩))
              go_roundg k1
              case measure => have := HK1.out; omega
              case rel => exact ⟨(wrap64 (x7_1 + 1)), (by first | rfl | (simp; done) | (simp [*]; done)), H', ⟨by have := HK1.out; omega⟩, by repeat (first | exact Drawn0.refl _ | apply Drawn0.step)⟩
            · replace c6 := Bool.eq_false_iff.mpr c6
              subst c6
              have H1 : (some false) = some r := by rw [if_neg (show ¬ (false = true) by decide)] at H; exact H
              clear H
              have H := H1
              clear H1
              obtain rfl := Option.some.inj H
              have p150 : 0 ≤ (x7_1 : Int) := of_decide_eq_true (by first | (with_reducible assumption) | assumption)
              have q150 : x7_1 < (l0.length : Int) := of_decide_eq_true (by first | (with_reducible assumption) | assumption)
              obtain ⟨ad150, e150, hx150_0⟩ := Kd.at_string HR0.out x7_1 p150 q150
              cases e150
              replace p150 := eq_true p150
              replace q150 := eq_true q150
              go_wp2_with (first | ((with_reducible refine gate_callee (f := 55) rfl ?_); refine goesL_ (some 12) rfl rfl Try.func55 (by kernel_rfl) rfl #[.string (rdOf ByteArray.empty l0 x7_1)] rfl (by (try simp only [List.map_toArray, List.map_cons, List.map_nil]); first | done | rfl | (simp only [List.length_drop, List.length_take]; rfl)) ?_; (with_reducible refine (impl_DenomOK.calls k1 (rdOf ByteArray.empty l0 x7_1) false _ A5.out).mono ?_); rintro e w' ⟨rfl, ⟨nd, rfl⟩⟩; refine ⟨_, rfl, ?_⟩))
              go_ret
              exact ⟨by first | rfl | (simp; done) | (simp [*]; done), by repeat (first | exact Drawn0.refl _ | apply Drawn0.step)⟩
          · rw [if_neg c4] at H
            exact absurd H (by simp)
        · rw [if_neg c3] at H
          exact absurd H (by simp)
      · rw [if_neg c2] at H
        have c2b0 : decide (x7_1 < (l0.length : Int)) = false := decide_eq_false c2
        clear c2
        obtain rfl := Option.some.inj H
        go_wp2
        go_ret
        exact ⟨by first | rfl | (simp; done) | (simp [*]; done), by repeat (first | exact Drawn0.refl _ | apply Drawn0.step)⟩

end Go.Proofs.Ytppgnndolgmcfaa.Q

namespace Go.Proofs.Ytppgnndolgmcfaa.Q
open Go.RowKit Go.Proofs.YtppgnndolgmcfaaW.PrintWords Go.Proofs.YtppgnndolgmcfaaW.PrintLast Go.Proofs.YtppgnndolgmcfaaW.PrintMore
attribute [local go_sem] max2_int min2_int max_two min_two max_three min_three max_four min_four   -- for this text's walks alone
set_option linter.unusedVariables false
set_option linter.unusedSimpArgs false


/-! ### slices_IndexFunc_string_string: function 68 -/
/-- slices.IndexFunc over texts, at a plain predicate that captures nothing. -/
theorem slices_IndexFunc_string_string.at_ (g : Nat) (eg : ∀ args w, (callFunc g args).run Try.prog w = .ok (.enter g args) w) (p : ByteArray → Bool)
    (hp : ∀ x W, Calls Try.prog g #[.string x] W fun e W' => e = .returned (.bool (p x)) ∧ Drawn0 W W')
    (A0 : Option Addr) (c0 : Nat) (l0 : List ByteArray) (w : World) (hr0 : Kd.C Kd.string w A0 l0.length l0) :
    Calls Try.prog 68 #[.slice A0 l0.length c0, .func (.func g) #[] #[]] w fun e w' => (∃ r : Int, e = .returned (.int .i64 r) ∧ Aside0 (decide (0 ≤ r) = l0.any p)) ∧ Drawn0 w w' := by
  have HR0 := Aside0.mk hr0
  have hmax : l0.length ≤ 9223372036854775807 := hr0.2.1
  clear hr0
  go_enter Try.func68, Try.ntmps68
  go_wp2
  go_loopg [5, 8] l0.length (fun gg _ s8 wr => ∃ kk : Nat, kk ≤ l0.length ∧ l0.length - kk ≤ gg ∧ s8 = .int .i64 kk ∧ Aside0 ((l0.take kk).any p = false) ∧ Drawn0 w wr)
  case atStart => exact ⟨0, Nat.zero_le _, by omega, rfl, ⟨rfl⟩, by repeat (first | exact Drawn0.refl _ | apply Drawn0.step)⟩
  case round =>
    obtain ⟨kk, hkk, hg, rfl, A, ⟨m1, rfl⟩⟩ := hrel
    by_cases hlt : kk < l0.length
    · have hltz : (kk : Int) < (l0.length : Int) := by omega
      have p145 : 0 ≤ (kk : Int) := by omega
      obtain ⟨ad145, e145, hx145_0⟩ := Kd.at_string HR0.out kk p145 hltz
      cases e145
      rw [Int.toNat_natCast] at hx145_0
      have hT : Aside0 ((l0.take (kk + 1)).any p = p (rdOf ByteArray.empty l0 kk)) := ⟨by
        have hx : l0[kk]? = some (rdOf ByteArray.empty l0 kk) := by
          simp only [rdOf, Int.toNat_natCast, List.getD_eq_getElem?_getD]
          rw [List.getElem?_eq_getElem hlt]; rfl
        rw [List.take_add_one, hx, List.any_append, A.out]; simp⟩
      generalize rdOf ByteArray.empty l0 kk = x at *
      have hcall := hp x
      clear hp
      cases hq : p x with
      | true =>
        rw [hq] at hcall hT
        clear hq
        go_wp2_with (go_at_fn g; refine (hcall _).mono ?_; rintro e w' ⟨rfl, ⟨q', rfl⟩⟩)
        go_ret
        refine ⟨⟨_, rfl, ⟨?_⟩⟩, by repeat (first | exact Drawn0.refl _ | apply Drawn0.step)⟩
        have h2 : l0.any p = true := by
          have := hT.out
          rw [← List.take_append_drop (kk + 1) l0, List.any_append, this]; rfl
        rw [h2]; simp
      | false =>
        rw [hq] at hcall hT
        clear hq
        go_wp2_with (go_at_fn g; refine (hcall _).mono ?_; rintro e w' ⟨rfl, ⟨q', rfl⟩⟩)
        go_roundg (l0.length - (kk + 1))
        case measure => omega
        case rel => exact ⟨kk + 1, by omega, by omega, by go_num, hT, by repeat (first | exact Drawn0.refl _ | apply Drawn0.step)⟩
    · have hltz : ¬ (kk : Int) < (l0.length : Int) := by omega
      have hkl : Aside0 (kk = l0.length) := ⟨by omega⟩
      go_wp2
      go_ret
      refine ⟨⟨_, rfl, ⟨?_⟩⟩, by repeat (first | exact Drawn0.refl _ | apply Drawn0.step)⟩
      have := A.out
      rw [hkl.out, List.take_length] at this
      rw [this]; rfl

end Go.Proofs.Ytppgnndolgmcfaa.Q

namespace Go.Proofs.Ytppgnndolgmcfaa.Q
open Go.RowKit Go.Proofs.YtppgnndolgmcfaaW.PrintWords Go.Proofs.YtppgnndolgmcfaaW.PrintLast Go.Proofs.YtppgnndolgmcfaaW.PrintMore
attribute [local go_sem] max2_int min2_int max_two min_two max_three min_three max_four min_four   -- for this text's walks alone
set_option linter.unusedVariables false
set_option linter.unusedSimpArgs false


/-! ### slices_ContainsFunc_string_string: function 52 -/
theorem slices_ContainsFunc_string_string.at_ (g : Nat) (eg : ∀ args w, (callFunc g args).run Try.prog w = .ok (.enter g args) w) (p : ByteArray → Bool)
    (hp : ∀ x W, Calls Try.prog g #[.string x] W fun e W' => e = .returned (.bool (p x)) ∧ Drawn0 W W')
    (A0 : Option Addr) (c0 : Nat) (l0 : List ByteArray) (w : World) (hr0 : Kd.C Kd.string w A0 l0.length l0) :
    Calls Try.prog 52 #[.slice A0 l0.length c0, .func (.func g) #[] #[]] w fun e w' => e = .returned (.bool (l0.any p)) ∧ Drawn0 w w' := by
  go_enter Try.func52, Try.ntmps52
  go_wp2_with (go_at_call 68; refine (slices_IndexFunc_string_string.at_ g eg p hp A0 c0 l0 _ hr0).mono ?_; rintro e w' ⟨⟨r, rfl, hr⟩, ⟨q', rfl⟩⟩)
  go_ret
  exact ⟨by rw [← hr.out]; first | rfl | (simp; done), by repeat (first | exact Drawn0.refl _ | apply Drawn0.step)⟩

end Go.Proofs.Ytppgnndolgmcfaa.Q

namespace Go.Proofs.Ytppgnndolgmcfaa.Q
open Go.RowKit Go.Proofs.YtppgnndolgmcfaaW.PrintWords Go.Proofs.YtppgnndolgmcfaaW.PrintLast Go.Proofs.YtppgnndolgmcfaaW.PrintMore
attribute [local go_sem] max2_int min2_int max_two min_two max_three min_three max_four min_four   -- for this text's walks alone
set_option linter.unusedVariables false
set_option linter.unusedSimpArgs false


/-! ### impl_isPeople: function 41 -/
def impl_isPeople.bad (t : ByteArray) : Bool := t.toList == ([101, 115, 99, 114, 111, 119] : List UInt8) || (t.toList == ([111, 114, 100, 101, 114, 115] : List UInt8) || (t.toList == ([116, 97, 107, 101, 115] : List UInt8) || t.toList == ([112, 111, 111, 108] : List UInt8)))
def impl_isPeople.f (k : Nat) (l0 : List ByteArray) : Option Bool := (impl_areNames.f k l0).bind fun t => if t = true then some (!(l0.any impl_isPeople.bad)) else some false
theorem impl_isPeople.mono : ∀ a0 k, LeO (impl_isPeople.f k a0) (impl_isPeople.f (k + 1) a0) := fun a0 k => LeO.bind (impl_areNames.mono _ _) (fun _ => LeO.refl _)
theorem impl_isPeople.lit (a0 : ByteArray) (w : World) :
    Calls Try.prog 56 #[.string a0] w fun e w' => e = .returned (.bool (impl_isPeople.bad a0)) ∧ Drawn0 w w' := by
  unfold impl_isPeople.bad
  cases h1 : (a0.toList == ([101, 115, 99, 114, 111, 119] : List UInt8)) <;> cases h2 : (a0.toList == ([111, 114, 100, 101, 114, 115] : List UInt8)) <;> cases h3 : (a0.toList == ([116, 97, 107, 101, 115] : List UInt8)) <;>
  · go_enter Try.func56, Try.ntmps56
    go_wp2
    go_ret
    exact ⟨by first | rfl | (simp; done) | (simp [*]; done), by repeat (first | exact Drawn0.refl _ | apply Drawn0.step)⟩
theorem impl_isPeople.calls (k : Nat) (A0 : Option Addr) (c0 : Nat) (l0 : List ByteArray) (r : Bool) (w : World) (hr0 : Kd.C Kd.string w A0 l0.length l0) (hc0 : l0.length ≤ c0) (h : impl_isPeople.f k l0 = some r) :
    Calls Try.prog 41 #[.slice A0 l0.length c0] w fun e w' => e = .returned (.bool r) ∧ Drawn0 w w' := by
  obtain ⟨t, ht, h⟩ := Option.bind_eq_some_iff.mp h
  have HA := Aside0.mk ht
  clear ht
  cases t with
  | true =>
    rw [if_pos rfl] at h
    obtain rfl := Option.some.inj h
    go_enter Try.func41, Try.ntmps41
    go_wp2_with (first
      | (go_at_call 40; refine (impl_areNames.calls k A0 c0 l0 _ _ hr0 hc0 HA.out).mono ?_; rintro e w' ⟨rfl, ⟨q', rfl⟩⟩)
      | (go_at_call 52; refine (slices_ContainsFunc_string_string.at_ 56 (enters_of Try.func56 (by kernel_rfl) rfl) _ impl_isPeople.lit A0 c0 l0 _ (by exact Kd.C_drewN hr0 _)).mono ?_; rintro e w' ⟨rfl, ⟨q', rfl⟩⟩))
    go_ret
    exact ⟨rfl, by repeat (first | exact Drawn0.refl _ | apply Drawn0.step)⟩
  | false =>
    rw [if_neg (by decide)] at h
    obtain rfl := Option.some.inj h
    go_enter Try.func41, Try.ntmps41
    go_wp2_with (first
      | (go_at_call 40; refine (impl_areNames.calls k A0 c0 l0 _ _ hr0 hc0 HA.out).mono ?_; rintro e w' ⟨rfl, ⟨q', rfl⟩⟩))
    go_ret
    exact ⟨rfl, by repeat (first | exact Drawn0.refl _ | apply Drawn0.step)⟩

end Go.Proofs.Ytppgnndolgmcfaa.Q

/- Names of accounts and denominations: as the reference and as the program read them. -/
namespace Go.Proofs.Ytppgnndolgmcfaa.U
open Go Go.RowKit Go.Proofs.Ytppgnndolgmcfaa.Q Go.Proofs.YtppgnndolgmcfaaW.PrintWords Go.Proofs.YtppgnndolgmcfaaW.PrintLast Go.Proofs.YtppgnndolgmcfaaW.PrintMore
set_option linter.unusedVariables false
set_option linter.unusedSimpArgs false

def Letter (c : Int) : Prop := (97 ≤ c ∧ c ≤ 122) ∨ (65 ≤ c ∧ c ≤ 90) ∨ c = 95
def Digit (c : Int) : Prop := 48 ≤ c ∧ c ≤ 57
def IsName (x : ByteArray) : Prop := 1 ≤ x.size ∧ x.size ≤ 40 ∧ ∀ j : Int, 0 ≤ j → j < (x.size : Int) → Letter (bt x j) ∨ (j ≠ 0 ∧ Digit (bt x j))
instance (c : Int) : Decidable (Letter c) := by unfold Letter; infer_instance
instance (c : Int) : Decidable (Digit c) := by unfold Digit; infer_instance

theorem nameok_l0 (x : ByteArray) (hn : (x.size : Int) ≤ 140737488351232) (d : Nat) : ∀ i : Int, 0 ≤ i → i ≤ (x.size : Int) → (x.size : Int) - i = d →
    ∃ b, Ev (fun k => impl_NameOK.l0 k x (x.size : Int) i) b ∧ (b = true ↔ (∀ j : Int, i ≤ j → j < (x.size : Int) → Letter (bt x j) ∨ (j ≠ 0 ∧ Digit (bt x j))) ∧ 1 ≤ x.size ∧ x.size ≤ 40) := by
  induction d with
  | zero =>
    intro i h0 h1 hd
    refine ⟨decide (1 ≤ (x.size : Int) ∧ (x.size : Int) ≤ 40), Ev.step (fun k => ?_) (Ev.now _), ?_⟩
    · rw [impl_NameOK.l0, if_neg (by omega)]
      unfold impl_within.f
      by_cases h : (x.size : Int) ≥ 1
      · rw [if_pos h]
        simp only [Option.bind_some]
        congr 1
        exact decide_eq_decide.2 ⟨fun y => ⟨h, y⟩, fun y => y.2⟩
      · rw [if_neg h, decide_eq_false (fun y => h y.1)]
        rfl
    · rw [decide_eq_true_iff]
      exact ⟨fun h => ⟨fun j hj hj' => by omega, by omega, by omega⟩, fun h => by omega⟩
  | succ d ih =>
    intro i h0 h1 hd
    have hlt : i < (x.size : Int) := by omega
    by_cases hg : Letter (bt x i) ∨ (i ≠ 0 ∧ Digit (bt x i))
    · obtain ⟨b, hb, hb'⟩ := ih (i + 1) (by omega) (by omega) (by omega)
      refine ⟨b, Ev.step (fun k => ?_) hb, hb'.trans ⟨fun h => ⟨fun j hj hj' => ?_, h.2⟩, fun h => ⟨fun j hj hj' => h.1 j (by omega) hj', h.2⟩⟩⟩
      · rw [impl_NameOK.l0, if_pos hlt, if_pos h0, if_pos hlt, wid (n := i + 1) (by omega) (by omega)]
        unfold Letter Digit at hg
        generalize bt x i = c at *
        repeat' split
        all_goals first | rfl | (exfalso; omega)
      · by_cases e : j = i
        · subst e; exact hg
        · exact h.1 j (by omega) hj'
    · refine ⟨false, Ev.step (fun k => ?_) (Ev.now _), ⟨(fun h => by cases h), fun h => absurd (h.1 i (Int.le_refl _) hlt) hg⟩⟩
      rw [impl_NameOK.l0, if_pos hlt, if_pos h0, if_pos hlt]
      unfold Letter Digit at hg
      generalize bt x i = c at *
      repeat' split
      all_goals first | rfl | (exfalso; omega)

theorem NameOK_ev (x : ByteArray) (hn : (x.size : Int) ≤ 140737488351232) : ∃ b, Ev (fun k => impl_NameOK.f k x) b ∧ (b = true ↔ IsName x) := by
  obtain ⟨b, hb, hb'⟩ := nameok_l0 x hn x.size 0 (by omega) (by omega) (by omega)
  exact ⟨b, hb, hb'.trans ⟨fun h => ⟨h.2.1, h.2.2, h.1⟩, fun h => ⟨h.2.2, h.1, h.2.1⟩⟩⟩

theorem bool_of_iff {b : Bool} {p : Prop} [Decidable p] (h : b = true ↔ p) : b = decide p := by rw [Bool.eq_iff_iff, h, decide_eq_true_iff]
theorem letter_eq (c : Int) : spec_l00Letter.f c = some (decide (Letter c)) := by
  unfold spec_l00Letter.f
  repeat' split
  all_goals
    refine congrArg some (bool_of_iff ?_)
    unfold Letter
    first
    | exact ⟨fun _ => by omega, fun _ => rfl⟩
    | (rw [beq_iff_eq]; omega)
theorem digit_eq (c : Int) : spec_l00Digit.f c = some (decide (Digit c)) := by
  unfold spec_l00Digit.f
  split
  · refine congrArg some (bool_of_iff ?_)
    unfold Digit
    rw [decide_eq_true_iff]
    omega
  · refine congrArg some (bool_of_iff ?_)
    unfold Digit
    exact ⟨(fun h => by cases h), fun h => by omega⟩

theorem word_l0 (x : ByteArray) (hn : (x.size : Int) ≤ 40) (d : Nat) : ∀ i : Int, 1 ≤ i → i ≤ (x.size : Int) → (x.size : Int) - i = d →
    ∃ b, Ev (fun k => spec_l00Word.l0 k x i) b ∧ (b = true ↔ ∀ j : Int, i ≤ j → j < (x.size : Int) → Letter (bt x j) ∨ (j ≠ 0 ∧ Digit (bt x j))) := by
  induction d with
  | zero =>
    intro i h0 h1 hd
    exact ⟨true, Ev.step (fun k => by rw [spec_l00Word.l0, if_neg (by omega)]) (Ev.now _), ⟨fun _ j hj hj' => by omega, fun _ => rfl⟩⟩
  | succ d ih =>
    intro i h0 h1 hd
    have hlt : i < (x.size : Int) := by omega
    have hstep : ∀ k, spec_l00Word.l0 (k + 1) x i = if decide (Letter (bt x i)) = true then spec_l00Word.l0 k x (i + 1) else if decide (Digit (bt x i)) = true then spec_l00Word.l0 k x (i + 1) else some false := by
      intro k
      rw [spec_l00Word.l0, if_pos hlt, if_pos (by omega), letter_eq, digit_eq, wid (n := i + 1) (by omega) (by omega)]
      rfl
    by_cases hg : Letter (bt x i) ∨ Digit (bt x i)
    · obtain ⟨b, hb, hb'⟩ := ih (i + 1) (by omega) (by omega) (by omega)
      refine ⟨b, Ev.step (fun k => ?_) hb, hb'.trans ⟨fun h j hj hj' => ?_, fun h j hj hj' => h j (by omega) hj'⟩⟩
      · rw [hstep]
        rcases hg with hg | hg
        · rw [if_pos (decide_eq_true hg)]
        · rw [if_pos (decide_eq_true hg)]
          split <;> rfl
      · by_cases e : j = i
        · subst e; exact hg.imp id (fun y => ⟨by omega, y⟩)
        · exact h j (by omega) hj'
    · refine ⟨false, Ev.step (fun k => ?_) (Ev.now _), ⟨(fun h => by cases h), fun h => absurd ((h i (Int.le_refl _) hlt).imp id (fun y => y.2)) hg⟩⟩
      rw [hstep, if_neg (by rw [decide_eq_true_iff]; exact fun y => hg (.inl y)), if_neg (by rw [decide_eq_true_iff]; exact fun y => hg (.inr y))]

theorem Word_ev (x : ByteArray) : ∃ b, Ev (fun k => spec_l00Word.f k x) b ∧ (b = true ↔ IsName x) := by
  unfold spec_l00Word.f
  have hf : Ev (fun k => spec_l00Word.j0 k x true) false := Ev.step (fun k => by rw [spec_l00Word.j0, if_pos rfl]) (Ev.now _)
  by_cases h1 : (x.size : Int) < 1
  · simp only [if_pos h1]
    exact ⟨false, hf, ⟨(fun h => by cases h), fun h => by have := h.1; omega⟩⟩
  simp only [if_neg h1]
  by_cases h2 : (x.size : Int) > 40
  · simp only [if_pos h2]
    exact ⟨false, hf, ⟨(fun h => by cases h), fun h => by have := h.2.1; omega⟩⟩
  simp only [if_neg h2, if_pos (show (0 : Int) < (x.size : Int) by omega), letter_eq, Option.bind_some]
  by_cases h3 : Letter (bt x 0)
  · obtain ⟨b, hb, hb'⟩ := word_l0 x (by omega) (x.size - 1) 1 (by omega) (by omega) (by omega)
    refine ⟨b, ?_, hb'.trans ⟨fun h => ⟨by omega, by omega, fun j hj hj' => ?_⟩, fun h j hj hj' => h.2.2 j (by omega) hj'⟩⟩
    · rw [decide_eq_true h3]
      exact Ev.step (fun k => by rw [Bool.not_true, spec_l00Word.j0, if_neg (by decide)]) hb
    · by_cases e : j = 0
      · subst e; exact .inl h3
      · exact h j (by omega) hj'
  · rw [decide_eq_false h3]
    refine ⟨false, hf, ⟨(fun h => by cases h), fun h => ?_⟩⟩
    rcases h.2.2 0 (by omega) (by omega) with h | h
    · exact absurd h h3
    · exact absurd rfl h.1

noncomputable instance (x : ByteArray) : Decidable (IsName x) := Classical.propDecidable _
/-- A name of at most twelve bytes. -/
noncomputable def nameB (x : ByteArray) : Bool := decide (IsName x ∧ x.size ≤ 12)
noncomputable def peopleB (x : ByteArray) : Bool := nameB x && !impl_isPeople.bad x

theorem DenomOK_ev (x : ByteArray) (hn : (x.size : Int) ≤ 140737488351232) : Ev (fun k => impl_DenomOK.f k x) (nameB x) := by
  obtain ⟨b, hb, hb'⟩ := NameOK_ev x hn
  unfold impl_DenomOK.f
  refine Ev.bind hb ?_
  unfold nameB
  by_cases h : IsName x
  · simp only [hb'.2 h, if_true]
    rw [show decide ((x.size : Int) ≤ 12) = decide (IsName x ∧ x.size ≤ 12) from by rw [Bool.eq_iff_iff, decide_eq_true_iff, decide_eq_true_iff]; exact ⟨fun y => ⟨h, by omega⟩, fun y => by have := y.2; omega⟩]
    exact Ev.now _
  · obtain rfl : b = false := by cases b; rfl; exact absurd (hb'.1 rfl) h
    rw [decide_eq_false (fun y : IsName x ∧ x.size ≤ 12 => h y.1)]
    exact Ev.now _

theorem l05Name_ev (x : ByteArray) : Ev (fun k => spec_l05Name.f k x) (nameB x) := by
  obtain ⟨b, hb, hb'⟩ := Word_ev x
  unfold spec_l05Name.f nameB
  by_cases h12 : (x.size : Int) ≤ 12
  · simp only [if_pos h12]
    have : Ev (fun k => spec_NameOK.f k x) b := by unfold spec_NameOK.f; exact Ev.bind hb (Ev.now _)
    refine Ev.bind this ?_
    rw [show b = decide (IsName x ∧ x.size ≤ 12) from by rw [Bool.eq_iff_iff, decide_eq_true_iff, hb']; exact ⟨fun y => ⟨y, by omega⟩, fun y => y.1⟩]
    exact Ev.now _
  · simp only [if_neg h12]
    rw [decide_eq_false (fun y : IsName x ∧ x.size ≤ 12 => h12 (by have := y.2; omega))]
    exact Ev.now _

theorem l08Name_ev (x : ByteArray) : Ev (fun k => spec_l08Name.f k x) (peopleB x) := by
  unfold spec_l08Name.f
  refine Ev.bind (l05Name_ev x) ?_
  unfold peopleB impl_isPeople.bad
  cases nameB x with
  | false => exact Ev.now _
  | true =>
    simp only [if_true, Bool.true_and]
    by_cases h1 : x.toList = ([101, 115, 99, 114, 111, 119] : List UInt8)
    · simp only [h1, if_true]; exact Ev.now _
    · simp only [if_neg h1]
      by_cases h2 : x.toList = ([111, 114, 100, 101, 114, 115] : List UInt8)
      · simp only [h2, if_true]; exact Ev.now _
      · simp only [if_neg h2]
        by_cases h3 : x.toList = ([116, 97, 107, 101, 115] : List UInt8)
        · simp only [h3, if_true]; exact Ev.now _
        · simp only [if_neg h3, beq_eq_false_iff_ne.2 h1, beq_eq_false_iff_ne.2 h2, beq_eq_false_iff_ne.2 h3, Bool.false_or]
          exact Ev.now _

theorem areNames_go (l : List ByteArray) (hl : l.length < 1000000) (hn : ∀ x ∈ l, (x.size : Int) ≤ 140737488351232) : ∀ (d : Nat) (i : Nat), i + d = l.length →
    Ev (fun k => impl_areNames.l0 k l (l.length : Int) (i : Int)) ((l.drop i).all nameB) := by
  intro d
  induction d with
  | zero =>
    intro i hi
    refine Ev.step (fun k => ?_) (Ev.now _)
    rw [impl_areNames.l0, if_neg (by omega), List.drop_of_length_le (by omega)]
    rfl
  | succ d ih =>
    intro i hi
    have hlt : i < l.length := by omega
    have hx : rdOf ByteArray.empty l (i : Int) = l[i] := by simp [rdOf, List.getD_eq_getElem?_getD, List.getElem?_eq_getElem hlt]
    have h1 := DenomOK_ev l[i] (hn _ (List.getElem_mem hlt))
    have h2 := ih (i + 1) (by omega)
    rw [List.drop_eq_getElem_cons hlt, List.all_cons]
    have hstep : ∀ k, impl_areNames.l0 (k + 1) l (l.length : Int) (i : Int) = (impl_DenomOK.f k l[i]).bind fun t => if t = true then impl_areNames.l0 k l (l.length : Int) ((i + 1 : Nat) : Int) else some false := by
      intro k
      rw [impl_areNames.l0, if_pos (by omega), if_pos (by omega), if_pos (by omega), hx, wid (n := (i : Int) + 1) (by omega) (by omega)]
      rfl
    refine Ev.step hstep (Ev.bind h1 ?_)
    cases nameB l[i] with
    | false => exact Ev.now _
    | true =>
      simp only [if_true, Bool.true_and]
      exact h2
theorem areNames_ev (l : List ByteArray) (hl : l.length < 1000000) (hn : ∀ x ∈ l, (x.size : Int) ≤ 140737488351232) : Ev (fun k => impl_areNames.f k l) (l.all nameB) := by
  have := areNames_go l hl hn l.length 0 (by omega)
  unfold impl_areNames.f
  simpa using this
theorem isPeople_ev (l : List ByteArray) (hl : l.length < 1000000) (hn : ∀ x ∈ l, (x.size : Int) ≤ 140737488351232) : Ev (fun k => impl_isPeople.f k l) (l.all peopleB) := by
  unfold impl_isPeople.f
  refine Ev.bind (areNames_ev l hl hn) ?_
  have e : l.all peopleB = (l.all nameB && !l.any impl_isPeople.bad) := by
    clear hl hn
    induction l with
    | nil => rfl
    | cons a l ih =>
      simp only [List.all_cons, List.any_cons, ih, peopleB]
      cases nameB a <;> cases impl_isPeople.bad a <;> cases l.all nameB <;> cases l.any impl_isPeople.bad <;> rfl
  rw [e]
  cases l.all nameB with
  | false => exact Ev.now _
  | true => simp only [if_true, Bool.true_and]; exact Ev.now _

end Go.Proofs.Ytppgnndolgmcfaa.U

/- The quotes of a pool, and what a payment of an order buys: plain values, and that the reference and the program both come to them. -/
namespace Go.Proofs.Ytppgnndolgmcfaa.U
open Go Go.RowKit Go.Proofs.Ytppgnndolgmcfaa.Q Go.Proofs.YtppgnndolgmcfaaW.PrintWords Go.Proofs.YtppgnndolgmcfaaW.PrintLast Go.Proofs.YtppgnndolgmcfaaW.PrintMore
set_option linter.unusedVariables false
set_option linter.unusedSimpArgs false

theorem l01In_eq (n a b : Int) : spec_l01In.f n a b = some (decide (a ≤ n ∧ n ≤ b)) := by
  unfold spec_l01In.f
  by_cases h : n ≥ a
  · rw [if_pos h]; congr 1; exact decide_eq_decide.2 ⟨fun x => ⟨h, x⟩, fun x => x.2⟩
  · rw [if_neg h, decide_eq_false (fun x => h x.1)]

def inB (n : Int) : Bool := decide (1 ≤ n ∧ n ≤ 1000000000000000000)
theorem inB_iff {n : Int} : inB n = true ↔ 1 ≤ n ∧ n ≤ 1000000000000000000 := by unfold inB; rw [decide_eq_true_iff]
theorem isSome_B (n : Int) : impl_isSome.f n = some (inB n) := isSome_eq n
theorem l01In_B (n : Int) : spec_l01In.f n 1 1000000000000000000 = some (inB n) := l01In_eq n 1 _

/-! ### pools -/
def poolB (a b c : Int) : Bool := (a == 0 && (b == 0 && (c == 0))) || (inB a && (inB b && inB c))
theorem PoolOK_eq (a b c : Int) : impl_PoolOK.f a b c = some (poolB a b c) := by
  unfold impl_PoolOK.f poolB
  simp only [isSome_B, Option.bind_some]
  cases (a == 0 && (b == 0 && (c == 0))) <;> cases inB a <;> cases inB b <;> cases inB c <;> rfl
theorem specPoolOK_ev (a b c : Int) : Ev (fun k => spec_PoolOK.f k a b c) (poolB a b c) := by
  unfold spec_PoolOK.f poolB
  have hj : ∀ z : Bool, Ev (fun k => spec_PoolOK.j0 k z a b c) (z || (inB a && (inB b && inB c))) := by
    intro z
    refine Ev.step (fun k => ?_) (Ev.now _)
    rw [spec_PoolOK.j0]
    simp only [l01In_B, Option.bind_some]
    cases z <;> cases inB a <;> cases inB b <;> cases inB c <;> rfl
  by_cases h1 : a = 0
  · simp only [if_pos h1]
    by_cases h2 : b = 0
    · simp only [if_pos h2, beq_iff_eq.2 h1, beq_iff_eq.2 h2, Bool.true_and]
      exact hj _
    · simp only [if_neg h2, beq_eq_false_iff_ne.2 h2, Bool.false_and, Bool.and_false]
      exact hj _
  · simp only [if_neg h1, beq_eq_false_iff_ne.2 h1, Bool.false_and]
    exact hj _
theorem poolB_iff {a b c : Int} : poolB a b c = true ↔ (a = 0 ∧ b = 0 ∧ c = 0) ∨ ((1 ≤ a ∧ a ≤ 1000000000000000000) ∧ (1 ≤ b ∧ b ≤ 1000000000000000000) ∧ 1 ≤ c ∧ c ≤ 1000000000000000000) := by
  unfold poolB
  simp only [Bool.or_eq_true, Bool.and_eq_true, beq_iff_eq, inB_iff]

/-! ### a swap -/
def feeV (n : Int) : Int := n * 997 / 1000
def gotV (i o n : Int) : Int := o * feeV n / (i + feeV n)
def swapV (i o n : Int) : Int × Int := if i + n > 1000000000000000000 then (0, 13) else if feeV n = 0 then (0, 17) else if gotV i o n = 0 then (0, 17) else (gotV i o n, 0)
theorem fee_bd {n : Int} (h : 1 ≤ n) : 0 ≤ feeV n ∧ feeV n ≤ n := by unfold feeV; omega
theorem got_bd {i o n : Int} (hi : 1 ≤ i) (ho : 1 ≤ o) (hn : 1 ≤ n) : 0 ≤ gotV i o n ∧ gotV i o n < o := by
  have hf := fee_bd hn
  unfold gotV
  generalize feeV n = f at *
  refine ⟨Int.ediv_nonneg (Int.mul_nonneg (by omega) (by omega)) (by omega), ?_⟩
  rw [Int.ediv_lt_iff_lt_mul (by omega), Int.mul_add]
  have : 1 ≤ o * i := by
    have := Int.mul_le_mul ho hi (by omega : (0 : Int) ≤ 1) (by omega)
    omega
  omega

theorem l10Swap_ev (i o n : Int) (hi : 1 ≤ i) (hi' : i ≤ 1000000000000000000) (ho : 1 ≤ o) (ho' : o ≤ 1000000000000000000) (hn : 1 ≤ n) (hn' : n ≤ 1000000000000000000) :
    Ev (fun k => spec_l10Swap.f k i o n) (swapV i o n) := by
  unfold spec_l10Swap.f swapV
  have hf := fee_bd hn
  have h1 := l02MulDiv_ev n 997 1000 (by omega) hn' (by omega) (by omega) (by omega) (by omega)
  rw [if_pos (by show feeV n ≤ _; omega)] at h1
  refine Ev.bind h1 ?_
  simp only
  rw [wid (n := i + n) (by omega) (by omega)]
  have ef : n * 997 / 1000 = feeV n := rfl
  rw [ef]
  by_cases hov : i + n > 1000000000000000000
  · simp only [if_pos hov]; exact Ev.now _
  simp only [if_neg hov]
  by_cases hz : feeV n = 0
  · simp only [if_pos hz]; exact Ev.now _
  simp only [if_neg hz]
  have hg := got_bd hi ho hn
  have h2 := l02MulDiv_ev o (feeV n) (i + feeV n) (by omega) ho' (by omega) (by omega) (by omega) (by omega)
  have eg : o * feeV n / (i + feeV n) = gotV i o n := rfl
  rw [eg, if_pos (by omega)] at h2
  rw [wid (n := i + feeV n) (by omega) (by omega)]
  refine Ev.bind h2 ?_
  simp only [if_true]
  by_cases hq : gotV i o n = 0
  · simp only [if_pos hq]; exact Ev.now _
  · simp only [if_neg hq]; exact Ev.now _

def quoteSwapV (i o n : Int) : Int × Int := if (inB i && (inB o && inB n)) = true then swapV i o n else (0, 4)
theorem specQuoteSwap_ev (i o n : Int) : Ev (fun k => spec_QuoteSwap.f k i o n) (quoteSwapV i o n) := by
  unfold spec_QuoteSwap.f quoteSwapV
  simp only [l01In_B, Option.bind_some]
  cases h1 : inB i with
  | false => exact Ev.now _
  | true =>
    cases h2 : inB o with
    | false => exact Ev.now _
    | true =>
      cases h3 : inB n with
      | false => exact Ev.now _
      | true =>
        simp only [Bool.and_true, if_true]
        rw [inB_iff] at h1 h2 h3
        exact Ev.bind (l10Swap_ev i o n h1.1 h1.2 h2.1 h2.2 h3.1 h3.2) (Ev.now _)
theorem implQuoteSwap_ev (i o n : Int) : Ev (fun k => impl_QuoteSwap.f k i o n) (quoteSwapV i o n) := by
  unfold impl_QuoteSwap.f quoteSwapV
  simp only [isSome_B, Option.bind_some]
  have hbad : Ev (fun k => impl_QuoteSwap.j0 k i o n true) (0, 4) := Ev.step (fun k => by rw [impl_QuoteSwap.j0, if_pos rfl]) (Ev.now _)
  cases h1 : inB i with
  | false => exact hbad
  | true =>
    cases h2 : inB o with
    | false => exact hbad
    | true =>
      cases h3 : inB n with
      | false => exact hbad
      | true =>
        simp only [Bool.and_true, if_true, Bool.not_true]
        rw [inB_iff] at h1 h2 h3
        have hf := fee_bd h3.1
        have ef : n * 997 / 1000 = feeV n := rfl
        have hm1 := MulDiv_ev n 997 1000 (by omega) h3.2 (by omega) (by omega) (by omega) (by omega)
        rw [ef, if_pos (by omega)] at hm1
        unfold swapV
        by_cases hov : i + n > 1000000000000000000
        · simp only [if_pos hov]
          exact Ev.step (fun k => by rw [impl_QuoteSwap.j0, if_neg (by decide), wid (n := i + n) (by omega) (by omega), if_pos hov]) (Ev.now _)
        simp only [if_neg hov]
        have hg := got_bd h1.1 h2.1 h3.1
        have hm2 := MulDiv_ev o (feeV n) (i + feeV n) (by omega) h2.2 (by omega) (by omega) (by omega) (by omega)
        have eg : o * feeV n / (i + feeV n) = gotV i o n := rfl
        rw [eg, if_pos (by omega)] at hm2
        refine Ev.step (f := fun k => (impl_MulDiv.f k n 997 1000).bind fun b1 => (impl_MulDiv.f k o b1.1 (wrap64 (i + b1.1))).bind fun b2 => if b2.1 = 0 then some (0, 17) else some (b2.1, 0)) (fun k => by rw [impl_QuoteSwap.j0, if_neg (by decide), wid (n := i + n) (by omega) (by omega), if_neg hov]) ?_
        refine Ev.bind hm1 ?_
        simp only
        rw [wid (n := i + feeV n) (by omega) (by omega)]
        refine Ev.bind hm2 ?_
        simp only
        by_cases hz : feeV n = 0
        · have : gotV i o n = 0 := by unfold gotV; rw [hz]; simp
          simp only [if_pos hz, if_pos this]
          exact Ev.now _
        · simp only [if_neg hz]
          by_cases hq : gotV i o n = 0
          · simp only [if_pos hq]; exact Ev.now _
          · simp only [if_neg hq]; exact Ev.now _

/-! ### shares -/
def remV (A B S n : Int) : Int × Int × Int := if n > S then (0, 0, 12) else if A * n / S = 0 then (0, 0, 17) else if B * n / S = 0 then (0, 0, 17) else (A * n / S, B * n / S, 0)
def quoteRemoveV (A B S n : Int) : Int × Int × Int := if poolB A B S = true then (if inB n = true then remV A B S n else (0, 0, 4)) else (0, 0, 1)
theorem part_bd {A n S : Int} (hA : 1 ≤ A) (hn : 1 ≤ n) (hS : n ≤ S) : 0 ≤ A * n / S ∧ A * n / S ≤ A := by
  refine ⟨Int.ediv_nonneg (Int.mul_nonneg (by omega) (by omega)) (by omega), ?_⟩
  have : A * n ≤ A * S := Int.mul_le_mul_of_nonneg_left hS (by omega)
  have h := Int.ediv_le_ediv (by omega : 0 < S) this
  rwa [Int.mul_ediv_cancel _ (by omega)] at h
theorem specQuoteRemove_ev (A B S n : Int) : Ev (fun k => spec_QuoteRemove.f k A B S n) (quoteRemoveV A B S n) := by
  unfold spec_QuoteRemove.f quoteRemoveV
  refine Ev.bind (specPoolOK_ev A B S) ?_
  simp only [l01In_B, Option.bind_some]
  cases hp : poolB A B S with
  | false => exact Ev.now _
  | true =>
    simp only [if_true]
    cases h1 : inB n with
    | false => exact Ev.now _
    | true =>
      simp only [if_true]
      rw [inB_iff] at h1
      rw [poolB_iff] at hp
      unfold spec_l10Remove.f remV
      by_cases hgt : n > S
      · simp only [if_pos hgt]; exact Ev.now _
      simp only [if_neg hgt]
      rcases hp with hp | ⟨a1, a2, a3⟩
      · omega
      have p1 := part_bd a1.1 h1.1 (by omega : n ≤ S)
      have p2 := part_bd a2.1 h1.1 (by omega : n ≤ S)
      have m1 := l02MulDiv_ev A n S (by omega) a1.2 (by omega) h1.2 a3.1 a3.2
      rw [if_pos (by omega)] at m1
      have m2 := l02MulDiv_ev B n S (by omega) a2.2 (by omega) h1.2 a3.1 a3.2
      rw [if_pos (by omega)] at m2
      refine Ev.bind (a := if A * n / S = 0 then (0, 0, 17) else if B * n / S = 0 then (0, 0, 17) else (A * n / S, B * n / S, 0)) ?_ ?_
      · refine Ev.bind m1 (Ev.bind m2 ?_)
        simp only
        by_cases z1 : A * n / S = 0
        · simp only [if_pos z1]; exact Ev.now _
        · simp only [if_neg z1]
          by_cases z2 : B * n / S = 0
          · simp only [if_pos z2]; exact Ev.now _
          · simp only [if_neg z2]; exact Ev.now _
      · exact Ev.now _
theorem implQuoteRemove_ev (A B S n : Int) : Ev (fun k => impl_QuoteRemove.f k A B S n) (quoteRemoveV A B S n) := by
  unfold impl_QuoteRemove.f quoteRemoveV
  simp only [PoolOK_eq, isSome_B, Option.bind_some]
  cases hp : poolB A B S with
  | false => exact Ev.now _
  | true =>
    simp only [if_true]
    cases h1 : inB n with
    | false => exact Ev.now _
    | true =>
      simp only [if_true]
      rw [inB_iff] at h1
      rw [poolB_iff] at hp
      unfold remV
      by_cases hgt : n > S
      · simp only [if_pos hgt]; exact Ev.now _
      simp only [if_neg hgt]
      rcases hp with hp | ⟨a1, a2, a3⟩
      · omega
      have p1 := part_bd a1.1 h1.1 (by omega : n ≤ S)
      have p2 := part_bd a2.1 h1.1 (by omega : n ≤ S)
      have m1 := MulDiv_ev A n S (by omega) a1.2 (by omega) h1.2 a3.1 a3.2
      rw [if_pos (by omega)] at m1
      have m2 := MulDiv_ev B n S (by omega) a2.2 (by omega) h1.2 a3.1 a3.2
      rw [if_pos (by omega)] at m2
      refine Ev.bind m1 (Ev.bind m2 ?_)
      simp only
      by_cases z1 : A * n / S = 0
      · simp only [if_pos z1]; exact Ev.now _
      · simp only [if_neg z1]
        by_cases z2 : B * n / S = 0
        · simp only [if_pos z2]; exact Ev.now _
        · simp only [if_neg z2]; exact Ev.now _

/-- What is given for what is added, R the root of its product. -/
def addEndV (S n : Int) : Int × Int := if n = 0 then (0, 17) else if S + n > 1000000000000000000 then (0, 13) else (n, 0)
def addV (R A B S a b : Int) : Int × Int :=
  if A + a > 1000000000000000000 ∨ B + b > 1000000000000000000 then (0, 13) else
  if S = 0 then addEndV S R else
  if a * S / A > 1000000000000000000 ∨ b * S / B > 1000000000000000000 then (0, 13) else addEndV S (mn (a * S / A) (b * S / B))
def quoteAddV (R A B S a b : Int) : Int × Int := if poolB A B S = true then (if (inB a && inB b) = true then addV R A B S a b else (0, 4)) else (0, 1)

theorem mn_cases (a b : Int) : mn a b = a ∨ mn a b = b := by unfold mn; split; exact .inr rfl; exact .inl rfl

theorem specQuoteAdd_ev (R A B S a b : Int) (hR0 : 0 ≤ R) (hR1 : R ≤ 1000000000000000000) (hR2 : R * R ≤ a * b) (hR3 : a * b < (R + 1) * (R + 1)) : Ev (fun k => spec_QuoteAdd.f k A B S a b) (quoteAddV R A B S a b) := by
  unfold spec_QuoteAdd.f quoteAddV
  refine Ev.bind (specPoolOK_ev A B S) ?_
  simp only [l01In_B, Option.bind_some]
  cases hp : poolB A B S with
  | false => exact Ev.now _
  | true =>
    simp only [if_true]
    cases h1 : inB a with
    | false => exact Ev.now _
    | true =>
      cases h2 : inB b with
      | false => exact Ev.now _
      | true =>
        simp only [if_true, Bool.and_true]
        rw [inB_iff] at h1 h2
        rw [poolB_iff] at hp
        have hend : ∀ n : Int, 0 ≤ n → n ≤ 1000000000000000000 → 0 ≤ S → S ≤ 1000000000000000000 → Ev (fun k => spec_l10Add.j1 k n A B S) (addEndV S n) := by
          intro n hn hn' hS hS'
          unfold addEndV
          refine Ev.step (f := fun _ => if n = 0 then some (0, 17) else if S + n > 1000000000000000000 then some (0, 13) else some (n, 0)) (fun k => by rw [spec_l10Add.j1, wid (n := S + n) (by omega) (by omega)]) ?_
          by_cases z1 : n = 0
          · simp only [if_pos z1]; exact Ev.now _
          · simp only [if_neg z1]
            by_cases z2 : S + n > 1000000000000000000
            · simp only [if_pos z2]; exact Ev.now _
            · simp only [if_neg z2]; exact Ev.now _
        have hbad : Ev (fun k => spec_l10Add.j0 k a b true A B S) (0, 13) := Ev.step (fun k => by rw [spec_l10Add.j0, if_pos rfl]) (Ev.now _)
        have hgood : ¬ (A + a > 1000000000000000000 ∨ B + b > 1000000000000000000) → Ev (fun k => spec_l10Add.j0 k a b false A B S) (addV R A B S a b) := by
          intro hno
          unfold addV
          rw [if_neg hno]
          by_cases hS : S = 0
          · rw [if_pos hS]
            refine Ev.step (f := fun k => (spec_l02Root.f k a b).bind fun t => spec_l10Add.j1 k t A B S) (fun k => by rw [spec_l10Add.j0, if_neg (by decide), if_pos hS]) ?_
            exact Ev.bind (l02Root_ev a b R (by omega) h1.2 (by omega) h2.2 hR0 hR1 hR2 hR3) (hend R hR0 hR1 (by omega) (by omega))
          · rw [if_neg hS]
            rcases hp with hp | ⟨a1, a2, a3⟩
            · omega
            have m1 := l02MulDiv_ev a S A (by omega) h1.2 (by omega) a3.2 a1.1 a1.2
            have m2 := l02MulDiv_ev b S B (by omega) h2.2 (by omega) a3.2 a2.1 a2.2
            have q1 : 0 ≤ a * S / A := Int.ediv_nonneg (Int.mul_nonneg (by omega) (by omega)) (by omega)
            have q2 : 0 ≤ b * S / B := Int.ediv_nonneg (Int.mul_nonneg (by omega) (by omega)) (by omega)
            refine Ev.step (f := fun k => (spec_l02MulDiv.f k a S A).bind fun b1 => (spec_l02MulDiv.f k b S B).bind fun b2 => if b1.2 = true then (if b2.2 = true then spec_l10Add.j1 k (mn b1.1 b2.1) A B S else some (0, 13)) else some (0, 13)) (fun k => by rw [spec_l10Add.j0, if_neg (by decide), if_neg hS]) ?_
            refine Ev.bind m1 (Ev.bind m2 ?_)
            by_cases c1 : a * S / A ≤ 1000000000000000000
            · by_cases c2 : b * S / B ≤ 1000000000000000000
              · simp only [if_pos c1, if_pos c2, if_true]
                rw [if_neg (by omega)]
                refine hend _ ?_ ?_ (by omega) a3.2 <;> rcases mn_cases (a * S / A) (b * S / B) with e | e <;> rw [e] <;> omega
              · simp only [if_pos c1, if_neg c2, if_true]
                rw [if_pos (by omega)]
                exact Ev.now _
            · simp only [if_neg c1]
              rw [if_pos (show a * S / A > 1000000000000000000 ∨ b * S / B > 1000000000000000000 from .inl (by omega))]
              exact Ev.now _
        refine Ev.bind (a := addV R A B S a b) ?_ (Ev.now _)
        unfold spec_l10Add.f
        have hAb : 0 ≤ A ∧ A ≤ 1000000000000000000 ∧ 0 ≤ B ∧ B ≤ 1000000000000000000 := by omega
        rw [wid (n := A + a) (by omega) (by omega), wid (n := B + b) (by omega) (by omega)]
        by_cases o1 : A + a > 1000000000000000000
        · simp only [if_pos o1]
          have : addV R A B S a b = (0, 13) := by unfold addV; rw [if_pos (.inl o1)]
          rw [this]; exact hbad
        · simp only [if_neg o1]
          by_cases o2 : B + b > 1000000000000000000
          · have : addV R A B S a b = (0, 13) := by unfold addV; rw [if_pos (.inr o2)]
            rw [this, decide_eq_true o2]; exact hbad
          · rw [decide_eq_false o2]
            exact hgood (by omega)

theorem firstOf_ev (x y : Int) : Ev (fun k => impl_firstOf.f k [x, y]) (if x = 0 then y else x) := by
  unfold impl_firstOf.f
  have r0 : rd [x, y] 0 = x := rfl
  have r1 : rd [x, y] 1 = y := rfl
  have w0 : wrap64 (0 + 1) = 1 := by rw [wid (by omega) (by omega)]; rfl
  have w1 : wrap64 (1 + 1) = 2 := by rw [wid (by omega) (by omega)]; rfl
  have hl : (([x, y] : List Int).length : Int) = 2 := rfl
  by_cases h : x = 0
  · rw [if_pos h]
    refine Ev.step (fun k => by rw [impl_firstOf.l0, if_pos (by rw [hl]; omega), if_pos (by omega), if_pos (by rw [hl]; omega), r0, if_pos h, w0]) ?_
    by_cases h2 : y = 0
    · refine Ev.step (fun k => by rw [impl_firstOf.l0, if_pos (by rw [hl]; omega), if_pos (by omega), if_pos (by rw [hl]; omega), r1, if_pos h2, w1]) ?_
      refine Ev.step (fun k => by rw [impl_firstOf.l0, if_neg (by rw [hl]; omega)]) ?_
      rw [h2]; exact Ev.now _
    · exact Ev.step (fun k => by rw [impl_firstOf.l0, if_pos (by rw [hl]; omega), if_pos (by omega), if_pos (by rw [hl]; omega), r1, if_neg h2]) (Ev.now _)
  · rw [if_neg h]
    exact Ev.step (fun k => by rw [impl_firstOf.l0, if_pos (by rw [hl]; omega), if_pos (by omega), if_pos (by rw [hl]; omega), r0, if_neg h]) (Ev.now _)

theorem implQuoteAdd_ev (R A B S a b : Int) (hR0 : 0 ≤ R) (hR1 : R ≤ 1000000000000000000) (hR2 : R * R ≤ a * b) (hR3 : a * b < (R + 1) * (R + 1)) : Ev (fun k => impl_QuoteAdd.f k A B S a b) (quoteAddV R A B S a b) := by
  unfold impl_QuoteAdd.f quoteAddV
  simp only [PoolOK_eq, isSome_B, Option.bind_some]
  cases hp : poolB A B S with
  | false => exact Ev.now _
  | true =>
    simp only [if_true]
    have hbad : Ev (fun k => impl_QuoteAdd.j0 k a b true A B S) (0, 4) := Ev.step (fun k => by rw [impl_QuoteAdd.j0, if_pos rfl]) (Ev.now _)
    cases h1 : inB a with
    | false => exact hbad
    | true =>
      cases h2 : inB b with
      | false => exact hbad
      | true =>
        simp only [if_true, Bool.and_true, Bool.not_true]
        rw [inB_iff] at h1 h2
        rw [poolB_iff] at hp
        have hAb : 0 ≤ A ∧ A ≤ 1000000000000000000 ∧ 0 ≤ B ∧ B ≤ 1000000000000000000 ∧ 0 ≤ S ∧ S ≤ 1000000000000000000 := by omega
        refine Ev.step (f := fun k => if A + a > 1000000000000000000 then some (0, 13) else if B + b > 1000000000000000000 then some (0, 13) else (impl_Pool_shares.f k A B S a b).bind fun b1 => if b1.2 = 0 then (if b1.1 = 0 then some (0, 17) else if wrap64 (S + b1.1) > 1000000000000000000 then some (0, 13) else some (b1.1, 0)) else some (0, 13))
          (fun k => by rw [impl_QuoteAdd.j0, if_neg (by decide), wid (n := A + a) (by omega) (by omega), wid (n := B + b) (by omega) (by omega)]) ?_
        by_cases o1 : A + a > 1000000000000000000
        · have : addV R A B S a b = (0, 13) := by unfold addV; rw [if_pos (.inl o1)]
          simp only [if_pos o1, this]; exact Ev.now _
        by_cases o2 : B + b > 1000000000000000000
        · have : addV R A B S a b = (0, 13) := by unfold addV; rw [if_pos (.inr o2)]
          simp only [if_neg o1, if_pos o2, this]; exact Ev.now _
        simp only [if_neg o1, if_neg o2]
        have hend : ∀ n : Int, 0 ≤ n → n ≤ 1000000000000000000 → Ev (fun (_ : Nat) => if n = 0 then some ((0, 17) : Int × Int) else if wrap64 (S + n) > 1000000000000000000 then some (0, 13) else some (n, 0)) (addEndV S n) := by
          intro n hn hn'
          unfold addEndV
          rw [wid (n := S + n) (by omega) (by omega)]
          by_cases z1 : n = 0
          · simp only [if_pos z1]; exact Ev.now _
          · simp only [if_neg z1]
            by_cases z2 : S + n > 1000000000000000000
            · simp only [if_pos z2]; exact Ev.now _
            · simp only [if_neg z2]; exact Ev.now _
        unfold impl_Pool_shares.f addV
        rw [if_neg (by omega)]
        by_cases hS : S = 0
        · simp only [if_pos hS]
          refine Ev.bind (a := (R, 0)) (Ev.bind (RootOf_ev a b R (by omega) h1.2 (by omega) h2.2 hR0 hR1 hR2 hR3) (Ev.now _)) ?_
          exact hend R hR0 hR1
        · simp only [if_neg hS]
          rcases hp with hp | ⟨a1, a2, a3⟩
          · omega
          have m1 := MulDiv_ev a S A (by omega) h1.2 (by omega) a3.2 a1.1 a1.2
          have m2 := MulDiv_ev b S B (by omega) h2.2 (by omega) a3.2 a2.1 a2.2
          have q1 : 0 ≤ a * S / A := Int.ediv_nonneg (Int.mul_nonneg (by omega) (by omega)) (by omega)
          have q2 : 0 ≤ b * S / B := Int.ediv_nonneg (Int.mul_nonneg (by omega) (by omega)) (by omega)
          by_cases c1 : a * S / A ≤ 1000000000000000000
          · by_cases c2 : b * S / B ≤ 1000000000000000000
            · rw [if_pos c1] at m1
              rw [if_pos c2] at m2
              rw [if_neg (by omega)]
              refine Ev.bind (a := (mn (a * S / A) (b * S / B), 0)) (Ev.bind m1 (Ev.bind m2 (Ev.bind (firstOf_ev 0 0) (Ev.now _)))) ?_
              refine hend _ ?_ ?_ <;> rcases mn_cases (a * S / A) (b * S / B) with e | e <;> rw [e] <;> omega
            · rw [if_pos c1] at m1
              rw [if_neg c2] at m2
              rw [if_pos (by omega)]
              refine Ev.bind (a := (mn (a * S / A) 0, 13)) (Ev.bind m1 (Ev.bind m2 (Ev.bind (firstOf_ev 0 13) (Ev.now _)))) ?_
              exact Ev.now _
          · rw [if_neg c1] at m1
            rw [if_pos (by omega)]
            by_cases c2 : b * S / B ≤ 1000000000000000000
            · rw [if_pos c2] at m2
              refine Ev.bind (a := (mn 0 (b * S / B), 13)) (Ev.bind m1 (Ev.bind m2 (Ev.bind (firstOf_ev 13 0) (Ev.now _)))) ?_
              exact Ev.now _
            · rw [if_neg c2] at m2
              refine Ev.bind (a := (mn 0 0, 13)) (Ev.bind m1 (Ev.bind m2 (Ev.bind (firstOf_ev 13 13) (Ev.now _)))) ?_
              exact Ev.now _

end Go.Proofs.Ytppgnndolgmcfaa.U

/- What the program gives for an addition is what the reference gives. -/
namespace Go.Proofs.Ytppgnndolgmcfaa.Pure
open Go Go.RowKit Go.Proofs.Ytppgnndolgmcfaa.Q Go.Proofs.Ytppgnndolgmcfaa.U Go.Proofs.YtppgnndolgmcfaaW.PrintWords Go.Proofs.YtppgnndolgmcfaaW.PrintLast Go.Proofs.YtppgnndolgmcfaaW.PrintMore
set_option linter.unusedVariables false
set_option linter.unusedSimpArgs false

theorem addOut {A B S a b : Int} (h : (inB a && inB b) = false) :
    Ev (fun k => spec_QuoteAdd.f k A B S a b) (if poolB A B S = true then (0, 4) else (0, 1)) ∧ Ev (fun k => impl_QuoteAdd.f k A B S a b) (if poolB A B S = true then (0, 4) else (0, 1)) := by
  constructor
  · unfold spec_QuoteAdd.f
    refine Ev.bind (specPoolOK_ev A B S) ?_
    simp only [l01In_B, Option.bind_some]
    cases hp : poolB A B S with
    | false => exact Ev.now _
    | true =>
      simp only [if_true]
      cases h1 : inB a with
      | false => exact Ev.now _
      | true =>
        cases h2 : inB b with
        | false => exact Ev.now _
        | true => rw [h1, h2] at h; cases h
  · unfold impl_QuoteAdd.f
    simp only [PoolOK_eq, isSome_B, Option.bind_some]
    cases hp : poolB A B S with
    | false => exact Ev.now _
    | true =>
      simp only [if_true]
      have hbad : Ev (fun k => impl_QuoteAdd.j0 k a b true A B S) (0, 4) := Ev.step (fun k => by rw [impl_QuoteAdd.j0, if_pos rfl]) (Ev.now _)
      cases h1 : inB a with
      | false => exact hbad
      | true =>
        cases h2 : inB b with
        | false => exact hbad
        | true => rw [h1, h2] at h; cases h
theorem FnExactQuoteAdd (a0 a1 a2 : Int) (_ : (Lit.int .i64 a0).wf = true ∧ ((Lit.int .i64 a1).wf = true ∧ (Lit.int .i64 a2).wf = true)) (a : Int) (_ : (Lit.int .i64 a).wf = true) (b : Int) (_ : (Lit.int .i64 b).wf = true) : ∃ k, laws_FnExactQuoteAdd.f k a0 a1 a2 a b = some true := by
  refine Ev.rounds (?_ : Ev (fun k => laws_FnExactQuoteAdd.f k a0 a1 a2 a b) true)
  unfold laws_FnExactQuoteAdd.f
  simp only [laws_toPool.f, Option.bind_some]
  have hboth : ∃ v, Ev (fun k => spec_QuoteAdd.f k a0 a1 a2 a b) v ∧ Ev (fun k => impl_QuoteAdd.f k a0 a1 a2 a b) v := by
    cases h : (inB a && inB b) with
    | false => exact ⟨_, (addOut h).1, (addOut h).2⟩
    | true =>
      simp only [Bool.and_eq_true, inB_iff] at h
      obtain ⟨R, h0, h1, h2, h3⟩ := root_of a b (by omega) (by omega) (by omega) (by omega)
      exact ⟨_, specQuoteAdd_ev R a0 a1 a2 a b h0 h1 h2 h3, implQuoteAdd_ev R a0 a1 a2 a b h0 h1 h2 h3⟩
  obtain ⟨v, e1, e2⟩ := hboth
  refine Ev.bind e1 (Ev.bind e2 ?_)
  simp only [if_true]
  exact Ev.now _
end Go.Proofs.Ytppgnndolgmcfaa.Pure

/- An argument of a law, whatever its type: read whole from what was handed over. -/
namespace Go.Proofs.Ytppgnndolgmcfaa.U
open Go Go.ChangeShapes Go.WideShapes Go.ChangeAt Go.RowKit Go.Proofs.YtppgnndolgmcfaaW.PrintWords
set_option linter.unusedVariables false
set_option linter.unusedSimpArgs false

theorem addr_add_add (a : Addr) (i j : Nat) : (a.add i).add j = a.add (i + j) := by
  unfold Addr.add
  by_cases h0 : i = 0
  · subst h0; simp
  by_cases h1 : j = 0
  · subst h1; simp
  rw [if_neg h0, if_neg h1, if_neg (by omega)]
  simp only [Nat.add_assoc]
/-- What is handed over as a t can be read as a d. -/
structure Opens {α : Type} (P : Program) (t : TypeId) (d : Kd α) (wf : α → Prop) : Prop where
  out : ∀ {H : Type} (enc : TypeId × Value → H) (w : World) (base : Nat) (sp : Nat → Bool) (held : Bool) (n : Nat) (cs : List Value) (x : DataW H × List MemPlace),
    DataW.trod enc P w base sp held n t cs = some x → ∃ a, d.K w a cs ∧ wf a
theorem Opens.int {P : Program} {t : TypeId} {k : IntKind} (ht : P.underlying t = some (.int k)) : Opens P t (Kd.int k) (fun n => (Lit.int k n).wf = true) := by
  constructor
  intro H enc w base sp held n cs x h
  obtain ⟨m, rfl, rfl, hw⟩ := DataW.trod_int ht h
  exact ⟨m, rfl, hw⟩
theorem Opens.bool {P : Program} {t : TypeId} (ht : P.underlying t = some .bool) : Opens P t Kd.bool (fun _ => True) := by
  constructor
  intro H enc w base sp held n cs x h
  obtain ⟨m, rfl, rfl⟩ := DataW.trod_bool ht h
  exact ⟨m, rfl, trivial⟩
theorem Opens.string {P : Program} {t : TypeId} (ht : P.underlying t = some .string) : Opens P t Kd.string (fun s => s.size ≤ maxLen) := by
  constructor
  intro H enc w base sp held n cs x h
  obtain ⟨m, rfl, rfl, hw⟩ := DataW.trod_string ht h
  exact ⟨m, rfl, hw⟩
theorem all_of_each {α : Type} : ∀ (n : Nat) (p : Nat → α → Prop), (∀ i, i < n → ∃ a, p i a) → ∃ xs : List α, xs.length = n ∧ ∀ i a, xs[i]? = some a → p i a
  | 0, _, _ => ⟨[], rfl, fun i a h => by simp at h⟩
  | n + 1, p, h => by
    obtain ⟨a, ha⟩ := h 0 (by omega)
    obtain ⟨xs, hl, hx⟩ := all_of_each n (fun i => p (i + 1)) (fun i hi => h (i + 1) (by omega))
    refine ⟨a :: xs, by simp [hl], fun i b hb => ?_⟩
    cases i with
    | zero => simp at hb; subst hb; exact ha
    | succ j => exact hx j b (by simpa using hb)
theorem Opens.slice {α : Type} {P : Program} {t e : TypeId} {d : Kd α} {wf : α → Prop} (ht : P.underlying t = some (.slice e)) (hs : P.cellsOf e = d.sz) (hd : Opens P e d wf) :
    Opens P t (Kd.slice e d) (fun xs => xs.length ≤ maxLen ∧ ∀ x ∈ xs, wf x) := by
  constructor
  intro H enc w base sp held n cs x h
  rcases DataW.trod_slice ht h with ⟨rfl, rfl⟩ | ⟨a, len, cap, elems, rest, m, rfl, rfl, rfl, hb, hl, hm, hlen, hel, _, _⟩
  · exact ⟨[], ⟨none, 0, rfl, by simp, rfl, by simp, by simp⟩, by simp, by simp⟩
  obtain ⟨xs, hxl, hx⟩ := all_of_each len (fun i y => wf y ∧ ∃ c, c.length = d.sz ∧ d.K w y c ∧ ∀ j u, c[j]? = some u → w.cell? (a.add (i * d.sz + j)) = some u) (fun i hi => by
    have h1 := hel i hi
    rw [List.getElem?_eq_getElem (by omega)] at h1
    obtain ⟨c, hc, hy⟩ := Option.bind_eq_some_iff.mp h1
    obtain ⟨_, hcl, hcell⟩ := World.cells?_some hc
    obtain ⟨y, hk, hw⟩ := hd.out _ _ _ _ _ _ _ _ hy
    refine ⟨y, hw, c, by omega, hk, fun j u hu => ?_⟩
    have hj : j < P.cellsOf e := by
      rcases Nat.lt_or_ge j c.length with h' | h'
      · omega
      · rw [List.getElem?_eq_none h'] at hu; cases hu
    have h2 := hcell j hj
    rw [hu] at h2
    rw [← hs, ← h2, addr_add_add])
  subst hxl
  refine ⟨xs, ⟨some a, cap, rfl, hl, rfl, by have : maxLen = 9223372036854775807 := rfl; omega, fun _ => ⟨a, rfl, fun j p hp => (hx j p hp).2⟩⟩, by omega, fun x hxm => ?_⟩
  obtain ⟨i, hi, rfl⟩ := List.getElem_of_mem hxm
  exact (hx i _ (List.getElem?_eq_getElem hi)).1
/-- The fields of a struct, from a cell on. -/
structure OpensF {α : Type} (P : Program) (fs : List Field) (off : Nat) (d : Kd α) (wf : α → Prop) : Prop where
  out : ∀ {H : Type} (enc : TypeId × Value → H) (w : World) (base : Nat) (sp : Nat → Bool) (held : Bool) (n : Nat) (cs : List Value),
    cs.length = off + d.sz → (∀ f ∈ fs, ∃ y, DataW.trod enc P w base sp held n f.type ((cs.drop f.offset).take (P.cellsOf f.type)) = some y) → ∃ a, d.K w a (cs.drop off) ∧ wf a
theorem OpensF.one {α : Type} {P : Program} {f : Field} {d : Kd α} {wf : α → Prop} (hd : Opens P f.type d wf) (hs : P.cellsOf f.type = d.sz) : OpensF P [f] f.offset d wf := by
  constructor
  intro H enc w base sp held n cs hl hf
  obtain ⟨y, hy⟩ := hf f (by simp)
  rw [List.take_of_length_le (by rw [List.length_drop]; omega)] at hy
  exact hd.out _ _ _ _ _ _ _ _ hy
theorem OpensF.cons {α β : Type} {P : Program} {f : Field} {fs : List Field} {d : Kd α} {d1 : Kd β} {wf : α → Prop} {wf1 : β → Prop} (hd : Opens P f.type d wf) (hs : P.cellsOf f.type = d.sz) (h1 : OpensF P fs (f.offset + d.sz) d1 wf1) :
    OpensF P (f :: fs) f.offset (Kd.pair d d1) (fun p => wf p.1 ∧ wf1 p.2) := by
  constructor
  intro H enc w base sp held n cs hl hf
  have hl' : cs.length = f.offset + (d.sz + d1.sz) := hl
  obtain ⟨y, hy⟩ := hf f (by simp)
  obtain ⟨a, ha, wa⟩ := hd.out _ _ _ _ _ _ _ _ hy
  obtain ⟨b, hb, wb⟩ := h1.out enc w base sp held n cs (by omega) (fun g hg => hf g (by simp [hg]))
  refine ⟨(a, b), ⟨_, _, ?_, ha, hb⟩, wa, wb⟩
  rw [hs, ← List.drop_drop, List.take_append_drop]
theorem Opens.struct {α : Type} {P : Program} {t : TypeId} {fs : Array Field} {d : Kd α} {wf : α → Prop} (ht : P.underlying t = some (.struct fs)) (hs : P.cellsOf t = d.sz) (hf : OpensF P fs.toList 0 d wf) : Opens P t d wf := by
  constructor
  intro H enc w base sp held n cs x h
  obtain ⟨xs, m, rfl, rfl, hl, hxl, hx⟩ := DataW.trod_struct ht h
  have := hf.out enc w base sp held m cs (by omega) (fun f hfm => by
    obtain ⟨i, hi, rfl⟩ := List.getElem_of_mem hfm
    have hi' : i < fs.size := by simpa using hi
    refine ⟨xs[i]'(by omega), ?_⟩
    rw [hx i _ (by simp [hi'])]
    rw [List.getElem?_eq_getElem])
  simpa using this
theorem Opens.iso {α β : Type} {P : Program} {t : TypeId} {d : Kd α} {wf : α → Prop} {f : β → α} (h : Opens P t d wf) (g : ∀ a, ∃ b, f b = a) : Opens P t (Kd.iso d f) (fun b => wf (f b)) := by
  constructor
  intro H enc w base sp held n cs x hx
  obtain ⟨a, ha, wa⟩ := h.out enc w base sp held n cs x hx
  obtain ⟨b, rfl⟩ := g a
  exact ⟨b, ha, wa⟩
end Go.Proofs.Ytppgnndolgmcfaa.U
