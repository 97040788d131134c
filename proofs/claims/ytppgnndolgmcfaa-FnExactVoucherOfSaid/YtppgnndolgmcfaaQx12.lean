-- written by wip/xprint.py, a program of this claim's author, over the kit's print
import Derived.Test.YtppgnndolgmcfaaQx0
import Derived.Test.YtppgnndolgmcfaaQx11
namespace Go.Proofs.Ytppgnndolgmcfaa.Q
open Go.RowKit Go.Proofs.YtppgnndolgmcfaaW.PrintWords Go.Proofs.YtppgnndolgmcfaaW.PrintLast Go.Proofs.YtppgnndolgmcfaaW.PrintMore
attribute [local go_sem] max2_int min2_int max_two min_two max_three min_three max_four min_four   -- for this text's walks alone
set_option linter.unusedVariables false
set_option linter.unusedSimpArgs false


/-! ### impl_isText: function 35 -/
def impl_isText.f (l0 : List ByteArray) : Option Bool := some (!(l0.any fun t => decide ((t.size : Int) > 65536)))
theorem impl_isText.lit (a0 : ByteArray) (w : World) :
    Calls Try.prog 53 #[.string a0] w fun e w' => e = .returned (.bool (decide ((a0.size : Int) > 65536))) ∧ Drawn0 w w' := by
  go_enter Try.func53, Try.ntmps53
  go_wp2
  go_ret
  exact ⟨by first | rfl | (simp; done), by repeat (first | exact Drawn0.refl _ | apply Drawn0.step)⟩
theorem impl_isText.calls (A0 : Option Addr) (c0 : Nat) (l0 : List ByteArray) (r : Bool) (w : World) (hr0 : Kd.C Kd.string w A0 l0.length l0) (hc0 : l0.length ≤ c0) (h : impl_isText.f l0 = some r) :
    Calls Try.prog 35 #[.slice A0 l0.length c0] w fun e w' => e = .returned (.bool r) ∧ Drawn0 w w' := by
  obtain rfl := Option.some.inj h
  go_enter Try.func35, Try.ntmps35
  go_wp2_with (go_at_call 52; refine (slices_ContainsFunc_string_string.at_ 53 (enters_of Try.func53 (by kernel_rfl) rfl) _ impl_isText.lit A0 c0 l0 _ hr0).mono ?_; rintro e w' ⟨rfl, ⟨q', rfl⟩⟩)
  go_ret
  exact ⟨rfl, by repeat (first | exact Drawn0.refl _ | apply Drawn0.step)⟩

end Go.Proofs.Ytppgnndolgmcfaa.Q
