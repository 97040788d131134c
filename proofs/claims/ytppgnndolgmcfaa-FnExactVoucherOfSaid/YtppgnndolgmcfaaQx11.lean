-- written by wip/xprint.py, a program of this claim's author, over the kit's print
import Derived.Test.YtppgnndolgmcfaaQx0
import Derived.Test.YtppgnndolgmcfaaQx10
namespace Go.Proofs.Ytppgnndolgmcfaa.Q
open Go.RowKit Go.Proofs.YtppgnndolgmcfaaW.PrintWords Go.Proofs.YtppgnndolgmcfaaW.PrintLast Go.Proofs.YtppgnndolgmcfaaW.PrintMore
attribute [local go_sem] max2_int min2_int max_two min_two max_three min_three max_four min_four   -- for this text's walks alone
set_option linter.unusedVariables false
set_option linter.unusedSimpArgs false


/-! ### slices_ContainsFunc_string_string: function 52 -/
theorem slices_ContainsFunc_string_string.at_ (g : Nat) (eg : ∀ args w, (callFunc g args).run Try.prog w = .ok (.enter g args) w) (p : ByteArray → Bool)
    (hp : ∀ x W, Calls Try.prog g #[.string x] W fun e W' => e = .returned (.bool (p x)) ∧ Drawn0 W W')
    (A0 : Option Addr) (c0 : Nat) (l0 : List ByteArray) (w : World) (hr0 : Kd.C Kd.string w A0 l0.length l0) :
    Calls Try.prog 52 #[.slice A0 l0.length c0, .func (.func g) #[] #[]] w fun e w' => e = .returned (.bool (l0.any p)) ∧ Drawn0 w w' := by
  go_enter Try.func52, Try.ntmps52
  go_wp2_with (go_at_call 68; refine (slices_IndexFunc_string_string.at_ g eg p hp A0 c0 l0 _ hr0).mono ?_; rintro e w' ⟨⟨r, rfl, hr⟩, ⟨q', rfl⟩⟩)
  go_ret
  exact ⟨by rw [← hr.out]; first | rfl | (simp; done), by repeat (first | exact Drawn0.refl _ | apply Drawn0.step)⟩

end Go.Proofs.Ytppgnndolgmcfaa.Q
