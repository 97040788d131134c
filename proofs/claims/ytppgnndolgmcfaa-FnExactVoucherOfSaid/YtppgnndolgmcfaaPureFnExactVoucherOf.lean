/- VoucherOf of the program returns what the reference's returns: for every text. -/
import Derived.Test.YtppgnndolgmcfaaQx9
import Derived.Test.YtppgnndolgmcfaaQx12
import Derived.Test.YtppgnndolgmcfaaQx13
import Derived.Test.YtppgnndolgmcfaaQx14
import Derived.Test.YtppgnndolgmcfaaQx15
import Derived.Test.YtppgnndolgmcfaaQx16
import Derived.Test.YtppgnndolgmcfaaUArith
namespace Go.Proofs.Ytppgnndolgmcfaa.Pure
open Go Go.RowKit Go.Proofs.Ytppgnndolgmcfaa.Q Go.Proofs.YtppgnndolgmcfaaW.PrintWords Go.Proofs.YtppgnndolgmcfaaW.PrintLast Go.Proofs.YtppgnndolgmcfaaW.PrintMore
set_option linter.unusedVariables false
set_option linter.unusedSimpArgs false

theorem FnExactVoucherOf : laws_FnExactVoucherOf.Pure := by
  intro s hs
  unfold laws_FnExactVoucherOf.f
  by_cases h : (s.size : Int) > 1048576
  · rw [if_pos h]
  rw [if_neg h]
  unfold spec_VoucherOf.f impl_VoucherOf.f impl_isText.f impl_isChain.f impl_voucherOf.f
  simp only [List.any_cons, List.any_nil, Bool.or_false, Option.bind_some]
  by_cases h1 : (s.size : Int) > 65536
  · simp [h1]
  simp only [if_neg h1, decide_eq_false h1, Bool.not_false, if_true]
  have h3 : 1 + s.size ≤ 9223372036854775807 := by omega
  by_cases h2 : s.toList = ([120] : List UInt8)
  · simp [h2, h3]
  · simp only [if_neg h2]
    by_cases h4 : s.toList = ([121] : List UInt8)
    · simp [h4, h3]
    · simp [h4]
end Go.Proofs.Ytppgnndolgmcfaa.Pure
