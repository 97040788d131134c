import Derived.Test.YtggemblkhckbpaaVInv
import Derived.Test.YtggemblkhckbpaaVFootNe
namespace Go.Proofs.YtggemblkhckbpaaW.PrintWords
open Go.RowKit
end Go.Proofs.YtggemblkhckbpaaW.PrintWords
namespace Go.Proofs.YtggemblkhckbpaaW.PrintLast
section
variable {ops:Array Oper} {a:Act} {o og:Oper} {g:Nat} {t:Tmp} {u:Bool}
end
end Go.Proofs.YtggemblkhckbpaaW.PrintLast
