import Derived.Test.YtggemblkhckbpaaGreatDoorVInv
import Derived.Test.YtggemblkhckbpaaGreatDoorVFootNe
namespace Go.Proofs.YtggemblkhckbpaaGreatDoorW.PrintWords
open Go.RowKit
end Go.Proofs.YtggemblkhckbpaaGreatDoorW.PrintWords
namespace Go.Proofs.YtggemblkhckbpaaGreatDoorW.PrintLast
section
variable {ops:Array Oper} {a:Act} {o og:Oper} {g:Nat} {t:Tmp} {u:Bool}
end
end Go.Proofs.YtggemblkhckbpaaGreatDoorW.PrintLast
