import Derived.Test.YtggemblkhckbpaaDoorVInv
import Derived.Test.YtggemblkhckbpaaDoorVFootNe
namespace Go.Proofs.YtggemblkhckbpaaDoorW.PrintWords
open Go.RowKit
end Go.Proofs.YtggemblkhckbpaaDoorW.PrintWords
namespace Go.Proofs.YtggemblkhckbpaaDoorW.PrintLast
section
variable {ops : Array Oper} {a : Act} {o og : Oper} {g : Nat} {t : Tmp} {u : Bool}
end
end Go.Proofs.YtggemblkhckbpaaDoorW.PrintLast
