import Derived.Test.YtabmfhnhmoiljaaGreatDoorVInv
import Derived.Test.YtabmfhnhmoiljaaGreatDoorVFootNe
namespace Go.Proofs.YtabmfhnhmoiljaaGreatDoorW.PrintWords
open Go.RowKit
end Go.Proofs.YtabmfhnhmoiljaaGreatDoorW.PrintWords
namespace Go.Proofs.YtabmfhnhmoiljaaGreatDoorW.PrintLast
section
variable {ops:Array Oper} {a:Act} {o og:Oper} {g:Nat} {t:Tmp} {u:Bool}
end
end Go.Proofs.YtabmfhnhmoiljaaGreatDoorW.PrintLast
