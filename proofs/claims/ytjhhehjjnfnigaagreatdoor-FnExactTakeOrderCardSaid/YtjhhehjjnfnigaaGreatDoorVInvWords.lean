import Derived.Test.YtjhhehjjnfnigaaGreatDoorVInv
import Derived.Test.YtjhhehjjnfnigaaGreatDoorVFootNe
namespace Go.Proofs.YtjhhehjjnfnigaaGreatDoorW.PrintWords
open Go.RowKit
end Go.Proofs.YtjhhehjjnfnigaaGreatDoorW.PrintWords
namespace Go.Proofs.YtjhhehjjnfnigaaGreatDoorW.PrintLast
section
variable {ops:Array Oper} {a:Act} {o og:Oper} {g:Nat} {t:Tmp} {u:Bool}
end
end Go.Proofs.YtjhhehjjnfnigaaGreatDoorW.PrintLast
