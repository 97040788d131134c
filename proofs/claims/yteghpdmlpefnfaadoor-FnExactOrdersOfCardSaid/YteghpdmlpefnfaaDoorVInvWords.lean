import Derived.Test.YteghpdmlpefnfaaDoorVInv
import Derived.Test.YteghpdmlpefnfaaDoorVFootNe
namespace Go.Proofs.YteghpdmlpefnfaaDoorW.PrintWords
open Go.RowKit
end Go.Proofs.YteghpdmlpefnfaaDoorW.PrintWords
namespace Go.Proofs.YteghpdmlpefnfaaDoorW.PrintLast
section
variable {ops : Array Oper} {a : Act} {o og : Oper} {g : Nat} {t : Tmp} {u : Bool}
end
end Go.Proofs.YteghpdmlpefnfaaDoorW.PrintLast
