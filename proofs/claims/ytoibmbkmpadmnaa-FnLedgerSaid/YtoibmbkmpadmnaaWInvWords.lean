-- words of the kit's print.sh, those of them that this claim names (wip/tools/shake.py)
import Derived.Test.YtoibmbkmpadmnaaWInv
import Derived.Test.YtoibmbkmpadmnaaWFootNe
namespace Go.Proofs.YtoibmbkmpadmnaaW.PrintWords
open Go.RowKit
end Go.Proofs.YtoibmbkmpadmnaaW.PrintWords
namespace Go.Proofs.YtoibmbkmpadmnaaW.PrintLast
section
variable {ops : Array Oper} {a : Act} {o og : Oper} {g : Nat} {t : Tmp} {u : Bool}
end
end Go.Proofs.YtoibmbkmpadmnaaW.PrintLast
