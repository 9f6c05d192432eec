-- words of the kit's print.sh, those of them that this claim names (wip/tools/shake.py)
import Derived.Test.YtdohpbhljifodaaWInv
import Derived.Test.YtdohpbhljifodaaWFootNe
namespace Go.Proofs.YtdohpbhljifodaaW.PrintWords
open Go.RowKit
end Go.Proofs.YtdohpbhljifodaaW.PrintWords
namespace Go.Proofs.YtdohpbhljifodaaW.PrintLast
section
variable {ops : Array Oper} {a : Act} {o og : Oper} {g : Nat} {t : Tmp} {u : Bool}
end
end Go.Proofs.YtdohpbhljifodaaW.PrintLast
