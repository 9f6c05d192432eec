-- words of the kit's print.sh, those of them that this claim names (wip/tools/shake.py)
import Derived.Test.YtgneodfkfbaoaaaWInv
import Derived.Test.YtgneodfkfbaoaaaWFootNe
namespace Go.Proofs.YtgneodfkfbaoaaaW.PrintWords
open Go.RowKit
end Go.Proofs.YtgneodfkfbaoaaaW.PrintWords
namespace Go.Proofs.YtgneodfkfbaoaaaW.PrintLast
section
variable {ops : Array Oper} {a : Act} {o og : Oper} {g : Nat} {t : Tmp} {u : Bool}
end
end Go.Proofs.YtgneodfkfbaoaaaW.PrintLast
