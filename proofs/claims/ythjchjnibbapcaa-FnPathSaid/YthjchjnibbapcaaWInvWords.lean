-- words of the kit's print.sh, those of them that this claim names (wip/tools/shake.py)
import Derived.Test.YthjchjnibbapcaaWInv
import Derived.Test.YthjchjnibbapcaaWFootNe
namespace Go.Proofs.YthjchjnibbapcaaW.PrintWords
open Go.RowKit
end Go.Proofs.YthjchjnibbapcaaW.PrintWords
namespace Go.Proofs.YthjchjnibbapcaaW.PrintLast
section
variable {ops : Array Oper} {a : Act} {o og : Oper} {g : Nat} {t : Tmp} {u : Bool}
end
end Go.Proofs.YthjchjnibbapcaaW.PrintLast
