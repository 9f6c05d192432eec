-- words of the kit's print.sh, those of them that this claim names (wip/tools/shake.py)
import Derived.Test.YtojncbpeeboooaaWInv
import Derived.Test.YtojncbpeeboooaaWFootNe
namespace Go.Proofs.YtojncbpeeboooaaW.PrintWords
open Go.RowKit
end Go.Proofs.YtojncbpeeboooaaW.PrintWords
namespace Go.Proofs.YtojncbpeeboooaaW.PrintLast
section
variable {ops : Array Oper} {a : Act} {o og : Oper} {g : Nat} {t : Tmp} {u : Bool}
end
end Go.Proofs.YtojncbpeeboooaaW.PrintLast
