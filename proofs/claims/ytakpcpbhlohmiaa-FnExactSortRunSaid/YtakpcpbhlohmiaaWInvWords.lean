-- words of the kit's print.sh, those of them that this claim names (wip/tools/shake.py)
import Derived.Test.YtakpcpbhlohmiaaWInv
import Derived.Test.YtakpcpbhlohmiaaWFootNe
namespace Go.Proofs.YtakpcpbhlohmiaaW.PrintWords
open Go.RowKit
end Go.Proofs.YtakpcpbhlohmiaaW.PrintWords
namespace Go.Proofs.YtakpcpbhlohmiaaW.PrintLast
section
variable {ops : Array Oper} {a : Act} {o og : Oper} {g : Nat} {t : Tmp} {u : Bool}
end
end Go.Proofs.YtakpcpbhlohmiaaW.PrintLast
