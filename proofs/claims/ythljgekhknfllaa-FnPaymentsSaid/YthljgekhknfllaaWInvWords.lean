-- words of the kit's print.sh, those of them that this claim names (wip/tools/shake.py)
import Derived.Test.YthljgekhknfllaaWInv
import Derived.Test.YthljgekhknfllaaWFootNe
namespace Go.Proofs.YthljgekhknfllaaW.PrintWords
open Go.RowKit
end Go.Proofs.YthljgekhknfllaaW.PrintWords
namespace Go.Proofs.YthljgekhknfllaaW.PrintLast
section
variable {ops : Array Oper} {a : Act} {o og : Oper} {g : Nat} {t : Tmp} {u : Bool}
end
end Go.Proofs.YthljgekhknfllaaW.PrintLast
