-- words of the kit's print.sh, those of them that this claim names (wip/tools/shake.py)
import Derived.Test.YtjibigpdbpipcaaWInv
import Derived.Test.YtjibigpdbpipcaaWFootNe
namespace Go.Proofs.YtjibigpdbpipcaaW.PrintWords
open Go.RowKit
end Go.Proofs.YtjibigpdbpipcaaW.PrintWords
namespace Go.Proofs.YtjibigpdbpipcaaW.PrintLast
section
variable {ops : Array Oper} {a : Act} {o og : Oper} {g : Nat} {t : Tmp} {u : Bool}
end
end Go.Proofs.YtjibigpdbpipcaaW.PrintLast
