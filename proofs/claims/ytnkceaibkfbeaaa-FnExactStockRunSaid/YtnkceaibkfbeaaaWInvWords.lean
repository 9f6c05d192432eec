-- words of the kit's print.sh, those of them that this claim names (wip/tools/shake.py)
import Derived.Test.YtnkceaibkfbeaaaWInv
import Derived.Test.YtnkceaibkfbeaaaWFootNe
namespace Go.Proofs.YtnkceaibkfbeaaaW.PrintWords
open Go.RowKit
end Go.Proofs.YtnkceaibkfbeaaaW.PrintWords
namespace Go.Proofs.YtnkceaibkfbeaaaW.PrintLast
section
variable {ops : Array Oper} {a : Act} {o og : Oper} {g : Nat} {t : Tmp} {u : Bool}
end
end Go.Proofs.YtnkceaibkfbeaaaW.PrintLast
