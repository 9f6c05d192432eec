-- words of the kit's print.sh, those of them that this claim names (wip/tools/shake.py)
import Derived.Test.YtoibmbkmpadmnaaWWords
import Derived.Laws.StructEq
/-! ### 53. '==' of structs as_ one Bool -/
namespace Go.Proofs.YtoibmbkmpadmnaaW.PrintWords
open Go.RowKit
section
variable {P : Program} {d : Nat} {xs ys : Array Value} {f : Field} {fs : List Field} {a b : Value} {r s : Bool} {w : World}
end
end Go.Proofs.YtoibmbkmpadmnaaW.PrintWords
