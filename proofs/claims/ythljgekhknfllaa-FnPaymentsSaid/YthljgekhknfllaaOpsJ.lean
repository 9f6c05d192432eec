-- made by pp.py (wip/tools) out of the translation; Lean checks it
import Derived.Test.YthljgekhknfllaaJ0
import Derived.Test.YthljgekhknfllaaOpens
namespace Go.Proofs.Ythljgekhknfllaa.J
open Go.RowKit Go.Proofs.YthljgekhknfllaaW.PrintWords
set_option linter.unusedVariables false
end Go.Proofs.Ythljgekhknfllaa.J
