-- made by pp.py (wip/tools) out of the translation; Lean checks it
import Derived.Test.YtnkceaibkfbeaaaF0
import Derived.Test.YtnkceaibkfbeaaaOpens
namespace Go.Proofs.Ytnkceaibkfbeaaa.F
open Go.RowKit Go.Proofs.YtnkceaibkfbeaaaW.PrintWords
set_option linter.unusedVariables false
end Go.Proofs.Ytnkceaibkfbeaaa.F
