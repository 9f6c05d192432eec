-- made by pp.py (wip/tools) out of the translation; Lean checks it
import Derived.Test.YtdnahjgboabdhaaH0
import Derived.Test.YtdnahjgboabdhaaOpens
namespace Go.Proofs.Ytdnahjgboabdhaa.H
open Go.RowKit Go.Proofs.YtdnahjgboabdhaaW.PrintWords
set_option linter.unusedVariables false
end Go.Proofs.Ytdnahjgboabdhaa.H
