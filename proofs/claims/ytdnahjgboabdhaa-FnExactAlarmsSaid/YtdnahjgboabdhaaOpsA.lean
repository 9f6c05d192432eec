-- made by pp.py (wip/tools) out of the translation; Lean checks it
import Derived.Test.YtdnahjgboabdhaaA0
import Derived.Test.YtdnahjgboabdhaaOpens
namespace Go.Proofs.Ytdnahjgboabdhaa.A
open Go.RowKit Go.Proofs.YtdnahjgboabdhaaW.PrintWords
set_option linter.unusedVariables false
end Go.Proofs.Ytdnahjgboabdhaa.A
