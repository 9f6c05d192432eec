-- made by pp.py (wip/tools) out of the translation; Lean checks it
import Derived.Test.YtdgaaoeicijemaaK0
import Derived.Test.YtdgaaoeicijemaaOpens
namespace Go.Proofs.Ytdgaaoeicijemaa.K
open Go.RowKit Go.Proofs.YtdgaaoeicijemaaW.PrintWords
set_option linter.unusedVariables false
end Go.Proofs.Ytdgaaoeicijemaa.K
