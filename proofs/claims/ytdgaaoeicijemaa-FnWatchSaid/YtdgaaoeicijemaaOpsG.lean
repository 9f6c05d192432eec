-- made by pp.py (wip/tools) out of the translation; Lean checks it
import Derived.Test.YtdgaaoeicijemaaG0
import Derived.Test.YtdgaaoeicijemaaOpens
namespace Go.Proofs.Ytdgaaoeicijemaa.G
open Go.RowKit Go.Proofs.YtdgaaoeicijemaaW.PrintWords
set_option linter.unusedVariables false
end Go.Proofs.Ytdgaaoeicijemaa.G
