-- made by pp.py (wip/tools) out of the translation; Lean checks it
import Derived.Test.YtdohpbhljifodaaD0
import Derived.Test.YtdohpbhljifodaaOpens
namespace Go.Proofs.Ytdohpbhljifodaa.D
open Go.RowKit Go.Proofs.YtdohpbhljifodaaW.PrintWords
set_option linter.unusedVariables false
end Go.Proofs.Ytdohpbhljifodaa.D
