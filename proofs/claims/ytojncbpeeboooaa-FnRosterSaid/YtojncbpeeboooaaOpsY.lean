-- made by pp.py (wip/tools) out of the translation; Lean checks it
import Derived.Test.YtojncbpeeboooaaY0
import Derived.Test.YtojncbpeeboooaaOpens
namespace Go.Proofs.Ytojncbpeeboooaa.Y
open Go.RowKit Go.Proofs.YtojncbpeeboooaaW.PrintWords
set_option linter.unusedVariables false
end Go.Proofs.Ytojncbpeeboooaa.Y
