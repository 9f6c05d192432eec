-- made by pp.py (wip/tools) out of the translation; Lean checks it
import Derived.Test.YtakpcpbhlohmiaaG0
import Derived.Test.YtakpcpbhlohmiaaOpens
namespace Go.Proofs.Ytakpcpbhlohmiaa.G
open Go.RowKit Go.Proofs.YtakpcpbhlohmiaaW.PrintWords
set_option linter.unusedVariables false
end Go.Proofs.Ytakpcpbhlohmiaa.G
