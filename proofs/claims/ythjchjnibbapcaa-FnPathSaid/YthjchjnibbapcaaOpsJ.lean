-- made by pp.py (wip/tools) out of the translation; Lean checks it
import Derived.Test.YthjchjnibbapcaaJ0
import Derived.Test.YthjchjnibbapcaaOpens
namespace Go.Proofs.Ythjchjnibbapcaa.J
open Go.RowKit Go.Proofs.YthjchjnibbapcaaW.PrintWords
set_option linter.unusedVariables false
end Go.Proofs.Ythjchjnibbapcaa.J
