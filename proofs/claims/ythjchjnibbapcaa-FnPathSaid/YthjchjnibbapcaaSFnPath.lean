-- made by pp.py (wip/tools) out of the translation; Lean checks it
import Derived.Test.YthjchjnibbapcaaJ8
import Derived.Test.YthjchjnibbapcaaOpsJ
namespace Go.Proofs.Ythjchjnibbapcaa.J
open Go.RowKit Go.Proofs.YthjchjnibbapcaaW.PrintWords
/-- The one pure statement of laws_FnPath. -/
def laws_FnPath.Pure : Prop := ∀ (l0 : List Int), (l0.length ≤ maxLen ∧ ∀ y0 ∈ l0, (Lit.int .u8 y0).wf = true) → ∃ k, laws_FnPath.f k l0 = some true
end Go.Proofs.Ythjchjnibbapcaa.J
