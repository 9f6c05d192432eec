-- made by pp.py (wip/tools) out of the translation; Lean checks it
import Derived.Test.YthjchjnibbapcaaK7
import Derived.Test.YthjchjnibbapcaaOpsK
namespace Go.Proofs.Ythjchjnibbapcaa.K
open Go.RowKit Go.Proofs.YthjchjnibbapcaaW.PrintWords
/-- The one pure statement of laws_FnExactBestPath. -/
def laws_FnExactBestPath.Pure : Prop := ∀ (x0 : S23) (l1 : List (S55)), (R23 x0) → (l1.length ≤ maxLen ∧ ∀ y0 ∈ l1, R55 y0) → ∃ k, laws_FnExactBestPath.f k x0.f0 x0.f1 x0.f2 l1 = some true
end Go.Proofs.Ythjchjnibbapcaa.K
