-- made by pp.py (wip/tools) out of the translation; Lean checks it
import Derived.Test.YtdnahjgboabdhaaQ4
import Derived.Test.YtdnahjgboabdhaaOpsQ
namespace Go.Proofs.Ytdnahjgboabdhaa.Q
open Go.RowKit Go.Proofs.YtdnahjgboabdhaaW.PrintWords
/-- The one pure statement of laws_FnExactStopsOK. -/
def laws_FnExactStopsOK.Pure : Prop := ∀ (l0 : List (S96)), (l0.length ≤ maxLen ∧ ∀ y0 ∈ l0, R96 y0) → ∃ k, laws_FnExactStopsOK.f k l0 = some true
end Go.Proofs.Ytdnahjgboabdhaa.Q
