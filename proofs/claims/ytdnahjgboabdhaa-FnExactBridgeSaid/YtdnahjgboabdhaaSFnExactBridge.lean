-- made by pp.py (wip/tools) out of the translation; Lean checks it
import Derived.Test.YtdnahjgboabdhaaB3
import Derived.Test.YtdnahjgboabdhaaOpsB
namespace Go.Proofs.Ytdnahjgboabdhaa.B
open Go.RowKit Go.Proofs.YtdnahjgboabdhaaW.PrintWords
/-- The one pure statement of laws_FnExactBridge. -/
def laws_FnExactBridge.Pure : Prop := ∀ (l0 : List (S104)), (l0.length ≤ maxLen ∧ ∀ y0 ∈ l0, R104 y0) → ∃ k, laws_FnExactBridge.f k l0 = some true
end Go.Proofs.Ytdnahjgboabdhaa.B
