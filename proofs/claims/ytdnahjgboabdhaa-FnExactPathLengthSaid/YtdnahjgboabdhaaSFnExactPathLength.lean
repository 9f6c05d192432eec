-- made by pp.py (wip/tools) out of the translation; Lean checks it
import Derived.Test.YtdnahjgboabdhaaR5
import Derived.Test.YtdnahjgboabdhaaOpsR
namespace Go.Proofs.Ytdnahjgboabdhaa.R
open Go.RowKit Go.Proofs.YtdnahjgboabdhaaW.PrintWords
/-- The one pure statement of laws_FnExactPathLength. -/
def laws_FnExactPathLength.Pure : Prop := ∀ (x0 : S23) (l1 : List (S25)) (l2 : List Int), (R23 x0) → (l1.length ≤ maxLen ∧ ∀ y0 ∈ l1, R25 y0) → (l2.length ≤ maxLen ∧ ∀ y0 ∈ l2, (Lit.int .i64 y0).wf = true) → ∃ k, laws_FnExactPathLength.f k x0.f0 x0.f1 x0.f2 l1 l2 = some true
end Go.Proofs.Ytdnahjgboabdhaa.R
