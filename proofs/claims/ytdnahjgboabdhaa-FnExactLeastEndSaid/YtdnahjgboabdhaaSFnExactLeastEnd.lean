-- made by pp.py (wip/tools) out of the translation; Lean checks it
import Derived.Test.YtdnahjgboabdhaaQ5
import Derived.Test.YtdnahjgboabdhaaOpsQ
namespace Go.Proofs.Ytdnahjgboabdhaa.Q
open Go.RowKit Go.Proofs.YtdnahjgboabdhaaW.PrintWords
/-- The one pure statement of laws_FnExactLeastEnd. -/
def laws_FnExactLeastEnd.Pure : Prop := ∀ (l0 : List (S96)) (a1 : Int), (l0.length ≤ maxLen ∧ ∀ y0 ∈ l0, R96 y0) → ((Lit.int .i64 a1).wf = true) → ∃ k, laws_FnExactLeastEnd.f k l0 a1 = some true
end Go.Proofs.Ytdnahjgboabdhaa.Q
