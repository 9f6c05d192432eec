-- made by pp.py (wip/tools) out of the translation; Lean checks it
import Derived.Test.YtdnahjgboabdhaaP6
import Derived.Test.YtdnahjgboabdhaaOpsP
namespace Go.Proofs.Ytdnahjgboabdhaa.P
open Go.RowKit Go.Proofs.YtdnahjgboabdhaaW.PrintWords
/-- The one pure statement of laws_FnExactPowerOf. -/
def laws_FnExactPowerOf.Pure : Prop := ∀ (l0 : List (S104)) (l1 : List (S104)), (l0.length ≤ maxLen ∧ ∀ y0 ∈ l0, R104 y0) → (l1.length ≤ maxLen ∧ ∀ y0 ∈ l1, R104 y0) → ∃ k, laws_FnExactPowerOf.f k l0 l1 = some true
end Go.Proofs.Ytdnahjgboabdhaa.P
