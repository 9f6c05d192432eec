-- made by pp.py (wip/tools) out of the translation; Lean checks it
import Derived.Test.YtdnahjgboabdhaaH4
import Derived.Test.YtdnahjgboabdhaaOpsH
namespace Go.Proofs.Ytdnahjgboabdhaa.H
open Go.RowKit Go.Proofs.YtdnahjgboabdhaaW.PrintWords
/-- The one pure statement of laws_FnExactWatchOf. -/
def laws_FnExactWatchOf.Pure : Prop := ∀ (l0 : List Nat), (l0.length ≤ maxLen ∧ ∀ y0 ∈ l0, (Lit.float .f64 y0).wf = true) → ∃ k, laws_FnExactWatchOf.f k l0 = some true
end Go.Proofs.Ytdnahjgboabdhaa.H
