-- made by pp.py (wip/tools) out of the translation; Lean checks it
import Derived.Test.YtdnahjgboabdhaaQ2
import Derived.Test.YtdnahjgboabdhaaOpsQ
namespace Go.Proofs.Ytdnahjgboabdhaa.Q
open Go.RowKit Go.Proofs.YtdnahjgboabdhaaW.PrintWords
/-- The one pure statement of laws_FnExactBetween. -/
def laws_FnExactBetween.Pure : Prop := ∀ (x0 : S23) (x1 : S25) (x2 : S25), (R23 x0) → (R25 x1) → (R25 x2) → laws_FnExactBetween.f x0.f0 x0.f1 x0.f2 x1.f0 x1.f1 x2.f0 x2.f1 = some true
end Go.Proofs.Ytdnahjgboabdhaa.Q
