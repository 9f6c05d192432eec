-- made by pp.py (wip/tools) out of the translation; Lean checks it
import Derived.Test.YtdnahjgboabdhaaM2
import Derived.Test.YtdnahjgboabdhaaOpsM
namespace Go.Proofs.Ytdnahjgboabdhaa.M
open Go.RowKit Go.Proofs.YtdnahjgboabdhaaW.PrintWords
/-- The one pure statement of laws_FnExactWarmMinutes. -/
def laws_FnExactWarmMinutes.Pure : Prop := ∀ (l0 : List Nat) (a1 : Nat) (a2 : Nat), (l0.length ≤ maxLen ∧ ∀ y0 ∈ l0, (Lit.float .f64 y0).wf = true) → ((Lit.float .f64 a1).wf = true) → ((Lit.float .f32 a2).wf = true) → ∃ k, laws_FnExactWarmMinutes.f k l0 a1 a2 = some true
end Go.Proofs.Ytdnahjgboabdhaa.M
