-- made by pp.py (wip/tools) out of the translation; Lean checks it
import Derived.Test.YtdnahjgboabdhaaA5
import Derived.Test.YtdnahjgboabdhaaOpsA
namespace Go.Proofs.Ytdnahjgboabdhaa.A
open Go.RowKit Go.Proofs.YtdnahjgboabdhaaW.PrintWords
/-- The one pure statement of laws_FnExactAlarms. -/
def laws_FnExactAlarms.Pure : Prop := ∀ (l0 : List Nat) (a1 : Nat) (a2 : Nat) (a3 : Int), (l0.length ≤ maxLen ∧ ∀ y0 ∈ l0, (Lit.float .f64 y0).wf = true) → ((Lit.float .f64 a1).wf = true) → ((Lit.float .f64 a2).wf = true) → ((Lit.int .i64 a3).wf = true) → ∃ k, laws_FnExactAlarms.f k l0 a1 a2 a3 = some true
end Go.Proofs.Ytdnahjgboabdhaa.A
