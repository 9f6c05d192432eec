-- made by pp.py (wip/tools) out of the translation; Lean checks it
import Derived.Test.YtakpcpbhlohmiaaK7
import Derived.Test.YtakpcpbhlohmiaaOpsK
namespace Go.Proofs.Ytakpcpbhlohmiaa.K
open Go.RowKit Go.Proofs.YtakpcpbhlohmiaaW.PrintWords
/-- The one pure statement of laws_FnExactSortRun. -/
def laws_FnExactSortRun.Pure : Prop := ∀ (l0 : List (S59)) (l1 : List Int), (l0.length ≤ maxLen ∧ ∀ y0 ∈ l0, R59 y0) → (l1.length ≤ maxLen ∧ ∀ y0 ∈ l1, (Lit.int .i64 y0).wf = true) → ∃ k, laws_FnExactSortRun.f k l0 l1 = some true
end Go.Proofs.Ytakpcpbhlohmiaa.K
