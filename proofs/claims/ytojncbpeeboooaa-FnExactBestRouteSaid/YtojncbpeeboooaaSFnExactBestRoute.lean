-- made by pp.py (wip/tools) out of the translation; Lean checks it
import Derived.Test.YtojncbpeeboooaaT7
import Derived.Test.YtojncbpeeboooaaOpsT
namespace Go.Proofs.Ytojncbpeeboooaa.T
open Go.RowKit Go.Proofs.YtojncbpeeboooaaW.PrintWords
/-- The one pure statement of laws_FnExactBestRoute. -/
def laws_FnExactBestRoute.Pure : Prop := ∀ (l0 : List (S116)) (a1 : Int), (l0.length ≤ maxLen ∧ ∀ y0 ∈ l0, R116 y0) → ((Lit.int .i64 a1).wf = true) → ∃ k, laws_FnExactBestRoute.f k l0 a1 = some true
end Go.Proofs.Ytojncbpeeboooaa.T
