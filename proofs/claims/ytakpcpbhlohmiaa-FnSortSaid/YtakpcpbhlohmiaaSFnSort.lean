-- made by pp.py (wip/tools) out of the translation; Lean checks it
import Derived.Test.YtakpcpbhlohmiaaG4
import Derived.Test.YtakpcpbhlohmiaaOpsG
namespace Go.Proofs.Ytakpcpbhlohmiaa.G
open Go.RowKit Go.Proofs.YtakpcpbhlohmiaaW.PrintWords
/-- The one pure statement of laws_FnSort. -/
def laws_FnSort.Pure : Prop := ∀ (l0 : List Int), (l0.length ≤ maxLen ∧ ∀ y0 ∈ l0, (Lit.int .u8 y0).wf = true) → ∃ k, laws_FnSort.f k l0 = some true
end Go.Proofs.Ytakpcpbhlohmiaa.G
