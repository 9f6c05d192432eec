-- made by pp.py (wip/tools) out of the translation; Lean checks it
import Derived.Test.YtoibmbkmpadmnaaG17
import Derived.Test.YtoibmbkmpadmnaaOpsG
namespace Go.Proofs.Ytoibmbkmpadmnaa.G
open Go.RowKit Go.Proofs.YtoibmbkmpadmnaaW.PrintWords
/-- The one pure statement of laws_FnExactLedgerOf. -/
def laws_FnExactLedgerOf.Pure : Prop := ∀ (l0 : List (S59)), (l0.length ≤ maxLen ∧ ∀ y0 ∈ l0, R59 y0) → ∃ k, laws_FnExactLedgerOf.f k l0 = some true
end Go.Proofs.Ytoibmbkmpadmnaa.G
