-- made by pp.py (wip/tools) out of the translation; Lean checks it
import Derived.Test.YtoibmbkmpadmnaaV9
import Derived.Test.YtoibmbkmpadmnaaOpsV
namespace Go.Proofs.Ytoibmbkmpadmnaa.V
open Go.RowKit Go.Proofs.YtoibmbkmpadmnaaW.PrintWords
/-- The one pure statement of laws_FnLedger. -/
def laws_FnLedger.Pure : Prop := ∀ (l0 : List Int), (l0.length ≤ maxLen ∧ ∀ y0 ∈ l0, (Lit.int .u8 y0).wf = true) → ∃ k, laws_FnLedger.f k l0 = some true
end Go.Proofs.Ytoibmbkmpadmnaa.V
