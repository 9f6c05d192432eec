-- made by pp.py (wip/tools) out of the translation; Lean checks it
import Derived.Test.YtnkceaibkfbeaaaE20
import Derived.Test.YtnkceaibkfbeaaaOpsE
namespace Go.Proofs.Ytnkceaibkfbeaaa.E
open Go.RowKit Go.Proofs.YtnkceaibkfbeaaaW.PrintWords
/-- The one pure statement of laws_FnExactStockRun. -/
def laws_FnExactStockRun.Pure : Prop := ∀ (l0 : List (S57)), (l0.length ≤ maxLen ∧ ∀ y0 ∈ l0, R57 y0) → ∃ k, laws_FnExactStockRun.f k l0 = some true
end Go.Proofs.Ytnkceaibkfbeaaa.E
