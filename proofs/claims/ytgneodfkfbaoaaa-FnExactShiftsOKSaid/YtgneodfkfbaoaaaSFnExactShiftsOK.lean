-- made by pp.py (wip/tools) out of the translation; Lean checks it
import Derived.Test.YtgneodfkfbaoaaaT10
import Derived.Test.YtgneodfkfbaoaaaOpsT
namespace Go.Proofs.Ytgneodfkfbaoaaa.T
open Go.RowKit Go.Proofs.YtgneodfkfbaoaaaW.PrintWords
/-- The one pure statement of laws_FnExactShiftsOK. -/
def laws_FnExactShiftsOK.Pure : Prop := ∀ (l0 : List (S154)) (l1 : List (S156)), (l0.length ≤ maxLen ∧ ∀ y0 ∈ l0, R154 y0) → (l1.length ≤ maxLen ∧ ∀ y0 ∈ l1, R156 y0) → ∃ k, laws_FnExactShiftsOK.f k l0 l1 = some true
end Go.Proofs.Ytgneodfkfbaoaaa.T
