-- made by pp.py (wip/tools) out of the translation; Lean checks it
import Derived.Test.YtojncbpeeboooaaV16
import Derived.Test.YtojncbpeeboooaaOpsV
namespace Go.Proofs.Ytojncbpeeboooaa.V
open Go.RowKit Go.Proofs.YtojncbpeeboooaaW.PrintWords
/-- The one pure statement of laws_FnExactBestSource. -/
def laws_FnExactBestSource.Pure : Prop := ∀ (l0 : List (S151)) (l1 : List (S153)), (l0.length ≤ maxLen ∧ ∀ y0 ∈ l0, R151 y0) → (l1.length ≤ maxLen ∧ ∀ y0 ∈ l1, R153 y0) → ∃ k, laws_FnExactBestSource.f k l0 l1 = some true
end Go.Proofs.Ytojncbpeeboooaa.V
