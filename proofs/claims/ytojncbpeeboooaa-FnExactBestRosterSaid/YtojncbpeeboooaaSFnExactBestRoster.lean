-- made by pp.py (wip/tools) out of the translation; Lean checks it
import Derived.Test.YtojncbpeeboooaaU19
import Derived.Test.YtojncbpeeboooaaOpsU
namespace Go.Proofs.Ytojncbpeeboooaa.U
open Go.RowKit Go.Proofs.YtojncbpeeboooaaW.PrintWords
/-- The one pure statement of laws_FnExactBestRoster. -/
def laws_FnExactBestRoster.Pure : Prop := ∀ (l0 : List (S159)) (l1 : List (S161)), (l0.length ≤ maxLen ∧ ∀ y0 ∈ l0, R159 y0) → (l1.length ≤ maxLen ∧ ∀ y0 ∈ l1, R161 y0) → ∃ k, laws_FnExactBestRoster.f k l0 l1 = some true
end Go.Proofs.Ytojncbpeeboooaa.U
