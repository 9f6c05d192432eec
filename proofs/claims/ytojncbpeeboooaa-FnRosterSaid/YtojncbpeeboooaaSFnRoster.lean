-- made by pp.py (wip/tools) out of the translation; Lean checks it
import Derived.Test.YtojncbpeeboooaaY15
import Derived.Test.YtojncbpeeboooaaOpsY
namespace Go.Proofs.Ytojncbpeeboooaa.Y
open Go.RowKit Go.Proofs.YtojncbpeeboooaaW.PrintWords
/-- The one pure statement of laws_FnRoster. -/
def laws_FnRoster.Pure : Prop := ∀ (l0 : List Int), (l0.length ≤ maxLen ∧ ∀ y0 ∈ l0, (Lit.int .u8 y0).wf = true) → ∃ k, laws_FnRoster.f k l0 = some true
end Go.Proofs.Ytojncbpeeboooaa.Y
