-- made by pp.py (wip/tools) out of the translation; Lean checks it
import Derived.Test.YtojncbpeeboooaaX14
import Derived.Test.YtojncbpeeboooaaOpsX
namespace Go.Proofs.Ytojncbpeeboooaa.X
open Go.RowKit Go.Proofs.YtojncbpeeboooaaW.PrintWords
/-- The one pure statement of laws_FnSources. -/
def laws_FnSources.Pure : Prop := ∀ (l0 : List Int), (l0.length ≤ maxLen ∧ ∀ y0 ∈ l0, (Lit.int .u8 y0).wf = true) → ∃ k, laws_FnSources.f k l0 = some true
end Go.Proofs.Ytojncbpeeboooaa.X
