-- made by pp.py (wip/tools) out of the translation; Lean checks it
import Derived.Test.YtdgaaoeicijemaaO8
import Derived.Test.YtdgaaoeicijemaaOpsO
namespace Go.Proofs.Ytdgaaoeicijemaa.O
open Go.RowKit Go.Proofs.YtdgaaoeicijemaaW.PrintWords
/-- The one pure statement of laws_FnExactSourcesOK. -/
def laws_FnExactSourcesOK.Pure : Prop := ∀ (l0 : List (S211)) (l1 : List (S214)), (l0.length ≤ maxLen ∧ ∀ y0 ∈ l0, R211 y0) → (l1.length ≤ maxLen ∧ ∀ y0 ∈ l1, R214 y0) → ∃ k, laws_FnExactSourcesOK.f k l0 l1 = some true
end Go.Proofs.Ytdgaaoeicijemaa.O
