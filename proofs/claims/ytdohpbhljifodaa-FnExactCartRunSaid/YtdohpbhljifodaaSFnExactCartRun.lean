-- made by pp.py (wip/tools) out of the translation; Lean checks it
import Derived.Test.YtdohpbhljifodaaC9
import Derived.Test.YtdohpbhljifodaaOpsC
namespace Go.Proofs.Ytdohpbhljifodaa.C
open Go.RowKit Go.Proofs.YtdohpbhljifodaaW.PrintWords
/-- The one pure statement of laws_FnExactCartRun. -/
def laws_FnExactCartRun.Pure : Prop := ∀ (a0 : Int) (l1 : List (S60)), ((Lit.int .i64 a0).wf = true) → (l1.length ≤ maxLen ∧ ∀ y0 ∈ l1, R60 y0) → ∃ k, laws_FnExactCartRun.f k a0 l1 = some true
end Go.Proofs.Ytdohpbhljifodaa.C
