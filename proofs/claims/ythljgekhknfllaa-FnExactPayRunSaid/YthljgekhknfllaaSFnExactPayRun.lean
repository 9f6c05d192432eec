-- made by pp.py (wip/tools) out of the translation; Lean checks it
import Derived.Test.YthljgekhknfllaaY11
import Derived.Test.YthljgekhknfllaaOpsY
namespace Go.Proofs.Ythljgekhknfllaa.Y
open Go.RowKit Go.Proofs.YthljgekhknfllaaW.PrintWords
/-- The one pure statement of laws_FnExactPayRun. -/
def laws_FnExactPayRun.Pure : Prop := ∀ (l0 : List (S55)), (l0.length ≤ maxLen ∧ ∀ y0 ∈ l0, R55 y0) → ∃ k, laws_FnExactPayRun.f k l0 = some true
end Go.Proofs.Ythljgekhknfllaa.Y
