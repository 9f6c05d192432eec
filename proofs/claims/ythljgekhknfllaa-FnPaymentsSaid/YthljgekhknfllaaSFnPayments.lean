-- made by pp.py (wip/tools) out of the translation; Lean checks it
import Derived.Test.YthljgekhknfllaaJ10
import Derived.Test.YthljgekhknfllaaOpsJ
namespace Go.Proofs.Ythljgekhknfllaa.J
open Go.RowKit Go.Proofs.YthljgekhknfllaaW.PrintWords
/-- The one pure statement of laws_FnPayments. -/
def laws_FnPayments.Pure : Prop := ∀ (l0 : List Int), (l0.length ≤ maxLen ∧ ∀ y0 ∈ l0, (Lit.int .u8 y0).wf = true) → ∃ k, laws_FnPayments.f k l0 = some true
end Go.Proofs.Ythljgekhknfllaa.J
