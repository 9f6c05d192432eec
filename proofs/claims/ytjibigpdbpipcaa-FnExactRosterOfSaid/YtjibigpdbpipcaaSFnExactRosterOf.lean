-- made by pp.py (wip/tools) out of the translation; Lean checks it
import Derived.Test.YtjibigpdbpipcaaR15
import Derived.Test.YtjibigpdbpipcaaOpsR
namespace Go.Proofs.Ytjibigpdbpipcaa.R
open Go.RowKit Go.Proofs.YtjibigpdbpipcaaW.PrintWords
/-- The one pure statement of laws_FnExactRosterOf. -/
def laws_FnExactRosterOf.Pure : Prop := ∀ (l0 : List (S90)) (l1 : List (S94)) (l2 : List Int), (l0.length ≤ maxLen ∧ ∀ y0 ∈ l0, R90 y0) → (l1.length ≤ maxLen ∧ ∀ y0 ∈ l1, R94 y0) → (l2.length ≤ maxLen ∧ ∀ y0 ∈ l2, (Lit.int .i64 y0).wf = true) → ∃ k, laws_FnExactRosterOf.f k l0 l1 l2 = some true
end Go.Proofs.Ytjibigpdbpipcaa.R
