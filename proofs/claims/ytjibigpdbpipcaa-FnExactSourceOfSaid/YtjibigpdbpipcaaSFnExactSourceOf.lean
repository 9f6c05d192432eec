-- made by pp.py (wip/tools) out of the translation; Lean checks it
import Derived.Test.YtjibigpdbpipcaaL14
import Derived.Test.YtjibigpdbpipcaaOpsL
namespace Go.Proofs.Ytjibigpdbpipcaa.L
open Go.RowKit Go.Proofs.YtjibigpdbpipcaaW.PrintWords
/-- The one pure statement of laws_FnExactSourceOf. -/
def laws_FnExactSourceOf.Pure : Prop := ∀ (l0 : List (S66)) (l1 : List (S69)) (l2 : List Int), (l0.length ≤ maxLen ∧ ∀ y0 ∈ l0, R66 y0) → (l1.length ≤ maxLen ∧ ∀ y0 ∈ l1, R69 y0) → (l2.length ≤ maxLen ∧ ∀ y0 ∈ l2, (Lit.int .i64 y0).wf = true) → ∃ k, laws_FnExactSourceOf.f k l0 l1 l2 = some true
end Go.Proofs.Ytjibigpdbpipcaa.L
