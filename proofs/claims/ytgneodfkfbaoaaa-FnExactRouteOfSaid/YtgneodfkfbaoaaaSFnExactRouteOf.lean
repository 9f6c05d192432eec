-- made by pp.py (wip/tools) out of the translation; Lean checks it
import Derived.Test.YtgneodfkfbaoaaaU7
import Derived.Test.YtgneodfkfbaoaaaOpsU
namespace Go.Proofs.Ytgneodfkfbaoaaa.U
open Go.RowKit Go.Proofs.YtgneodfkfbaoaaaW.PrintWords
/-- The one pure statement of laws_FnExactRouteOf. -/
def laws_FnExactRouteOf.Pure : Prop := ∀ (l0 : List (S150)) (a1 : Int) (l2 : List Int), (l0.length ≤ maxLen ∧ ∀ y0 ∈ l0, R150 y0) → ((Lit.int .i64 a1).wf = true) → (l2.length ≤ maxLen ∧ ∀ y0 ∈ l2, (Lit.int .i64 y0).wf = true) → ∃ k, laws_FnExactRouteOf.f k l0 a1 l2 = some true
end Go.Proofs.Ytgneodfkfbaoaaa.U
