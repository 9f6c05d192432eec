-- made by pp.py (wip/tools) out of the translation; Lean checks it
import Derived.Test.YtdgaaoeicijemaaK4
import Derived.Test.YtdgaaoeicijemaaOpsK
namespace Go.Proofs.Ytdgaaoeicijemaa.K
open Go.RowKit Go.Proofs.YtdgaaoeicijemaaW.PrintWords
/-- The one pure statement of laws_FnAlarms. -/
def laws_FnAlarms.Pure : Prop := ∀ (r1 : List Nat) (r2 r3 : Nat) (r4 : Int), TrOK r1 r2 r3 r4 → ∃ k, laws_FnAlarms.g k r1 r2 r3 r4 = some true
end Go.Proofs.Ytdgaaoeicijemaa.K
