-- made by pp.py (wip/tools) out of the translation; Lean checks it
import Derived.Test.YtdgaaoeicijemaaG4
import Derived.Test.YtdgaaoeicijemaaOpsG
namespace Go.Proofs.Ytdgaaoeicijemaa.G
open Go.RowKit Go.Proofs.YtdgaaoeicijemaaW.PrintWords
/-- The one pure statement of laws_FnWatch. -/
def laws_FnWatch.Pure : Prop := ∀ (r1 : List Nat) (r2 r3 : Nat) (r4 : Int), TrOK r1 r2 r3 r4 → ∃ k, laws_FnWatch.g k r1 r2 r3 r4 = some true
end Go.Proofs.Ytdgaaoeicijemaa.G
