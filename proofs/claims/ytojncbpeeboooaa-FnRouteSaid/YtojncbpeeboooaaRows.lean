/-
  No cell of these rows narrows 'for every input' (looked for: loops, veiled, ifaces, maps, wideKeys, modest, calm, conditions, laid).
  DERIVED. THE GIVEN ROWS OF THIS SEAT. 6 by the template 'for every input the law returns true; each argument reads behind the call as it read before'; 0 by the template 'total and deterministic' (their statements: YtojncbpeeboooaaTotals.lean).
  GIVEN WITH THE SEED: the statements are not yours to turn. If you find one false, say at which input.
  Laid BY PROGRAM, IN A SANDBOX (cutbox-rows.mjs): the forced cells as the released guide's own fill.sh prints them over the translation ce702eebf4404832… (all of the seat's roots in one cut). By AI agents, Wed Nov 11 2026. No macro, syntax, notation, axiom, sorry.
-/
import Derived.Test.YtojncbpeeboooaaChecked
import GoSem.Claim
import GoSem.ClaimJoined
import GoSem.ClaimMapViews
import Derived.JoinedTies
import Derived.KernelRfl
namespace Go.Proofs.Ytojncbpeeboooaa
/- THE CELL 'sum', in the pinned program and in every row, IS THE sha256 OF THE DUMP (.gsa) THAT YtojncbpeeboooaaProg.lean LOADS. Nothing in Lean hashes anything: it is a label: what it is worth is what the hold of that sum in a sandbox is worth. -/
noncomputable def Try.pinned : Pinned := { name := "ytojncbpeeboooaa", sum := "ce702eebf4404832150e32b923e367473f0e33ba879191eb966eb7f829413101", checked := Try.checked }
namespace Rows
def none {H : Type} : Left H := { results := [], args := [] }

/-- 'laws.FnRoute': WHATEVER THE INPUT: true; the input reads as it did. -/
def fnRouteSpec : ChangeSpec := { name := "fnRoute", fn := fun _ => fun
  | [d] => { results := [.lit (.bool true)], args := [d] }
  | _ => none }
def fnRouteRow : OpenClaim := { program := "ytojncbpeeboooaa", sum := "ce702eebf4404832150e32b923e367473f0e33ba879191eb966eb7f829413101", func := "loop.example/g00067/laws.FnRoute", spec := "fnRoute", unfollowed := true, recurses := true, apart := false }
def FnRouteSaid : Prop := fnRouteRow.holds Try.pinned (OpenSpec.ofChange fnRouteSpec)

/-- ITS FALSE NEIGHBOUR: 'it returns false'. Refute it at one input. -/
def fnRouteWrong : ChangeSpec := { name := "fnRoute", fn := fun _ => fun
  | [d] => { results := [.lit (.bool false)], args := [d] }
  | _ => none }
def FnRouteWrongFalsely : Prop := fnRouteRow.holds Try.pinned (OpenSpec.ofChange fnRouteWrong)

/-- 'laws.FnExactBestRoute': WHATEVER THE INPUT: true; the input reads as it did. -/
def fnExactBestRouteSpec : ChangeSpec := { name := "fnExactBestRoute", fn := fun _ => fun
  | [d1, d2] => { results := [.lit (.bool true)], args := [d1, d2] }
  | _ => none }
def fnExactBestRouteRow : OpenClaim := { program := "ytojncbpeeboooaa", sum := "ce702eebf4404832150e32b923e367473f0e33ba879191eb966eb7f829413101", func := "loop.example/g00067/laws.FnExactBestRoute", spec := "fnExactBestRoute", unfollowed := true, recurses := true, apart := false }
def FnExactBestRouteSaid : Prop := fnExactBestRouteRow.holds Try.pinned (OpenSpec.ofChange fnExactBestRouteSpec)

/-- ITS FALSE NEIGHBOUR: 'it returns false'. Refute it at one input. -/
def fnExactBestRouteWrong : ChangeSpec := { name := "fnExactBestRoute", fn := fun _ => fun
  | [d1, d2] => { results := [.lit (.bool false)], args := [d1, d2] }
  | _ => none }
def FnExactBestRouteWrongFalsely : Prop := fnExactBestRouteRow.holds Try.pinned (OpenSpec.ofChange fnExactBestRouteWrong)

/-- 'laws.FnSources': WHATEVER THE INPUT: true; the input reads as it did. -/
def fnSourcesSpec : ChangeSpec := { name := "fnSources", fn := fun _ => fun
  | [d] => { results := [.lit (.bool true)], args := [d] }
  | _ => none }
def fnSourcesRow : OpenClaim := { program := "ytojncbpeeboooaa", sum := "ce702eebf4404832150e32b923e367473f0e33ba879191eb966eb7f829413101", func := "loop.example/g00067/laws.FnSources", spec := "fnSources", unfollowed := true, recurses := true, apart := false }
def FnSourcesSaid : Prop := fnSourcesRow.holds Try.pinned (OpenSpec.ofChange fnSourcesSpec)

/-- ITS FALSE NEIGHBOUR: 'it returns false'. Refute it at one input. -/
def fnSourcesWrong : ChangeSpec := { name := "fnSources", fn := fun _ => fun
  | [d] => { results := [.lit (.bool false)], args := [d] }
  | _ => none }
def FnSourcesWrongFalsely : Prop := fnSourcesRow.holds Try.pinned (OpenSpec.ofChange fnSourcesWrong)

/-- 'laws.FnRoster': WHATEVER THE INPUT: true; the input reads as it did. -/
def fnRosterSpec : ChangeSpec := { name := "fnRoster", fn := fun _ => fun
  | [d] => { results := [.lit (.bool true)], args := [d] }
  | _ => none }
def fnRosterRow : OpenClaim := { program := "ytojncbpeeboooaa", sum := "ce702eebf4404832150e32b923e367473f0e33ba879191eb966eb7f829413101", func := "loop.example/g00067/laws.FnRoster", spec := "fnRoster", unfollowed := true, recurses := true, apart := false }
def FnRosterSaid : Prop := fnRosterRow.holds Try.pinned (OpenSpec.ofChange fnRosterSpec)

/-- ITS FALSE NEIGHBOUR: 'it returns false'. Refute it at one input. -/
def fnRosterWrong : ChangeSpec := { name := "fnRoster", fn := fun _ => fun
  | [d] => { results := [.lit (.bool false)], args := [d] }
  | _ => none }
def FnRosterWrongFalsely : Prop := fnRosterRow.holds Try.pinned (OpenSpec.ofChange fnRosterWrong)

/-- 'laws.FnExactBestSource': WHATEVER THE INPUT: true; the input reads as it did. -/
def fnExactBestSourceSpec : ChangeSpec := { name := "fnExactBestSource", fn := fun _ => fun
  | [d1, d2] => { results := [.lit (.bool true)], args := [d1, d2] }
  | _ => none }
def fnExactBestSourceRow : OpenClaim := { program := "ytojncbpeeboooaa", sum := "ce702eebf4404832150e32b923e367473f0e33ba879191eb966eb7f829413101", func := "loop.example/g00067/laws.FnExactBestSource", spec := "fnExactBestSource", unfollowed := true, recurses := true, apart := false }
def FnExactBestSourceSaid : Prop := fnExactBestSourceRow.holds Try.pinned (OpenSpec.ofChange fnExactBestSourceSpec)

/-- ITS FALSE NEIGHBOUR: 'it returns false'. Refute it at one input. -/
def fnExactBestSourceWrong : ChangeSpec := { name := "fnExactBestSource", fn := fun _ => fun
  | [d1, d2] => { results := [.lit (.bool false)], args := [d1, d2] }
  | _ => none }
def FnExactBestSourceWrongFalsely : Prop := fnExactBestSourceRow.holds Try.pinned (OpenSpec.ofChange fnExactBestSourceWrong)

/-- 'laws.FnExactBestRoster': WHATEVER THE INPUT: true; the input reads as it did. -/
def fnExactBestRosterSpec : ChangeSpec := { name := "fnExactBestRoster", fn := fun _ => fun
  | [d1, d2] => { results := [.lit (.bool true)], args := [d1, d2] }
  | _ => none }
def fnExactBestRosterRow : OpenClaim := { program := "ytojncbpeeboooaa", sum := "ce702eebf4404832150e32b923e367473f0e33ba879191eb966eb7f829413101", func := "loop.example/g00067/laws.FnExactBestRoster", spec := "fnExactBestRoster", unfollowed := true, recurses := true, apart := false }
def FnExactBestRosterSaid : Prop := fnExactBestRosterRow.holds Try.pinned (OpenSpec.ofChange fnExactBestRosterSpec)

/-- ITS FALSE NEIGHBOUR: 'it returns false'. Refute it at one input. -/
def fnExactBestRosterWrong : ChangeSpec := { name := "fnExactBestRoster", fn := fun _ => fun
  | [d1, d2] => { results := [.lit (.bool false)], args := [d1, d2] }
  | _ => none }
def FnExactBestRosterWrongFalsely : Prop := fnExactBestRosterRow.holds Try.pinned (OpenSpec.ofChange fnExactBestRosterWrong)

/- THE SECOND FORM. 'bulk': how many values and letters a reading holds, each counted each time it is reached (what is shared counts as often as it is met; a slice's spare places count too). A statement '..UptoSaid' is the law's where the arguments, and the package variables that the reading takes, are together of bulk at most 1048576: NARROWER than '..Said'. Prove '..Said' where nothing that the law and all that it calls make is longer than what came in: it says more and counts as full. Else prove '..UptoSaid'. A law counts once. -/
mutual
def uptoBulk {H : Type} : DataW H → Nat
  | .lit (.string bytes) => bytes.length + 1
  | .lit _ => 1
  | .nil => 1
  | .ptr d => uptoBulk d + 1
  | .slice elems spare => uptoBulkAll elems + uptoBulkAll spare + 1
  | .agg parts => uptoBulkAll parts + 1
  | .iface _ d => uptoBulk d + 1
  | .map entries => uptoBulkEntries entries + 1
  | .held _ => 1
def uptoBulkAll {H : Type} : List (DataW H) → Nat
  | [] => 0
  | d :: r => uptoBulk d + uptoBulkAll r
def uptoBulkEntries {H : Type} : List (Lit × DataW H) → Nat
  | [] => 0
  | x :: r => uptoBulkEntry x + uptoBulkEntries r
def uptoBulkEntry {H : Type} : Lit × DataW H → Nat
  | (.string bytes, d) => bytes.length + uptoBulk d + 1
  | (_, d) => uptoBulk d + 1
 end
def uptoSmall : (H : Type) → List (DataW H) → Bool := fun _ ds => decide (uptoBulkAll ds ≤ 1048576)
def OpenSpec.upto (s : _root_.Go.ChangeSpec) : _root_.Go.OpenSpec := { _root_.Go.OpenSpec.ofChange s with cond := some uptoSmall }

/-- 'laws.FnRoute', WHERE WHAT IT READS IS OF BULK AT MOST 1048576: true; the input reads as it did. -/
def fnRouteUptoRow : OpenClaim := { program := "ytojncbpeeboooaa", sum := "ce702eebf4404832150e32b923e367473f0e33ba879191eb966eb7f829413101", func := "loop.example/g00067/laws.FnRoute", spec := "fnRoute", unfollowed := true, recurses := true, apart := false, narrowed := true }
def FnRouteUptoSaid : Prop := fnRouteUptoRow.holds Try.pinned (OpenSpec.upto fnRouteSpec)

/-- 'laws.FnExactBestRoute', WHERE WHAT IT READS IS OF BULK AT MOST 1048576: true; the input reads as it did. -/
def fnExactBestRouteUptoRow : OpenClaim := { program := "ytojncbpeeboooaa", sum := "ce702eebf4404832150e32b923e367473f0e33ba879191eb966eb7f829413101", func := "loop.example/g00067/laws.FnExactBestRoute", spec := "fnExactBestRoute", unfollowed := true, recurses := true, apart := false, narrowed := true }
def FnExactBestRouteUptoSaid : Prop := fnExactBestRouteUptoRow.holds Try.pinned (OpenSpec.upto fnExactBestRouteSpec)

/-- 'laws.FnSources', WHERE WHAT IT READS IS OF BULK AT MOST 1048576: true; the input reads as it did. -/
def fnSourcesUptoRow : OpenClaim := { program := "ytojncbpeeboooaa", sum := "ce702eebf4404832150e32b923e367473f0e33ba879191eb966eb7f829413101", func := "loop.example/g00067/laws.FnSources", spec := "fnSources", unfollowed := true, recurses := true, apart := false, narrowed := true }
def FnSourcesUptoSaid : Prop := fnSourcesUptoRow.holds Try.pinned (OpenSpec.upto fnSourcesSpec)

/-- 'laws.FnRoster', WHERE WHAT IT READS IS OF BULK AT MOST 1048576: true; the input reads as it did. -/
def fnRosterUptoRow : OpenClaim := { program := "ytojncbpeeboooaa", sum := "ce702eebf4404832150e32b923e367473f0e33ba879191eb966eb7f829413101", func := "loop.example/g00067/laws.FnRoster", spec := "fnRoster", unfollowed := true, recurses := true, apart := false, narrowed := true }
def FnRosterUptoSaid : Prop := fnRosterUptoRow.holds Try.pinned (OpenSpec.upto fnRosterSpec)

/-- 'laws.FnExactBestSource', WHERE WHAT IT READS IS OF BULK AT MOST 1048576: true; the input reads as it did. -/
def fnExactBestSourceUptoRow : OpenClaim := { program := "ytojncbpeeboooaa", sum := "ce702eebf4404832150e32b923e367473f0e33ba879191eb966eb7f829413101", func := "loop.example/g00067/laws.FnExactBestSource", spec := "fnExactBestSource", unfollowed := true, recurses := true, apart := false, narrowed := true }
def FnExactBestSourceUptoSaid : Prop := fnExactBestSourceUptoRow.holds Try.pinned (OpenSpec.upto fnExactBestSourceSpec)

/-- 'laws.FnExactBestRoster', WHERE WHAT IT READS IS OF BULK AT MOST 1048576: true; the input reads as it did. -/
def fnExactBestRosterUptoRow : OpenClaim := { program := "ytojncbpeeboooaa", sum := "ce702eebf4404832150e32b923e367473f0e33ba879191eb966eb7f829413101", func := "loop.example/g00067/laws.FnExactBestRoster", spec := "fnExactBestRoster", unfollowed := true, recurses := true, apart := false, narrowed := true }
def FnExactBestRosterUptoSaid : Prop := fnExactBestRosterUptoRow.holds Try.pinned (OpenSpec.upto fnExactBestRosterSpec)

end Rows
end Go.Proofs.Ytojncbpeeboooaa
