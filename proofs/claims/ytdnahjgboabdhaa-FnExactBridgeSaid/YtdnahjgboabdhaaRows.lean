/-
  No cell of these rows narrows 'for every input' (looked for: loops, veiled, ifaces, maps, wideKeys, modest, calm, conditions, laid).
  DERIVED. THE GIVEN ROWS OF THIS SEAT. 9 by the template 'for every input the law returns true; each argument reads behind the call as it read before'; 0 by the template 'total and deterministic' (their statements: YtdnahjgboabdhaaTotals.lean).
  GIVEN WITH THE SEED: the statements are not yours to turn. If you find one false, say at which input.
  Laid BY PROGRAM, IN A SANDBOX (cutbox-rows.mjs): the forced cells as the released guide's own fill.sh prints them over the translation a10ced3bac97a62f… (all of the seat's roots in one cut). By AI agents, Wed Nov 11 2026. No macro, syntax, notation, axiom, sorry.
-/
import Derived.Test.YtdnahjgboabdhaaChecked
import GoSem.Claim
import GoSem.ClaimJoined
import GoSem.ClaimMapViews
import Derived.JoinedTies
import Derived.KernelRfl
namespace Go.Proofs.Ytdnahjgboabdhaa
/- THE CELL 'sum', in the pinned program and in every row, IS THE sha256 OF THE DUMP (.gsa) THAT YtdnahjgboabdhaaProg.lean LOADS. Nothing in Lean hashes anything: it is a label: what it is worth is what the hold of that sum in a sandbox is worth. -/
noncomputable def Try.pinned : Pinned := { name := "ytdnahjgboabdhaa", sum := "a10ced3bac97a62f2afdbf17cf02656fe354c6890f770d93d561c2d9913686a0", checked := Try.checked }
namespace Rows
def none {H : Type} : Left H := { results := [], args := [] }

/-- 'laws.FnExactBetween': WHATEVER THE INPUT: true; the input reads as it did. -/
def fnExactBetweenSpec : ChangeSpec := { name := "fnExactBetween", fn := fun _ => fun
  | [d1, d2, d3] => { results := [.lit (.bool true)], args := [d1, d2, d3] }
  | _ => none }
def fnExactBetweenRow : OpenClaim := { program := "ytdnahjgboabdhaa", sum := "a10ced3bac97a62f2afdbf17cf02656fe354c6890f770d93d561c2d9913686a0", func := "loop.example/g00067/laws.FnExactBetween", spec := "fnExactBetween", apart := false }
def FnExactBetweenSaid : Prop := fnExactBetweenRow.holds Try.pinned (OpenSpec.ofChange fnExactBetweenSpec)

/-- ITS FALSE NEIGHBOUR: 'it returns false'. Refute it at one input. -/
def fnExactBetweenWrong : ChangeSpec := { name := "fnExactBetween", fn := fun _ => fun
  | [d1, d2, d3] => { results := [.lit (.bool false)], args := [d1, d2, d3] }
  | _ => none }
def FnExactBetweenWrongFalsely : Prop := fnExactBetweenRow.holds Try.pinned (OpenSpec.ofChange fnExactBetweenWrong)

/-- 'laws.FnExactStopsOK': WHATEVER THE INPUT: true; the input reads as it did. -/
def fnExactStopsOKSpec : ChangeSpec := { name := "fnExactStopsOK", fn := fun _ => fun
  | [d] => { results := [.lit (.bool true)], args := [d] }
  | _ => none }
def fnExactStopsOKRow : OpenClaim := { program := "ytdnahjgboabdhaa", sum := "a10ced3bac97a62f2afdbf17cf02656fe354c6890f770d93d561c2d9913686a0", func := "loop.example/g00067/laws.FnExactStopsOK", spec := "fnExactStopsOK", unfollowed := true, recurses := true, apart := false }
def FnExactStopsOKSaid : Prop := fnExactStopsOKRow.holds Try.pinned (OpenSpec.ofChange fnExactStopsOKSpec)

/-- ITS FALSE NEIGHBOUR: 'it returns false'. Refute it at one input. -/
def fnExactStopsOKWrong : ChangeSpec := { name := "fnExactStopsOK", fn := fun _ => fun
  | [d] => { results := [.lit (.bool false)], args := [d] }
  | _ => none }
def FnExactStopsOKWrongFalsely : Prop := fnExactStopsOKRow.holds Try.pinned (OpenSpec.ofChange fnExactStopsOKWrong)

/-- 'laws.FnExactWarmMinutes': WHATEVER THE INPUT: true; the input reads as it did. -/
def fnExactWarmMinutesSpec : ChangeSpec := { name := "fnExactWarmMinutes", fn := fun _ => fun
  | [d1, d2, d3] => { results := [.lit (.bool true)], args := [d1, d2, d3] }
  | _ => none }
def fnExactWarmMinutesRow : OpenClaim := { program := "ytdnahjgboabdhaa", sum := "a10ced3bac97a62f2afdbf17cf02656fe354c6890f770d93d561c2d9913686a0", func := "loop.example/g00067/laws.FnExactWarmMinutes", spec := "fnExactWarmMinutes", unfollowed := true, recurses := true, apart := false }
def FnExactWarmMinutesSaid : Prop := fnExactWarmMinutesRow.holds Try.pinned (OpenSpec.ofChange fnExactWarmMinutesSpec)

/-- ITS FALSE NEIGHBOUR: 'it returns false'. Refute it at one input. -/
def fnExactWarmMinutesWrong : ChangeSpec := { name := "fnExactWarmMinutes", fn := fun _ => fun
  | [d1, d2, d3] => { results := [.lit (.bool false)], args := [d1, d2, d3] }
  | _ => none }
def FnExactWarmMinutesWrongFalsely : Prop := fnExactWarmMinutesRow.holds Try.pinned (OpenSpec.ofChange fnExactWarmMinutesWrong)

/-- 'laws.FnExactBridge': WHATEVER THE INPUT: true; the input reads as it did. -/
def fnExactBridgeSpec : ChangeSpec := { name := "fnExactBridge", fn := fun _ => fun
  | [d] => { results := [.lit (.bool true)], args := [d] }
  | _ => none }
def fnExactBridgeRow : OpenClaim := { program := "ytdnahjgboabdhaa", sum := "a10ced3bac97a62f2afdbf17cf02656fe354c6890f770d93d561c2d9913686a0", func := "loop.example/g00067/laws.FnExactBridge", spec := "fnExactBridge", unfollowed := true, recurses := true, apart := false }
def FnExactBridgeSaid : Prop := fnExactBridgeRow.holds Try.pinned (OpenSpec.ofChange fnExactBridgeSpec)

/-- ITS FALSE NEIGHBOUR: 'it returns false'. Refute it at one input. -/
def fnExactBridgeWrong : ChangeSpec := { name := "fnExactBridge", fn := fun _ => fun
  | [d] => { results := [.lit (.bool false)], args := [d] }
  | _ => none }
def FnExactBridgeWrongFalsely : Prop := fnExactBridgeRow.holds Try.pinned (OpenSpec.ofChange fnExactBridgeWrong)

/-- 'laws.FnExactPowerOf': WHATEVER THE INPUT: true; the input reads as it did. -/
def fnExactPowerOfSpec : ChangeSpec := { name := "fnExactPowerOf", fn := fun _ => fun
  | [d1, d2] => { results := [.lit (.bool true)], args := [d1, d2] }
  | _ => none }
def fnExactPowerOfRow : OpenClaim := { program := "ytdnahjgboabdhaa", sum := "a10ced3bac97a62f2afdbf17cf02656fe354c6890f770d93d561c2d9913686a0", func := "loop.example/g00067/laws.FnExactPowerOf", spec := "fnExactPowerOf", unfollowed := true, recurses := true, apart := false }
def FnExactPowerOfSaid : Prop := fnExactPowerOfRow.holds Try.pinned (OpenSpec.ofChange fnExactPowerOfSpec)

/-- ITS FALSE NEIGHBOUR: 'it returns false'. Refute it at one input. -/
def fnExactPowerOfWrong : ChangeSpec := { name := "fnExactPowerOf", fn := fun _ => fun
  | [d1, d2] => { results := [.lit (.bool false)], args := [d1, d2] }
  | _ => none }
def FnExactPowerOfWrongFalsely : Prop := fnExactPowerOfRow.holds Try.pinned (OpenSpec.ofChange fnExactPowerOfWrong)

/-- 'laws.FnExactWatchOf': WHATEVER THE INPUT: true; the input reads as it did. -/
def fnExactWatchOfSpec : ChangeSpec := { name := "fnExactWatchOf", fn := fun _ => fun
  | [d] => { results := [.lit (.bool true)], args := [d] }
  | _ => none }
def fnExactWatchOfRow : OpenClaim := { program := "ytdnahjgboabdhaa", sum := "a10ced3bac97a62f2afdbf17cf02656fe354c6890f770d93d561c2d9913686a0", func := "loop.example/g00067/laws.FnExactWatchOf", spec := "fnExactWatchOf", unfollowed := true, recurses := true, apart := false }
def FnExactWatchOfSaid : Prop := fnExactWatchOfRow.holds Try.pinned (OpenSpec.ofChange fnExactWatchOfSpec)

/-- ITS FALSE NEIGHBOUR: 'it returns false'. Refute it at one input. -/
def fnExactWatchOfWrong : ChangeSpec := { name := "fnExactWatchOf", fn := fun _ => fun
  | [d] => { results := [.lit (.bool false)], args := [d] }
  | _ => none }
def FnExactWatchOfWrongFalsely : Prop := fnExactWatchOfRow.holds Try.pinned (OpenSpec.ofChange fnExactWatchOfWrong)

/-- 'laws.FnExactLeastEnd': WHATEVER THE INPUT: true; the input reads as it did. -/
def fnExactLeastEndSpec : ChangeSpec := { name := "fnExactLeastEnd", fn := fun _ => fun
  | [d1, d2] => { results := [.lit (.bool true)], args := [d1, d2] }
  | _ => none }
def fnExactLeastEndRow : OpenClaim := { program := "ytdnahjgboabdhaa", sum := "a10ced3bac97a62f2afdbf17cf02656fe354c6890f770d93d561c2d9913686a0", func := "loop.example/g00067/laws.FnExactLeastEnd", spec := "fnExactLeastEnd", unfollowed := true, recurses := true, apart := false }
def FnExactLeastEndSaid : Prop := fnExactLeastEndRow.holds Try.pinned (OpenSpec.ofChange fnExactLeastEndSpec)

/-- ITS FALSE NEIGHBOUR: 'it returns false'. Refute it at one input. -/
def fnExactLeastEndWrong : ChangeSpec := { name := "fnExactLeastEnd", fn := fun _ => fun
  | [d1, d2] => { results := [.lit (.bool false)], args := [d1, d2] }
  | _ => none }
def FnExactLeastEndWrongFalsely : Prop := fnExactLeastEndRow.holds Try.pinned (OpenSpec.ofChange fnExactLeastEndWrong)

/-- 'laws.FnExactAlarms': WHATEVER THE INPUT: true; the input reads as it did. -/
def fnExactAlarmsSpec : ChangeSpec := { name := "fnExactAlarms", fn := fun _ => fun
  | [d1, d2, d3, d4] => { results := [.lit (.bool true)], args := [d1, d2, d3, d4] }
  | _ => none }
def fnExactAlarmsRow : OpenClaim := { program := "ytdnahjgboabdhaa", sum := "a10ced3bac97a62f2afdbf17cf02656fe354c6890f770d93d561c2d9913686a0", func := "loop.example/g00067/laws.FnExactAlarms", spec := "fnExactAlarms", unfollowed := true, recurses := true, apart := false }
def FnExactAlarmsSaid : Prop := fnExactAlarmsRow.holds Try.pinned (OpenSpec.ofChange fnExactAlarmsSpec)

/-- ITS FALSE NEIGHBOUR: 'it returns false'. Refute it at one input. -/
def fnExactAlarmsWrong : ChangeSpec := { name := "fnExactAlarms", fn := fun _ => fun
  | [d1, d2, d3, d4] => { results := [.lit (.bool false)], args := [d1, d2, d3, d4] }
  | _ => none }
def FnExactAlarmsWrongFalsely : Prop := fnExactAlarmsRow.holds Try.pinned (OpenSpec.ofChange fnExactAlarmsWrong)

/-- 'laws.FnExactPathLength': WHATEVER THE INPUT: true; the input reads as it did. -/
def fnExactPathLengthSpec : ChangeSpec := { name := "fnExactPathLength", fn := fun _ => fun
  | [d1, d2, d3] => { results := [.lit (.bool true)], args := [d1, d2, d3] }
  | _ => none }
def fnExactPathLengthRow : OpenClaim := { program := "ytdnahjgboabdhaa", sum := "a10ced3bac97a62f2afdbf17cf02656fe354c6890f770d93d561c2d9913686a0", func := "loop.example/g00067/laws.FnExactPathLength", spec := "fnExactPathLength", unfollowed := true, recurses := true, apart := false }
def FnExactPathLengthSaid : Prop := fnExactPathLengthRow.holds Try.pinned (OpenSpec.ofChange fnExactPathLengthSpec)

/-- ITS FALSE NEIGHBOUR: 'it returns false'. Refute it at one input. -/
def fnExactPathLengthWrong : ChangeSpec := { name := "fnExactPathLength", fn := fun _ => fun
  | [d1, d2, d3] => { results := [.lit (.bool false)], args := [d1, d2, d3] }
  | _ => none }
def FnExactPathLengthWrongFalsely : Prop := fnExactPathLengthRow.holds Try.pinned (OpenSpec.ofChange fnExactPathLengthWrong)

/- THE SECOND FORM. 'bulk': how many values and letters a reading holds, each counted each time it is reached (what is shared counts as often as it is met; a slice's spare places count too). A statement '..UptoSaid' is the law's where the arguments, and the package variables that the reading takes, are together of bulk at most 1048576: NARROWER than '..Said'. Prove '..Said' where nothing that the law and all that it calls make is longer than what came in: it says more and counts as full. Else prove '..UptoSaid'. A law counts once. -/
mutual
def uptoBulk {H : Type} : DataW H → Nat
  | .lit (.string bytes) => bytes.length + 1
  | .lit _ => 1
  | .nil => 1
  | .ptr d => uptoBulk d + 1
  | .slice elems spare => uptoBulkAll elems + uptoBulkAll spare + 1
  | .agg parts => uptoBulkAll parts + 1
  | .iface _ d => uptoBulk d + 1
  | .map entries => uptoBulkEntries entries + 1
  | .held _ => 1
def uptoBulkAll {H : Type} : List (DataW H) → Nat
  | [] => 0
  | d :: r => uptoBulk d + uptoBulkAll r
def uptoBulkEntries {H : Type} : List (Lit × DataW H) → Nat
  | [] => 0
  | x :: r => uptoBulkEntry x + uptoBulkEntries r
def uptoBulkEntry {H : Type} : Lit × DataW H → Nat
  | (.string bytes, d) => bytes.length + uptoBulk d + 1
  | (_, d) => uptoBulk d + 1
 end
def uptoSmall : (H : Type) → List (DataW H) → Bool := fun _ ds => decide (uptoBulkAll ds ≤ 1048576)
def OpenSpec.upto (s : _root_.Go.ChangeSpec) : _root_.Go.OpenSpec := { _root_.Go.OpenSpec.ofChange s with cond := some uptoSmall }

/-- 'laws.FnExactBetween', WHERE WHAT IT READS IS OF BULK AT MOST 1048576: true; the input reads as it did. -/
def fnExactBetweenUptoRow : OpenClaim := { program := "ytdnahjgboabdhaa", sum := "a10ced3bac97a62f2afdbf17cf02656fe354c6890f770d93d561c2d9913686a0", func := "loop.example/g00067/laws.FnExactBetween", spec := "fnExactBetween", apart := false, narrowed := true }
def FnExactBetweenUptoSaid : Prop := fnExactBetweenUptoRow.holds Try.pinned (OpenSpec.upto fnExactBetweenSpec)

/-- 'laws.FnExactStopsOK', WHERE WHAT IT READS IS OF BULK AT MOST 1048576: true; the input reads as it did. -/
def fnExactStopsOKUptoRow : OpenClaim := { program := "ytdnahjgboabdhaa", sum := "a10ced3bac97a62f2afdbf17cf02656fe354c6890f770d93d561c2d9913686a0", func := "loop.example/g00067/laws.FnExactStopsOK", spec := "fnExactStopsOK", unfollowed := true, recurses := true, apart := false, narrowed := true }
def FnExactStopsOKUptoSaid : Prop := fnExactStopsOKUptoRow.holds Try.pinned (OpenSpec.upto fnExactStopsOKSpec)

/-- 'laws.FnExactWarmMinutes', WHERE WHAT IT READS IS OF BULK AT MOST 1048576: true; the input reads as it did. -/
def fnExactWarmMinutesUptoRow : OpenClaim := { program := "ytdnahjgboabdhaa", sum := "a10ced3bac97a62f2afdbf17cf02656fe354c6890f770d93d561c2d9913686a0", func := "loop.example/g00067/laws.FnExactWarmMinutes", spec := "fnExactWarmMinutes", unfollowed := true, recurses := true, apart := false, narrowed := true }
def FnExactWarmMinutesUptoSaid : Prop := fnExactWarmMinutesUptoRow.holds Try.pinned (OpenSpec.upto fnExactWarmMinutesSpec)

/-- 'laws.FnExactBridge', WHERE WHAT IT READS IS OF BULK AT MOST 1048576: true; the input reads as it did. -/
def fnExactBridgeUptoRow : OpenClaim := { program := "ytdnahjgboabdhaa", sum := "a10ced3bac97a62f2afdbf17cf02656fe354c6890f770d93d561c2d9913686a0", func := "loop.example/g00067/laws.FnExactBridge", spec := "fnExactBridge", unfollowed := true, recurses := true, apart := false, narrowed := true }
def FnExactBridgeUptoSaid : Prop := fnExactBridgeUptoRow.holds Try.pinned (OpenSpec.upto fnExactBridgeSpec)

/-- 'laws.FnExactPowerOf', WHERE WHAT IT READS IS OF BULK AT MOST 1048576: true; the input reads as it did. -/
def fnExactPowerOfUptoRow : OpenClaim := { program := "ytdnahjgboabdhaa", sum := "a10ced3bac97a62f2afdbf17cf02656fe354c6890f770d93d561c2d9913686a0", func := "loop.example/g00067/laws.FnExactPowerOf", spec := "fnExactPowerOf", unfollowed := true, recurses := true, apart := false, narrowed := true }
def FnExactPowerOfUptoSaid : Prop := fnExactPowerOfUptoRow.holds Try.pinned (OpenSpec.upto fnExactPowerOfSpec)

/-- 'laws.FnExactWatchOf', WHERE WHAT IT READS IS OF BULK AT MOST 1048576: true; the input reads as it did. -/
def fnExactWatchOfUptoRow : OpenClaim := { program := "ytdnahjgboabdhaa", sum := "a10ced3bac97a62f2afdbf17cf02656fe354c6890f770d93d561c2d9913686a0", func := "loop.example/g00067/laws.FnExactWatchOf", spec := "fnExactWatchOf", unfollowed := true, recurses := true, apart := false, narrowed := true }
def FnExactWatchOfUptoSaid : Prop := fnExactWatchOfUptoRow.holds Try.pinned (OpenSpec.upto fnExactWatchOfSpec)

/-- 'laws.FnExactLeastEnd', WHERE WHAT IT READS IS OF BULK AT MOST 1048576: true; the input reads as it did. -/
def fnExactLeastEndUptoRow : OpenClaim := { program := "ytdnahjgboabdhaa", sum := "a10ced3bac97a62f2afdbf17cf02656fe354c6890f770d93d561c2d9913686a0", func := "loop.example/g00067/laws.FnExactLeastEnd", spec := "fnExactLeastEnd", unfollowed := true, recurses := true, apart := false, narrowed := true }
def FnExactLeastEndUptoSaid : Prop := fnExactLeastEndUptoRow.holds Try.pinned (OpenSpec.upto fnExactLeastEndSpec)

/-- 'laws.FnExactAlarms', WHERE WHAT IT READS IS OF BULK AT MOST 1048576: true; the input reads as it did. -/
def fnExactAlarmsUptoRow : OpenClaim := { program := "ytdnahjgboabdhaa", sum := "a10ced3bac97a62f2afdbf17cf02656fe354c6890f770d93d561c2d9913686a0", func := "loop.example/g00067/laws.FnExactAlarms", spec := "fnExactAlarms", unfollowed := true, recurses := true, apart := false, narrowed := true }
def FnExactAlarmsUptoSaid : Prop := fnExactAlarmsUptoRow.holds Try.pinned (OpenSpec.upto fnExactAlarmsSpec)

/-- 'laws.FnExactPathLength', WHERE WHAT IT READS IS OF BULK AT MOST 1048576: true; the input reads as it did. -/
def fnExactPathLengthUptoRow : OpenClaim := { program := "ytdnahjgboabdhaa", sum := "a10ced3bac97a62f2afdbf17cf02656fe354c6890f770d93d561c2d9913686a0", func := "loop.example/g00067/laws.FnExactPathLength", spec := "fnExactPathLength", unfollowed := true, recurses := true, apart := false, narrowed := true }
def FnExactPathLengthUptoSaid : Prop := fnExactPathLengthUptoRow.holds Try.pinned (OpenSpec.upto fnExactPathLengthSpec)

end Rows
end Go.Proofs.Ytdnahjgboabdhaa
