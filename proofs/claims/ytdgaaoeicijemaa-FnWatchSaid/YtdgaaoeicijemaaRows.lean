/-
  No cell of these rows narrows 'for every input' (looked for: loops, veiled, ifaces, maps, wideKeys, modest, calm, conditions, laid).
  DERIVED. THE GIVEN ROWS OF THIS SEAT. 12 by the template 'for every input the law returns true; each argument reads behind the call as it read before'; 0 by the template 'total and deterministic' (their statements: YtdgaaoeicijemaaTotals.lean).
  GIVEN WITH THE SEED: the statements are not yours to turn. If you find one false, say at which input.
  Laid BY PROGRAM, IN A SANDBOX (cutbox-rows.mjs): the forced cells as the released guide's own fill.sh prints them over the translation 3a6ae61559211519… (all of the seat's roots in one cut). By AI agents, Wed Nov 11 2026. No macro, syntax, notation, axiom, sorry.
-/
import Derived.Test.YtdgaaoeicijemaaChecked
import GoSem.Claim
import GoSem.ClaimJoined
import GoSem.ClaimMapViews
import Derived.JoinedTies
import Derived.KernelRfl
namespace Go.Proofs.Ytdgaaoeicijemaa
/- THE CELL 'sum', in the pinned program and in every row, IS THE sha256 OF THE DUMP (.gsa) THAT YtdgaaoeicijemaaProg.lean LOADS. Nothing in Lean hashes anything: it is a label: what it is worth is what the hold of that sum in a sandbox is worth. -/
noncomputable def Try.pinned : Pinned := { name := "ytdgaaoeicijemaa", sum := "3a6ae615592115198641be940d1f519418c2c0e0b98e1fb8fa9ad77069def430", checked := Try.checked }
namespace Rows
def none {H : Type} : Left H := { results := [], args := [] }

/-- 'laws.FnSort': WHATEVER THE INPUT: true; the input reads as it did. -/
def fnSortSpec : ChangeSpec := { name := "fnSort", fn := fun _ => fun
  | [d] => { results := [.lit (.bool true)], args := [d] }
  | _ => none }
def fnSortRow : OpenClaim := { program := "ytdgaaoeicijemaa", sum := "3a6ae615592115198641be940d1f519418c2c0e0b98e1fb8fa9ad77069def430", func := "loop.example/g00067/laws.FnSort", spec := "fnSort", unfollowed := true, recurses := true, plainKeys := false, apart := false }
def FnSortSaid : Prop := fnSortRow.holds Try.pinned (OpenSpec.ofChange fnSortSpec)

/-- ITS FALSE NEIGHBOUR: 'it returns false'. Refute it at one input. -/
def fnSortWrong : ChangeSpec := { name := "fnSort", fn := fun _ => fun
  | [d] => { results := [.lit (.bool false)], args := [d] }
  | _ => none }
def FnSortWrongFalsely : Prop := fnSortRow.holds Try.pinned (OpenSpec.ofChange fnSortWrong)

/-- 'laws.FnAlarms': WHATEVER THE INPUT: true; the input reads as it did. -/
def fnAlarmsSpec : ChangeSpec := { name := "fnAlarms", fn := fun _ => fun
  | [d] => { results := [.lit (.bool true)], args := [d] }
  | _ => none }
def fnAlarmsRow : OpenClaim := { program := "ytdgaaoeicijemaa", sum := "3a6ae615592115198641be940d1f519418c2c0e0b98e1fb8fa9ad77069def430", func := "loop.example/g00067/laws.FnAlarms", spec := "fnAlarms", unfollowed := true, recurses := true, plainKeys := false, apart := false }
def FnAlarmsSaid : Prop := fnAlarmsRow.holds Try.pinned (OpenSpec.ofChange fnAlarmsSpec)

/-- ITS FALSE NEIGHBOUR: 'it returns false'. Refute it at one input. -/
def fnAlarmsWrong : ChangeSpec := { name := "fnAlarms", fn := fun _ => fun
  | [d] => { results := [.lit (.bool false)], args := [d] }
  | _ => none }
def FnAlarmsWrongFalsely : Prop := fnAlarmsRow.holds Try.pinned (OpenSpec.ofChange fnAlarmsWrong)

/-- 'laws.FnCarts': WHATEVER THE INPUT: true; the input reads as it did. -/
def fnCartsSpec : ChangeSpec := { name := "fnCarts", fn := fun _ => fun
  | [d1, d2] => { results := [.lit (.bool true)], args := [d1, d2] }
  | _ => none }
def fnCartsRow : OpenClaim := { program := "ytdgaaoeicijemaa", sum := "3a6ae615592115198641be940d1f519418c2c0e0b98e1fb8fa9ad77069def430", func := "loop.example/g00067/laws.FnCarts", spec := "fnCarts", unfollowed := true, recurses := true, plainKeys := false, apart := false }
def FnCartsSaid : Prop := fnCartsRow.holds Try.pinned (OpenSpec.ofChange fnCartsSpec)

/-- ITS FALSE NEIGHBOUR: 'it returns false'. Refute it at one input. -/
def fnCartsWrong : ChangeSpec := { name := "fnCarts", fn := fun _ => fun
  | [d1, d2] => { results := [.lit (.bool false)], args := [d1, d2] }
  | _ => none }
def FnCartsWrongFalsely : Prop := fnCartsRow.holds Try.pinned (OpenSpec.ofChange fnCartsWrong)

/-- 'laws.FnPower': WHATEVER THE INPUT: true; the input reads as it did. -/
def fnPowerSpec : ChangeSpec := { name := "fnPower", fn := fun _ => fun
  | [d1, d2] => { results := [.lit (.bool true)], args := [d1, d2] }
  | _ => none }
def fnPowerRow : OpenClaim := { program := "ytdgaaoeicijemaa", sum := "3a6ae615592115198641be940d1f519418c2c0e0b98e1fb8fa9ad77069def430", func := "loop.example/g00067/laws.FnPower", spec := "fnPower", unfollowed := true, recurses := true, plainKeys := false, apart := false }
def FnPowerSaid : Prop := fnPowerRow.holds Try.pinned (OpenSpec.ofChange fnPowerSpec)

/-- ITS FALSE NEIGHBOUR: 'it returns false'. Refute it at one input. -/
def fnPowerWrong : ChangeSpec := { name := "fnPower", fn := fun _ => fun
  | [d1, d2] => { results := [.lit (.bool false)], args := [d1, d2] }
  | _ => none }
def FnPowerWrongFalsely : Prop := fnPowerRow.holds Try.pinned (OpenSpec.ofChange fnPowerWrong)

/-- 'laws.FnWatch': WHATEVER THE INPUT: true; the input reads as it did. -/
def fnWatchSpec : ChangeSpec := { name := "fnWatch", fn := fun _ => fun
  | [d] => { results := [.lit (.bool true)], args := [d] }
  | _ => none }
def fnWatchRow : OpenClaim := { program := "ytdgaaoeicijemaa", sum := "3a6ae615592115198641be940d1f519418c2c0e0b98e1fb8fa9ad77069def430", func := "loop.example/g00067/laws.FnWatch", spec := "fnWatch", unfollowed := true, recurses := true, plainKeys := false, apart := false }
def FnWatchSaid : Prop := fnWatchRow.holds Try.pinned (OpenSpec.ofChange fnWatchSpec)

/-- ITS FALSE NEIGHBOUR: 'it returns false'. Refute it at one input. -/
def fnWatchWrong : ChangeSpec := { name := "fnWatch", fn := fun _ => fun
  | [d] => { results := [.lit (.bool false)], args := [d] }
  | _ => none }
def FnWatchWrongFalsely : Prop := fnWatchRow.holds Try.pinned (OpenSpec.ofChange fnWatchWrong)

/-- 'laws.FnPoints': WHATEVER THE INPUT: true; the input reads as it did. -/
def fnPointsSpec : ChangeSpec := { name := "fnPoints", fn := fun _ => fun
  | [d] => { results := [.lit (.bool true)], args := [d] }
  | _ => none }
def fnPointsRow : OpenClaim := { program := "ytdgaaoeicijemaa", sum := "3a6ae615592115198641be940d1f519418c2c0e0b98e1fb8fa9ad77069def430", func := "loop.example/g00067/laws.FnPoints", spec := "fnPoints", unfollowed := true, recurses := true, plainKeys := false, apart := false }
def FnPointsSaid : Prop := fnPointsRow.holds Try.pinned (OpenSpec.ofChange fnPointsSpec)

/-- ITS FALSE NEIGHBOUR: 'it returns false'. Refute it at one input. -/
def fnPointsWrong : ChangeSpec := { name := "fnPoints", fn := fun _ => fun
  | [d] => { results := [.lit (.bool false)], args := [d] }
  | _ => none }
def FnPointsWrongFalsely : Prop := fnPointsRow.holds Try.pinned (OpenSpec.ofChange fnPointsWrong)

/-- 'laws.FnExactBestPath': WHATEVER THE INPUT: true; the input reads as it did. -/
def fnExactBestPathSpec : ChangeSpec := { name := "fnExactBestPath", fn := fun _ => fun
  | [d1, d2] => { results := [.lit (.bool true)], args := [d1, d2] }
  | _ => none }
def fnExactBestPathRow : OpenClaim := { program := "ytdgaaoeicijemaa", sum := "3a6ae615592115198641be940d1f519418c2c0e0b98e1fb8fa9ad77069def430", func := "loop.example/g00067/laws.FnExactBestPath", spec := "fnExactBestPath", unfollowed := true, recurses := true, plainKeys := false, apart := false }
def FnExactBestPathSaid : Prop := fnExactBestPathRow.holds Try.pinned (OpenSpec.ofChange fnExactBestPathSpec)

/-- ITS FALSE NEIGHBOUR: 'it returns false'. Refute it at one input. -/
def fnExactBestPathWrong : ChangeSpec := { name := "fnExactBestPath", fn := fun _ => fun
  | [d1, d2] => { results := [.lit (.bool false)], args := [d1, d2] }
  | _ => none }
def FnExactBestPathWrongFalsely : Prop := fnExactBestPathRow.holds Try.pinned (OpenSpec.ofChange fnExactBestPathWrong)

/-- 'laws.FnStock': WHATEVER THE INPUT: true; the input reads as it did. -/
def fnStockSpec : ChangeSpec := { name := "fnStock", fn := fun _ => fun
  | [d1, d2] => { results := [.lit (.bool true)], args := [d1, d2] }
  | _ => none }
def fnStockRow : OpenClaim := { program := "ytdgaaoeicijemaa", sum := "3a6ae615592115198641be940d1f519418c2c0e0b98e1fb8fa9ad77069def430", func := "loop.example/g00067/laws.FnStock", spec := "fnStock", unfollowed := true, recurses := true, plainKeys := false, apart := false }
def FnStockSaid : Prop := fnStockRow.holds Try.pinned (OpenSpec.ofChange fnStockSpec)

/-- ITS FALSE NEIGHBOUR: 'it returns false'. Refute it at one input. -/
def fnStockWrong : ChangeSpec := { name := "fnStock", fn := fun _ => fun
  | [d1, d2] => { results := [.lit (.bool false)], args := [d1, d2] }
  | _ => none }
def FnStockWrongFalsely : Prop := fnStockRow.holds Try.pinned (OpenSpec.ofChange fnStockWrong)

/-- 'laws.FnExactSourcesOK': WHATEVER THE INPUT: true; the input reads as it did. -/
def fnExactSourcesOKSpec : ChangeSpec := { name := "fnExactSourcesOK", fn := fun _ => fun
  | [d1, d2] => { results := [.lit (.bool true)], args := [d1, d2] }
  | _ => none }
def fnExactSourcesOKRow : OpenClaim := { program := "ytdgaaoeicijemaa", sum := "3a6ae615592115198641be940d1f519418c2c0e0b98e1fb8fa9ad77069def430", func := "loop.example/g00067/laws.FnExactSourcesOK", spec := "fnExactSourcesOK", plainKeys := false, apart := false }
def FnExactSourcesOKSaid : Prop := fnExactSourcesOKRow.holds Try.pinned (OpenSpec.ofChange fnExactSourcesOKSpec)

/-- ITS FALSE NEIGHBOUR: 'it returns false'. Refute it at one input. -/
def fnExactSourcesOKWrong : ChangeSpec := { name := "fnExactSourcesOK", fn := fun _ => fun
  | [d1, d2] => { results := [.lit (.bool false)], args := [d1, d2] }
  | _ => none }
def FnExactSourcesOKWrongFalsely : Prop := fnExactSourcesOKRow.holds Try.pinned (OpenSpec.ofChange fnExactSourcesOKWrong)

/-- 'laws.FnLedger': WHATEVER THE INPUT: true; the input reads as it did. -/
def fnLedgerSpec : ChangeSpec := { name := "fnLedger", fn := fun _ => fun
  | [d] => { results := [.lit (.bool true)], args := [d] }
  | _ => none }
def fnLedgerRow : OpenClaim := { program := "ytdgaaoeicijemaa", sum := "3a6ae615592115198641be940d1f519418c2c0e0b98e1fb8fa9ad77069def430", func := "loop.example/g00067/laws.FnLedger", spec := "fnLedger", unfollowed := true, recurses := true, plainKeys := false, apart := false }
def FnLedgerSaid : Prop := fnLedgerRow.holds Try.pinned (OpenSpec.ofChange fnLedgerSpec)

/-- ITS FALSE NEIGHBOUR: 'it returns false'. Refute it at one input. -/
def fnLedgerWrong : ChangeSpec := { name := "fnLedger", fn := fun _ => fun
  | [d] => { results := [.lit (.bool false)], args := [d] }
  | _ => none }
def FnLedgerWrongFalsely : Prop := fnLedgerRow.holds Try.pinned (OpenSpec.ofChange fnLedgerWrong)

/-- 'laws.FnExactSortRun': WHATEVER THE INPUT: true; the input reads as it did. -/
def fnExactSortRunSpec : ChangeSpec := { name := "fnExactSortRun", fn := fun _ => fun
  | [d1, d2] => { results := [.lit (.bool true)], args := [d1, d2] }
  | _ => none }
def fnExactSortRunRow : OpenClaim := { program := "ytdgaaoeicijemaa", sum := "3a6ae615592115198641be940d1f519418c2c0e0b98e1fb8fa9ad77069def430", func := "loop.example/g00067/laws.FnExactSortRun", spec := "fnExactSortRun", unfollowed := true, recurses := true, plainKeys := false, apart := false }
def FnExactSortRunSaid : Prop := fnExactSortRunRow.holds Try.pinned (OpenSpec.ofChange fnExactSortRunSpec)

/-- ITS FALSE NEIGHBOUR: 'it returns false'. Refute it at one input. -/
def fnExactSortRunWrong : ChangeSpec := { name := "fnExactSortRun", fn := fun _ => fun
  | [d1, d2] => { results := [.lit (.bool false)], args := [d1, d2] }
  | _ => none }
def FnExactSortRunWrongFalsely : Prop := fnExactSortRunRow.holds Try.pinned (OpenSpec.ofChange fnExactSortRunWrong)

/-- 'laws.FnPath': WHATEVER THE INPUT: true; the input reads as it did. -/
def fnPathSpec : ChangeSpec := { name := "fnPath", fn := fun _ => fun
  | [d] => { results := [.lit (.bool true)], args := [d] }
  | _ => none }
def fnPathRow : OpenClaim := { program := "ytdgaaoeicijemaa", sum := "3a6ae615592115198641be940d1f519418c2c0e0b98e1fb8fa9ad77069def430", func := "loop.example/g00067/laws.FnPath", spec := "fnPath", unfollowed := true, recurses := true, plainKeys := false, apart := false }
def FnPathSaid : Prop := fnPathRow.holds Try.pinned (OpenSpec.ofChange fnPathSpec)

/-- ITS FALSE NEIGHBOUR: 'it returns false'. Refute it at one input. -/
def fnPathWrong : ChangeSpec := { name := "fnPath", fn := fun _ => fun
  | [d] => { results := [.lit (.bool false)], args := [d] }
  | _ => none }
def FnPathWrongFalsely : Prop := fnPathRow.holds Try.pinned (OpenSpec.ofChange fnPathWrong)

/- THE SECOND FORM. 'bulk': how many values and letters a reading holds, each counted each time it is reached (what is shared counts as often as it is met; a slice's spare places count too). A statement '..UptoSaid' is the law's where the arguments, and the package variables that the reading takes, are together of bulk at most 1048576: NARROWER than '..Said'. Prove '..Said' where nothing that the law and all that it calls make is longer than what came in: it says more and counts as full. Else prove '..UptoSaid'. A law counts once. -/
mutual
def uptoBulk {H : Type} : DataW H → Nat
  | .lit (.string bytes) => bytes.length + 1
  | .lit _ => 1
  | .nil => 1
  | .ptr d => uptoBulk d + 1
  | .slice elems spare => uptoBulkAll elems + uptoBulkAll spare + 1
  | .agg parts => uptoBulkAll parts + 1
  | .iface _ d => uptoBulk d + 1
  | .map entries => uptoBulkEntries entries + 1
  | .held _ => 1
def uptoBulkAll {H : Type} : List (DataW H) → Nat
  | [] => 0
  | d :: r => uptoBulk d + uptoBulkAll r
def uptoBulkEntries {H : Type} : List (Lit × DataW H) → Nat
  | [] => 0
  | x :: r => uptoBulkEntry x + uptoBulkEntries r
def uptoBulkEntry {H : Type} : Lit × DataW H → Nat
  | (.string bytes, d) => bytes.length + uptoBulk d + 1
  | (_, d) => uptoBulk d + 1
 end
def uptoSmall : (H : Type) → List (DataW H) → Bool := fun _ ds => decide (uptoBulkAll ds ≤ 1048576)
def OpenSpec.upto (s : _root_.Go.ChangeSpec) : _root_.Go.OpenSpec := { _root_.Go.OpenSpec.ofChange s with cond := some uptoSmall }

/-- 'laws.FnSort', WHERE WHAT IT READS IS OF BULK AT MOST 1048576: true; the input reads as it did. -/
def fnSortUptoRow : OpenClaim := { program := "ytdgaaoeicijemaa", sum := "3a6ae615592115198641be940d1f519418c2c0e0b98e1fb8fa9ad77069def430", func := "loop.example/g00067/laws.FnSort", spec := "fnSort", unfollowed := true, recurses := true, plainKeys := false, apart := false, narrowed := true }
def FnSortUptoSaid : Prop := fnSortUptoRow.holds Try.pinned (OpenSpec.upto fnSortSpec)

/-- 'laws.FnAlarms', WHERE WHAT IT READS IS OF BULK AT MOST 1048576: true; the input reads as it did. -/
def fnAlarmsUptoRow : OpenClaim := { program := "ytdgaaoeicijemaa", sum := "3a6ae615592115198641be940d1f519418c2c0e0b98e1fb8fa9ad77069def430", func := "loop.example/g00067/laws.FnAlarms", spec := "fnAlarms", unfollowed := true, recurses := true, plainKeys := false, apart := false, narrowed := true }
def FnAlarmsUptoSaid : Prop := fnAlarmsUptoRow.holds Try.pinned (OpenSpec.upto fnAlarmsSpec)

/-- 'laws.FnCarts', WHERE WHAT IT READS IS OF BULK AT MOST 1048576: true; the input reads as it did. -/
def fnCartsUptoRow : OpenClaim := { program := "ytdgaaoeicijemaa", sum := "3a6ae615592115198641be940d1f519418c2c0e0b98e1fb8fa9ad77069def430", func := "loop.example/g00067/laws.FnCarts", spec := "fnCarts", unfollowed := true, recurses := true, plainKeys := false, apart := false, narrowed := true }
def FnCartsUptoSaid : Prop := fnCartsUptoRow.holds Try.pinned (OpenSpec.upto fnCartsSpec)

/-- 'laws.FnPower', WHERE WHAT IT READS IS OF BULK AT MOST 1048576: true; the input reads as it did. -/
def fnPowerUptoRow : OpenClaim := { program := "ytdgaaoeicijemaa", sum := "3a6ae615592115198641be940d1f519418c2c0e0b98e1fb8fa9ad77069def430", func := "loop.example/g00067/laws.FnPower", spec := "fnPower", unfollowed := true, recurses := true, plainKeys := false, apart := false, narrowed := true }
def FnPowerUptoSaid : Prop := fnPowerUptoRow.holds Try.pinned (OpenSpec.upto fnPowerSpec)

/-- 'laws.FnWatch', WHERE WHAT IT READS IS OF BULK AT MOST 1048576: true; the input reads as it did. -/
def fnWatchUptoRow : OpenClaim := { program := "ytdgaaoeicijemaa", sum := "3a6ae615592115198641be940d1f519418c2c0e0b98e1fb8fa9ad77069def430", func := "loop.example/g00067/laws.FnWatch", spec := "fnWatch", unfollowed := true, recurses := true, plainKeys := false, apart := false, narrowed := true }
def FnWatchUptoSaid : Prop := fnWatchUptoRow.holds Try.pinned (OpenSpec.upto fnWatchSpec)

/-- 'laws.FnPoints', WHERE WHAT IT READS IS OF BULK AT MOST 1048576: true; the input reads as it did. -/
def fnPointsUptoRow : OpenClaim := { program := "ytdgaaoeicijemaa", sum := "3a6ae615592115198641be940d1f519418c2c0e0b98e1fb8fa9ad77069def430", func := "loop.example/g00067/laws.FnPoints", spec := "fnPoints", unfollowed := true, recurses := true, plainKeys := false, apart := false, narrowed := true }
def FnPointsUptoSaid : Prop := fnPointsUptoRow.holds Try.pinned (OpenSpec.upto fnPointsSpec)

/-- 'laws.FnExactBestPath', WHERE WHAT IT READS IS OF BULK AT MOST 1048576: true; the input reads as it did. -/
def fnExactBestPathUptoRow : OpenClaim := { program := "ytdgaaoeicijemaa", sum := "3a6ae615592115198641be940d1f519418c2c0e0b98e1fb8fa9ad77069def430", func := "loop.example/g00067/laws.FnExactBestPath", spec := "fnExactBestPath", unfollowed := true, recurses := true, plainKeys := false, apart := false, narrowed := true }
def FnExactBestPathUptoSaid : Prop := fnExactBestPathUptoRow.holds Try.pinned (OpenSpec.upto fnExactBestPathSpec)

/-- 'laws.FnStock', WHERE WHAT IT READS IS OF BULK AT MOST 1048576: true; the input reads as it did. -/
def fnStockUptoRow : OpenClaim := { program := "ytdgaaoeicijemaa", sum := "3a6ae615592115198641be940d1f519418c2c0e0b98e1fb8fa9ad77069def430", func := "loop.example/g00067/laws.FnStock", spec := "fnStock", unfollowed := true, recurses := true, plainKeys := false, apart := false, narrowed := true }
def FnStockUptoSaid : Prop := fnStockUptoRow.holds Try.pinned (OpenSpec.upto fnStockSpec)

/-- 'laws.FnExactSourcesOK', WHERE WHAT IT READS IS OF BULK AT MOST 1048576: true; the input reads as it did. -/
def fnExactSourcesOKUptoRow : OpenClaim := { program := "ytdgaaoeicijemaa", sum := "3a6ae615592115198641be940d1f519418c2c0e0b98e1fb8fa9ad77069def430", func := "loop.example/g00067/laws.FnExactSourcesOK", spec := "fnExactSourcesOK", plainKeys := false, apart := false, narrowed := true }
def FnExactSourcesOKUptoSaid : Prop := fnExactSourcesOKUptoRow.holds Try.pinned (OpenSpec.upto fnExactSourcesOKSpec)

/-- 'laws.FnLedger', WHERE WHAT IT READS IS OF BULK AT MOST 1048576: true; the input reads as it did. -/
def fnLedgerUptoRow : OpenClaim := { program := "ytdgaaoeicijemaa", sum := "3a6ae615592115198641be940d1f519418c2c0e0b98e1fb8fa9ad77069def430", func := "loop.example/g00067/laws.FnLedger", spec := "fnLedger", unfollowed := true, recurses := true, plainKeys := false, apart := false, narrowed := true }
def FnLedgerUptoSaid : Prop := fnLedgerUptoRow.holds Try.pinned (OpenSpec.upto fnLedgerSpec)

/-- 'laws.FnExactSortRun', WHERE WHAT IT READS IS OF BULK AT MOST 1048576: true; the input reads as it did. -/
def fnExactSortRunUptoRow : OpenClaim := { program := "ytdgaaoeicijemaa", sum := "3a6ae615592115198641be940d1f519418c2c0e0b98e1fb8fa9ad77069def430", func := "loop.example/g00067/laws.FnExactSortRun", spec := "fnExactSortRun", unfollowed := true, recurses := true, plainKeys := false, apart := false, narrowed := true }
def FnExactSortRunUptoSaid : Prop := fnExactSortRunUptoRow.holds Try.pinned (OpenSpec.upto fnExactSortRunSpec)

/-- 'laws.FnPath', WHERE WHAT IT READS IS OF BULK AT MOST 1048576: true; the input reads as it did. -/
def fnPathUptoRow : OpenClaim := { program := "ytdgaaoeicijemaa", sum := "3a6ae615592115198641be940d1f519418c2c0e0b98e1fb8fa9ad77069def430", func := "loop.example/g00067/laws.FnPath", spec := "fnPath", unfollowed := true, recurses := true, plainKeys := false, apart := false, narrowed := true }
def FnPathUptoSaid : Prop := fnPathUptoRow.holds Try.pinned (OpenSpec.upto fnPathSpec)

end Rows
end Go.Proofs.Ytdgaaoeicijemaa
