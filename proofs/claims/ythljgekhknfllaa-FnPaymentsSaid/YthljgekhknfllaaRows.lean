/-
  No cell of these rows narrows 'for every input' (looked for: loops, veiled, ifaces, maps, wideKeys, modest, calm, conditions, laid).
  DERIVED. THE GIVEN ROWS OF THIS SEAT. 2 by the template 'for every input the law returns true; each argument reads behind the call as it read before'; 0 by the template 'total and deterministic' (their statements: YthljgekhknfllaaTotals.lean).
  GIVEN WITH THE SEED: the statements are not yours to turn. If you find one false, say at which input.
  Laid BY PROGRAM, IN A SANDBOX (cutbox-rows.mjs): the forced cells as the released guide's own fill.sh prints them over the translation 564df50d00b84d9a… (all of the seat's roots in one cut). By AI agents, Wed Nov 11 2026. No macro, syntax, notation, axiom, sorry.
-/
import Derived.Test.YthljgekhknfllaaChecked
import GoSem.Claim
import GoSem.ClaimJoined
import GoSem.ClaimMapViews
import Derived.JoinedTies
import Derived.KernelRfl
namespace Go.Proofs.Ythljgekhknfllaa
/- THE CELL 'sum', in the pinned program and in every row, IS THE sha256 OF THE DUMP (.gsa) THAT YthljgekhknfllaaProg.lean LOADS. Nothing in Lean hashes anything: it is a label: what it is worth is what the hold of that sum in a sandbox is worth. -/
noncomputable def Try.pinned : Pinned := { name := "ythljgekhknfllaa", sum := "564df50d00b84d9a7c54bd918eca6957be371294a11c508ec5588bbfba87b374", checked := Try.checked }
namespace Rows
def none {H : Type} : Left H := { results := [], args := [] }

/-- 'laws.FnPayments': WHATEVER THE INPUT: true; the input reads as it did. -/
def fnPaymentsSpec : ChangeSpec := { name := "fnPayments", fn := fun _ => fun
  | [d] => { results := [.lit (.bool true)], args := [d] }
  | _ => none }
def fnPaymentsRow : OpenClaim := { program := "ythljgekhknfllaa", sum := "564df50d00b84d9a7c54bd918eca6957be371294a11c508ec5588bbfba87b374", func := "loop.example/g00067/laws.FnPayments", spec := "fnPayments", unfollowed := true, recurses := true, apart := false }
def FnPaymentsSaid : Prop := fnPaymentsRow.holds Try.pinned (OpenSpec.ofChange fnPaymentsSpec)

/-- ITS FALSE NEIGHBOUR: 'it returns false'. Refute it at one input. -/
def fnPaymentsWrong : ChangeSpec := { name := "fnPayments", fn := fun _ => fun
  | [d] => { results := [.lit (.bool false)], args := [d] }
  | _ => none }
def FnPaymentsWrongFalsely : Prop := fnPaymentsRow.holds Try.pinned (OpenSpec.ofChange fnPaymentsWrong)

/-- 'laws.FnExactPayRun': WHATEVER THE INPUT: true; the input reads as it did. -/
def fnExactPayRunSpec : ChangeSpec := { name := "fnExactPayRun", fn := fun _ => fun
  | [d] => { results := [.lit (.bool true)], args := [d] }
  | _ => none }
def fnExactPayRunRow : OpenClaim := { program := "ythljgekhknfllaa", sum := "564df50d00b84d9a7c54bd918eca6957be371294a11c508ec5588bbfba87b374", func := "loop.example/g00067/laws.FnExactPayRun", spec := "fnExactPayRun", unfollowed := true, recurses := true, apart := false }
def FnExactPayRunSaid : Prop := fnExactPayRunRow.holds Try.pinned (OpenSpec.ofChange fnExactPayRunSpec)

/-- ITS FALSE NEIGHBOUR: 'it returns false'. Refute it at one input. -/
def fnExactPayRunWrong : ChangeSpec := { name := "fnExactPayRun", fn := fun _ => fun
  | [d] => { results := [.lit (.bool false)], args := [d] }
  | _ => none }
def FnExactPayRunWrongFalsely : Prop := fnExactPayRunRow.holds Try.pinned (OpenSpec.ofChange fnExactPayRunWrong)

/- THE SECOND FORM. 'bulk': how many values and letters a reading holds, each counted each time it is reached (what is shared counts as often as it is met; a slice's spare places count too). A statement '..UptoSaid' is the law's where the arguments, and the package variables that the reading takes, are together of bulk at most 1048576: NARROWER than '..Said'. Prove '..Said' where nothing that the law and all that it calls make is longer than what came in: it says more and counts as full. Else prove '..UptoSaid'. A law counts once. -/
mutual
def uptoBulk {H : Type} : DataW H → Nat
  | .lit (.string bytes) => bytes.length + 1
  | .lit _ => 1
  | .nil => 1
  | .ptr d => uptoBulk d + 1
  | .slice elems spare => uptoBulkAll elems + uptoBulkAll spare + 1
  | .agg parts => uptoBulkAll parts + 1
  | .iface _ d => uptoBulk d + 1
  | .map entries => uptoBulkEntries entries + 1
  | .held _ => 1
def uptoBulkAll {H : Type} : List (DataW H) → Nat
  | [] => 0
  | d :: r => uptoBulk d + uptoBulkAll r
def uptoBulkEntries {H : Type} : List (Lit × DataW H) → Nat
  | [] => 0
  | x :: r => uptoBulkEntry x + uptoBulkEntries r
def uptoBulkEntry {H : Type} : Lit × DataW H → Nat
  | (.string bytes, d) => bytes.length + uptoBulk d + 1
  | (_, d) => uptoBulk d + 1
 end
def uptoSmall : (H : Type) → List (DataW H) → Bool := fun _ ds => decide (uptoBulkAll ds ≤ 1048576)
def OpenSpec.upto (s : _root_.Go.ChangeSpec) : _root_.Go.OpenSpec := { _root_.Go.OpenSpec.ofChange s with cond := some uptoSmall }

/-- 'laws.FnPayments', WHERE WHAT IT READS IS OF BULK AT MOST 1048576: true; the input reads as it did. -/
def fnPaymentsUptoRow : OpenClaim := { program := "ythljgekhknfllaa", sum := "564df50d00b84d9a7c54bd918eca6957be371294a11c508ec5588bbfba87b374", func := "loop.example/g00067/laws.FnPayments", spec := "fnPayments", unfollowed := true, recurses := true, apart := false, narrowed := true }
def FnPaymentsUptoSaid : Prop := fnPaymentsUptoRow.holds Try.pinned (OpenSpec.upto fnPaymentsSpec)

/-- 'laws.FnExactPayRun', WHERE WHAT IT READS IS OF BULK AT MOST 1048576: true; the input reads as it did. -/
def fnExactPayRunUptoRow : OpenClaim := { program := "ythljgekhknfllaa", sum := "564df50d00b84d9a7c54bd918eca6957be371294a11c508ec5588bbfba87b374", func := "loop.example/g00067/laws.FnExactPayRun", spec := "fnExactPayRun", unfollowed := true, recurses := true, apart := false, narrowed := true }
def FnExactPayRunUptoSaid : Prop := fnExactPayRunUptoRow.holds Try.pinned (OpenSpec.upto fnExactPayRunSpec)

end Rows
end Go.Proofs.Ythljgekhknfllaa
