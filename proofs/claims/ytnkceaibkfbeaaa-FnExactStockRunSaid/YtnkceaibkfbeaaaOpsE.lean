-- made by pp.py (wip/tools) out of the translation; Lean checks it
import Derived.Test.YtnkceaibkfbeaaaE0
import Derived.Test.YtnkceaibkfbeaaaOpens
namespace Go.Proofs.Ytnkceaibkfbeaaa.E
open Go.RowKit Go.Proofs.YtnkceaibkfbeaaaW.PrintWords
set_option linter.unusedVariables false
def R57 (x : S57) : Prop := ((Lit.int .i64 x.f0).wf = true) ∧ (x.f1.size ≤ maxLen) ∧ ((Lit.int .i64 x.f2).wf = true) ∧ ((Lit.int .i64 x.f3).wf = true) ∧ ((Lit.int .i64 x.f4).wf = true)
theorem opens57 {H : Type} (enc : TypeId × Value → H) : Opens.Opens enc Try.prog k57 57 R57 :=
  Opens.opens_iso (fun (p : (Int) × (ByteArray) × (Int) × (Int) × (Int)) => (⟨p.1, p.2.1, p.2.2.1, p.2.2.2.1, p.2.2.2.2⟩ : S57)) (fun _ => rfl) (Opens.opens_struct Try.underlying57 (Opens.fs_cons rfl (Opens.opens_int Try.underlying3) (by kernel_rfl) (Opens.fs_cons rfl (Opens.opens_string Try.underlying9) (by kernel_rfl) (Opens.fs_cons rfl (Opens.opens_int Try.underlying3) (by kernel_rfl) (Opens.fs_cons rfl (Opens.opens_int Try.underlying3) (by kernel_rfl) (Opens.fs_one rfl (Opens.opens_int Try.underlying3) (by kernel_rfl)))))) (by kernel_rfl))
end Go.Proofs.Ytnkceaibkfbeaaa.E
