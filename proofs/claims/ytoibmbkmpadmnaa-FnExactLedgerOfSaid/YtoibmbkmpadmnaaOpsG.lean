-- made by pp.py (wip/tools) out of the translation; Lean checks it
import Derived.Test.YtoibmbkmpadmnaaG0
import Derived.Test.YtoibmbkmpadmnaaOpens
namespace Go.Proofs.Ytoibmbkmpadmnaa.G
open Go.RowKit Go.Proofs.YtoibmbkmpadmnaaW.PrintWords
set_option linter.unusedVariables false
def R59 (x : S59) : Prop := ((Lit.int .i64 x.f0).wf = true) ∧ ((Lit.int .i64 x.f1).wf = true) ∧ ((Lit.int .i64 x.f2).wf = true) ∧ ((Lit.int .i64 x.f3).wf = true) ∧ (x.f4.size ≤ maxLen) ∧ ((Lit.int .i64 x.f5).wf = true)
theorem opens59 {H : Type} (enc : TypeId × Value → H) : Opens.Opens enc Try.prog k59 59 R59 :=
  Opens.opens_iso (fun (p : (Int) × (Int) × (Int) × (Int) × (ByteArray) × (Int)) => (⟨p.1, p.2.1, p.2.2.1, p.2.2.2.1, p.2.2.2.2.1, p.2.2.2.2.2⟩ : S59)) (fun _ => rfl) (Opens.opens_struct Try.underlying59 (Opens.fs_cons rfl (Opens.opens_int Try.underlying3) (by kernel_rfl) (Opens.fs_cons rfl (Opens.opens_int Try.underlying3) (by kernel_rfl) (Opens.fs_cons rfl (Opens.opens_int Try.underlying3) (by kernel_rfl) (Opens.fs_cons rfl (Opens.opens_int Try.underlying3) (by kernel_rfl) (Opens.fs_cons rfl (Opens.opens_string Try.underlying9) (by kernel_rfl) (Opens.fs_one rfl (Opens.opens_int Try.underlying3) (by kernel_rfl))))))) (by kernel_rfl))
end Go.Proofs.Ytoibmbkmpadmnaa.G
