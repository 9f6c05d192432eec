-- made by pp.py (wip/tools) out of the translation; Lean checks it
import Derived.Test.YtakpcpbhlohmiaaK0
import Derived.Test.YtakpcpbhlohmiaaOpens
namespace Go.Proofs.Ytakpcpbhlohmiaa.K
open Go.RowKit Go.Proofs.YtakpcpbhlohmiaaW.PrintWords
set_option linter.unusedVariables false
def R59 (x : S59) : Prop := ((Lit.int .i64 x.f0).wf = true) ∧ ((Lit.int .i64 x.f1).wf = true)
theorem opens59 {H : Type} (enc : TypeId × Value → H) : Opens.Opens enc Try.prog k59 59 R59 :=
  Opens.opens_iso (fun (p : (Int) × (Int)) => (⟨p.1, p.2⟩ : S59)) (fun _ => rfl) (Opens.opens_struct Try.underlying59 (Opens.fs_cons rfl (Opens.opens_int Try.underlying3) (by kernel_rfl) (Opens.fs_one rfl (Opens.opens_int Try.underlying3) (by kernel_rfl))) (by kernel_rfl))
end Go.Proofs.Ytakpcpbhlohmiaa.K
