-- made by pp.py (wip/tools) out of the translation; Lean checks it
import Derived.Test.YtgneodfkfbaoaaaU0
import Derived.Test.YtgneodfkfbaoaaaOpens
namespace Go.Proofs.Ytgneodfkfbaoaaa.U
open Go.RowKit Go.Proofs.YtgneodfkfbaoaaaW.PrintWords
set_option linter.unusedVariables false
def R150 (x : S150) : Prop := ((Lit.int .i64 x.f0).wf = true) ∧ ((Lit.int .i64 x.f1).wf = true) ∧ ((Lit.int .i64 x.f2).wf = true) ∧ ((Lit.int .i64 x.f3).wf = true) ∧ ((Lit.int .i64 x.f4).wf = true)
theorem opens150 {H : Type} (enc : TypeId × Value → H) : Opens.Opens enc Try.prog k150 150 R150 :=
  Opens.opens_iso (fun (p : (Int) × (Int) × (Int) × (Int) × (Int)) => (⟨p.1, p.2.1, p.2.2.1, p.2.2.2.1, p.2.2.2.2⟩ : S150)) (fun _ => rfl) (Opens.opens_struct Try.underlying150 (Opens.fs_cons rfl (Opens.opens_int Try.underlying3) (by kernel_rfl) (Opens.fs_cons rfl (Opens.opens_int Try.underlying3) (by kernel_rfl) (Opens.fs_cons rfl (Opens.opens_int Try.underlying3) (by kernel_rfl) (Opens.fs_cons rfl (Opens.opens_int Try.underlying3) (by kernel_rfl) (Opens.fs_one rfl (Opens.opens_int Try.underlying3) (by kernel_rfl)))))) (by kernel_rfl))
end Go.Proofs.Ytgneodfkfbaoaaa.U
