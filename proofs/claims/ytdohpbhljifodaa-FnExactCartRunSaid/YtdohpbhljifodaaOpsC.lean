-- made by pp.py (wip/tools) out of the translation; Lean checks it
import Derived.Test.YtdohpbhljifodaaC0
import Derived.Test.YtdohpbhljifodaaOpens
namespace Go.Proofs.Ytdohpbhljifodaa.C
open Go.RowKit Go.Proofs.YtdohpbhljifodaaW.PrintWords
set_option linter.unusedVariables false
def R60 (x : S60) : Prop := ((Lit.int .i64 x.f0).wf = true) ∧ ((Lit.int .i64 x.f1).wf = true) ∧ ((Lit.int .i64 x.f2).wf = true) ∧ ((Lit.int .i64 x.f3).wf = true)
theorem opens60 {H : Type} (enc : TypeId × Value → H) : Opens.Opens enc Try.prog k60 60 R60 :=
  Opens.opens_iso (fun (p : (Int) × (Int) × (Int) × (Int)) => (⟨p.1, p.2.1, p.2.2.1, p.2.2.2⟩ : S60)) (fun _ => rfl) (Opens.opens_struct Try.underlying60 (Opens.fs_cons rfl (Opens.opens_int Try.underlying3) (by kernel_rfl) (Opens.fs_cons rfl (Opens.opens_int Try.underlying3) (by kernel_rfl) (Opens.fs_cons rfl (Opens.opens_int Try.underlying3) (by kernel_rfl) (Opens.fs_one rfl (Opens.opens_int Try.underlying3) (by kernel_rfl))))) (by kernel_rfl))
end Go.Proofs.Ytdohpbhljifodaa.C
