-- made by pp.py (wip/tools) out of the translation; Lean checks it
import Derived.Test.YtdnahjgboabdhaaB0
import Derived.Test.YtdnahjgboabdhaaOpens
namespace Go.Proofs.Ytdnahjgboabdhaa.B
open Go.RowKit Go.Proofs.YtdnahjgboabdhaaW.PrintWords
set_option linter.unusedVariables false
def R104 (x : S104) : Prop := ((Lit.float .f64 x.f0).wf = true) ∧ ((Lit.float .f64 x.f1).wf = true)
theorem opens104 {H : Type} (enc : TypeId × Value → H) : Opens.Opens enc Try.prog k104 104 R104 :=
  Opens.opens_iso (fun (p : (Nat) × (Nat)) => (⟨p.1, p.2⟩ : S104)) (fun _ => rfl) (Opens.opens_struct Try.underlying104 (Opens.fs_cons rfl (Opens.opens_flt Try.underlying41) (by kernel_rfl) (Opens.fs_one rfl (Opens.opens_flt Try.underlying41) (by kernel_rfl))) (by kernel_rfl))
end Go.Proofs.Ytdnahjgboabdhaa.B
