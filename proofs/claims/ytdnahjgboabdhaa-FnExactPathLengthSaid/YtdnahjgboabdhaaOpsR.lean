-- made by pp.py (wip/tools) out of the translation; Lean checks it
import Derived.Test.YtdnahjgboabdhaaR0
import Derived.Test.YtdnahjgboabdhaaOpens
namespace Go.Proofs.Ytdnahjgboabdhaa.R
open Go.RowKit Go.Proofs.YtdnahjgboabdhaaW.PrintWords
set_option linter.unusedVariables false
def R23 (x : S23) : Prop := ((Lit.int .i64 x.f0).wf = true) ∧ ((Lit.int .i64 x.f1).wf = true) ∧ ((Lit.int .i64 x.f2).wf = true)
theorem opens23 {H : Type} (enc : TypeId × Value → H) : Opens.Opens enc Try.prog k23 23 R23 :=
  Opens.opens_iso (fun (p : (Int) × (Int) × (Int)) => (⟨p.1, p.2.1, p.2.2⟩ : S23)) (fun _ => rfl) (Opens.opens_struct Try.underlying23 (Opens.fs_cons rfl (Opens.opens_int Try.underlying3) (by kernel_rfl) (Opens.fs_cons rfl (Opens.opens_int Try.underlying3) (by kernel_rfl) (Opens.fs_one rfl (Opens.opens_int Try.underlying3) (by kernel_rfl)))) (by kernel_rfl))
def R25 (x : S25) : Prop := ((Lit.int .i64 x.f0).wf = true) ∧ ((Lit.int .i64 x.f1).wf = true)
theorem opens25 {H : Type} (enc : TypeId × Value → H) : Opens.Opens enc Try.prog k25 25 R25 :=
  Opens.opens_iso (fun (p : (Int) × (Int)) => (⟨p.1, p.2⟩ : S25)) (fun _ => rfl) (Opens.opens_struct Try.underlying25 (Opens.fs_cons rfl (Opens.opens_int Try.underlying3) (by kernel_rfl) (Opens.fs_one rfl (Opens.opens_int Try.underlying3) (by kernel_rfl))) (by kernel_rfl))
end Go.Proofs.Ytdnahjgboabdhaa.R
