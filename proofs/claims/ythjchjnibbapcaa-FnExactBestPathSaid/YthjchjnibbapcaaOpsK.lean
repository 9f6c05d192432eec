-- made by pp.py (wip/tools) out of the translation; Lean checks it
import Derived.Test.YthjchjnibbapcaaK0
import Derived.Test.YthjchjnibbapcaaOpens
namespace Go.Proofs.Ythjchjnibbapcaa.K
open Go.RowKit Go.Proofs.YthjchjnibbapcaaW.PrintWords
set_option linter.unusedVariables false
def R23 (x : S23) : Prop := ((Lit.int .i64 x.f0).wf = true) ∧ ((Lit.int .i64 x.f1).wf = true) ∧ ((Lit.int .i64 x.f2).wf = true)
theorem opens23 {H : Type} (enc : TypeId × Value → H) : Opens.Opens enc Try.prog k23 23 R23 :=
  Opens.opens_iso (fun (p : (Int) × (Int) × (Int)) => (⟨p.1, p.2.1, p.2.2⟩ : S23)) (fun _ => rfl) (Opens.opens_struct Try.underlying23 (Opens.fs_cons rfl (Opens.opens_int Try.underlying3) (by kernel_rfl) (Opens.fs_cons rfl (Opens.opens_int Try.underlying3) (by kernel_rfl) (Opens.fs_one rfl (Opens.opens_int Try.underlying3) (by kernel_rfl)))) (by kernel_rfl))
def R55 (x : S55) : Prop := ((Lit.int .i64 x.f0).wf = true) ∧ ((Lit.int .i64 x.f1).wf = true)
theorem opens55 {H : Type} (enc : TypeId × Value → H) : Opens.Opens enc Try.prog k55 55 R55 :=
  Opens.opens_iso (fun (p : (Int) × (Int)) => (⟨p.1, p.2⟩ : S55)) (fun _ => rfl) (Opens.opens_struct Try.underlying55 (Opens.fs_cons rfl (Opens.opens_int Try.underlying3) (by kernel_rfl) (Opens.fs_one rfl (Opens.opens_int Try.underlying3) (by kernel_rfl))) (by kernel_rfl))
end Go.Proofs.Ythjchjnibbapcaa.K
