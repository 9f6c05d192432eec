-- made by pp.py (wip/tools) out of the translation; Lean checks it
import Derived.Test.YthljgekhknfllaaY0
import Derived.Test.YthljgekhknfllaaOpens
namespace Go.Proofs.Ythljgekhknfllaa.Y
open Go.RowKit Go.Proofs.YthljgekhknfllaaW.PrintWords
set_option linter.unusedVariables false
def R55 (x : S55) : Prop := ((Lit.int .i64 x.f0).wf = true) ∧ (x.f1.size ≤ maxLen) ∧ ((Lit.int .i64 x.f2).wf = true)
theorem opens55 {H : Type} (enc : TypeId × Value → H) : Opens.Opens enc Try.prog k55 55 R55 :=
  Opens.opens_iso (fun (p : (Int) × (ByteArray) × (Int)) => (⟨p.1, p.2.1, p.2.2⟩ : S55)) (fun _ => rfl) (Opens.opens_struct Try.underlying55 (Opens.fs_cons rfl (Opens.opens_int Try.underlying3) (by kernel_rfl) (Opens.fs_cons rfl (Opens.opens_string Try.underlying9) (by kernel_rfl) (Opens.fs_one rfl (Opens.opens_int Try.underlying3) (by kernel_rfl)))) (by kernel_rfl))
end Go.Proofs.Ythljgekhknfllaa.Y
