-- made by pp.py (wip/tools) out of the translation; Lean checks it
import Derived.Test.YtjibigpdbpipcaaL0
import Derived.Test.YtjibigpdbpipcaaOpens
namespace Go.Proofs.Ytjibigpdbpipcaa.L
open Go.RowKit Go.Proofs.YtjibigpdbpipcaaW.PrintWords
set_option linter.unusedVariables false
def R69 (x : S69) : Prop := (x.f0.size ≤ maxLen) ∧ ((Lit.int .i64 x.f1).wf = true)
theorem opens69 {H : Type} (enc : TypeId × Value → H) : Opens.Opens enc Try.prog k69 69 R69 :=
  Opens.opens_iso (fun (p : (ByteArray) × (Int)) => (⟨p.1, p.2⟩ : S69)) (fun _ => rfl) (Opens.opens_struct Try.underlying69 (Opens.fs_cons rfl (Opens.opens_string Try.underlying9) (by kernel_rfl) (Opens.fs_one rfl (Opens.opens_int Try.underlying3) (by kernel_rfl))) (by kernel_rfl))
def R66 (x : S66) : Prop := (x.f0.size ≤ maxLen) ∧ ((Lit.int .i64 x.f1).wf = true) ∧ (x.f2.length ≤ maxLen ∧ ∀ y0 ∈ x.f2, R69 y0)
theorem opens66 {H : Type} (enc : TypeId × Value → H) : Opens.Opens enc Try.prog k66 66 R66 :=
  Opens.opens_iso (fun (p : (ByteArray) × (Int) × (List (S69))) => (⟨p.1, p.2.1, p.2.2⟩ : S66)) (fun _ => rfl) (Opens.opens_struct Try.underlying66 (Opens.fs_cons rfl (Opens.opens_string Try.underlying9) (by kernel_rfl) (Opens.fs_cons rfl (Opens.opens_int Try.underlying3) (by kernel_rfl) (Opens.fs_one rfl (Opens.opens_slice Try.underlying23 (opens69 enc) (by kernel_rfl)) (by kernel_rfl)))) (by kernel_rfl))
end Go.Proofs.Ytjibigpdbpipcaa.L
