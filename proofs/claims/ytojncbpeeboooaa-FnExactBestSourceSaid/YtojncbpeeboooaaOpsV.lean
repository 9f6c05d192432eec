-- made by pp.py (wip/tools) out of the translation; Lean checks it
import Derived.Test.YtojncbpeeboooaaV0
import Derived.Test.YtojncbpeeboooaaOpens
namespace Go.Proofs.Ytojncbpeeboooaa.V
open Go.RowKit Go.Proofs.YtojncbpeeboooaaW.PrintWords
set_option linter.unusedVariables false
def R153 (x : S153) : Prop := (x.f0.size ≤ maxLen) ∧ ((Lit.int .i64 x.f1).wf = true)
theorem opens153 {H : Type} (enc : TypeId × Value → H) : Opens.Opens enc Try.prog k153 153 R153 :=
  Opens.opens_iso (fun (p : (ByteArray) × (Int)) => (⟨p.1, p.2⟩ : S153)) (fun _ => rfl) (Opens.opens_struct Try.underlying153 (Opens.fs_cons rfl (Opens.opens_string Try.underlying9) (by kernel_rfl) (Opens.fs_one rfl (Opens.opens_int Try.underlying3) (by kernel_rfl))) (by kernel_rfl))
def R151 (x : S151) : Prop := (x.f0.size ≤ maxLen) ∧ ((Lit.int .i64 x.f1).wf = true) ∧ (x.f2.length ≤ maxLen ∧ ∀ y0 ∈ x.f2, R153 y0)
theorem opens151 {H : Type} (enc : TypeId × Value → H) : Opens.Opens enc Try.prog k151 151 R151 :=
  Opens.opens_iso (fun (p : (ByteArray) × (Int) × (List (S153))) => (⟨p.1, p.2.1, p.2.2⟩ : S151)) (fun _ => rfl) (Opens.opens_struct Try.underlying151 (Opens.fs_cons rfl (Opens.opens_string Try.underlying9) (by kernel_rfl) (Opens.fs_cons rfl (Opens.opens_int Try.underlying3) (by kernel_rfl) (Opens.fs_one rfl (Opens.opens_slice Try.underlying74 (opens153 enc) (by kernel_rfl)) (by kernel_rfl)))) (by kernel_rfl))
end Go.Proofs.Ytojncbpeeboooaa.V
