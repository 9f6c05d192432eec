-- made by pp.py (wip/tools) out of the translation; Lean checks it
import Derived.Test.YtojncbpeeboooaaU0
import Derived.Test.YtojncbpeeboooaaOpens
namespace Go.Proofs.Ytojncbpeeboooaa.U
open Go.RowKit Go.Proofs.YtojncbpeeboooaaW.PrintWords
set_option linter.unusedVariables false
def R159 (x : S159) : Prop := ((Lit.int .i64 x.f0).wf = true) ∧ ((Lit.int .i64 x.f1).wf = true) ∧ (x.f2.size ≤ maxLen)
theorem opens159 {H : Type} (enc : TypeId × Value → H) : Opens.Opens enc Try.prog k159 159 R159 :=
  Opens.opens_iso (fun (p : (Int) × (Int) × (ByteArray)) => (⟨p.1, p.2.1, p.2.2⟩ : S159)) (fun _ => rfl) (Opens.opens_struct Try.underlying159 (Opens.fs_cons rfl (Opens.opens_int Try.underlying3) (by kernel_rfl) (Opens.fs_cons rfl (Opens.opens_int Try.underlying3) (by kernel_rfl) (Opens.fs_one rfl (Opens.opens_string Try.underlying9) (by kernel_rfl)))) (by kernel_rfl))
def R161 (x : S161) : Prop := (x.f0.size ≤ maxLen) ∧ ((Lit.int .i64 x.f1).wf = true) ∧ ((Lit.int .i64 x.f2).wf = true) ∧ ((Lit.int .i64 x.f3).wf = true) ∧ (x.f4.length ≤ maxLen ∧ ∀ y0 ∈ x.f4, y0.size ≤ maxLen)
theorem opens161 {H : Type} (enc : TypeId × Value → H) : Opens.Opens enc Try.prog k161 161 R161 :=
  Opens.opens_iso (fun (p : (ByteArray) × (Int) × (Int) × (Int) × (List ByteArray)) => (⟨p.1, p.2.1, p.2.2.1, p.2.2.2.1, p.2.2.2.2⟩ : S161)) (fun _ => rfl) (Opens.opens_struct Try.underlying161 (Opens.fs_cons rfl (Opens.opens_string Try.underlying9) (by kernel_rfl) (Opens.fs_cons rfl (Opens.opens_int Try.underlying3) (by kernel_rfl) (Opens.fs_cons rfl (Opens.opens_int Try.underlying3) (by kernel_rfl) (Opens.fs_cons rfl (Opens.opens_int Try.underlying3) (by kernel_rfl) (Opens.fs_one rfl (Opens.opens_slice Try.underlying70 (Opens.opens_string Try.underlying9) (by kernel_rfl)) (by kernel_rfl)))))) (by kernel_rfl))
end Go.Proofs.Ytojncbpeeboooaa.U
