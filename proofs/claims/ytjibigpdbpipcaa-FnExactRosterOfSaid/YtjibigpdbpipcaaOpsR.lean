-- made by pp.py (wip/tools) out of the translation; Lean checks it
import Derived.Test.YtjibigpdbpipcaaR0
import Derived.Test.YtjibigpdbpipcaaOpens
namespace Go.Proofs.Ytjibigpdbpipcaa.R
open Go.RowKit Go.Proofs.YtjibigpdbpipcaaW.PrintWords
set_option linter.unusedVariables false
def R90 (x : S90) : Prop := ((Lit.int .i64 x.f0).wf = true) ∧ ((Lit.int .i64 x.f1).wf = true) ∧ (x.f2.size ≤ maxLen)
theorem opens90 {H : Type} (enc : TypeId × Value → H) : Opens.Opens enc Try.prog k90 90 R90 :=
  Opens.opens_iso (fun (p : (Int) × (Int) × (ByteArray)) => (⟨p.1, p.2.1, p.2.2⟩ : S90)) (fun _ => rfl) (Opens.opens_struct Try.underlying90 (Opens.fs_cons rfl (Opens.opens_int Try.underlying3) (by kernel_rfl) (Opens.fs_cons rfl (Opens.opens_int Try.underlying3) (by kernel_rfl) (Opens.fs_one rfl (Opens.opens_string Try.underlying9) (by kernel_rfl)))) (by kernel_rfl))
def R94 (x : S94) : Prop := (x.f0.size ≤ maxLen) ∧ ((Lit.int .i64 x.f1).wf = true) ∧ ((Lit.int .i64 x.f2).wf = true) ∧ ((Lit.int .i64 x.f3).wf = true) ∧ (x.f4.length ≤ maxLen ∧ ∀ y0 ∈ x.f4, y0.size ≤ maxLen)
theorem opens94 {H : Type} (enc : TypeId × Value → H) : Opens.Opens enc Try.prog k94 94 R94 :=
  Opens.opens_iso (fun (p : (ByteArray) × (Int) × (Int) × (Int) × (List ByteArray)) => (⟨p.1, p.2.1, p.2.2.1, p.2.2.2.1, p.2.2.2.2⟩ : S94)) (fun _ => rfl) (Opens.opens_struct Try.underlying94 (Opens.fs_cons rfl (Opens.opens_string Try.underlying9) (by kernel_rfl) (Opens.fs_cons rfl (Opens.opens_int Try.underlying3) (by kernel_rfl) (Opens.fs_cons rfl (Opens.opens_int Try.underlying3) (by kernel_rfl) (Opens.fs_cons rfl (Opens.opens_int Try.underlying3) (by kernel_rfl) (Opens.fs_one rfl (Opens.opens_slice Try.underlying92 (Opens.opens_string Try.underlying9) (by kernel_rfl)) (by kernel_rfl)))))) (by kernel_rfl))
end Go.Proofs.Ytjibigpdbpipcaa.R
