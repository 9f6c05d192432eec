-- made by pp.py (wip/tools) out of the translation; Lean checks it
import Derived.Test.YtgneodfkfbaoaaaT0
import Derived.Test.YtgneodfkfbaoaaaOpens
namespace Go.Proofs.Ytgneodfkfbaoaaa.T
open Go.RowKit Go.Proofs.YtgneodfkfbaoaaaW.PrintWords
set_option linter.unusedVariables false
def R154 (x : S154) : Prop := ((Lit.int .i64 x.f0).wf = true) ∧ ((Lit.int .i64 x.f1).wf = true) ∧ (x.f2.size ≤ maxLen)
theorem opens154 {H : Type} (enc : TypeId × Value → H) : Opens.Opens enc Try.prog k154 154 R154 :=
  Opens.opens_iso (fun (p : (Int) × (Int) × (ByteArray)) => (⟨p.1, p.2.1, p.2.2⟩ : S154)) (fun _ => rfl) (Opens.opens_struct Try.underlying154 (Opens.fs_cons rfl (Opens.opens_int Try.underlying3) (by kernel_rfl) (Opens.fs_cons rfl (Opens.opens_int Try.underlying3) (by kernel_rfl) (Opens.fs_one rfl (Opens.opens_string Try.underlying9) (by kernel_rfl)))) (by kernel_rfl))
def R156 (x : S156) : Prop := (x.f0.size ≤ maxLen) ∧ ((Lit.int .i64 x.f1).wf = true) ∧ ((Lit.int .i64 x.f2).wf = true) ∧ ((Lit.int .i64 x.f3).wf = true) ∧ (x.f4.length ≤ maxLen ∧ ∀ y0 ∈ x.f4, y0.size ≤ maxLen)
theorem opens156 {H : Type} (enc : TypeId × Value → H) : Opens.Opens enc Try.prog k156 156 R156 :=
  Opens.opens_iso (fun (p : (ByteArray) × (Int) × (Int) × (Int) × (List ByteArray)) => (⟨p.1, p.2.1, p.2.2.1, p.2.2.2.1, p.2.2.2.2⟩ : S156)) (fun _ => rfl) (Opens.opens_struct Try.underlying156 (Opens.fs_cons rfl (Opens.opens_string Try.underlying9) (by kernel_rfl) (Opens.fs_cons rfl (Opens.opens_int Try.underlying3) (by kernel_rfl) (Opens.fs_cons rfl (Opens.opens_int Try.underlying3) (by kernel_rfl) (Opens.fs_cons rfl (Opens.opens_int Try.underlying3) (by kernel_rfl) (Opens.fs_one rfl (Opens.opens_slice Try.underlying99 (Opens.opens_string Try.underlying9) (by kernel_rfl)) (by kernel_rfl)))))) (by kernel_rfl))
end Go.Proofs.Ytgneodfkfbaoaaa.T
