-- made by pp.py (wip/tools) out of the translation; Lean checks it
import Derived.Test.YtdgaaoeicijemaaO0
import Derived.Test.YtdgaaoeicijemaaOpens
namespace Go.Proofs.Ytdgaaoeicijemaa.O
open Go.RowKit Go.Proofs.YtdgaaoeicijemaaW.PrintWords
set_option linter.unusedVariables false
def R214 (x : S214) : Prop := (x.f0.size ≤ maxLen) ∧ ((Lit.int .i64 x.f1).wf = true)
theorem opens214 {H : Type} (enc : TypeId × Value → H) : Opens.Opens enc Try.prog k214 214 R214 :=
  Opens.opens_iso (fun (p : (ByteArray) × (Int)) => (⟨p.1, p.2⟩ : S214)) (fun _ => rfl) (Opens.opens_struct Try.underlying214 (Opens.fs_cons rfl (Opens.opens_string Try.underlying9) (by kernel_rfl) (Opens.fs_one rfl (Opens.opens_int Try.underlying3) (by kernel_rfl))) (by kernel_rfl))
def R211 (x : S211) : Prop := (x.f0.size ≤ maxLen) ∧ ((Lit.int .i64 x.f1).wf = true) ∧ (x.f2.length ≤ maxLen ∧ ∀ y0 ∈ x.f2, R214 y0)
theorem opens211 {H : Type} (enc : TypeId × Value → H) : Opens.Opens enc Try.prog k211 211 R211 :=
  Opens.opens_iso (fun (p : (ByteArray) × (Int) × (List (S214))) => (⟨p.1, p.2.1, p.2.2⟩ : S211)) (fun _ => rfl) (Opens.opens_struct Try.underlying211 (Opens.fs_cons rfl (Opens.opens_string Try.underlying9) (by kernel_rfl) (Opens.fs_cons rfl (Opens.opens_int Try.underlying3) (by kernel_rfl) (Opens.fs_one rfl (Opens.opens_slice Try.underlying118 (opens214 enc) (by kernel_rfl)) (by kernel_rfl)))) (by kernel_rfl))
end Go.Proofs.Ytdgaaoeicijemaa.O
