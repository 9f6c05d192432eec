/- SourceOf: what its law and BestSource's share. -/
import Derived.Test.YtojncbpeeboooaaZSrcOfX
namespace Go.Proofs.Ytojncbpeeboooaa.ZSrcCX
open Go.RowKit Go.Proofs.Ytojncbpeeboooaa.X Go.Proofs.Ytojncbpeeboooaa.Lib Go.Proofs.Ytojncbpeeboooaa.ZNameX Go.Proofs.Ytojncbpeeboooaa.ZSourcesX Go.Proofs.Ytojncbpeeboooaa.ZSrcOfX Go.Proofs.YtojncbpeeboooaaW.PrintWords Go.Proofs.YtojncbpeeboooaaW.PrintLast Go.Proofs.YtojncbpeeboooaaW.PrintMore
abbrev Res := List Int × Int × Int × Int
def eR (n : Int) : Res := (([] : List Int), 0, 0, n)
def okF (L : List Src) (p : Int) : Bool := decide (0 ≤ p ∧ p ≤ wrap64 ((L.length : Int) - 1))
section
variable {L : List Src} {W : List Stk} {F : List Int} {r : Res}
theorem sfrom_ev (hF : F.length ≤ 4096) (used : List Bool) (h1 : F.all (okF L) = true → Ev (fun k => spec_SourceOf.l1 k L W F used ((0 : Nat) : Int) [] 0 0) r) (h2 : F.all (okF L) = false → r = eR 3) : Ev (fun k => spec_SourceOf.l0 k L W F used 0 0 0) r := by
  have key := down_list F (P := fun i => ((F.drop i).all (okF L) = true → Ev (fun k => spec_SourceOf.l1 k L W F used ((0 : Nat) : Int) [] 0 0) r) → ((F.drop i).all (okF L) = false → r = eR 3) → Ev (fun k => spec_SourceOf.l0 k L W F used (i : Int) 0 0) r) ?_ ?_
  · exact key h1 h2
  · intro g _
    rw [List.drop_length] at g
    refine Ev.step (fun k => ?_) (g rfl)
    simp only [spec_SourceOf.l0]
    rw [if_neg (by omega)]; rfl
  · intro i p hp hd ih g1 g2
    have hi := some_lt hp
    have hrp : rd F (i : Int) = p := getD_some hp
    rw [hd, List.all_cons] at g1 g2
    by_cases a : 0 ≤ p ∧ p ≤ wrap64 ((L.length : Int) - 1)
    · have ho : okF L p = true := decide_eq_true a
      rw [ho, Bool.true_and] at g1 g2
      refine Ev.step (f := fun k => spec_SourceOf.l0 k L W F used (wrap64 ((i : Int) + 1)) 0 0) (fun k => ?_) ?_
      · simp only [spec_SourceOf.l0, hrp, l01In_eq, Option.bind_some]
        rw [if_pos (ilt hi), if_pos (ige _), if_pos (decide_eq_true a)]
      · rw [wrap_succ hi (by unfold maxLen; omega)]; exact ih g1 g2
    · have ho : okF L p = false := decide_eq_false a
      rw [ho, Bool.false_and] at g2
      rw [g2 rfl]
      refine ev_succ (fun k => ?_)
      simp only [spec_SourceOf.l0, hrp, l01In_eq, Option.bind_some]
      rw [if_pos (ilt hi), if_pos (ige _), if_neg (by simpa using a)]; rfl
end
theorem src_facts {L : List Src} {W : List Stk} (h : srcB L W = true) : L.length ≤ 6 ∧ ∀ p ∈ L, twG (fun x y : Stk => eqS x.f0 y.f0) [] p.f2 = false := by
  unfold srcB at h
  rw [Bool.and_eq_true, Bool.and_eq_true, Bool.and_eq_true] at h
  refine ⟨of_decide_eq_true h.1, fun p hp => ?_⟩
  have h2 := List.all_eq_true.1 h.2.2.1 p hp
  unfold okSo stockB at h2
  rw [Bool.and_eq_true, Bool.and_eq_true, Bool.and_eq_true, Bool.and_eq_true] at h2
  simpa using h2.2.2.2.2
end Go.Proofs.Ytojncbpeeboooaa.ZSrcCX
