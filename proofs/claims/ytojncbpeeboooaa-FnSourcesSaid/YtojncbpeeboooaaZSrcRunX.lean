/- SourceOf: the program's and the reference's answers are the same, for all arguments. -/
import Derived.Test.YtojncbpeeboooaaZSrcCX
namespace Go.Proofs.Ytojncbpeeboooaa.ZSrcRunX
open Go.RowKit Go.Proofs.Ytojncbpeeboooaa.X Go.Proofs.Ytojncbpeeboooaa.Lib Go.Proofs.Ytojncbpeeboooaa.ZNameX Go.Proofs.Ytojncbpeeboooaa.ZSourcesX Go.Proofs.Ytojncbpeeboooaa.ZSrcOfX Go.Proofs.Ytojncbpeeboooaa.ZSrcCX Go.Proofs.YtojncbpeeboooaaW.PrintWords Go.Proofs.YtojncbpeeboooaaW.PrintLast Go.Proofs.YtojncbpeeboooaaW.PrintMore
theorem from_ev (l : List Int) (lo hi : Int) (hl : l.length ≤ maxLen) : Ev (fun k => impl_areFrom.f k l lo hi) (l.all fun x => decide (lo ≤ x ∧ x ≤ hi)) := by
  unfold impl_areFrom.f
  have hx : Ev (fun k => slices_IndexFunc_at_impl_areFrom_1.f k l lo hi) (fidx (fun x => !decide (lo ≤ x ∧ x ≤ hi)) l 0) := by
    unfold slices_IndexFunc_at_impl_areFrom_1.f
    refine index_ev' l _ (fun k i => slices_IndexFunc_at_impl_areFrom_1.l0 k l (l.length : Int) i lo hi) hl (fun k i x hx => ?_) (fun k => ?_)
    · have := some_lt hx
      have hr : rd l (i : Int) = x := getD_some hx
      simp only [slices_IndexFunc_at_impl_areFrom_1.l0, hr, impl_areFrom_1.f, within_eq, Option.bind_some]
      rw [if_pos (ilt this), if_pos (ige _), if_pos (ilt this)]
    · simp only [slices_IndexFunc_at_impl_areFrom_1.l0]
      rw [if_neg (by omega)]
  have hc : Ev (fun k => slices_ContainsFunc_at_impl_areFrom_1.f k l lo hi) (l.any fun x => !decide (lo ≤ x ∧ x ≤ hi)) := any_of_index hx
  refine ev_bind hc (ev_eq (ev_some _) ?_)
  rw [List.all_eq_not_any_not]
section
variable {L : List Src} {W : List Stk} {F : List Int} {r : Res}
theorem impl_short (h : L.length ≤ 4096 ∧ W.length ≤ 4096 ∧ F.length ≤ 4096) (k0 : Ev (fun k => impl_SourceOf.j0 k L W F false) r) : Ev (fun k => impl_SourceOf.f k L W F) r := by
  unfold impl_SourceOf.f impl_Source.f impl_Stocked_79.f impl_isList_int.f
  simp only [Option.bind_some]
  refine ev_pos (decide_eq_true (by omega)) (ev_pos (decide_eq_true (by omega)) ?_)
  rw [decide_eq_true (show (F.length : Int) ≤ 4096 by omega)]
  exact k0
end
end Go.Proofs.Ytojncbpeeboooaa.ZSrcRunX
