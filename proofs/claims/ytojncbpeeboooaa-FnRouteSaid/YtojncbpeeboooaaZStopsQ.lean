/- What the program's and the reference's StopsOK come to, at every list of stops; the law's own copies and comparisons of stops. -/
import Derived.Test.YtojncbpeeboooaaLib
import Derived.Test.YtojncbpeeboooaaSFnRoute
namespace Go.Proofs.Ytojncbpeeboooaa.ZStopsQ
open Go.RowKit Go.Proofs.Ytojncbpeeboooaa.Q Go.Proofs.Ytojncbpeeboooaa.Lib Go.Proofs.YtojncbpeeboooaaW.PrintWords Go.Proofs.YtojncbpeeboooaaW.PrintLast Go.Proofs.YtojncbpeeboooaaW.PrintMore

theorem l01In_eq (a b c : Int) : spec_l01In.f a b c = some (decide (b ≤ a ∧ a ≤ c)) := by
  unfold spec_l01In.f
  by_cases h : a ≥ b
  · rw [if_pos h]; simp [h]
  · rw [if_neg h]; simp; omega
theorem within_eq (a b c : Int) : impl_within.f a b c = some (decide (b ≤ a ∧ a ≤ c)) := l01In_eq a b c
def Right (p : S37) : Prop := (-1000 ≤ p.f0 ∧ p.f0 ≤ 1000) ∧ (-1000 ≤ p.f1 ∧ p.f1 ≤ 1000) ∧ 0 ≤ p.f2 ∧ p.f2 ≤ p.f3 ∧ p.f3 ≤ 100000 ∧ 0 ≤ p.f4 ∧ p.f4 ≤ 1000
instance (p : S37) : Decidable (Right p) := by unfold Right; infer_instance
theorem isStop_eq (p : S37) : impl_isStop.f p.f0 p.f1 p.f2 p.f3 p.f4 = some (decide (Right p)) := by
  unfold impl_isStop.f Right
  simp only [within_eq, Option.bind_some, decide_eq_true_eq]
  repeat' split
  all_goals first | exact sd_t (by omega) | exact sd_f (by omega) | exact sd_d (by omega)
theorem stop1_eq (p : S37) : impl_StopsOK_1.f p.f0 p.f1 p.f2 p.f3 p.f4 = some (!decide (Right p)) := by
  unfold impl_StopsOK_1.f
  rw [isStop_eq]; rfl
def stopsB (l : List S37) : Bool := decide (l.length ≤ 7) && l.all (fun p => decide (Right p))
theorem impl_ev (l : List S37) (hl : l.length ≤ maxLen) : Ev (fun k => impl_StopsOK.f k l) (stopsB l) := by
  unfold impl_StopsOK.f
  by_cases h : (l.length : Int) ≤ 7
  · simp only [if_pos h]
    have hi : Ev (fun k => slices_IndexFunc_at_impl_StopsOK_1.f k l) (fidx (fun p => !decide (Right p)) l 0) := by
      unfold slices_IndexFunc_at_impl_StopsOK_1.f
      refine index_ev' l _ (fun k i => slices_IndexFunc_at_impl_StopsOK_1.l0 k l (l.length : Int) i) hl (fun k i x hx => ?_) (fun k => ?_)
      · have := some_lt hx
        simp only [slices_IndexFunc_at_impl_StopsOK_1.l0, rd_T37]
        rw [if_pos (ilt this), if_pos (ige _), if_pos (ilt this), getD_some hx, stop1_eq]; rfl
      · simp only [slices_IndexFunc_at_impl_StopsOK_1.l0]
        rw [if_neg (by omega)]
    have hc : Ev (fun k => slices_ContainsFunc_at_impl_StopsOK_1.f k l) (l.any (fun p => !decide (Right p))) := any_of_index hi
    refine ev_bind hc (ev_eq (ev_some _) ?_)
    unfold stopsB
    rw [decide_eq_true (show l.length ≤ 7 by omega), Bool.true_and, List.all_eq_not_any_not]
  · simp only [if_neg h]
    refine ev_eq (ev_some _) ?_
    unfold stopsB
    rw [decide_eq_false (show ¬ l.length ≤ 7 by omega), Bool.false_and]
theorem spec_ev (l : List S37) (hl : l.length ≤ maxLen) : Ev (fun k => spec_StopsOK.f k l) (stopsB l) := by
  unfold spec_StopsOK.f
  by_cases h : (l.length : Int) > 7
  · simp only [if_pos h]
    refine ev_eq (ev_some _) ?_
    unfold stopsB
    rw [decide_eq_false (show ¬ l.length ≤ 7 by omega), Bool.false_and]
  · simp only [if_neg h]
    refine ev_eq (all_ev' l (fun p => decide (Right p)) (fun k i => spec_StopsOK.l0 k l i) hl (fun k i x hx => ?_) (fun k => ?_)) ?_
    · have := some_lt hx
      have hr : rd_T37 l (i : Int) = x := getD_some hx
      simp only [spec_StopsOK.l0, hr, l01In_eq, Option.bind_some, decide_eq_true_eq]
      rw [if_pos (ilt this), if_pos (ige _)]
      by_cases hR : Right x
      · rw [if_pos hR]
        obtain ⟨h0, h1, h2, h3, h4, h5⟩ := hR
        rw [if_pos h0, if_pos h1, if_neg (by omega), if_neg (by omega), if_neg (by omega), if_pos h5]
      · rw [if_neg hR]
        unfold Right at hR
        repeat' split
        all_goals first | rfl | (exfalso; omega)
    · simp only [spec_StopsOK.l0]
      rw [if_neg (by omega)]
    · unfold stopsB
      rw [decide_eq_true (show l.length ≤ 7 by omega), Bool.true_and]
end Go.Proofs.Ytojncbpeeboooaa.ZStopsQ
