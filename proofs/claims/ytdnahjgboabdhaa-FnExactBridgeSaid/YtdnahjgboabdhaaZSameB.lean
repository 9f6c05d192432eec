/- Two floats that are the same; the law's copies and comparisons of floats. -/
import Derived.Test.YtdnahjgboabdhaaLib
import Derived.Test.YtdnahjgboabdhaaFlo
import Derived.Test.YtdnahjgboabdhaaSFnExactBridge
namespace Go.Proofs.Ytdnahjgboabdhaa.ZSameB
open Go.RowKit Go.Proofs.Ytdnahjgboabdhaa.B Go.Proofs.Ytdnahjgboabdhaa.Lib Go.Proofs.Ytdnahjgboabdhaa.Flo Go.Proofs.YtdnahjgboabdhaaW.PrintWords Go.Proofs.YtdnahjgboabdhaaW.PrintLast Go.Proofs.YtdnahjgboabdhaaW.PrintMore

theorem same_ev (x : Nat) : Ev (fun k => laws_sameFloat.f k x x) true := by
  unfold laws_sameFloat.f
  by_cases h : fEq .f64 x x = true
  · refine ev_neg (by rw [ne_not_eq, h]; decide) ?_
    rw [ne_not_eq, h]
    by_cases h0 : fEq .f64 x 0 = true
    · obtain ⟨r, hr⟩ := one_by_zero h0
      refine ev_succ (fun k => ?_)
      simp only [laws_sameFloat.j0, hr, Option.bind_some, h0]
      simp
    · refine ev_succ (fun k => ?_)
      simp only [laws_sameFloat.j0, h, h0]
      simp
  · have hn : fNe .f64 x x = true := by rw [ne_not_eq]; simp [h]
    refine ev_pos hn ?_
    refine ev_succ (fun k => ?_)
    simp only [laws_sameFloat.j0, hn]
    simp
end Go.Proofs.Ytdnahjgboabdhaa.ZSameB
