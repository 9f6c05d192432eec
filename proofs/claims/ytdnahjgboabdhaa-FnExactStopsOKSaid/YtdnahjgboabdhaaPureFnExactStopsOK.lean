/- The statement of FnExactStopsOK as plain Lean: at every list of stops the program's StopsOK answers as the reference's and leaves the list as it was: no condition beyond what the row's reading gives. -/
import Derived.Test.YtdnahjgboabdhaaSFnExactStopsOK
import Derived.Test.YtdnahjgboabdhaaStops
namespace Go.Proofs.Ytdnahjgboabdhaa.Pure
open Go.RowKit Go.Proofs.Ytdnahjgboabdhaa.Q Go.Proofs.Ytdnahjgboabdhaa.Lib Go.Proofs.Ytdnahjgboabdhaa.Stops Go.Proofs.YtdnahjgboabdhaaW.PrintWords Go.Proofs.YtdnahjgboabdhaaW.PrintLast Go.Proofs.YtdnahjgboabdhaaW.PrintMore

theorem FnExactStopsOK : laws_FnExactStopsOK.Pure := by
  intro l0 ⟨hl, _⟩
  refine Ev.rounds ?_
  unfold laws_FnExactStopsOK.f
  rcases sz_stops l0 hl with ⟨hs, n, hn, e⟩ | ⟨n, hn, e⟩
  · simp only [e, Option.bind_some]
    refine ev_neg (by omega) ?_
    have hm : (l0.map conv).length ≤ maxLen := by rw [List.length_map]; exact hl
    refine ev_bind (to_stops l0 hs) (ev_bind (spec_ev _ hm) (ev_bind (to_stops l0 hs) (ev_bind (impl_ev _ hm) ?_)))
    refine ev_neg (by simp) ?_
    refine ev_bind (to_stops l0 hs) (ev_bind (eq_stops _ hm) ?_)
    exact ev_pos rfl (ev_some _)
  · simp only [e, Option.bind_some]
    exact ev_pos hn (ev_some _)
end Go.Proofs.Ytdnahjgboabdhaa.Pure
