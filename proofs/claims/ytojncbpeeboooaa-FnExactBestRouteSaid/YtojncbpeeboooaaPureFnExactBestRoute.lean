/- FnExactBestRoute: at every argument the program's BestRoute answers as the reference's, field by field; it writes into no argument and keeps nothing of one.
   For all stops and minutes whose sizes are within the statement's bound. -/
import Derived.Test.YtojncbpeeboooaaZBestRtT
namespace Go.Proofs.Ytojncbpeeboooaa.Pure
open Go.RowKit Go.Proofs.Ytojncbpeeboooaa.T Go.Proofs.Ytojncbpeeboooaa.Lib Go.Proofs.Ytojncbpeeboooaa.ZStopsT Go.Proofs.Ytojncbpeeboooaa.ZRouteRT Go.Proofs.Ytojncbpeeboooaa.ZMarkIT Go.Proofs.Ytojncbpeeboooaa.ZBestRtT Go.Proofs.YtojncbpeeboooaaW.PrintWords Go.Proofs.YtojncbpeeboooaaW.PrintLast Go.Proofs.YtojncbpeeboooaaW.PrintMore
theorem FnExactBestRoute : laws_FnExactBestRoute.Pure := by
  intro l0 a1 ⟨hl, _⟩ _
  refine Ev.rounds ?_
  unfold laws_FnExactBestRoute.f
  rcases sz_stops l0 hl with ⟨h1, n, hn, e⟩ | ⟨n, hn, e⟩
  rotate_left
  · simp only [e, Option.bind_some, if_pos hn]; exact ev_some _
  simp only [e, Option.bind_some, if_neg (show ¬ n < 0 by omega)]
  have t0 := to_stops l0 h1
  have e0 : (l0.map conv).length ≤ 1048576 := by rw [List.length_map]; omega
  generalize l0.map conv = L at t0 e0
  have ei := best_impl L a1 (by unfold maxLen; omega)
  have es := best_spec L a1 (by unfold maxLen; omega)
  have hb := best_len L a1
  generalize bestB L a1 = r at ei es hb
  obtain ⟨o, b, w, z, d⟩ := r
  dsimp only at hb
  have q := eq_route o b w z (by unfold maxLen; omega) (by unfold maxLen; omega)
  obtain ⟨u, hu⟩ := markS_ev L e0
  have hk := mark_route o b w z (by omega) (by omega)
  have hh := held_route o b w z (by omega) (by omega)
  have f2 : Ev (fun k => laws_FnExactBestRoute.j2 k (1 + (o.length : Int) + (b.length : Int)) false (mkI 1 o) (mkI (1 + (o.length : Int)) b) w z) true := by
    refine Ev.step (f := fun k => (laws_heldRoute.f k (mkI 1 o) (mkI (1 + (o.length : Int)) b) w z 1).bind fun t350 => (if t350 < 0 then (some false) else (if t350 = 1 + (o.length : Int) + (b.length : Int) then (some true) else (some false)))) (fun k => by simp only [laws_FnExactBestRoute.j2]; rw [if_neg (by simp)]) ?_
    exact ev_bind hh (ev_neg (by omega) (ev_pos rfl (ev_some _)))
  have f1 : Ev (fun k => laws_FnExactBestRoute.j1 k l0 a1 d false o b w z o b w z) true := by
    refine Ev.step (f := fun k => (laws_markRoute.f k o b w z 1).bind fun bt332 => ((laws_heldRoute.f k bt332.2.1 bt332.2.2 w z 1).bind fun t335 => (if t335 < 0 then (some false) else (if t335 = bt332.1 then ((laws_toStopS.f k l0).bind fun t336 => ((impl_BestRoute.f k t336 a1).bind fun bt339 => ((laws_eqRoute.f k bt339.1 bt339.2.1 bt339.2.2.1 bt339.2.2.2.1 o b w z).bind fun t349 => (if t349 = true then (laws_FnExactBestRoute.j2 k bt332.1 (bt339.2.2.2.2 != d) bt332.2.1 bt332.2.2 w z) else (laws_FnExactBestRoute.j2 k bt332.1 true bt332.2.1 bt332.2.2 w z))))) else (some false))))) (fun k => by simp only [laws_FnExactBestRoute.j1]; rw [if_neg (by simp)]) ?_
    refine ev_bind hk (ev_bind hh (ev_neg (by omega) (ev_pos rfl (ev_bind t0 (ev_bind ei (ev_bind q (ev_pos rfl ?_)))))))
    show Ev (fun k => laws_FnExactBestRoute.j2 k (1 + (o.length : Int) + (b.length : Int)) (d != d) (mkI 1 o) (mkI (1 + (o.length : Int)) b) w z) true
    rw [bne_self_eq_false]
    exact f2
  have f0 : Ev (fun k => laws_FnExactBestRoute.j0 k l0 a1 d L d false o b w z o b w z) true := by
    refine Ev.step (f := fun k => (laws_toStopS.f k l0).bind fun t325 => ((laws_eqStopS.f k L t325).bind fun t328 => (if t328 = true then ((laws_markStopS.f k L 1).bind fun bt329 => (if bt329.1 < 0 then (laws_FnExactBestRoute.j1 k l0 a1 d true o b w z o b w z) else ((laws_eqRoute.f k o b w z o b w z).bind fun t331 => (if t331 = true then (laws_FnExactBestRoute.j1 k l0 a1 d (d != d) o b w z o b w z) else (laws_FnExactBestRoute.j1 k l0 a1 d true o b w z o b w z))))) else (some false)))) (fun k => by simp only [laws_FnExactBestRoute.j0]; rw [if_neg (by simp)]) ?_
    refine ev_bind t0 (ev_bind (eq_stops L (by unfold maxLen; omega)) (ev_pos rfl (ev_bind hu (ev_neg (by dsimp only; omega) (ev_bind q (ev_pos rfl ?_))))))
    rw [bne_self_eq_false]
    exact f1
  refine ev_bind t0 (ev_bind es (ev_bind t0 (ev_bind ei (ev_bind q (ev_pos rfl ?_)))))
  show Ev (fun k => laws_FnExactBestRoute.j0 k l0 a1 d L d (d != d) o b w z o b w z) true
  rw [bne_self_eq_false]
  exact f0
end Go.Proofs.Ytojncbpeeboooaa.Pure
