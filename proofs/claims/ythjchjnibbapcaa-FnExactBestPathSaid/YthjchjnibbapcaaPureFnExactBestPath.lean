/- FnExactBestPath: at every argument the program's BestPath answers as the reference's, field by field; it writes into no argument and keeps nothing of one.
   For all halls and picks whose sizes are within the statement's bound. -/
import Derived.Test.YthjchjnibbapcaaZPathK
import Derived.Test.YthjchjnibbapcaaZHalLK
import Derived.Test.YthjchjnibbapcaaZMarkIK
namespace Go.Proofs.Ythjchjnibbapcaa.Pure
open Go.RowKit Go.Proofs.Ythjchjnibbapcaa.K Go.Proofs.Ythjchjnibbapcaa.Lib Go.Proofs.Ythjchjnibbapcaa.ZHalK Go.Proofs.Ythjchjnibbapcaa.ZHalLK Go.Proofs.Ythjchjnibbapcaa.ZPathK Go.Proofs.Ythjchjnibbapcaa.ZMarkIK Go.Proofs.YthjchjnibbapcaaW.PrintWords Go.Proofs.YthjchjnibbapcaaW.PrintLast Go.Proofs.YthjchjnibbapcaaW.PrintMore
theorem FnExactBestPath : laws_FnExactBestPath.Pure := by
  intro x0 l1 _ ⟨hl, _⟩
  refine Ev.rounds ?_
  unfold laws_FnExactBestPath.f
  rcases sz_spots l1 hl with ⟨h1, n, hn, e⟩ | ⟨n, hn, e⟩
  rotate_left
  · simp only [e, Option.bind_some, if_pos hn]; exact ev_some _
  simp only [e, Option.bind_some, if_neg (show ¬ n < 0 by omega), laws_toHall.f]
  have t0 := to_spots l1 h1
  have e0 : (l1.map conv).length ≤ 1048576 := by rw [List.length_map]; omega
  generalize l1.map conv = L at t0 e0
  obtain ⟨a, b, c⟩ := x0
  dsimp only
  have ei := best_impl a b c L (by unfold maxLen; omega)
  have es := best_spec a b c L (by unfold maxLen; omega)
  have hb := best_len a b c L
  generalize bestB a b c L = r at ei es hb
  obtain ⟨o, w, d⟩ := r
  dsimp only at hb
  have q := eq_ints o (by unfold maxLen; omega)
  obtain ⟨u, hu⟩ := markS_ev L e0
  have hk := markI_ev o 1 (by omega) (by omega) (by omega)
  have hh := heldI_ev o 1 (by omega) (by omega) (by omega)
  have f2 : Ev (fun k => laws_FnExactBestPath.j2 k (mkI 1 o) (1 + (o.length : Int)) false) true := by
    refine Ev.step (f := fun k => (laws_heldIntS.f k (mkI 1 o) 1).bind fun t209 => (if t209 < 0 then (some false) else (if t209 = 1 + (o.length : Int) then (some true) else (some false)))) (fun k => by simp only [laws_FnExactBestPath.j2]; rw [if_neg (by simp)]) ?_
    exact ev_bind hh (ev_neg (by omega) (ev_pos rfl (ev_some _)))
  have f1 : Ev (fun k => laws_FnExactBestPath.j1 k l1 o w d o false a b c) true := by
    refine Ev.step (f := fun k => (laws_markIntS.f k o 1).bind fun bt194 => ((laws_heldIntS.f k bt194.2 1).bind fun t196 => (if t196 < 0 then (some false) else (if t196 = bt194.1 then ((laws_toHall.f a b c).bind fun bt197 => ((laws_toSpotS.f k l1).bind fun t200 => ((impl_BestPath.f k bt197.1 bt197.2.1 bt197.2.2 t200).bind fun bt203 => ((laws_eqIntS.f k bt203.1 o).bind fun t208 => (if t208 = true then (if bt203.2.1 = w then (laws_FnExactBestPath.j2 k bt194.2 bt194.1 (bt203.2.2 != d)) else (laws_FnExactBestPath.j2 k bt194.2 bt194.1 true)) else (laws_FnExactBestPath.j2 k bt194.2 bt194.1 true)))))) else (some false))))) (fun k => by simp only [laws_FnExactBestPath.j1]; rw [if_neg (by simp)]) ?_
    refine ev_bind hk (ev_bind hh (ev_neg (by omega) (ev_pos rfl ?_)))
    simp only [laws_toHall.f, Option.bind_some]
    refine ev_bind t0 (ev_bind ei (ev_bind q (ev_pos rfl (ev_pos rfl ?_))))
    rw [bne_self_eq_false]
    exact f2
  have f0 : Ev (fun k => laws_FnExactBestPath.j0 k l1 o w d L o w d false a b c) true := by
    refine Ev.step (f := fun k => (laws_toSpotS.f k l1).bind fun t187 => ((laws_eqSpotS.f k L t187).bind fun t190 => (if t190 = true then ((laws_markSpotS.f k L 1).bind fun bt191 => (if bt191.1 < 0 then (laws_FnExactBestPath.j1 k l1 o w d o true a b c) else ((laws_eqIntS.f k o o).bind fun t193 => (if t193 = true then (if w = w then (laws_FnExactBestPath.j1 k l1 o w d o (d != d) a b c) else (laws_FnExactBestPath.j1 k l1 o w d o true a b c)) else (laws_FnExactBestPath.j1 k l1 o w d o true a b c))))) else (some false)))) (fun k => by simp only [laws_FnExactBestPath.j0]; rw [if_neg (by simp)]) ?_
    refine ev_bind t0 (ev_bind (eq_spots L (by unfold maxLen; omega)) (ev_pos rfl (ev_bind hu (ev_neg (by dsimp only; omega) (ev_bind q (ev_pos rfl (ev_pos rfl ?_)))))))
    rw [bne_self_eq_false]
    exact f1
  refine ev_bind t0 (ev_bind es (ev_bind t0 (ev_bind ei (ev_bind q (ev_pos rfl (ev_pos rfl ?_))))))
  show Ev (fun k => laws_FnExactBestPath.j0 k l1 o w d L o w d (d != d) a b c) true
  rw [bne_self_eq_false]
  exact f0
end Go.Proofs.Ythjchjnibbapcaa.Pure
