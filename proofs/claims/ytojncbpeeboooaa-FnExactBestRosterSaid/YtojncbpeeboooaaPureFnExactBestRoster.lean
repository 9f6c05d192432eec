/- FnExactBestRoster: at every argument the program's BestRoster answers as the reference's, field by field; it writes into no argument and keeps nothing of one.
   For all shifts and workers whose sizes are within the statement's bound. -/
import Derived.Test.YtojncbpeeboooaaZBestRoU
import Derived.Test.YtojncbpeeboooaaZMarkIU
import Derived.Test.YtojncbpeeboooaaZMarkWU
namespace Go.Proofs.Ytojncbpeeboooaa.Pure
open Go.RowKit Go.Proofs.Ytojncbpeeboooaa.U Go.Proofs.Ytojncbpeeboooaa.Lib Go.Proofs.Ytojncbpeeboooaa.ZNameU Go.Proofs.Ytojncbpeeboooaa.ZShiftsU Go.Proofs.Ytojncbpeeboooaa.ZBestRoU Go.Proofs.Ytojncbpeeboooaa.ZMarkIU Go.Proofs.Ytojncbpeeboooaa.ZMarkUU Go.Proofs.Ytojncbpeeboooaa.ZMarkWU Go.Proofs.YtojncbpeeboooaaW.PrintWords Go.Proofs.YtojncbpeeboooaaW.PrintLast Go.Proofs.YtojncbpeeboooaaW.PrintMore
theorem eq_rost (o : List Int) (c : Int) (ho : o.length ≤ maxLen) : Ev (fun k => laws_eqRoster.f k o c o c) true := by
  unfold laws_eqRoster.f
  exact ev_bind (eq_ints o ho) (ev_pos rfl (ev_pos rfl (ev_some _)))
theorem FnExactBestRoster : laws_FnExactBestRoster.Pure := by
  intro l0 l1 ⟨hl, hr⟩ ⟨hm, hq⟩
  refine Ev.rounds ?_
  unfold laws_FnExactBestRoster.f
  obtain ⟨m, e, hb⟩ := sz_shift l0 1048576 hl (fun p hp => (hr p hp).2.2) (by omega) (by omega)
  refine ev_bind e ?_
  rcases hb with h0 | ⟨h0, h1, h2⟩
  · exact ev_pos h0 (ev_some _)
  refine ev_neg (by omega) ?_
  obtain ⟨b, e', hb'⟩ := sz_worker l1 m hm (fun p hp => ⟨(hq p hp).1, (hq p hp).2.2.2.2.1, fun q hq' => (hq p hp).2.2.2.2.2 q hq'⟩) h0 h1
  refine ev_bind e' ?_
  rcases hb' with g0 | ⟨g0, g1, g2, g3⟩
  · exact ev_pos g0 (ev_some _)
  refine ev_neg (by omega) ?_
  have t0 := to_shift l0 (by omega)
  have t1 := to_worker l1 (by omega) (fun p hp => by have := g3 p hp; omega)
  have e0 : (l0.map cvSh).length ≤ 1048576 := by rw [List.length_map]; omega
  have e1 : (l1.map cvWo).length ≤ 1048576 := by rw [List.length_map]; omega
  have e2 : ∀ p ∈ l1.map cvWo, p.f4.length ≤ 1048576 := by
    intro p hp
    obtain ⟨q, hq, rfl⟩ := List.mem_map.1 hp
    have := g3 q hq
    show q.f4.length ≤ 1048576
    omega
  generalize l0.map cvSh = L at t0 e0
  generalize l1.map cvWo = W at t1 e1 e2
  have hs : ∀ p ∈ W, p.f4.length ≤ maxLen := fun p hp => by have := e2 p hp; unfold maxLen; omega
  have ei := best_impl L W e0 e1 hs
  have es := best_spec L W e0 e1 hs
  have ho := best_len L W
  generalize bestB L W = r at ei es ho
  obtain ⟨o, c, d⟩ := r
  dsimp only at ho
  have q := eq_rost o c (by unfold maxLen; omega)
  obtain ⟨z1, hz1⟩ := mark_shift L 1 e0 (by omega) (by omega)
  obtain ⟨u, hu, u0, u1⟩ := marks_ev W (1 + 3 * (L.length : Int)) e2 (by omega) (by omega)
  have k1 := markI_ev o 1 (by omega) (by omega) (by omega)
  have k3 := heldI_ev o 1 (by omega) (by omega) (by omega)
  have hk : Ev (fun k => laws_markRoster.f k o c 1) (1 + (o.length : Int), mkI 1 o) := by
    unfold laws_markRoster.f
    exact ev_bind k1 (ev_some _)
  have hh : Ev (fun k => laws_heldRoster.f k (mkI 1 o) c 1) (1 + (o.length : Int)) := by
    unfold laws_heldRoster.f
    exact ev_bind k3 (ev_neg (by omega) (ev_some _))
  have f2 : Ev (fun k => laws_FnExactBestRoster.j2 k (1 + (o.length : Int)) false (mkI 1 o) c) true := by
    refine Ev.step (f := fun k => (laws_heldRoster.f k (mkI 1 o) c 1).bind fun t383 => (if t383 < 0 then (some false) else (if t383 = 1 + (o.length : Int) then (some true) else (some false)))) (fun k => by simp only [laws_FnExactBestRoster.j2]; rw [if_neg (by simp)]) ?_
    exact ev_bind hh (ev_neg (by omega) (ev_pos rfl (ev_some _)))
  have f1 : Ev (fun k => laws_FnExactBestRoster.j1 k l0 l1 d false o c o c) true := by
    refine Ev.step (f := fun k => (laws_markRoster.f k o c 1).bind fun bt367 => ((laws_heldRoster.f k bt367.2 c 1).bind fun t369 => (if t369 < 0 then (some false) else (if t369 = bt367.1 then ((laws_toShiftS.f k l0).bind fun t370 => ((laws_toWorkerS.f k l1).bind fun t373 => ((impl_BestRoster.f k t370 t373).bind fun bt376 => ((laws_eqRoster.f k bt376.1 bt376.2.1 o c).bind fun t382 => (if t382 = true then (laws_FnExactBestRoster.j2 k bt367.1 (bt376.2.2 != d) bt367.2 c) else (laws_FnExactBestRoster.j2 k bt367.1 true bt367.2 c)))))) else (some false))))) (fun k => by simp only [laws_FnExactBestRoster.j1]; rw [if_neg (by simp)]) ?_
    refine ev_bind hk (ev_bind hh (ev_neg (by omega) (ev_pos rfl (ev_bind t0 (ev_bind t1 (ev_bind ei (ev_bind q (ev_pos rfl ?_))))))))
    show Ev (fun k => laws_FnExactBestRoster.j2 k (1 + (o.length : Int)) (d != d) (mkI 1 o) c) true
    rw [bne_self_eq_false]
    exact f2
  have f0 : Ev (fun k => laws_FnExactBestRoster.j0 k l0 l1 d L W d false o c o c) true := by
    refine Ev.step (f := fun k => (laws_toShiftS.f k l0).bind fun t355 => ((laws_eqShiftS.f k L t355).bind fun t358 => (if t358 = true then ((laws_toWorkerS.f k l1).bind fun t359 => ((laws_eqWorkerS.f k W t359).bind fun t362 => (if t362 = true then ((laws_markShiftS.f k L 1).bind fun bt363 => ((laws_markWorkerS.f k W bt363.1).bind fun t365 => (if t365 < 0 then (laws_FnExactBestRoster.j1 k l0 l1 d true o c o c) else ((laws_eqRoster.f k o c o c).bind fun t366 => (if t366 = true then (laws_FnExactBestRoster.j1 k l0 l1 d (d != d) o c o c) else (laws_FnExactBestRoster.j1 k l0 l1 d true o c o c)))))) else (some false)))) else (some false)))) (fun k => by simp only [laws_FnExactBestRoster.j0]; rw [if_neg (by simp)]) ?_
    refine ev_bind t0 (ev_bind (eq_shift L (by unfold maxLen; omega)) (ev_pos rfl (ev_bind t1 (ev_bind (eq_worker W (by unfold maxLen; omega) hs) (ev_pos rfl (ev_bind hz1 (ev_bind hu (ev_neg (by omega) (ev_bind q (ev_pos rfl ?_))))))))))
    rw [bne_self_eq_false]
    exact f1
  refine ev_bind t0 (ev_bind t1 (ev_bind es (ev_bind t0 (ev_bind t1 (ev_bind ei (ev_bind q (ev_pos rfl ?_)))))))
  show Ev (fun k => laws_FnExactBestRoster.j0 k l0 l1 d L W d (d != d) o c o c) true
  rw [bne_self_eq_false]
  exact f0
end Go.Proofs.Ytojncbpeeboooaa.Pure
