/- FnExactBestSource: at every argument the program's BestSource answers as the reference's, field by field; it writes into no argument and keeps nothing of one.
   For all sources and wishes whose sizes are within the statement's bound. -/
import Derived.Test.YtojncbpeeboooaaZBestSoV
import Derived.Test.YtojncbpeeboooaaZMarkSV
namespace Go.Proofs.Ytojncbpeeboooaa.Pure
open Go.RowKit Go.Proofs.Ytojncbpeeboooaa.V Go.Proofs.Ytojncbpeeboooaa.Lib Go.Proofs.Ytojncbpeeboooaa.ZNameV Go.Proofs.Ytojncbpeeboooaa.ZSourcesV Go.Proofs.Ytojncbpeeboooaa.ZSrcCV Go.Proofs.Ytojncbpeeboooaa.ZBestSoV Go.Proofs.Ytojncbpeeboooaa.ZMarkIV Go.Proofs.Ytojncbpeeboooaa.ZMarkUV Go.Proofs.Ytojncbpeeboooaa.ZMarkSV Go.Proofs.YtojncbpeeboooaaW.PrintWords Go.Proofs.YtojncbpeeboooaaW.PrintLast Go.Proofs.YtojncbpeeboooaaW.PrintMore
theorem FnExactBestSource : laws_FnExactBestSource.Pure := by
  intro l0 l1 ⟨hl, hr⟩ ⟨hm, hq⟩
  refine Ev.rounds ?_
  unfold laws_FnExactBestSource.f
  obtain ⟨m, e, hb⟩ := sz_source l0 1048576 hl (fun p hp => ⟨(hr p hp).1, (hr p hp).2.2.1, fun q hq => ((hr p hp).2.2.2 q hq).1⟩) (by omega) (by omega)
  refine ev_bind e ?_
  rcases hb with h0 | ⟨h0, h1, h2, h3⟩
  · exact ev_pos h0 (ev_some _)
  refine ev_neg (by omega) ?_
  obtain ⟨b, e', hb'⟩ := sz_stock l1 m hm (fun p hp => (hq p hp).1) h0 h1
  refine ev_bind e' ?_
  rcases hb' with g0 | ⟨g0, g1, g2⟩
  · exact ev_pos g0 (ev_some _)
  refine ev_neg (by omega) ?_
  have t0 := to_source l0 (by omega) (fun p hp => by have := h3 p hp; omega)
  have t1 := to_stock l1 (by omega)
  have e0 : (l0.map cvSo).length ≤ 1048576 := by rw [List.length_map]; omega
  have e1 : (l1.map cvSt).length ≤ 1048576 := by rw [List.length_map]; omega
  have e2 : ∀ p ∈ l0.map cvSo, p.f2.length ≤ 1048576 := by
    intro p hp
    obtain ⟨q, hq, rfl⟩ := List.mem_map.1 hp
    have := h3 q hq
    show (q.f2.map cvSt).length ≤ 1048576
    rw [List.length_map]; omega
  generalize l0.map cvSo = L at t0 e0 e2
  generalize l1.map cvSt = W at t1 e1
  have ei := best_impl L W e0 e1 e2
  have es := best_spec L W e0 e1 e2
  have ho := best_len L W
  generalize bestB L W = r at ei es ho
  obtain ⟨o, n, c, d⟩ := r
  dsimp only at ho
  have q := eq_srcing o n c (by unfold maxLen; omega)
  obtain ⟨u, hu, u0, u1⟩ := marks_ev L 1 e2 (by omega) (by omega)
  obtain ⟨w, hw⟩ := mark_stock W u e1 u0 (by omega)
  have k1 := markI_ev o 1 (by omega) (by omega) (by omega)
  have k3 := heldI_ev o 1 (by omega) (by omega) (by omega)
  have hk : Ev (fun k => laws_markSourcing.f k o n c 1) (1 + (o.length : Int), mkI 1 o) := by
    unfold laws_markSourcing.f
    exact ev_bind k1 (ev_some _)
  have hh : Ev (fun k => laws_heldSourcing.f k (mkI 1 o) n c 1) (1 + (o.length : Int)) := by
    unfold laws_heldSourcing.f
    exact ev_bind k3 (ev_neg (by omega) (ev_some _))
  have f2 : Ev (fun k => laws_FnExactBestSource.j2 k (1 + (o.length : Int)) false (mkI 1 o) n c) true := by
    refine Ev.step (f := fun k => (laws_heldSourcing.f k (mkI 1 o) n c 1).bind fun t409 => (if t409 < 0 then (some false) else (if t409 = 1 + (o.length : Int) then (some true) else (some false)))) (fun k => by simp only [laws_FnExactBestSource.j2]; rw [if_neg (by simp)]) ?_
    exact ev_bind hh (ev_neg (by omega) (ev_pos rfl (ev_some _)))
  have f1 : Ev (fun k => laws_FnExactBestSource.j1 k l0 l1 d false o n c o n c) true := by
    refine Ev.step (f := fun k => (laws_markSourcing.f k o n c 1).bind fun bt392 => ((laws_heldSourcing.f k bt392.2 n c 1).bind fun t394 => (if t394 < 0 then (some false) else (if t394 = bt392.1 then ((laws_toSourceS.f k l0).bind fun t395 => ((laws_toStockedS.f k l1).bind fun t398 => ((impl_BestSource.f k t395 t398).bind fun bt401 => ((laws_eqSourcing.f k bt401.1 bt401.2.1 bt401.2.2.1 o n c).bind fun t408 => (if t408 = true then (laws_FnExactBestSource.j2 k bt392.1 (bt401.2.2.2 != d) bt392.2 n c) else (laws_FnExactBestSource.j2 k bt392.1 true bt392.2 n c)))))) else (some false))))) (fun k => by simp only [laws_FnExactBestSource.j1]; rw [if_neg (by simp)]) ?_
    refine ev_bind hk (ev_bind hh (ev_neg (by omega) (ev_pos rfl (ev_bind t0 (ev_bind t1 (ev_bind ei (ev_bind q (ev_pos rfl ?_))))))))
    show Ev (fun k => laws_FnExactBestSource.j2 k (1 + (o.length : Int)) (d != d) (mkI 1 o) n c) true
    rw [bne_self_eq_false]
    exact f2
  have f0 : Ev (fun k => laws_FnExactBestSource.j0 k l0 l1 d L W d false o n c o n c) true := by
    refine Ev.step (f := fun k => (laws_toSourceS.f k l0).bind fun t380 => ((laws_eqSourceS.f k L t380).bind fun t383 => (if t383 = true then ((laws_toStockedS.f k l1).bind fun t384 => ((laws_eqStockedS.f k W t384).bind fun t387 => (if t387 = true then ((laws_markSourceS.f k L 1).bind fun t388 => ((laws_markStockedS.f k W t388).bind fun bt389 => (if bt389.1 < 0 then (laws_FnExactBestSource.j1 k l0 l1 d true o n c o n c) else ((laws_eqSourcing.f k o n c o n c).bind fun t391 => (if t391 = true then (laws_FnExactBestSource.j1 k l0 l1 d (d != d) o n c o n c) else (laws_FnExactBestSource.j1 k l0 l1 d true o n c o n c)))))) else (some false)))) else (some false)))) (fun k => by simp only [laws_FnExactBestSource.j0]; rw [if_neg (by simp)]) ?_
    refine ev_bind t0 (ev_bind (eq_source L (by unfold maxLen; omega) (fun p hp => by have := e2 p hp; unfold maxLen; omega)) (ev_pos rfl (ev_bind t1 (ev_bind (eq_stock W (by unfold maxLen; omega)) (ev_pos rfl (ev_bind hu (ev_bind hw (ev_neg (by dsimp only; omega) (ev_bind q (ev_pos rfl ?_))))))))))
    rw [bne_self_eq_false]
    exact f1
  refine ev_bind t0 (ev_bind t1 (ev_bind es (ev_bind t0 (ev_bind t1 (ev_bind ei (ev_bind q (ev_pos rfl ?_)))))))
  show Ev (fun k => laws_FnExactBestSource.j0 k l0 l1 d L W d (d != d) o n c o n c) true
  rw [bne_self_eq_false]
  exact f0
end Go.Proofs.Ytojncbpeeboooaa.Pure
