/- FnExactRosterOf: at every argument the program's RosterOf answers as the reference's, field by field; it writes into no argument and keeps nothing of one.
   For all shifts, workers and lists whose sizes are within the statement's bound. -/
import Derived.Test.YtjibigpdbpipcaaZRostOfR
import Derived.Test.YtjibigpdbpipcaaZMarkIR
import Derived.Test.YtjibigpdbpipcaaZMarkWR
namespace Go.Proofs.Ytjibigpdbpipcaa.Pure
open Go.RowKit Go.Proofs.Ytjibigpdbpipcaa.R Go.Proofs.Ytjibigpdbpipcaa.Lib Go.Proofs.Ytjibigpdbpipcaa.ZNameR Go.Proofs.Ytjibigpdbpipcaa.ZShiftsR Go.Proofs.Ytjibigpdbpipcaa.ZRostOfR Go.Proofs.Ytjibigpdbpipcaa.ZMarkIR Go.Proofs.Ytjibigpdbpipcaa.ZMarkTR Go.Proofs.Ytjibigpdbpipcaa.ZMarkWR Go.Proofs.YtjibigpdbpipcaaW.PrintWords Go.Proofs.YtjibigpdbpipcaaW.PrintLast Go.Proofs.YtjibigpdbpipcaaW.PrintMore
theorem eq_rost (o : List Int) (c : Int) (ho : o.length ≤ maxLen) : Ev (fun k => laws_eqRoster.f k o c o c) true := by
  unfold laws_eqRoster.f
  exact ev_bind (eq_ints o ho) (ev_pos rfl (ev_pos rfl (ev_some _)))
theorem FnExactRosterOf : laws_FnExactRosterOf.Pure := by
  intro l0 l1 l2 ⟨hl, hr⟩ ⟨hm, hq⟩ _
  refine Ev.rounds ?_
  unfold laws_FnExactRosterOf.f
  by_cases c1 : (l2.length : Int) > 1048576
  · exact ev_pos c1 (ev_some _)
  refine ev_neg c1 ?_
  obtain ⟨m, e, hb⟩ := sz_shift l0 1048576 hl (fun p hp => (hr p hp).2.2) (by omega) (by omega)
  refine ev_bind e ?_
  rcases hb with h0 | ⟨h0, h1, h2⟩
  · exact ev_pos h0 (ev_some _)
  refine ev_neg (by omega) ?_
  obtain ⟨b, e', hb'⟩ := sz_worker l1 m hm (fun p hp => ⟨(hq p hp).1, (hq p hp).2.2.2.2.1, fun q hq' => (hq p hp).2.2.2.2.2 q hq'⟩) h0 h1
  refine ev_bind e' ?_
  rcases hb' with g0 | ⟨g0, g1, g2, g3⟩
  · exact ev_pos g0 (ev_some _)
  refine ev_neg (by omega) ?_
  have t0 := to_shift l0 (by omega)
  have t1 := to_worker l1 (by omega) (fun p hp => by have := g3 p hp; omega)
  have t2 := to_ints l2 (by omega)
  have e0 : (l0.map cvSh).length ≤ 1048576 := by rw [List.length_map]; omega
  have e1 : (l1.map cvWo).length ≤ 1048576 := by rw [List.length_map]; omega
  have e2 : ∀ p ∈ l1.map cvWo, p.f4.length ≤ 1048576 := by
    intro p hp
    obtain ⟨q, hq, rfl⟩ := List.mem_map.1 hp
    have := g3 q hq
    show q.f4.length ≤ 1048576
    omega
  generalize l0.map cvSh = L at t0 e0
  generalize l1.map cvWo = W at t1 e1 e2
  obtain ⟨r, ei, es, ho⟩ := roster_both L W l2 e2
  obtain ⟨o, c, d, n⟩ := r
  dsimp only at ho
  have q := eq_rost o c (by unfold maxLen; omega)
  obtain ⟨z1, hz1⟩ := mark_shift L 1 e0 (by omega) (by omega)
  obtain ⟨u, hu, u0, u1⟩ := marks_ev W (1 + 3 * (L.length : Int)) e2 (by omega) (by omega)
  obtain ⟨z, hz⟩ := mark_ints l2 u (by omega) (by omega) (by omega)
  have k1 := markI_ev o 1 (by omega) (by omega) (by omega)
  have k3 := heldI_ev o 1 (by omega) (by omega) (by omega)
  have hk : Ev (fun k => laws_markRoster.f k o c 1) (1 + (o.length : Int), mkI 1 o) := by
    unfold laws_markRoster.f
    exact ev_bind k1 (ev_some _)
  have hh : Ev (fun k => laws_heldRoster.f k (mkI 1 o) c 1) (1 + (o.length : Int)) := by
    unfold laws_heldRoster.f
    exact ev_bind k3 (ev_neg (by omega) (ev_some _))
  have f2 : Ev (fun k => laws_FnExactRosterOf.j2 k (1 + (o.length : Int)) false (mkI 1 o) c) true := by
    refine Ev.step (f := fun k => (laws_heldRoster.f k (mkI 1 o) c 1).bind fun t371 => (if t371 < 0 then (some false) else (if t371 = 1 + (o.length : Int) then (some true) else (some false)))) (fun k => by simp only [laws_FnExactRosterOf.j2]; rw [if_neg (by simp)]) ?_
    exact ev_bind hh (ev_neg (by omega) (ev_pos rfl (ev_some _)))
  have f1 : Ev (fun k => laws_FnExactRosterOf.j1 k l0 l1 l2 d n false o c o c) true := by
    refine Ev.step (f := fun k => (laws_markRoster.f k o c 1).bind fun bt351 => ((laws_heldRoster.f k bt351.2 c 1).bind fun t353 => (if t353 < 0 then (some false) else (if t353 = bt351.1 then ((laws_toShiftS.f k l0).bind fun t354 => ((laws_toWorkerS.f k l1).bind fun t357 => ((laws_toIntS.f k l2).bind fun t360 => ((impl_RosterOf.f k t354 t357 t360).bind fun bt363 => ((laws_eqRoster.f k bt363.1 bt363.2.1 o c).bind fun t370 => (if t370 = true then (if bt363.2.2.1 = d then (laws_FnExactRosterOf.j2 k bt351.1 (bt363.2.2.2 != n) bt351.2 c) else (laws_FnExactRosterOf.j2 k bt351.1 true bt351.2 c)) else (laws_FnExactRosterOf.j2 k bt351.1 true bt351.2 c))))))) else (some false))))) (fun k => by simp only [laws_FnExactRosterOf.j1]; rw [if_neg (by simp)]) ?_
    refine ev_bind hk (ev_bind hh (ev_neg (by omega) (ev_pos rfl (ev_bind t0 (ev_bind t1 (ev_bind t2 (ev_bind ei (ev_bind q (ev_pos rfl (ev_pos rfl ?_))))))))))
    show Ev (fun k => laws_FnExactRosterOf.j2 k (1 + (o.length : Int)) (n != n) (mkI 1 o) c) true
    rw [bne_self_eq_false]
    exact f2
  have f0 : Ev (fun k => laws_FnExactRosterOf.j0 k l0 l1 l2 d n L W l2 d n false o c o c) true := by
    refine Ev.step (f := fun k => (laws_toShiftS.f k l0).bind fun t333 => ((laws_eqShiftS.f k L t333).bind fun t336 => (if t336 = true then ((laws_toWorkerS.f k l1).bind fun t337 => ((laws_eqWorkerS.f k W t337).bind fun t340 => (if t340 = true then ((laws_toIntS.f k l2).bind fun t341 => ((laws_eqIntS.f k l2 t341).bind fun t344 => (if t344 = true then ((laws_markShiftS.f k L 1).bind fun bt345 => ((laws_markWorkerS.f k W bt345.1).bind fun t347 => ((laws_markIntS.f k l2 t347).bind fun bt348 => (if bt348.1 < 0 then (laws_FnExactRosterOf.j1 k l0 l1 l2 d n true o c o c) else ((laws_eqRoster.f k o c o c).bind fun t350 => (if t350 = true then (if d = d then (laws_FnExactRosterOf.j1 k l0 l1 l2 d n (n != n) o c o c) else (laws_FnExactRosterOf.j1 k l0 l1 l2 d n true o c o c)) else (laws_FnExactRosterOf.j1 k l0 l1 l2 d n true o c o c))))))) else (some false)))) else (some false)))) else (some false)))) (fun k => by simp only [laws_FnExactRosterOf.j0]; rw [if_neg (by simp)]) ?_
    refine ev_bind t0 (ev_bind (eq_shift L (by unfold maxLen; omega)) (ev_pos rfl (ev_bind t1 (ev_bind (eq_worker W (by unfold maxLen; omega) (fun p hp => by have := e2 p hp; unfold maxLen; omega)) (ev_pos rfl (ev_bind t2 (ev_bind (eq_ints l2 (by unfold maxLen; omega)) (ev_pos rfl (ev_bind hz1 (ev_bind hu (ev_bind hz (ev_neg (by dsimp only; omega) (ev_bind q (ev_pos rfl (ev_pos rfl ?_)))))))))))))))
    rw [bne_self_eq_false]
    exact f1
  refine ev_bind t0 (ev_bind t1 (ev_bind t2 (ev_bind es (ev_bind t0 (ev_bind t1 (ev_bind t2 (ev_bind ei (ev_bind q (ev_pos rfl (ev_pos rfl ?_))))))))))
  show Ev (fun k => laws_FnExactRosterOf.j0 k l0 l1 l2 d n L W l2 d n (n != n) o c o c) true
  rw [bne_self_eq_false]
  exact f0
end Go.Proofs.Ytjibigpdbpipcaa.Pure
