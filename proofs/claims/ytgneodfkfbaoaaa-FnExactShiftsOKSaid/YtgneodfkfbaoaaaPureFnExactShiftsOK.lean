/- The statement of FnExactShiftsOK as plain Lean. -/
import Derived.Test.YtgneodfkfbaoaaaZShiftsT
namespace Go.Proofs.Ytgneodfkfbaoaaa.Pure
open Go.RowKit Go.Proofs.Ytgneodfkfbaoaaa.T Go.Proofs.Ytgneodfkfbaoaaa.Lib Go.Proofs.Ytgneodfkfbaoaaa.ZNameT Go.Proofs.Ytgneodfkfbaoaaa.ZShiftsT Go.Proofs.YtgneodfkfbaoaaaW.PrintWords Go.Proofs.YtgneodfkfbaoaaaW.PrintLast Go.Proofs.YtgneodfkfbaoaaaW.PrintMore

theorem FnExactShiftsOK : laws_FnExactShiftsOK.Pure := by
  intro l0 l1 ⟨hl, hr⟩ ⟨hm, hq⟩
  refine Ev.rounds ?_
  unfold laws_FnExactShiftsOK.f
  obtain ⟨m, e, hb⟩ := sz_shift l0 1048576 hl (fun p hp => (hr p hp).2.2) (by omega) (by omega)
  refine ev_bind e ?_
  rcases hb with h0 | ⟨h0, h1, h2⟩
  · exact ev_pos h0 (ev_some _)
  · refine ev_neg (by omega) ?_
    obtain ⟨b, e', hb'⟩ := sz_worker l1 m hm (fun p hp => ⟨(hq p hp).1, (hq p hp).2.2.2.2.1, fun q hq' => (hq p hp).2.2.2.2.2 q hq'⟩) h0 h1
    refine ev_bind e' ?_
    rcases hb' with g0 | ⟨g0, g1, g2, g3⟩
    · exact ev_pos g0 (ev_some _)
    · refine ev_neg (by omega) ?_
      have t0 := to_shift l0 (by omega)
      have t1 := to_worker l1 (by omega) (fun p hp => by have := g3 p hp; omega)
      have e0 : (l0.map cvSh).length ≤ 1048576 := by rw [List.length_map]; omega
      have e1 : (l1.map cvWo).length ≤ 1048576 := by rw [List.length_map]; omega
      have e2 : ∀ p ∈ l1.map cvWo, p.f4.length ≤ 1048576 := by
        intro p hp
        obtain ⟨q, hq, rfl⟩ := List.mem_map.1 hp
        have := g3 q hq
        show q.f4.length ≤ 1048576
        omega
      have m0 : (l0.map cvSh).length ≤ maxLen := by unfold maxLen; omega
      have m1 : (l1.map cvWo).length ≤ maxLen := by unfold maxLen; omega
      have m2 : ∀ p ∈ l1.map cvWo, p.f4.length ≤ maxLen := fun p hp => by have := e2 p hp; unfold maxLen; omega
      refine ev_bind t0 (ev_bind t1 (ev_bind (shifts_spec _ _ m0 m1 m2) (ev_bind t0 (ev_bind t1 (ev_bind (shifts_impl _ _ m0 (by omega) m2) ?_)))))
      rw [bne_self_eq_false]
      exact ev_neg (by decide) (ev_bind t0 (ev_bind (eq_shift _ m0) (ev_pos rfl (ev_bind t1 (ev_bind (eq_worker _ m1 m2) (ev_pos rfl (ev_some _)))))))
end Go.Proofs.Ytgneodfkfbaoaaa.Pure
