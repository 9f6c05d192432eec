/- The statement of FnExactSourcesOK as plain Lean. -/
import Derived.Test.YtdgaaoeicijemaaZSourcesO
namespace Go.Proofs.Ytdgaaoeicijemaa.Pure
open Go.RowKit Go.Proofs.Ytdgaaoeicijemaa.O Go.Proofs.Ytdgaaoeicijemaa.Lib Go.Proofs.Ytdgaaoeicijemaa.ZNameO Go.Proofs.Ytdgaaoeicijemaa.ZSourcesO Go.Proofs.YtdgaaoeicijemaaW.PrintWords Go.Proofs.YtdgaaoeicijemaaW.PrintLast Go.Proofs.YtdgaaoeicijemaaW.PrintMore

theorem FnExactSourcesOK : laws_FnExactSourcesOK.Pure := by
  intro l0 l1 ⟨hl, hr⟩ ⟨hm, hq⟩
  refine Ev.rounds ?_
  unfold laws_FnExactSourcesOK.f
  obtain ⟨m, e, hb⟩ := sz_source l0 1048576 hl (fun p hp => ⟨(hr p hp).1, (hr p hp).2.2.1, fun q hq => ((hr p hp).2.2.2 q hq).1⟩) (by omega) (by omega)
  refine ev_bind e ?_
  rcases hb with h0 | ⟨h0, h1, h2, h3⟩
  · exact ev_pos h0 (ev_some _)
  · refine ev_neg (by omega) ?_
    obtain ⟨b, e', hb'⟩ := sz_stock l1 m hm (fun p hp => (hq p hp).1) h0 h1
    refine ev_bind e' ?_
    rcases hb' with g0 | ⟨g0, g1, g2⟩
    · exact ev_pos g0 (ev_some _)
    · refine ev_neg (by omega) ?_
      have t0 := to_source l0 (by omega) (fun p hp => by have := h3 p hp; omega)
      have t1 := to_stock l1 (by omega)
      have e0 : (l0.map cvSo).length ≤ 1048576 := by rw [List.length_map]; omega
      have e1 : (l1.map cvSt).length ≤ 1048576 := by rw [List.length_map]; omega
      have e2 : ∀ p ∈ l0.map cvSo, p.f2.length ≤ 1048576 := by
        intro p hp
        obtain ⟨q, hq, rfl⟩ := List.mem_map.1 hp
        have := h3 q hq
        show (q.f2.map cvSt).length ≤ 1048576
        rw [List.length_map]; omega
      have m0 : (l0.map cvSo).length ≤ maxLen := by unfold maxLen; omega
      have m1 : (l1.map cvSt).length ≤ maxLen := by unfold maxLen; omega
      have m2 : ∀ p ∈ l0.map cvSo, p.f2.length ≤ maxLen := fun p hp => by have := e2 p hp; unfold maxLen; omega
      refine ev_bind t0 (ev_bind t1 (ev_bind (src_spec _ _ m0 m1 m2) (ev_bind t0 (ev_bind t1 (ev_bind (src_impl _ _ (by omega) (by omega) (fun p hp => by have := e2 p hp; omega)) ?_)))))
      rw [bne_self_eq_false]
      exact ev_neg (by decide) (ev_bind t0 (ev_bind (eq_source _ m0 m2) (ev_pos rfl (ev_bind t1 (ev_bind (eq_stock _ m1) (ev_pos rfl (ev_some _)))))))
end Go.Proofs.Ytdgaaoeicijemaa.Pure
