/- The statement of FnExactCartRun as plain Lean. -/
import Derived.Test.YtdohpbhljifodaaZCartMarkC
namespace Go.Proofs.Ytdohpbhljifodaa.Pure
open Go.RowKit Go.Proofs.Ytdohpbhljifodaa.C Go.Proofs.Ytdohpbhljifodaa.Lib Go.Proofs.Ytdohpbhljifodaa.ZCartsC Go.Proofs.Ytdohpbhljifodaa.ZCartMarkC Go.Proofs.YtdohpbhljifodaaW.PrintWords Go.Proofs.YtdohpbhljifodaaW.PrintLast Go.Proofs.YtdohpbhljifodaaW.PrintMore

theorem FnExactCartRun : laws_FnExactCartRun.Pure := by
  intro a0 l0 _ hyp
  have hl : l0.length ≤ maxLen := hyp.1
  refine Ev.rounds ?_
  unfold laws_FnExactCartRun.f
  obtain ⟨m, hm, hb⟩ := sz_acts l0 hl
  rw [hm]
  simp only [Option.bind_some]
  rcases hb with hb | ⟨h0, h2⟩
  · exact ev_pos hb (ev_some _)
  refine ev_neg (by omega) ?_
  have hl2 : l0.length ≤ 1048576 := by omega
  have ts := to_acts l0 hl2
  generalize hL : l0.map cvA = L at ts
  have hLm : L.length ≤ maxLen := by rw [← hL, List.length_map]; exact hl
  have hLs : L.length ≤ 1048576 := by rw [← hL, List.length_map]; exact hl2
  have es := cart_spec a0 L
  have ei := cart_impl a0 L
  obtain ⟨lo, lh⟩ := cart_len a0 L
  generalize cartB a0 L = R at es ei lo lh
  obtain ⟨o, n, f, s, h, d⟩ := R
  dsimp only at lo lh
  have q1 := eq_obs o (by unfold maxLen; omega)
  have q2 := eq_carts n f s h (by unfold maxLen; omega)
  obtain ⟨w, hw⟩ := mark_acts L hLs
  have k1 := mark_obs o 1 (by omega) (by omega) (by omega)
  have k2 := mark_carts n f s h (1 + 2 * (o.length : Int)) (by omega) (by omega) (by omega)
  have k3 := held_obs o 1 (by omega) (by omega) (by omega)
  have k4 := held_carts n f s h (1 + 2 * (o.length : Int)) (by omega) (by omega) (by omega)
  refine ev_bind ts (ev_bind es (ev_bind ts (ev_bind ei (ev_bind q1 (ev_pos rfl (ev_bind q2 (ev_pos rfl ?_)))))))
  show Ev (fun k => laws_FnExactCartRun.j0 k a0 l0 o d L o d (d != d) n f s h n f s h) true
  rw [bne_self_eq_false]
  have e2 : Ev (fun k => laws_FnExactCartRun.j2 k (mkO 1 o) (1 + 2 * (o.length : Int) + 3 * (h.length : Int)) false n f s (mkH (1 + 2 * (o.length : Int)) h)) true := by
    refine Ev.step (f := fun k => (laws_heldCartObsS.f k (mkO 1 o) 1).bind fun t318 => (if t318 < 0 then (some false) else ((laws_heldCarts.f k n f s (mkH (1 + 2 * (o.length : Int)) h) t318).bind fun t319 => (if t319 < 0 then (some false) else (if t319 = 1 + 2 * (o.length : Int) + 3 * (h.length : Int) then (some true) else (some false)))))) (fun k => by rw [laws_FnExactCartRun.j2, if_neg (by decide)]) ?_
    exact ev_bind k3 (ev_neg (by omega) (ev_bind k4 (ev_neg (by omega) (ev_pos rfl (ev_some _)))))
  have e1 : Ev (fun k => laws_FnExactCartRun.j1 k a0 l0 o d o false n f s h n f s h) true := by
    refine Ev.step (f := fun k => ((laws_markCartObsS.f k o 1).bind fun bt296 => ((laws_markCarts.f k n f s h bt296.1).bind fun bt298 => ((laws_heldCartObsS.f k bt296.2 1).bind fun t300 => (if t300 < 0 then (some false) else ((laws_heldCarts.f k n f s bt298.2 t300).bind fun t301 => (if t301 < 0 then (some false) else (if t301 = bt298.1 then ((laws_toCartActS.f k l0).bind fun t302 => ((impl_CartRun.f k a0 t302).bind fun bt305 => ((laws_eqCartObsS.f k bt305.1 o).bind fun t316 => (if t316 = true then ((laws_eqCarts.f k bt305.2.1 bt305.2.2.1 bt305.2.2.2.1 bt305.2.2.2.2.1 n f s h).bind fun t317 => (if t317 = true then (laws_FnExactCartRun.j2 k bt296.2 bt298.1 (bt305.2.2.2.2.2 != d) n f s bt298.2) else (laws_FnExactCartRun.j2 k bt296.2 bt298.1 true n f s bt298.2))) else (laws_FnExactCartRun.j2 k bt296.2 bt298.1 true n f s bt298.2))))) else (some false))))))))) (fun k => by rw [laws_FnExactCartRun.j1, if_neg (by decide)]) ?_
    refine ev_bind k1 (ev_bind k2 (ev_bind k3 (ev_neg (by omega) (ev_bind k4 (ev_neg (by omega) (ev_pos rfl (ev_bind ts (ev_bind ei (ev_bind q1 (ev_pos rfl (ev_bind q2 (ev_pos rfl ?_))))))))))))
    show Ev (fun k => laws_FnExactCartRun.j2 k (mkO 1 o) (1 + 2 * (o.length : Int) + 3 * (h.length : Int)) (d != d) n f s (mkH (1 + 2 * (o.length : Int)) h)) true
    rw [bne_self_eq_false]
    exact e2
  refine Ev.step (f := fun k => ((laws_toCartActS.f k l0).bind fun t288 => ((laws_eqCartActS.f k L t288).bind fun t291 => (if t291 = true then ((laws_markCartActS.f k L 1).bind fun bt292 => (if bt292.1 < 0 then (laws_FnExactCartRun.j1 k a0 l0 o d o true n f s h n f s h) else ((laws_eqCartObsS.f k o o).bind fun t294 => (if t294 = true then ((laws_eqCarts.f k n f s h n f s h).bind fun t295 => (if t295 = true then (laws_FnExactCartRun.j1 k a0 l0 o d o (d != d) n f s h n f s h) else (laws_FnExactCartRun.j1 k a0 l0 o d o true n f s h n f s h))) else (laws_FnExactCartRun.j1 k a0 l0 o d o true n f s h n f s h))))) else (some false))))) (fun k => by rw [laws_FnExactCartRun.j0, if_neg (by decide)]) ?_
  refine ev_bind ts (ev_bind (eq_acts L hLm) (ev_pos rfl (ev_bind hw (ev_neg (by dsimp only; omega) (ev_bind q1 (ev_pos rfl (ev_bind q2 (ev_pos rfl ?_))))))))
  rw [bne_self_eq_false]
  exact e1
end Go.Proofs.Ytdohpbhljifodaa.Pure
