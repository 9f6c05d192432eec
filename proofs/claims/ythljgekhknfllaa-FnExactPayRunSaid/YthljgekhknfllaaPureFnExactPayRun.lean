/- The statement of FnExactPayRun as plain Lean. -/
import Derived.Test.YthljgekhknfllaaZPayMarkY
namespace Go.Proofs.Ythljgekhknfllaa.Pure
open Go.RowKit Go.Proofs.Ythljgekhknfllaa.Y Go.Proofs.Ythljgekhknfllaa.Lib Go.Proofs.Ythljgekhknfllaa.ZPayY Go.Proofs.Ythljgekhknfllaa.ZMarkIY Go.Proofs.Ythljgekhknfllaa.ZPayMarkY Go.Proofs.YthljgekhknfllaaW.PrintWords Go.Proofs.YthljgekhknfllaaW.PrintLast Go.Proofs.YthljgekhknfllaaW.PrintMore

theorem FnExactPayRun : laws_FnExactPayRun.Pure := by
  intro l0 hyp
  have hl : l0.length ≤ maxLen := hyp.1
  have hs : ∀ p ∈ l0, p.f1.size ≤ maxLen := fun p hp => by
    have := hyp.2 p hp
    first | exact this.2.1 | exact this.2.1.1 | exact this.1 | omega
  refine Ev.rounds ?_
  unfold laws_FnExactPayRun.f
  obtain ⟨m, hm, hb⟩ := sz_acts l0 1048576 hl hs (by omega) (by omega)
  refine ev_bind hm ?_
  rcases hb with hb | ⟨h0, _, h2⟩
  · exact ev_pos hb (ev_some _)
  refine ev_neg (by omega) ?_
  have hl2 : l0.length ≤ 1048576 := by omega
  have ts := to_acts l0 hl2
  generalize hL : l0.map cvA = L at ts
  have hLm : L.length ≤ maxLen := by rw [← hL, List.length_map]; exact hl
  have hLs : L.length ≤ 1048576 := by rw [← hL, List.length_map]; exact hl2
  have es := pay_spec L hLm
  have ei := pay_impl L hLm
  have hlen := pay_len L
  generalize payB L = R at es ei hlen
  obtain ⟨c, p, d⟩ := R
  dsimp only at hlen
  have q1 := eq_ints c (by unfold maxLen; omega)
  have q2 := eq_pays p (by unfold maxLen; omega)
  obtain ⟨w, hw⟩ := mark_acts L hLs
  have k1 := markI_ev c 1 (by omega) (by omega) (by omega)
  have k2 := mark_pays p (1 + (c.length : Int)) (by omega) (by omega) (by omega)
  have k3 := heldI_ev c 1 (by omega) (by omega) (by omega)
  have k4 := held_pays p (1 + (c.length : Int)) (by omega) (by omega) (by omega)
  refine ev_bind ts (ev_bind es (ev_bind ts (ev_bind ei (ev_bind q1 (ev_pos rfl (ev_bind q2 (ev_pos rfl ?_)))))))
  show Ev (fun k => laws_FnExactPayRun.j0 k l0 c p d L c p d (d != d)) true
  rw [bne_self_eq_false]
  have e2 : Ev (fun k => laws_FnExactPayRun.j2 k (mkI 1 c) (mkP (1 + (c.length : Int)) p) (1 + (c.length : Int) + 5 * (p.length : Int)) false) true := by
    refine Ev.step (f := fun k => (laws_heldIntS.f k (mkI 1 c) 1).bind fun t298 => (if t298 < 0 then (some false) else ((laws_heldPaymentS.f k (mkP (1 + (c.length : Int)) p) t298).bind fun t299 => (if t299 < 0 then (some false) else (if t299 = 1 + (c.length : Int) + 5 * (p.length : Int) then (some true) else (some false)))))) (fun k => by rw [laws_FnExactPayRun.j2, if_neg (by decide)]) ?_
    exact ev_bind k3 (ev_neg (by omega) (ev_bind k4 (ev_neg (by omega) (ev_pos rfl (ev_some _)))))
  have e1 : Ev (fun k => laws_FnExactPayRun.j1 k l0 c p d c p false) true := by
    refine Ev.step (f := fun k => (laws_markIntS.f k c 1).bind fun bt280 => ((laws_markPaymentS.f k p bt280.1).bind fun bt282 => ((laws_heldIntS.f k bt280.2 1).bind fun t284 => (if t284 < 0 then (some false) else ((laws_heldPaymentS.f k bt282.2 t284).bind fun t285 => (if t285 < 0 then (some false) else (if t285 = bt282.1 then ((laws_toPayActS.f k l0).bind fun t286 => ((impl_PayRun.f k t286).bind fun bt289 => ((laws_eqIntS.f k bt289.1 c).bind fun t296 => (if t296 = true then ((laws_eqPaymentS.f k bt289.2.1 p).bind fun t297 => (if t297 = true then (laws_FnExactPayRun.j2 k bt280.2 bt282.2 bt282.1 (bt289.2.2 != d)) else (laws_FnExactPayRun.j2 k bt280.2 bt282.2 bt282.1 true))) else (laws_FnExactPayRun.j2 k bt280.2 bt282.2 bt282.1 true))))) else (some false)))))))) (fun k => by rw [laws_FnExactPayRun.j1, if_neg (by decide)]) ?_
    refine ev_bind k1 (ev_bind k2 (ev_bind k3 (ev_neg (by omega) (ev_bind k4 (ev_neg (by omega) (ev_pos rfl (ev_bind ts (ev_bind ei (ev_bind q1 (ev_pos rfl (ev_bind q2 (ev_pos rfl ?_))))))))))))
    show Ev (fun k => laws_FnExactPayRun.j2 k (mkI 1 c) (mkP (1 + (c.length : Int)) p) (1 + (c.length : Int) + 5 * (p.length : Int)) (d != d)) true
    rw [bne_self_eq_false]
    exact e2
  refine Ev.step (f := fun k => (laws_toPayActS.f k l0).bind fun t272 => ((laws_eqPayActS.f k L t272).bind fun t275 => (if t275 = true then ((laws_markPayActS.f k L 1).bind fun bt276 => (if bt276.1 < 0 then (laws_FnExactPayRun.j1 k l0 c p d c p true) else ((laws_eqIntS.f k c c).bind fun t278 => (if t278 = true then ((laws_eqPaymentS.f k p p).bind fun t279 => (if t279 = true then (laws_FnExactPayRun.j1 k l0 c p d c p (d != d)) else (laws_FnExactPayRun.j1 k l0 c p d c p true))) else (laws_FnExactPayRun.j1 k l0 c p d c p true))))) else (some false)))) (fun k => by rw [laws_FnExactPayRun.j0, if_neg (by decide)]) ?_
  refine ev_bind ts (ev_bind (eq_acts L hLm) (ev_pos rfl (ev_bind hw (ev_neg (by dsimp only; omega) (ev_bind q1 (ev_pos rfl (ev_bind q2 (ev_pos rfl ?_))))))))
  rw [bne_self_eq_false]
  exact e1
end Go.Proofs.Ythljgekhknfllaa.Pure
