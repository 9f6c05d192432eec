/- FnExactLedgerOf: at every list of events the program's LedgerOf answers as the reference's, field by field; it writes into no argument and keeps nothing of one.
   For all lists of events whose sizes are within the statement's bound. -/
import Derived.Test.YtoibmbkmpadmnaaZLedMG
namespace Go.Proofs.Ytoibmbkmpadmnaa.Pure
open Go.RowKit Go.Proofs.Ytoibmbkmpadmnaa.G Go.Proofs.Ytoibmbkmpadmnaa.Lib Go.Proofs.Ytoibmbkmpadmnaa.ZNamG Go.Proofs.Ytoibmbkmpadmnaa.ZLedEG Go.Proofs.Ytoibmbkmpadmnaa.ZLedRG Go.Proofs.Ytoibmbkmpadmnaa.ZLedMG Go.Proofs.Ytoibmbkmpadmnaa.ZMarkIG Go.Proofs.YtoibmbkmpadmnaaW.PrintWords Go.Proofs.YtoibmbkmpadmnaaW.PrintLast Go.Proofs.YtoibmbkmpadmnaaW.PrintMore
theorem FnExactLedgerOf : laws_FnExactLedgerOf.Pure := by
  intro l0 hyp
  have hl : l0.length ≤ maxLen := hyp.1
  refine Ev.rounds ?_
  unfold laws_FnExactLedgerOf.f
  obtain ⟨m, hm, hb⟩ := sz_events l0 hl (fun p hp => (hyp.2 p hp).2.2.2.2.1)
  rcases hb with hb | ⟨h0, h2⟩
  · exact ev_bind hm (ev_pos hb (ev_some _))
  refine ev_bind hm (ev_neg (by omega) ?_)
  have hl2 : l0.length ≤ 1048576 := by omega
  have ts := to_events l0 hl2
  generalize hL : l0.map cvE = L at ts
  have hLm : L.length ≤ maxLen := by rw [← hL, List.length_map]; exact hl
  have hLs : L.length ≤ 1048576 := by rw [← hL, List.length_map]; exact hl2
  have ei := led_impl L
  have es := led_spec L hLm
  have hn := led_len L
  generalize ledB L = r at ei es hn
  obtain ⟨a, b, c, d⟩ := r
  dsimp only at hn
  obtain ⟨ha, hb', hc⟩ := hn
  have q := eq_led a b c (by unfold maxLen; omega) (by unfold maxLen; omega) (by unfold maxLen; omega)
  obtain ⟨w, hw⟩ := mark_events L hLs
  have hk := mark_led a b c ha hb' hc
  have hh := held_led a b c ha hb' hc
  have e2 : Ev (fun k => laws_FnExactLedgerOf.j2 k (1 + 4 * (a.length : Int) + (b.length : Int) + (c.length : Int)) false (mkC 1 a) (mkT (1 + 4 * (a.length : Int)) b) (mkI (1 + 4 * (a.length : Int) + (b.length : Int)) c)) true := by
    refine Ev.step (f := fun k => (laws_heldLedger.f k (mkC 1 a) (mkT (1 + 4 * (a.length : Int)) b) (mkI (1 + 4 * (a.length : Int) + (b.length : Int)) c) 1).bind fun t => (if t < 0 then (some false) else (if t = 1 + 4 * (a.length : Int) + (b.length : Int) + (c.length : Int) then (some true) else (some false)))) (fun k => by rw [laws_FnExactLedgerOf.j2, if_neg (by decide)]) ?_
    exact ev_bind hh (ev_neg (by omega) (ev_pos rfl (ev_some _)))
  have e1 : Ev (fun k => laws_FnExactLedgerOf.j1 k l0 d false a b c a b c) true := by
    refine Ev.step (f := fun k => (laws_markLedger.f k a b c 1).bind fun bt1 => ((laws_heldLedger.f k bt1.2.1 bt1.2.2.1 bt1.2.2.2 1).bind fun t => (if t < 0 then (some false) else (if t = bt1.1 then ((laws_toEventS.f k l0).bind fun t3 => ((impl_LedgerOf.f k t3).bind fun bt3 => ((laws_eqLedger.f k bt3.1 bt3.2.1 bt3.2.2.1 a b c).bind fun t4 => (if t4 = true then (laws_FnExactLedgerOf.j2 k bt1.1 (bt3.2.2.2 != d) bt1.2.1 bt1.2.2.1 bt1.2.2.2) else (laws_FnExactLedgerOf.j2 k bt1.1 true bt1.2.1 bt1.2.2.1 bt1.2.2.2))))) else (some false))))) (fun k => by rw [laws_FnExactLedgerOf.j1, if_neg (by decide)]) ?_
    refine ev_bind hk (ev_bind hh (ev_neg (by omega) (ev_pos rfl (ev_bind ts (ev_bind ei (ev_bind q (ev_pos rfl ?_)))))))
    show Ev (fun k => laws_FnExactLedgerOf.j2 k (1 + 4 * (a.length : Int) + (b.length : Int) + (c.length : Int)) (d != d) (mkC 1 a) (mkT (1 + 4 * (a.length : Int)) b) (mkI (1 + 4 * (a.length : Int) + (b.length : Int)) c)) true
    rw [bne_self_eq_false]
    exact e2
  refine ev_bind ts (ev_bind es (ev_bind ts (ev_bind ei (ev_bind q (ev_pos rfl ?_)))))
  show Ev (fun k => laws_FnExactLedgerOf.j0 k l0 d L d (d != d) a b c a b c) true
  rw [bne_self_eq_false]
  refine Ev.step (f := fun k => (laws_toEventS.f k l0).bind fun t => ((laws_eqEventS.f k L t).bind fun t2 => (if t2 = true then ((laws_markEventS.f k L 1).bind fun bt => (if bt.1 < 0 then (laws_FnExactLedgerOf.j1 k l0 d true a b c a b c) else ((laws_eqLedger.f k a b c a b c).bind fun t3 => (if t3 = true then (laws_FnExactLedgerOf.j1 k l0 d (d != d) a b c a b c) else (laws_FnExactLedgerOf.j1 k l0 d true a b c a b c))))) else (some false)))) (fun k => by rw [laws_FnExactLedgerOf.j0, if_neg (by decide)]) ?_
  refine ev_bind ts (ev_bind (eq_events L hLm) (ev_pos rfl (ev_bind hw (ev_neg (by dsimp only; omega) (ev_bind q (ev_pos rfl ?_))))))
  rw [bne_self_eq_false]
  exact e1
end Go.Proofs.Ytoibmbkmpadmnaa.Pure
