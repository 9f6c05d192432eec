/- FnExactStockRun: at every list of acts the program's StockRun answers as the reference's, field by field; it writes into no argument and keeps nothing of one.
   For all lists of acts whose sizes are within the statement's bound. -/
import Derived.Test.YtnkceaibkfbeaaaZStockME
namespace Go.Proofs.Ytnkceaibkfbeaaa.Pure
open Go.RowKit Go.Proofs.Ytnkceaibkfbeaaa.E Go.Proofs.Ytnkceaibkfbeaaa.Lib Go.Proofs.Ytnkceaibkfbeaaa.ZStockAE Go.Proofs.Ytnkceaibkfbeaaa.ZStockRE Go.Proofs.Ytnkceaibkfbeaaa.ZStockME Go.Proofs.YtnkceaibkfbeaaaW.PrintWords Go.Proofs.YtnkceaibkfbeaaaW.PrintLast Go.Proofs.YtnkceaibkfbeaaaW.PrintMore

theorem FnExactStockRun : laws_FnExactStockRun.Pure := by
  intro l0 hyp
  have hl : l0.length ≤ maxLen := hyp.1
  refine Ev.rounds ?_
  unfold laws_FnExactStockRun.f
  obtain ⟨m, hm, hb⟩ := sz_acts l0 hl (fun p hp => (hyp.2 p hp).2.1)
  rcases hb with hb | ⟨h0, h2⟩
  · exact ev_bind hm (ev_pos hb (ev_some _))
  refine ev_bind hm (ev_neg (by omega) ?_)
  have hl2 : l0.length ≤ 1048576 := by omega
  have ts := to_acts l0 hl2
  generalize hL : l0.map cvA = L at ts
  have hLm : L.length ≤ maxLen := by rw [← hL, List.length_map]; exact hl
  have hLs : L.length ≤ 1048576 := by rw [← hL, List.length_map]; exact hl2
  obtain ⟨o, a, b, c, d, e, h, r, ei, es, lo, lh⟩ := stock_both L
  have q1 := eq_obs o (by unfold maxLen; omega)
  have q2 := eq_stock a b c d e h (by unfold maxLen; omega)
  obtain ⟨w, hw⟩ := mark_acts L hLs
  have k1 := mark_obs o 1 (by omega) (by omega) (by omega)
  have k2 := mark_stock a b c d e h (1 + 2 * (o.length : Int)) (by omega) (by omega) (by omega)
  have k3 := held_obs o 1 (by omega) (by omega) (by omega)
  have k4 := held_stock a b c d e h (1 + 2 * (o.length : Int)) (by omega) (by omega) (by omega)
  refine ev_bind ts (ev_bind es (ev_bind ts (ev_bind ei (ev_bind q1 (ev_pos rfl (ev_bind q2 (ev_pos rfl ?_)))))))
  show Ev (fun k => laws_FnExactStockRun.j0 k l0 o r L o r (r != r) a b c d e h a b c d e h) true
  rw [bne_self_eq_false]
  have e2 : Ev (fun k => laws_FnExactStockRun.j2 k (mkO 1 o) (1 + 2 * (o.length : Int) + 5 * (h.length : Int)) false a b c d e (mkL (1 + 2 * (o.length : Int)) h)) true := by
    refine Ev.step (f := fun k => (laws_heldStockObsS.f k (mkO 1 o) 1).bind fun t => (if t < 0 then (some false) else ((laws_heldStock.f k a b c d e (mkL (1 + 2 * (o.length : Int)) h) t).bind fun t2 => (if t2 < 0 then (some false) else (if t2 = 1 + 2 * (o.length : Int) + 5 * (h.length : Int) then (some true) else (some false)))))) (fun k => by rw [laws_FnExactStockRun.j2, if_neg (by decide)]) ?_
    exact ev_bind k3 (ev_neg (by omega) (ev_bind k4 (ev_neg (by omega) (ev_pos rfl (ev_some _)))))
  have e1 : Ev (fun k => laws_FnExactStockRun.j1 k l0 o r o false a b c d e h a b c d e h) true := by
    refine Ev.step (f := fun k => ((laws_markStockObsS.f k o 1).bind fun bt1 => ((laws_markStock.f k a b c d e h bt1.1).bind fun bt2 => ((laws_heldStockObsS.f k bt1.2 1).bind fun t => (if t < 0 then (some false) else ((laws_heldStock.f k a b c d e bt2.2 t).bind fun t2 => (if t2 < 0 then (some false) else (if t2 = bt2.1 then ((laws_toStockActS.f k l0).bind fun t3 => ((impl_StockRun.f k t3).bind fun bt3 => ((laws_eqStockObsS.f k bt3.1 o).bind fun t4 => (if t4 = true then ((laws_eqStock.f k bt3.2.1 bt3.2.2.1 bt3.2.2.2.1 bt3.2.2.2.2.1 bt3.2.2.2.2.2.1 bt3.2.2.2.2.2.2.1 a b c d e h).bind fun t5 => (if t5 = true then (laws_FnExactStockRun.j2 k bt1.2 bt2.1 (bt3.2.2.2.2.2.2.2 != r) a b c d e bt2.2) else (laws_FnExactStockRun.j2 k bt1.2 bt2.1 true a b c d e bt2.2))) else (laws_FnExactStockRun.j2 k bt1.2 bt2.1 true a b c d e bt2.2))))) else (some false))))))))) (fun k => by rw [laws_FnExactStockRun.j1, if_neg (by decide)]) ?_
    refine ev_bind k1 (ev_bind k2 (ev_bind k3 (ev_neg (by omega) (ev_bind k4 (ev_neg (by omega) (ev_pos rfl (ev_bind ts (ev_bind ei (ev_bind q1 (ev_pos rfl (ev_bind q2 (ev_pos rfl ?_))))))))))))
    show Ev (fun k => laws_FnExactStockRun.j2 k (mkO 1 o) (1 + 2 * (o.length : Int) + 5 * (h.length : Int)) (r != r) a b c d e (mkL (1 + 2 * (o.length : Int)) h)) true
    rw [bne_self_eq_false]
    exact e2
  refine Ev.step (f := fun k => ((laws_toStockActS.f k l0).bind fun t => ((laws_eqStockActS.f k L t).bind fun t2 => (if t2 = true then ((laws_markStockActS.f k L 1).bind fun bt => (if bt.1 < 0 then (laws_FnExactStockRun.j1 k l0 o r o true a b c d e h a b c d e h) else ((laws_eqStockObsS.f k o o).bind fun t3 => (if t3 = true then ((laws_eqStock.f k a b c d e h a b c d e h).bind fun t4 => (if t4 = true then (laws_FnExactStockRun.j1 k l0 o r o (r != r) a b c d e h a b c d e h) else (laws_FnExactStockRun.j1 k l0 o r o true a b c d e h a b c d e h))) else (laws_FnExactStockRun.j1 k l0 o r o true a b c d e h a b c d e h))))) else (some false))))) (fun k => by rw [laws_FnExactStockRun.j0, if_neg (by decide)]) ?_
  refine ev_bind ts (ev_bind (eq_acts L hLm) (ev_pos rfl (ev_bind hw (ev_neg (by dsimp only; omega) (ev_bind q1 (ev_pos rfl (ev_bind q2 (ev_pos rfl ?_))))))))
  rw [bne_self_eq_false]
  exact e1
end Go.Proofs.Ytnkceaibkfbeaaa.Pure
