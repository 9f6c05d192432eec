/- FnExactSortRun: at every argument the program's SortRun answers as the reference's, field by field; it writes into no argument and keeps nothing of one.
   For all lanes and parcels whose number is within the statement's bound. -/
import Derived.Test.YtakpcpbhlohmiaaZSortSK
import Derived.Test.YtakpcpbhlohmiaaZMarkIK
namespace Go.Proofs.Ytakpcpbhlohmiaa.Pure
open Go.RowKit Go.Proofs.Ytakpcpbhlohmiaa.K Go.Proofs.Ytakpcpbhlohmiaa.Lib Go.Proofs.Ytakpcpbhlohmiaa.ZSortK Go.Proofs.Ytakpcpbhlohmiaa.ZSortSK Go.Proofs.Ytakpcpbhlohmiaa.ZMarkIK Go.Proofs.YtakpcpbhlohmiaaW.PrintWords Go.Proofs.YtakpcpbhlohmiaaW.PrintLast Go.Proofs.YtakpcpbhlohmiaaW.PrintMore
abbrev La := S59
def cvL (p : La) : Ln := ⟨p.f0, p.f1⟩
theorem to_ints (l : List Int) (hl : l.length ≤ 1048576) : Ev (fun k => laws_toIntS.f k l) l := by
  unfold laws_toIntS.f
  simp only [if_pos (ige _), Int.toNat_natCast, if_pos (show l.length ≤ 35184372088832 by omega)]
  refine ev_eq (to_ev l _ id (fun k out i => laws_toIntS.l0 k l out i) (by unfold maxLen; omega) (fun k out i x hx ho => ?_) (fun k out => ?_)) (List.map_id l)
  · have := some_lt hx
    have hr : rd l (i : Int) = x := getD_some hx
    simp only [laws_toIntS.l0, hr]
    rw [if_pos (ilt this), if_pos (ige _), if_pos (by omega)]; rfl
  · simp only [laws_toIntS.l0]
    rw [if_neg (by omega)]
theorem to_lanes (l : List La) (hl : l.length ≤ 1048576) : Ev (fun k => laws_toLaneS.f k l) (l.map cvL) := by
  unfold laws_toLaneS.f
  simp only [if_pos (ige _), Int.toNat_natCast, if_pos (show l.length ≤ 17592186044416 by omega)]
  refine to_ev l _ cvL (fun k out i => laws_toLaneS.l0 k l out i) (by unfold maxLen; omega) (fun k out i x hx ho => ?_) (fun k out => ?_)
  · have := some_lt hx
    have hr : rd_T59 l (i : Int) = x := getD_some hx
    simp only [laws_toLaneS.l0, hr, laws_toLane.f, Option.bind_some]
    rw [if_pos (ilt this), if_pos (ige _), if_pos (by omega)]; rfl
  · simp only [laws_toLaneS.l0]
    rw [if_neg (by omega)]
theorem eq_lanes (l : List Ln) (hl : l.length ≤ maxLen) : Ev (fun k => laws_eqLaneS.f k l l) true := by
  unfold laws_eqLaneS.f
  simp only [if_true]
  refine ev_eq (all_ev' l (fun _ => true) (fun k i => laws_eqLaneS.l0 k l l i) hl (fun k i x hx => ?_) (fun k => ?_)) (by simp)
  · have := some_lt hx
    simp only [laws_eqLaneS.l0, laws_eqLane.f, if_true, Option.bind_some]
    rw [if_pos (ilt this), if_pos (ige _), if_pos (ilt this)]
  · simp only [laws_eqLaneS.l0]
    rw [if_neg (by omega)]
theorem mark_lanes (l : List Ln) (hl : l.length ≤ 1048576) : ∃ w, Ev (fun k => laws_markLaneS.f k l 1) (1 + 2 * (l.length : Int), w) := by
  unfold laws_markLaneS.f
  have key := down (n := l.length) (P := fun i => ∀ (out : List Ln) (n : Int), out.length = l.length → n = 1 + 2 * (i : Int) → ∃ w, Ev (fun k => laws_markLaneS.l0 k out n (i : Int)) (1 + 2 * (l.length : Int), w)) ?_ ?_ 0 (Nat.zero_le _)
  · exact key l 1 rfl (by omega)
  · intro out n ho hn
    refine ⟨out, ev_succ (fun k => ?_)⟩
    simp only [laws_markLaneS.l0]
    rw [if_neg (by omega), hn]
  · intro i hi ih out n ho hn
    have w1 : wrap64 (n + 1) = n + 1 := w64 (by omega) (by omega)
    have w2 : wrap64 (n + 1 + 1) = n + 1 + 1 := w64 (by omega) (by omega)
    obtain ⟨w, hw⟩ := ih ((out.set i (⟨n, (rd_T32 out (i : Int)).f1⟩ : Ln)).set i (⟨(rd_T32 (out.set i (⟨n, (rd_T32 out (i : Int)).f1⟩ : Ln)) (i : Int)).f0, n + 1⟩ : Ln)) (n + 1 + 1) (by rw [List.length_set, List.length_set]; exact ho) (by omega)
    refine ⟨w, Ev.step (fun k => ?_) hw⟩
    simp only [laws_markLaneS.l0, Option.bind_some, w1, w2, Int.toNat_natCast]
    rw [if_pos (by omega), if_pos (ige _), wrap_succ hi (by unfold maxLen; omega)]
theorem eq_log (t c : Int) (o j : List Int) (ho : o.length ≤ maxLen) (hj : j.length ≤ maxLen) : Ev (fun k => laws_eqSortLog.f k t c o j t c o j) true := by
  unfold laws_eqSortLog.f
  exact ev_pos rfl (ev_pos rfl (ev_bind (eq_ints o ho) (ev_pos rfl (ev_bind (eq_ints j hj) (ev_pos rfl (ev_some _))))))
theorem FnExactSortRun : laws_FnExactSortRun.Pure := by
  intro l0 l1 h0 h1
  refine Ev.rounds ?_
  unfold laws_FnExactSortRun.f
  by_cases c1 : (l1.length : Int) > 1048576
  · exact ev_pos c1 (ev_some _)
  refine ev_neg c1 ?_
  have hm : l0.length ≤ 9223372036854775807 := by have := h0.1; unfold maxLen at this; omega
  have hz : ∃ m, laws_szLaneS.f l0 1048576 = some m ∧ (m < 0 ∨ l0.length ≤ 1048576 ∧ 0 ≤ m) := by
    unfold laws_szLaneS.f
    rw [w64 (by omega) (by omega)]
    by_cases c : (1048576 : Int) - (l0.length : Int) < 0
    · exact ⟨-1, by rw [if_pos c], .inl (by omega)⟩
    · exact ⟨_, by rw [if_neg c], .inr ⟨by omega, by omega⟩⟩
  obtain ⟨m, em, hb⟩ := hz
  simp only [em, Option.bind_some]
  rcases hb with hb | ⟨hl, hm0⟩
  · exact ev_pos hb (ev_some _)
  refine ev_neg (by omega) ?_
  have hp : l1.length ≤ 1048576 := by omega
  have ts := to_lanes l0 hl
  have ti := to_ints l1 hp
  generalize hL : l0.map cvL = L at ts
  have hLs : L.length ≤ 1048576 := by rw [← hL, List.length_map]; exact hl
  obtain ⟨r, ei, es, ho, hj⟩ := sort_both L l1
  obtain ⟨t, c, o, j, d⟩ := r
  dsimp only at ho hj
  have q := eq_log t c o j (by unfold maxLen; omega) (by unfold maxLen; omega)
  obtain ⟨w, hw⟩ := mark_lanes L hLs
  have k0 := markI_ev l1 (1 + 2 * (L.length : Int)) hp (by omega) (by omega)
  have k1 := markI_ev o 1 (by omega) (by omega) (by omega)
  have k2 := markI_ev j (1 + (o.length : Int)) (by omega) (by omega) (by omega)
  have k3 := heldI_ev o 1 (by omega) (by omega) (by omega)
  have k4 := heldI_ev j (1 + (o.length : Int)) (by omega) (by omega) (by omega)
  have hh : Ev (fun k => laws_heldSortLog.f k t c (mkI 1 o) (mkI (1 + (o.length : Int)) j) 1) (1 + (o.length : Int) + (j.length : Int)) := by
    unfold laws_heldSortLog.f
    exact ev_bind k3 (ev_neg (by omega) (ev_bind k4 (ev_neg (by omega) (ev_some _))))
  have hk : Ev (fun k => laws_markSortLog.f k t c o j 1) (1 + (o.length : Int) + (j.length : Int), mkI 1 o, mkI (1 + (o.length : Int)) j) := by
    unfold laws_markSortLog.f
    exact ev_bind k1 (ev_bind k2 (ev_some _))
  have e2 : Ev (fun k => laws_FnExactSortRun.j2 k (1 + (o.length : Int) + (j.length : Int)) false t c (mkI 1 o) (mkI (1 + (o.length : Int)) j)) true := by
    refine Ev.step (f := fun k => (laws_heldSortLog.f k t c (mkI 1 o) (mkI (1 + (o.length : Int)) j) 1).bind fun t312 => (if t312 < 0 then (some false) else (if t312 = 1 + (o.length : Int) + (j.length : Int) then (some true) else (some false)))) (fun k => by simp only [laws_FnExactSortRun.j2]; rw [if_neg (by simp)]) ?_
    exact ev_bind hh (ev_neg (by omega) (ev_pos rfl (ev_some _)))
  have e1 : Ev (fun k => laws_FnExactSortRun.j1 k l0 l1 d false t c o j t c o j) true := by
    refine Ev.step (f := fun k => (laws_markSortLog.f k t c o j 1).bind fun bt291 => ((laws_heldSortLog.f k t c bt291.2.1 bt291.2.2 1).bind fun t294 => (if t294 < 0 then (some false) else (if t294 = bt291.1 then ((laws_toLaneS.f k l0).bind fun t295 => ((laws_toIntS.f k l1).bind fun t298 => ((impl_SortRun.f k t295 t298).bind fun bt301 => ((laws_eqSortLog.f k bt301.1 bt301.2.1 bt301.2.2.1 bt301.2.2.2.1 t c o j).bind fun t311 => (if t311 = true then (laws_FnExactSortRun.j2 k bt291.1 (bt301.2.2.2.2 != d) t c bt291.2.1 bt291.2.2) else (laws_FnExactSortRun.j2 k bt291.1 true t c bt291.2.1 bt291.2.2)))))) else (some false))))) (fun k => by simp only [laws_FnExactSortRun.j1]; rw [if_neg (by simp)]) ?_
    refine ev_bind hk (ev_bind hh (ev_neg (by omega) (ev_pos rfl (ev_bind ts (ev_bind ti (ev_bind ei (ev_bind q (ev_pos rfl ?_))))))))
    show Ev (fun k => laws_FnExactSortRun.j2 k (1 + (o.length : Int) + (j.length : Int)) (d != d) t c (mkI 1 o) (mkI (1 + (o.length : Int)) j)) true
    rw [bne_self_eq_false]
    exact e2
  have e0 : Ev (fun k => laws_FnExactSortRun.j0 k l0 l1 d L l1 d false t c o j t c o j) true := by
    refine Ev.step (f := fun k => (laws_toLaneS.f k l0).bind fun t278 => ((laws_eqLaneS.f k L t278).bind fun t281 => (if t281 = true then ((laws_toIntS.f k l1).bind fun t282 => ((laws_eqIntS.f k l1 t282).bind fun t285 => (if t285 = true then ((laws_markLaneS.f k L 1).bind fun bt286 => ((laws_markIntS.f k l1 bt286.1).bind fun bt288 => (if bt288.1 < 0 then (laws_FnExactSortRun.j1 k l0 l1 d true t c o j t c o j) else ((laws_eqSortLog.f k t c o j t c o j).bind fun t290 => (if t290 = true then (laws_FnExactSortRun.j1 k l0 l1 d (d != d) t c o j t c o j) else (laws_FnExactSortRun.j1 k l0 l1 d true t c o j t c o j)))))) else (some false)))) else (some false)))) (fun k => by simp only [laws_FnExactSortRun.j0]; rw [if_neg (by simp)]) ?_
    refine ev_bind ts (ev_bind (eq_lanes L (by unfold maxLen; omega)) (ev_pos rfl (ev_bind ti (ev_bind (eq_ints l1 (by unfold maxLen; omega)) (ev_pos rfl (ev_bind hw (ev_bind k0 (ev_neg (by dsimp only; omega) (ev_bind q (ev_pos rfl ?_))))))))))
    rw [bne_self_eq_false]
    exact e1
  refine ev_bind ts (ev_bind ti (ev_bind es (ev_bind ts (ev_bind ti (ev_bind ei (ev_bind q (ev_pos rfl ?_)))))))
  show Ev (fun k => laws_FnExactSortRun.j0 k l0 l1 d L l1 d (d != d) t c o j t c o j) true
  rw [bne_self_eq_false]
  exact e0
end Go.Proofs.Ytakpcpbhlohmiaa.Pure
