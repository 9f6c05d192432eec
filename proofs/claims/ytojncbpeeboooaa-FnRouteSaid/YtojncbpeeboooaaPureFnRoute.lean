/- FnRoute: of stops that are drawn, no drawn order is back ahead of the program's route, which keeps all windows and is not back ahead of the bound; with later ends of all windows it is back no later.
   For every code of bytes that is no longer than the bound. -/
import Derived.Test.YtojncbpeeboooaaZRtSpQ
import Derived.Test.YtojncbpeeboooaaZStDrQ
namespace Go.Proofs.Ytojncbpeeboooaa.Pure
open Go.RowKit Go.Proofs.Ytojncbpeeboooaa.Q Go.Proofs.Ytojncbpeeboooaa.Lib Go.Proofs.Ytojncbpeeboooaa.ZStopsQ Go.Proofs.Ytojncbpeeboooaa.ZRouteRQ Go.Proofs.Ytojncbpeeboooaa.ZBestRtQ Go.Proofs.Ytojncbpeeboooaa.ZOrdQ Go.Proofs.Ytojncbpeeboooaa.ZRtMathQ Go.Proofs.Ytojncbpeeboooaa.ZRtSpQ Go.Proofs.Ytojncbpeeboooaa.ZDrawQ Go.Proofs.Ytojncbpeeboooaa.ZStDrQ Go.Proofs.YtojncbpeeboooaaW.PrintWords Go.Proofs.YtojncbpeeboooaaW.PrintLast Go.Proofs.YtojncbpeeboooaaW.PrintMore
theorem byt_of {l : List Int} (h : ∀ y0 ∈ l, (Lit.int .u8 y0).wf = true) : Byt l := by
  intro y hy
  have := h y hy
  unfold Lit.wf at this
  rw [Bool.and_eq_true] at this
  exact ⟨of_decide_eq_true this.1, of_decide_eq_true this.2⟩
theorem same_ints (l : List Int) (hl : l.length ≤ maxLen) : Ev (fun k => laws_sameInts.f k l l) true := by
  unfold laws_sameInts.f
  refine ev_pos rfl ?_
  refine ev_eq (all_ev' l (fun _ => true) (fun k i => laws_sameInts.l0 k l l i) hl (fun k i x hx => ?_) (fun k => ?_)) (by simp)
  · have := some_lt hx
    simp only [laws_sameInts.l0]
    rw [if_pos (ilt this), if_pos (ige _), if_pos (ilt this)]
  · simp only [laws_sameInts.l0]
    rw [if_neg (by omega)]
theorem code_ok {L : List Sp} {a : Int} (hl : L.length ≤ 7) (hR : ∀ p ∈ L, Right p) (ha : 0 ≤ a ∧ a ≤ 100000) : codeB L a = 0 := by
  have hs : stopsB L = true := by
    unfold stopsB
    rw [decide_eq_true hl, List.all_eq_true.2 (fun p hp => decide_eq_true (hR p hp))]; rfl
  unfold codeB
  rw [if_neg (by omega), if_pos hs, if_pos ha]
theorem FnRoute : laws_FnRoute.Pure := by
  intro l0 ⟨_, hb⟩
  refine Ev.rounds ?_
  unfold laws_FnRoute.f
  by_cases c0 : (l0.length : Int) > 1048576
  · exact ev_pos c0 (ev_some _)
  refine ev_neg c0 ?_
  obtain ⟨L, a, F, hE, hD⟩ := stops_ok (byt_of hb)
  have hl5 := hD.len
  have hR : ∀ p ∈ L, Right p := fun p hp => (hD.right p hp).1
  have hc : codeB L a = 0 := code_ok (by omega) hR (by have := hD.beg; omega)
  have ei := best_impl L a (by unfold maxLen; omega)
  have es := best_spec L a (by unfold maxLen; omega)
  have eo := ZStopsQ.impl_ev L (by unfold maxLen; omega)
  rw [show stopsB L = true from by
    unfold stopsB
    rw [decide_eq_true (show L.length ≤ 7 by omega), List.all_eq_true.2 (fun p hp => decide_eq_true (hR p hp))]; rfl] at eo
  generalize hr : routeR L a F = r
  have er := routeOf_ev hc (by omega) hD.ord hr
  -- longer windows
  have hlen' : (L.map lo).length = L.length := List.length_map _
  have hR' : ∀ p ∈ L.map lo, Right p := fun p hp => by
    obtain ⟨q, hq, rfl⟩ := List.mem_map.1 hp
    have h1 := hR q hq
    have h2 := (hD.right q hq).2
    unfold Right at h1 ⊢
    unfold lo
    dsimp only
    rw [w64 (x := q.f3 + 40) (by omega) (by omega)]
    omega
  have hc' : codeB (L.map lo) a = 0 := code_ok (by omega) hR' (by have := hD.beg; omega)
  have em := best_impl (L.map lo) a (by unfold maxLen; omega)
  rcases best_cases hc with ⟨o, t, w, e, eb, g1, g2, g3⟩ | ⟨eb, g⟩
  · rw [eb] at ei
    have e8 := routeOf_ev hc (by omega) g1 g2
    rw [if_pos (show ((o, t, w, e, true) : Rt).2.2.2.2 = true from rfl)] at e8
    obtain ⟨⟨v, hv, hve⟩, ht, hwin⟩ := end_ge hc (by omega) g1 g2
    have hol := g1.len
    have loop : Ev (fun k => laws_FnRoute.l0 k L a [] 0 o t w e) true := by
      have key := down_list L (P := fun i => Ev (fun k => laws_FnRoute.l0 k L a ((L.map lo).take i) (i : Int) o t w e) true) ?_ ?_
      · exact key
      · rw [show (L.map lo).take L.length = L.map lo from List.take_of_length_le (by omega)]
        have hlo : routeR (L.map lo) a o = routeR L a o := run_lo hR o 0 (s0 a) (s0 a) g1.rng rfl rfl rfl rfl rfl (by show (routeR L a o).2.2.2.2 = true; rw [g2])
        have hO' : Ord (L.map lo).length o := by rw [hlen']; exact g1
        rcases best_cases hc' with ⟨o', t', w', e', eb', _, _, k3⟩ | ⟨_, k⟩
        · rw [eb'] at em
          have hle := k3 o hO' (by rw [hlo, g2])
          rw [hlo, g2] at hle
          refine Ev.step (f := fun k => (impl_BestRoute.f k (L.map lo) a).bind fun bt414 => (if bt414.2.2.2.2 = 0 then (some (decide (bt414.2.2.2.1 ≤ e))) else (some false))) (fun k => ?_) (ev_bind em (ev_pos rfl (ev_eq (ev_some _) (decide_eq_true hle))))
          simp only [laws_FnRoute.l0]
          rw [if_neg (by omega)]
        · exact (k o hO' (by rw [hlo, g2])).elim
      · intro i p hx hd ih
        have hi := some_lt hx
        have hrp : rd_T37 L (i : Int) = p := getD_some hx
        have hio : i < o.length := by omega
        have hit : i < t.length := by omega
        have hro : rd o (i : Int) = o[i] := getD_some (List.getElem?_eq_getElem hio)
        have hrt : rd t (i : Int) = t[i] := getD_some (List.getElem?_eq_getElem hit)
        have hw1 := hwin i o[i] t[i] (List.getElem?_eq_getElem hio) (List.getElem?_eq_getElem hit)
        have hrng := g1.rng o[i] (List.getElem_mem hio)
        have htk : (L.map lo).take (i + 1) = (L.map lo).take i ++ [lo p] := by
          rw [List.take_succ_eq_append_getElem (by omega)]
          congr 2
          rw [List.getElem_map, (List.getElem?_eq_some_iff.1 hx).2]
        rw [htk] at ih
        refine Ev.step (fun k => ?_) ih
        simp only [laws_FnRoute.l0, hrp, hro, hrt]
        rw [if_pos (ilt hi), if_pos (ige _), if_pos (show ((L.map lo).take i).length < 3518437208883 by rw [List.length_take]; omega), if_pos (ilt hio), if_pos (ilt hit), if_pos hrng.1, if_pos hrng.2, if_neg (by show ¬ t[i] > (rs L o[i]).f3; omega), wrap_succ hi (by unfold maxLen; omega)]
        rfl
    have j1 : Ev (fun k => laws_FnRoute.j1 k L a false o t w e) true := Ev.step (fun k => by simp only [laws_FnRoute.j1]; rw [if_neg (by simp)]) loop
    have j0 : ∀ (x9 : Int) (y1 y2 : List Int) (y3 y4 : Int), (x9 = 0 → e ≤ y4) → Ev (fun k => laws_FnRoute.j0 k L a 0 x9 false o t w e y1 y2 y3 y4) true := fun x9 y1 y2 y3 y4 hy => by
      refine Ev.step (f := fun k => (impl_LeastEnd.f k L a).bind fun bt390 => ((impl_RouteOf.f k L a o).bind fun bt392 => (if bt390.2 = 0 then (if bt392.2.2.2.2 = 0 then (if bt392.2.2.2.1 = e then (if bt392.2.2.1 = w then ((laws_sameInts.f k bt392.2.1 t).bind fun t402 => (if t402 = true then (if e < bt390.1 then (laws_FnRoute.j1 k L a true o t w e) else (if x9 = 0 then (laws_FnRoute.j1 k L a (decide (e > y4)) o t w e) else (laws_FnRoute.j1 k L a false o t w e))) else (laws_FnRoute.j1 k L a true o t w e))) else (laws_FnRoute.j1 k L a true o t w e)) else (laws_FnRoute.j1 k L a true o t w e)) else (laws_FnRoute.j1 k L a true o t w e)) else (laws_FnRoute.j1 k L a true o t w e)))) (fun k => by simp only [laws_FnRoute.j0]; rw [if_neg (by simp), if_neg (by decide)]) ?_
      refine ev_bind hv (ev_bind e8 (ev_pos rfl (ev_pos rfl (ev_pos rfl (ev_pos rfl (ev_bind (same_ints t (by unfold maxLen; omega)) (ev_pos rfl (ev_neg (by dsimp only; omega) ?_))))))))
      by_cases h : x9 = 0
      · refine ev_pos h ?_
        rw [decide_eq_false (by have := hy h; omega)]
        exact j1
      · exact ev_neg h j1
    refine ev_bind hE (ev_bind ei (ev_bind er (ev_bind eo (ev_pos rfl ?_))))
    by_cases h : r.2.2.2.2 = true
    · simp only [if_pos h]
      refine ev_pos trivial (ev_pos trivial ?_)
      exact j0 0 _ _ _ _ (fun _ => by have := g3 F hD.ord (by rw [hr]; exact h); rw [hr] at this; exact this)
    · simp only [if_neg h]
      refine ev_neg (by decide) (ev_pos trivial (ev_pos trivial ?_))
      exact j0 17 _ _ _ _ (fun h => by cases h)
  · rw [eb] at ei es
    have h : ¬ r.2.2.2.2 = true := fun h => g F hD.ord (by rw [hr]; exact h)
    simp only [if_neg h] at er
    refine ev_bind hE (ev_bind ei (ev_bind er (ev_bind eo (ev_pos rfl (ev_neg (by decide) (ev_pos rfl (ev_neg (by decide) (ev_pos rfl ?_))))))))
    refine Ev.step (f := fun k => (spec_BestRoute.f k L a).bind fun bt380 => (some (bt380.2.2.2.2 == (8 : Int)))) (fun k => ?_) (ev_bind es (ev_some _))
    simp only [laws_FnRoute.j0]
    rw [if_neg (by simp), if_pos (by decide)]
end Go.Proofs.Ytojncbpeeboooaa.Pure
