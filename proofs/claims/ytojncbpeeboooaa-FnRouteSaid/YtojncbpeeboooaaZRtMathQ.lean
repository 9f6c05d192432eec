/- Of a route that is in time: its minutes are within the windows, it is back no sooner than the least end says, and longer windows change nothing. -/
import Derived.Test.YtojncbpeeboooaaZRouteRQ
import Derived.Test.YtojncbpeeboooaaZOrdQ
namespace Go.Proofs.Ytojncbpeeboooaa.ZRtMathQ
open Go.RowKit Go.Proofs.Ytojncbpeeboooaa.Q Go.Proofs.Ytojncbpeeboooaa.Lib Go.Proofs.Ytojncbpeeboooaa.ZStopsQ Go.Proofs.Ytojncbpeeboooaa.ZRouteRQ Go.Proofs.Ytojncbpeeboooaa.ZOrdQ Go.Proofs.YtojncbpeeboooaaW.PrintWords Go.Proofs.YtojncbpeeboooaaW.PrintLast Go.Proofs.YtojncbpeeboooaaW.PrintMore
theorem tri (p q r : Sp) : dist p r ≤ dist p q + dist q r := by
  have a1 := le_mx (p.f0 - q.f0) (q.f0 - p.f0)
  have a2 := le_mx (q.f0 - r.f0) (r.f0 - q.f0)
  have a3 := le_mx (p.f1 - q.f1) (q.f1 - p.f1)
  have a4 := le_mx (q.f1 - r.f1) (r.f1 - q.f1)
  have h1 : mx (p.f0 - r.f0) (r.f0 - p.f0) ≤ mx (p.f0 - q.f0) (q.f0 - p.f0) + mx (q.f0 - r.f0) (r.f0 - q.f0) := mx_le (by omega) (by omega)
  have h2 : mx (p.f1 - r.f1) (r.f1 - p.f1) ≤ mx (p.f1 - q.f1) (q.f1 - p.f1) + mx (q.f1 - r.f1) (r.f1 - q.f1) := mx_le (by omega) (by omega)
  unfold dist
  omega
abbrev zp : Sp := ⟨0, 0, 0, 0, 0⟩
abbrev rs (L : List Sp) (x : Int) : Sp := rd_T37 L x
def wk (L : List Sp) (x : Int) : Int := (rs L x).f4
theorem run_facts {L : List Sp} {o : List Int} (hR : ∀ p ∈ L, Right p) : ∀ (m : List Int) (i : Int) (s : St), (∀ x ∈ m, 0 ≤ x ∧ x < (L.length : Int)) → (run (ZRouteRQ.step L) (fin o) m i s).2.2.2.2 = true →
    (run (ZRouteRQ.step L) (fin o) m i s).1 = o ∧ (∃ ext, (run (ZRouteRQ.step L) (fin o) m i s).2.1 = s.1 ++ ext ∧ ext.length = m.length ∧ ∀ (j : Nat) x v, m[j]? = some x → ext[j]? = some v → v ≤ (rs L x).f3) ∧
    s.2.2.1 + sm (wk L) m + dist s.2.2.2 zp ≤ (run (ZRouteRQ.step L) (fin o) m i s).2.2.2.1 ∧
    (∀ x ∈ m, s.2.2.1 + sm (wk L) m + dist s.2.2.2 (rs L x) + dist (rs L x) zp ≤ (run (ZRouteRQ.step L) (fin o) m i s).2.2.2.1) ∧
    (∀ x ∈ m, mx (s.2.2.1 + dist s.2.2.2 (rs L x)) (rs L x).f2 + (rs L x).f4 + dist (rs L x) zp ≤ (run (ZRouteRQ.step L) (fin o) m i s).2.2.2.1)
  | [], i, s, _, _ => by
    unfold run fin sm
    refine ⟨rfl, ⟨[], by simp, rfl, fun j x v h => by simp at h⟩, ?_, ?_, ?_⟩
    · show s.2.2.1 + 0 + dist s.2.2.2 zp ≤ s.2.2.1 + dist s.2.2.2 zp; omega
    · intro x h; cases h
    · intro x h; cases h
  | y :: m, i, s, hm, h => by
    have hy := rd_right hR (hm y (by simp))
    have hy4 : 0 ≤ (rs L y).f4 := by unfold Right at hy; exact hy.2.2.2.2.2.1
    have hms : ∀ x ∈ m, 0 ≤ x ∧ x < (L.length : Int) := fun x hx => hm x (by simp [hx])
    have hw0 : 0 ≤ sm (wk L) m := sm_nn m (fun x hx => by
      have := rd_right hR (hms x hx)
      unfold Right at this
      exact this.2.2.2.2.2.1)
    by_cases hc : s.2.2.1 + dist s.2.2.2 (rs L y) > (rs L y).f3
    · exfalso
      have e : run (ZRouteRQ.step L) (fin o) (y :: m) i s = ([], [], 0, 0, false) := by
        unfold run ZRouteRQ.step
        simp only [if_pos hc]
      rw [e] at h
      cases h
    · have e : run (ZRouteRQ.step L) (fin o) (y :: m) i s = run (ZRouteRQ.step L) (fin o) m (i + 1) (s.1 ++ [s.2.2.1 + dist s.2.2.2 (rs L y)], wrap64 (s.2.1 + mx 0 ((rs L y).f2 - (s.2.2.1 + dist s.2.2.2 (rs L y)))), mx (s.2.2.1 + dist s.2.2.2 (rs L y)) (rs L y).f2 + (rs L y).f4, rs L y) := by
        rw [run]
        unfold ZRouteRQ.step
        simp only [if_neg hc]
      rw [e] at h ⊢
      obtain ⟨g1, ⟨ext, g2, g3, g4⟩, g5, g6, g7⟩ := run_facts hR m (i + 1) _ hms h
      generalize run (ZRouteRQ.step L) (fin o) m (i + 1) (s.1 ++ [s.2.2.1 + dist s.2.2.2 (rs L y)], wrap64 (s.2.1 + mx 0 ((rs L y).f2 - (s.2.2.1 + dist s.2.2.2 (rs L y)))), mx (s.2.2.1 + dist s.2.2.2 (rs L y)) (rs L y).f2 + (rs L y).f4, rs L y) = r at g1 g2 g5 g6 g7
      dsimp only at g2 g5 g6 g7
      have hmx := le_mx (s.2.2.1 + dist s.2.2.2 (rs L y)) (rs L y).f2
      have hsm : sm (wk L) (y :: m) = (rs L y).f4 + sm (wk L) m := rfl
      have t0 := tri s.2.2.2 (rs L y) zp
      refine ⟨g1, ⟨(s.2.2.1 + dist s.2.2.2 (rs L y)) :: ext, by rw [g2, List.append_assoc]; rfl, by simp [g3], fun j x v hx hv => ?_⟩, by omega, fun x hx => ?_, fun x hx => ?_⟩
      · cases j with
        | zero =>
          obtain rfl := Option.some.inj hx
          obtain rfl := Option.some.inj hv
          omega
        | succ j => exact g4 j x v hx hv
      · rcases List.mem_cons.1 hx with rfl | hx
        · omega
        · have := g6 x hx
          have := tri s.2.2.2 (rs L y) (rs L x)
          omega
      · rcases List.mem_cons.1 hx with rfl | hx
        · omega
        · have := g7 x hx
          have := tri s.2.2.2 (rs L y) (rs L x)
          have h1 := le_mx (mx (s.2.2.1 + dist s.2.2.2 (rs L y)) (rs L y).f2 + (rs L y).f4 + dist (rs L y) (rs L x)) (rs L x).f2
          have h2 : mx (s.2.2.1 + dist s.2.2.2 (rs L x)) (rs L x).f2 ≤ mx (mx (s.2.2.1 + dist s.2.2.2 (rs L y)) (rs L y).f2 + (rs L y).f4 + dist (rs L y) (rs L x)) (rs L x).f2 := mx_le (by omega) (by omega)
          omega
def lo (p : Sp) : Sp := ⟨p.f0, p.f1, p.f2, wrap64 (p.f3 + 40), p.f4⟩
theorem rs_map {L : List Sp} {x : Int} (hx : 0 ≤ x ∧ x < (L.length : Int)) : rs (L.map lo) x = lo (rs L x) := by
  obtain ⟨v, rfl⟩ := Int.eq_ofNat_of_zero_le hx.1
  have hv : v < L.length := by omega
  have h1 : rs L (v : Int) = L[v] := getD_some (List.getElem?_eq_getElem hv)
  have h2 : rs (L.map lo) (v : Int) = lo L[v] := getD_some (by rw [List.getElem?_map, List.getElem?_eq_getElem hv]; rfl)
  rw [h1, h2]
theorem run_lo {L : List Sp} {o : List Int} (hR : ∀ p ∈ L, Right p) : ∀ (m : List Int) (i : Int) (s s' : St), (∀ x ∈ m, 0 ≤ x ∧ x < (L.length : Int)) → s'.1 = s.1 → s'.2.1 = s.2.1 → s'.2.2.1 = s.2.2.1 → s'.2.2.2.f0 = s.2.2.2.f0 → s'.2.2.2.f1 = s.2.2.2.f1 →
    (run (ZRouteRQ.step L) (fin o) m i s).2.2.2.2 = true → run (ZRouteRQ.step (L.map lo)) (fin o) m i s' = run (ZRouteRQ.step L) (fin o) m i s
  | [], i, s, s', _, h1, h2, h3, h4, h5, _ => by
    unfold run fin dist
    rw [h1, h2, h3, h4, h5]
  | y :: m, i, s, s', hm, h1, h2, h3, h4, h5, h => by
    have hy := rd_right hR (hm y (by simp))
    have hy3 : (rs L y).f3 ≤ 100000 ∧ 0 ≤ (rs L y).f3 := by unfold Right at hy; exact ⟨hy.2.2.2.2.1, Int.le_trans hy.2.2.1 hy.2.2.2.1⟩
    have hms : ∀ x ∈ m, 0 ≤ x ∧ x < (L.length : Int) := fun x hx => hm x (by simp [hx])
    have hw : wrap64 ((rs L y).f3 + 40) = (rs L y).f3 + 40 := w64 (by omega) (by omega)
    have hd : dist s'.2.2.2 (rs (L.map lo) y) = dist s.2.2.2 (rs L y) := by
      rw [rs_map (hm y (by simp))]
      unfold dist lo
      rw [h4, h5]
    by_cases hc : s.2.2.1 + dist s.2.2.2 (rs L y) > (rs L y).f3
    · exfalso
      have e : run (ZRouteRQ.step L) (fin o) (y :: m) i s = ([], [], 0, 0, false) := by
        unfold run ZRouteRQ.step
        simp only [if_pos hc]
      rw [e] at h
      cases h
    · have e : run (ZRouteRQ.step L) (fin o) (y :: m) i s = run (ZRouteRQ.step L) (fin o) m (i + 1) (s.1 ++ [s.2.2.1 + dist s.2.2.2 (rs L y)], wrap64 (s.2.1 + mx 0 ((rs L y).f2 - (s.2.2.1 + dist s.2.2.2 (rs L y)))), mx (s.2.2.1 + dist s.2.2.2 (rs L y)) (rs L y).f2 + (rs L y).f4, rs L y) := by
        rw [run]
        unfold ZRouteRQ.step
        simp only [if_neg hc]
      have hc' : ¬ s'.2.2.1 + dist s'.2.2.2 (rs (L.map lo) y) > (rs (L.map lo) y).f3 := by
        rw [hd, h3, rs_map (hm y (by simp))]
        show ¬ _ > wrap64 ((rs L y).f3 + 40)
        rw [hw]; omega
      have e' : run (ZRouteRQ.step (L.map lo)) (fin o) (y :: m) i s' = run (ZRouteRQ.step (L.map lo)) (fin o) m (i + 1) (s'.1 ++ [s'.2.2.1 + dist s'.2.2.2 (rs (L.map lo) y)], wrap64 (s'.2.1 + mx 0 ((rs (L.map lo) y).f2 - (s'.2.2.1 + dist s'.2.2.2 (rs (L.map lo) y)))), mx (s'.2.2.1 + dist s'.2.2.2 (rs (L.map lo) y)) (rs (L.map lo) y).f2 + (rs (L.map lo) y).f4, rs (L.map lo) y) := by
        rw [run]
        unfold ZRouteRQ.step
        simp only [if_neg hc']
      rw [e] at h
      rw [e, e']
      have f2 : (rs (L.map lo) y).f2 = (rs L y).f2 := by rw [rs_map (hm y (by simp))]; rfl
      have f4 : (rs (L.map lo) y).f4 = (rs L y).f4 := by rw [rs_map (hm y (by simp))]; rfl
      refine run_lo hR m (i + 1) _ _ hms ?_ ?_ ?_ ?_ ?_ h
      · show s'.1 ++ _ = s.1 ++ _; rw [h1, h3, hd]
      · show wrap64 _ = wrap64 _; rw [h2, h3, hd, f2]
      · show mx _ _ + _ = mx _ _ + _; rw [h3, hd, f2, f4]
      · show (rs (L.map lo) y).f0 = _; rw [rs_map (hm y (by simp))]; rfl
      · show (rs (L.map lo) y).f1 = _; rw [rs_map (hm y (by simp))]; rfl
end Go.Proofs.Ytojncbpeeboooaa.ZRtMathQ
