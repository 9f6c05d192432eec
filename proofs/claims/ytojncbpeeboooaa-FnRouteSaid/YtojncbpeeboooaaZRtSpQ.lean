/- BestRoute's answer is the best of all orders; LeastEnd is no later; RouteOf an order. -/
import Derived.Test.YtojncbpeeboooaaZBestRtQ
import Derived.Test.YtojncbpeeboooaaZRtMathQ
namespace Go.Proofs.Ytojncbpeeboooaa.ZRtSpQ
open Go.RowKit Go.Proofs.Ytojncbpeeboooaa.Q Go.Proofs.Ytojncbpeeboooaa.Lib Go.Proofs.Ytojncbpeeboooaa.ZStopsQ Go.Proofs.Ytojncbpeeboooaa.ZRouteRQ Go.Proofs.Ytojncbpeeboooaa.ZBestRtQ Go.Proofs.Ytojncbpeeboooaa.ZOrdQ Go.Proofs.Ytojncbpeeboooaa.ZRtMathQ Go.Proofs.YtojncbpeeboooaaW.PrintWords Go.Proofs.YtojncbpeeboooaaW.PrintLast Go.Proofs.YtojncbpeeboooaaW.PrintMore
def key (s : Bs) : Int := s.2.2.2.2
theorem upd_A (r : Rt) (s : Bs) (h : s.1 = true) : (upd r s).1 = true ∧ key (upd r s) ≤ key s := by
  by_cases h1 : r.2.2.2.2 = true
  · by_cases h3 : r.2.2.2.1 < s.2.2.2.2
    · rw [upd_1 h1 h h3]; exact ⟨rfl, by show r.2.2.2.1 ≤ s.2.2.2.2; omega⟩
    · rw [upd_2 h1 h h3]; exact ⟨h, Int.le_refl _⟩
  · rw [upd_4 h1]; exact ⟨h, Int.le_refl _⟩
theorem upd_B (r : Rt) (s : Bs) (h1 : r.2.2.2.2 = true) : (upd r s).1 = true ∧ key (upd r s) ≤ r.2.2.2.1 := by
  by_cases h : s.1 = true
  · by_cases h3 : r.2.2.2.1 < s.2.2.2.2
    · rw [upd_1 h1 h h3]; exact ⟨rfl, Int.le_refl _⟩
    · rw [upd_2 h1 h h3]; exact ⟨h, by show s.2.2.2.2 ≤ r.2.2.2.1; omega⟩
  · rw [upd_3 h1 h]; exact ⟨rfl, Int.le_refl _⟩
theorem upd_C (r : Rt) (s : Bs) : (r.2.2.2.2 = true ∧ upd r s = (true, r.1, r.2.1, r.2.2.1, r.2.2.2.1)) ∨ upd r s = s := by
  by_cases h1 : r.2.2.2.2 = true
  · by_cases h : s.1 = true
    · by_cases h3 : r.2.2.2.1 < s.2.2.2.2
      · exact .inl ⟨h1, upd_1 h1 h h3⟩
      · exact .inr (upd_2 h1 h h3)
    · exact .inl ⟨h1, upd_3 h1 h⟩
  · exact .inr (upd_4 h1)
section
variable {n : Nat} {o : List Int} {g : List Int → Bs → Bs}
theorem lp_A (hg : ∀ v s, s.1 = true → (g (o ++ [v]) s).1 = true ∧ key (g (o ++ [v]) s) ≤ key s) : ∀ m s, s.1 = true → (lp n o g m s).1 = true ∧ key (lp n o g m s) ≤ key s
  | 0, s, h => ⟨h, Int.le_refl _⟩
  | m + 1, s, h => by
    unfold lp
    split
    · exact lp_A hg m s h
    · have h1 := hg ((n - (m + 1) : Nat) : Int) s h
      have h2 := lp_A hg m _ h1.1
      exact ⟨h2.1, Int.le_trans h2.2 h1.2⟩
theorem lp_B {v : Nat} {q : Int} (hv : v < n) (hno : (o.any (fun y => decide ((v : Int) = y))) = false) (hg : ∀ v s, s.1 = true → (g (o ++ [v]) s).1 = true ∧ key (g (o ++ [v]) s) ≤ key s) (hq : ∀ s, (g (o ++ [(v : Int)]) s).1 = true ∧ key (g (o ++ [(v : Int)]) s) ≤ q) :
    ∀ m s, m ≤ n → n - m ≤ v → (lp n o g m s).1 = true ∧ key (lp n o g m s) ≤ q
  | 0, s, h, h2 => by omega
  | m + 1, s, h, h2 => by
    by_cases e : n - (m + 1) = v
    · unfold lp
      rw [e, hno, if_neg (by simp)]
      have h1 := hq s
      have h2 := lp_A hg (n := n) m _ h1.1
      exact ⟨h2.1, Int.le_trans h2.2 h1.2⟩
    · unfold lp
      exact lp_B hv hno hg hq m _ (by omega) (by omega)
theorem lp_C {P : Bs → Prop} (hg : ∀ (v : Nat) s, v < n → (o.any (fun y => decide ((v : Int) = y))) = false → P s → P (g (o ++ [(v : Int)]) s)) : ∀ m s, m ≤ n → P s → P (lp n o g m s)
  | 0, s, _, h => h
  | m + 1, s, hm, h => by
    unfold lp
    refine lp_C hg m _ (by omega) ?_
    split
    · exact h
    · rename_i hh
      exact hg _ s (by omega) (Bool.eq_false_iff.2 hh) h
end
section
variable {L : List Sp} {a : Int}
def Val (L : List Sp) (a : Int) (s : Bs) : Prop := s.1 = true → Ord L.length s.2.1 ∧ routeR L a s.2.1 = (s.2.1, s.2.2.1, s.2.2.2.1, s.2.2.2.2, true)
theorem srch_A : ∀ (d : Nat) (o : List Int) (s : Bs), s.1 = true → (srch L a d o s).1 = true ∧ key (srch L a d o s) ≤ key s
  | 0, o, s, h => by unfold srch; exact upd_A _ s h
  | d + 1, o, s, h => by unfold srch; exact lp_A (fun v s h => srch_A d (o ++ [v]) s h) _ s h
theorem srch_B : ∀ (d : Nat) (o t : List Int) (s : Bs), t.length = d → (o ++ t).Nodup → (∀ x ∈ o ++ t, 0 ≤ x ∧ x < (L.length : Int)) → (routeR L a (o ++ t)).2.2.2.2 = true → (srch L a d o s).1 = true ∧ key (srch L a d o s) ≤ (routeR L a (o ++ t)).2.2.2.1
  | 0, o, t, s, ht, hN, hR, hk => by
    obtain rfl := List.length_eq_zero_iff.1 ht
    rw [List.append_nil] at hk ⊢
    unfold srch
    exact upd_B _ s hk
  | d + 1, o, t, s, ht, hN, hR, hk => by
    obtain ⟨x, t', rfl⟩ : ∃ x t', t = x :: t' := by
      cases t with
      | nil => cases ht
      | cons x t' => exact ⟨x, t', rfl⟩
    have hx := hR x (by simp)
    obtain ⟨v, rfl⟩ := Int.eq_ofNat_of_zero_le hx.1
    have hno := no_any hN
    have e : o ++ (v : Int) :: t' = (o ++ [(v : Int)]) ++ t' := by rw [List.append_assoc]; rfl
    rw [e] at hN hR hk ⊢
    unfold srch
    exact lp_B (by omega) hno (fun v s h => srch_A d (o ++ [v]) s h) (fun s => srch_B d (o ++ [(v : Int)]) t' s (by simpa using ht) hN hR hk) _ s (Nat.le_refl _) (by omega)
theorem srch_C (hR : ∀ p ∈ L, Right p) : ∀ (d : Nat) (o : List Int) (s : Bs), o.length + d = L.length → o.Nodup → (∀ x ∈ o, 0 ≤ x ∧ x < (L.length : Int)) → Val L a s → Val L a (srch L a d o s)
  | 0, o, s, hd, hN, hI, hV => by
    unfold srch
    rcases upd_C (routeR L a o) s with ⟨h1, h⟩ | h
    · rw [h]
      have g := (run_facts (o := o) hR o 0 (s0 a) hI h1).1
      intro _
      have g' : (routeR L a o).1 = o := g
      dsimp only
      rw [g']
      refine ⟨⟨hd, hI, hN⟩, ?_⟩
      refine Prod.ext g' (Prod.ext rfl (Prod.ext rfl (Prod.ext rfl h1)))
    · rw [h]; exact hV
  | d + 1, o, s, hd, hN, hI, hV => by
    unfold srch
    refine lp_C (P := Val L a) (fun v s hv hno h => srch_C hR d (o ++ [(v : Int)]) s (by rw [List.length_append, List.length_singleton]; omega) ?_ (fun x hx => ?_) h) _ s (Nat.le_refl _) hV
    · rw [List.nodup_append]
      refine ⟨hN, by simp, fun x hx y hy => ?_⟩
      rw [List.mem_singleton.1 hy]
      intro e
      rw [List.any_eq_false] at hno
      exact hno x hx (decide_eq_true e.symm)
    · rcases List.mem_append.1 hx with hx | hx
      · exact hI x hx
      · rw [List.mem_singleton.1 hx]; omega
theorem best_cases (hc : codeB L a = 0) : (∃ o t w e, bestB L a = (o, t, w, e, 0) ∧ Ord L.length o ∧ routeR L a o = (o, t, w, e, true) ∧ ∀ F, Ord L.length F → (routeR L a F).2.2.2.2 = true → e ≤ (routeR L a F).2.2.2.1) ∨ (bestB L a = ([], [], 0, 0, 8) ∧ ∀ F, Ord L.length F → (routeR L a F).2.2.2.2 = true → False) := by
  unfold bestB
  rw [if_pos hc]
  have hb := fun F (hO : Ord L.length F) (hF : (routeR L a F).2.2.2.2 = true) => srch_B (L := L) (a := a) L.length [] F (false, [], [], 0, 0) hO.len hO.nd hO.rng hF
  have hv := srch_C (L := L) (a := a) (code_zero hc) L.length [] (false, [], [], 0, 0) (by simp) (by simp) (by simp) (fun h => by cases h)
  generalize srch L a L.length [] (false, [], [], 0, 0) = s at hb hv
  by_cases h : s.1 = true
  · rw [if_pos h]
    obtain ⟨g1, g2⟩ := hv h
    exact .inl ⟨_, _, _, _, rfl, g1, g2, fun F hO hF => (hb F hO hF).2⟩
  · rw [if_neg h]
    exact .inr ⟨rfl, fun F hO hF => h (hb F hO hF).1⟩
theorem routeOf_ev {F : List Int} {r : Rt} (hc : codeB L a = 0) (hl : L.length ≤ 4096) (hO : Ord L.length F) (hr : routeR L a F = r) : Ev (fun k => impl_RouteOf.f k L a F) (if r.2.2.2.2 = true then (r.1, r.2.1, r.2.2.1, r.2.2.2.1, 0) else ([], [], 0, 0, 17)) := by
  have h1 := code_impl L a (by unfold maxLen; omega)
  rw [hc] at h1
  have h2 := order_impl hO hl
  have h3 := route_impl (o := F) (by have := hO.len; omega) (code_min hc).1 (code_zero hc) hO.rng
  rw [hr] at h3
  have hd : decide ((F.length : Int) ≤ 4096) = true := decide_eq_true (by have := hO.len; omega)
  by_cases h : r.2.2.2.2 = true
  · rw [if_pos h]
    unfold impl_RouteOf.f impl_isList_int.f
    simp only [Option.bind_some]
    exact ev_pos hd (ev_bind h1 (ev_pos rfl (ev_bind h2 (ev_pos rfl (ev_bind h3 (ev_pos h (ev_some _)))))))
  · rw [if_neg h]
    unfold impl_RouteOf.f impl_isList_int.f
    simp only [Option.bind_some]
    exact ev_pos hd (ev_bind h1 (ev_pos rfl (ev_bind h2 (ev_pos rfl (ev_bind h3 (ev_neg h (ev_some _)))))))
theorem dist_comm (p q : Sp) : dist p q = dist q p := by
  unfold dist mx
  split <;> split <;> split <;> split <;> omega
theorem least_ev {E : Int} (hc : codeB L a = 0) (hl : L.length ≤ 7) (h0 : a + sn (wk L) L.length ≤ E) (h1 : ∀ p ∈ L, mx (a + dist zp p) p.f2 + p.f4 + dist zp p ≤ E) (h2 : ∀ p ∈ L, a + sn (wk L) L.length + 2 * dist zp p ≤ E) (h3 : a ≤ E) : ∃ v, Ev (fun k => impl_LeastEnd.f k L a) (v, 0) ∧ v ≤ E := by
  have hR := code_zero hc
  have ha := (code_min hc).1
  have hcc := code_impl L a (by unfold maxLen; omega)
  rw [hc] at hcc
  have key := down_list L (P := fun i => ∀ x y : Int, x ≤ E → 0 ≤ y → y ≤ 4000 → a + sn (wk L) L.length + 2 * y ≤ E → 0 ≤ sn (wk L) i → sn (wk L) i ≤ 1000 * (i : Int) → ∃ v, Ev (fun k => impl_LeastEnd.l0 k a x (sn (wk L) i) y L (L.length : Int) (i : Int)) (v, 0) ∧ v ≤ E) ?_ ?_
  · obtain ⟨v, hE, hv⟩ := key a 0 h3 (by omega) (by omega) (by omega) (by show (0 : Int) ≤ 0; omega) (by show (0 : Int) ≤ _; omega)
    refine ⟨v, ?_, hv⟩
    unfold impl_LeastEnd.f
    exact ev_bind hcc (ev_pos rfl hE)
  · intro x y hx hy hy2 hxy hs hs2
    refine ⟨_, ev_succ (fun k => by simp only [impl_LeastEnd.l0]; rw [if_neg (by omega)]), ?_⟩
    rw [w64 (x := a + sn (wk L) L.length) (by omega) (by omega), w64 (x := 2 * y) (by omega) (by omega), w64 (by omega) (by omega)]
    exact mx_le hx hxy
  · intro i p hx hd ih x y hxE hy hy2 hxy hs hs2
    have hi := some_lt hx
    have hp := List.mem_of_getElem? hx
    have hr : rd_T37 L (i : Int) = p := getD_some hx
    have hpR := hR p hp
    have hdb : 0 ≤ dist zp p ∧ dist zp p ≤ 4000 := dist_bd near0 (near_of hpR)
    have hdi : impl_away.f 0 0 0 0 0 p.f0 p.f1 p.f2 p.f3 p.f4 = some (dist zp p) := dist_impl near0 (near_of hpR)
    have g1 := h1 p hp
    have g2 := h2 p hp
    unfold Right at hpR
    have hm := le_mx (a + dist zp p) p.f2
    have hm2 : mx (a + dist zp p) p.f2 ≤ 104000 := mx_le (by omega) (by omega)
    have w1 : wrap64 (a + dist zp p) = a + dist zp p := w64 (by omega) (by omega)
    have w2 : wrap64 (mx (a + dist zp p) p.f2 + p.f4) = mx (a + dist zp p) p.f2 + p.f4 := w64 (by omega) (by omega)
    have w3 : wrap64 (mx (a + dist zp p) p.f2 + p.f4 + dist zp p) = mx (a + dist zp p) p.f2 + p.f4 + dist zp p := w64 (by omega) (by omega)
    have hwk : wk L (i : Int) = p.f4 := by unfold wk; rw [show rs L (i : Int) = p from hr]
    have hsn : sn (wk L) (i + 1) = sn (wk L) i + p.f4 := by rw [sn, hwk]
    have w4 : wrap64 (sn (wk L) i + p.f4) = sn (wk L) (i + 1) := by rw [hsn]; exact w64 (by omega) (by omega)
    obtain ⟨v, hE, hv⟩ := ih (mx x (mx (a + dist zp p) p.f2 + p.f4 + dist zp p)) (mx y (dist zp p)) (mx_le hxE g1) (Int.le_trans hy (le_mx _ _).1) (mx_le hy2 hdb.2) (by unfold mx; split <;> omega) (by rw [hsn]; omega) (by rw [hsn]; omega)
    refine ⟨v, Ev.step (fun k => ?_) hE, hv⟩
    simp only [impl_LeastEnd.l0, hr, hdi, Option.bind_some, w1, w2, w3, w4]
    rw [if_pos (ilt hi), if_pos (ige _), if_pos (ilt hi), wrap_succ hi (by unfold maxLen; omega)]
theorem end_ge {o : List Int} {t : List Int} {w e : Int} (hc : codeB L a = 0) (hl : L.length ≤ 7) (hO : Ord L.length o) (hr : routeR L a o = (o, t, w, e, true)) :
    (∃ v, Ev (fun k => impl_LeastEnd.f k L a) (v, 0) ∧ v ≤ e) ∧ t.length = o.length ∧ ∀ (j : Nat) x v, o[j]? = some x → t[j]? = some v → v ≤ (rs L x).f3 := by
  have hR := code_zero hc
  obtain ⟨_, ⟨ext, f2, f3, f4⟩, f5, f6, f7⟩ := run_facts (o := o) hR o 0 (s0 a) hO.rng (by show (routeR L a o).2.2.2.2 = true; rw [hr])
  have hrr : run (ZRouteRQ.step L) (fin o) o 0 (s0 a) = (o, t, w, e, true) := hr
  rw [hrr] at f2 f5 f6 f7
  have ht : t = ext := f2
  subst ht
  refine ⟨?_, f3, f4⟩
  have hnn : ∀ x ∈ o, 0 ≤ wk L x := fun x hx => by
    have := rd_right hR (hO.rng x hx)
    unfold Right at this
    exact this.2.2.2.2.2.1
  have hS := sn_le L.length o hO.has hnn
  have hd0 : dist zp zp = 0 := by decide
  have f5' : a + sm (wk L) o + dist zp zp ≤ e := f5
  have f6' : ∀ x ∈ o, a + sm (wk L) o + dist zp (rs L x) + dist (rs L x) zp ≤ e := f6
  have f7' : ∀ x ∈ o, mx (a + dist zp (rs L x)) (rs L x).f2 + (rs L x).f4 + dist (rs L x) zp ≤ e := f7
  have hsm := sm_nn o hnn
  have hat : ∀ p ∈ L, ∃ x ∈ o, rs L x = p := fun p hp => by
    obtain ⟨i, hi, rfl⟩ := List.getElem_of_mem hp
    exact ⟨(i : Int), hO.has i hi, getD_some (List.getElem?_eq_getElem hi)⟩
  refine least_ev hc hl (by omega) (fun p hp => ?_) (fun p hp => ?_) (by omega)
  · obtain ⟨x, hx, e1⟩ := hat p hp
    have := f7' x hx
    rw [e1, dist_comm p zp] at this
    exact this
  · obtain ⟨x, hx, e1⟩ := hat p hp
    have := f6' x hx
    rw [e1, dist_comm p zp] at this
    omega
end
end Go.Proofs.Ytojncbpeeboooaa.ZRtSpQ
