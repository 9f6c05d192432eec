/- The statement of FnExactRouteOf as plain Lean. -/
import Derived.Test.YtgneodfkfbaoaaaZRoutesU
namespace Go.Proofs.Ytgneodfkfbaoaaa.Pure
open Go.RowKit Go.Proofs.Ytgneodfkfbaoaaa.U Go.Proofs.Ytgneodfkfbaoaaa.Lib Go.Proofs.Ytgneodfkfbaoaaa.ZStopsU Go.Proofs.Ytgneodfkfbaoaaa.ZRoutesU Go.Proofs.YtgneodfkfbaoaaaW.PrintWords Go.Proofs.YtgneodfkfbaoaaaW.PrintLast Go.Proofs.YtgneodfkfbaoaaaW.PrintMore
open ZIntsU (orderB isOrder_ev l19Order_ev to_ints eq_ints)

abbrev Sp := S37
abbrev Rt := List Int × List Int × Int × Int × Bool
abbrev St := List Int × Int × Int × Sp
theorem order_in {l : List Int} {n : Nat} (h : orderB l n = true) (hn : n ≤ 4096) : ∀ x ∈ l, 0 ≤ x ∧ x < (n : Int) := by
  unfold orderB at h
  simp only [Bool.and_eq_true, List.all_eq_true, decide_eq_true_eq] at h
  intro x hx
  have := h.2.1 x hx
  rw [w64 (by omega) (by omega)] at this
  omega
/-- times, wait, the minute, where. -/
def step (l : List Sp) (_ : Int) (v : Int) (s : St) : St ⊕ Rt :=
  let p := rd_T37 l v
  let arr := s.2.2.1 + dist s.2.2.2 p
  if arr > p.f3 then .inr ([], [], 0, 0, false)
  else .inl (s.1 ++ [arr], wrap64 (s.2.1 + mx 0 (p.f2 - arr)), mx arr p.f2 + p.f4, p)
def fin (o : List Int) (s : St) : Rt := (o, s.1, s.2.1, s.2.2.1 + dist s.2.2.2 ⟨0, 0, 0, 0, 0⟩, true)
def s0 (a : Int) : St := ([], 0, a, ⟨0, 0, 0, 0, 0⟩)
def routeR (l : List Sp) (a : Int) (o : List Int) : Rt := run (step l) (fin o) o 0 (s0 a)
def Inv (i : Nat) (s : St) : Prop := s.1.length = i ∧ 0 ≤ s.2.2.1 ∧ s.2.2.1 ≤ 101000 ∧ Near s.2.2.2
theorem near0 : Near (⟨0, 0, 0, 0, 0⟩ : Sp) := by unfold Near; decide
theorem rd_right {l : List Sp} (hl : ∀ p ∈ l, Right p) {v : Int} (hv : 0 ≤ v ∧ v < (l.length : Int)) : Right (rd_T37 l v) := by
  obtain ⟨w, rfl⟩ := Int.eq_ofNat_of_zero_le hv.1
  have hw : w < l.length := by omega
  have : rd_T37 l (w : Int) = l[w] := getD_some (List.getElem?_eq_getElem hw)
  rw [this]; exact hl _ (List.getElem_mem hw)
theorem inv_next {l : List Sp} {i : Nat} {s s' : St} {v : Int} (h : Inv i s) (hp : Right (rd_T37 l v)) (hs : step l (i : Int) v s = .inl s') : Inv (i + 1) s' := by
  obtain ⟨h1, h2, h3, h4⟩ := h
  have hd := dist_bd h4 (near_of hp)
  unfold step at hs
  dsimp only at hs
  split at hs
  · cases hs
  · rename_i hc
    cases hs
    have hpp := hp
    unfold Right at hpp
    have hm := mx_le (show s.2.2.1 + dist s.2.2.2 (rd_T37 l v) ≤ 100000 by omega) (show (rd_T37 l v).f2 ≤ 100000 by omega)
    have hm2 := le_mx (s.2.2.1 + dist s.2.2.2 (rd_T37 l v)) (rd_T37 l v).f2
    refine ⟨by simp [h1], ?_, ?_, (near_of hp)⟩
    · show 0 ≤ mx _ _ + _; omega
    · show mx _ _ + _ ≤ 101000; omega
theorem route_spec {l : List Sp} {a : Int} {o : List Int} (ho : o.length ≤ 4096) (ha : 0 ≤ a ∧ a ≤ 100000) (hl : ∀ p ∈ l, Right p) (hin : ∀ x ∈ o, 0 ≤ x ∧ x < (l.length : Int)) : Ev (fun k => spec_l20Route.f k l a o) (routeR l a o) := by
  have hm : o.length ≤ maxLen := by unfold maxLen; omega
  unfold spec_l20Route.f routeR
  refine run_ev o (step l) (fin o) (fun k i s => spec_l20Route.l0 k l o s.2.2.1 i (o.take i.toNat) s.1 s.2.1 0 s.2.2.2.f0 s.2.2.2.f1 s.2.2.2.f2 s.2.2.2.f3 s.2.2.2.f4) Inv (fun i v s hx hs => ?_) (fun s hs => ?_) (s0 a) ⟨rfl, ha.1, by show a ≤ 101000; omega, near0⟩
  · have hi := some_lt hx
    have hv := hin v (List.mem_of_getElem? hx)
    have hr : rd o (i : Int) = v := getD_some hx
    have hp := rd_right hl hv
    have hpp := hp
    unfold Right at hpp
    have hd := dist_bd hs.2.2.2 (near_of hp)
    have hb := hs.2
    have hw : wrap64 (s.2.2.1 + dist s.2.2.2 (rd_T37 l v)) = s.2.2.1 + dist s.2.2.2 (rd_T37 l v) := w64 (by omega) (by omega)
    have hlen := hs.1
    have htk : (o.take i).length = i := by rw [List.length_take]; omega
    by_cases hc : s.2.2.1 + dist s.2.2.2 (rd_T37 l v) > (rd_T37 l v).f3
    · refine ⟨fun s' hst => ?_, fun r hst => ?_⟩
      · unfold step at hst; dsimp only at hst; rw [if_pos hc] at hst; cases hst
      · unfold step at hst; dsimp only at hst; rw [if_pos hc] at hst; cases hst
        refine ev_succ (fun k => ?_)
        simp only [spec_l20Route.l0, hr, dist_spec hs.2.2.2 (near_of hp), Option.bind_some, hw]
        rw [if_pos (ilt hi), if_pos (ige _), if_pos hv.1, if_pos hv.2, if_pos hc]
    · refine ⟨fun s' hst => ⟨inv_next hs hp hst, fun r hE => ?_⟩, fun r hst => ?_⟩
      · unfold step at hst; dsimp only at hst; rw [if_neg hc] at hst; cases hst
        have hm2 := le_mx (s.2.2.1 + dist s.2.2.2 (rd_T37 l v)) (rd_T37 l v).f2
        have hm3 := mx_le (show s.2.2.1 + dist s.2.2.2 (rd_T37 l v) ≤ 100000 by omega) (show (rd_T37 l v).f2 ≤ 100000 by omega)
        have hw2 : wrap64 ((rd_T37 l v).f2 - (s.2.2.1 + dist s.2.2.2 (rd_T37 l v))) = (rd_T37 l v).f2 - (s.2.2.1 + dist s.2.2.2 (rd_T37 l v)) := w64 (by omega) (by omega)
        have hw3 : wrap64 (mx (s.2.2.1 + dist s.2.2.2 (rd_T37 l v)) (rd_T37 l v).f2 + (rd_T37 l v).f4) = mx (s.2.2.1 + dist s.2.2.2 (rd_T37 l v)) (rd_T37 l v).f2 + (rd_T37 l v).f4 := w64 (by omega) (by omega)
        have htk2 : o.take i ++ [v] = o.take (i + 1) := by rw [List.take_succ_eq_append_getElem hi, show o[i] = v from (List.getElem?_eq_some_iff.1 hx).2]
        refine Ev.step (fun k => ?_) hE
        simp only [spec_l20Route.l0, hr, dist_spec hs.2.2.2 (near_of hp), Option.bind_some, hw, hw2, hw3, Int.toNat_natCast, htk2]
        rw [if_pos (ilt hi), if_pos (ige _), if_pos hv.1, if_pos hv.2, if_neg hc, if_pos (by omega), if_pos (by omega), wrap_succ hi hm]
        rfl
      · unfold step at hst; dsimp only at hst; rw [if_neg hc] at hst; cases hst
  · have hd := dist_bd hs.2.2.2 near0
    have hb := hs.2
    have hw : wrap64 (s.2.2.1 + dist s.2.2.2 ⟨0, 0, 0, 0, 0⟩) = s.2.2.1 + dist s.2.2.2 ⟨0, 0, 0, 0, 0⟩ := w64 (by omega) (by omega)
    refine ev_succ (fun k => ?_)
    simp only [spec_l20Route.l0]
    rw [if_neg (by omega), dist_spec (q := ⟨0, 0, 0, 0, 0⟩) hs.2.2.2 near0]
    simp only [Option.bind_some, hw, Int.toNat_natCast, List.take_length]
    rfl
theorem route_impl {l : List Sp} {a : Int} {o : List Int} (ho : o.length ≤ 4096) (ha : 0 ≤ a ∧ a ≤ 100000) (hl : ∀ p ∈ l, Right p) (hin : ∀ x ∈ o, 0 ≤ x ∧ x < (l.length : Int)) : Ev (fun k => impl_routeOf.f k l a o) (routeR l a o) := by
  have hm : o.length ≤ maxLen := by unfold maxLen; omega
  unfold impl_routeOf.f routeR
  have hcl : slices_Clone_int_int.f o = some o := by
    unfold slices_Clone_int_int.f
    simp only [Option.bind_some, List.length_nil, List.nil_append]
    rw [if_pos (by omega)]
  simp only [hcl, Option.bind_some]
  refine run_ev o (step l) (fin o) (fun k i s => impl_routeOf.l0 k l s.2.2.1 o (o.length : Int) i o s.1 s.2.1 0 s.2.2.2.f0 s.2.2.2.f1 s.2.2.2.f2 s.2.2.2.f3 s.2.2.2.f4) Inv (fun i v s hx hs => ?_) (fun s hs => ?_) (s0 a) ⟨rfl, ha.1, by show a ≤ 101000; omega, near0⟩
  · have hi := some_lt hx
    have hv := hin v (List.mem_of_getElem? hx)
    have hr : rd o (i : Int) = v := getD_some hx
    have hp := rd_right hl hv
    have hpp := hp
    unfold Right at hpp
    have hd := dist_bd hs.2.2.2 (near_of hp)
    have hb := hs.2
    have hw : wrap64 (s.2.2.1 + dist s.2.2.2 (rd_T37 l v)) = s.2.2.1 + dist s.2.2.2 (rd_T37 l v) := w64 (by omega) (by omega)
    have hlen := hs.1
    by_cases hc : s.2.2.1 + dist s.2.2.2 (rd_T37 l v) > (rd_T37 l v).f3
    · refine ⟨fun s' hst => ?_, fun r hst => ?_⟩
      · unfold step at hst; dsimp only at hst; rw [if_pos hc] at hst; cases hst
      · unfold step at hst; dsimp only at hst; rw [if_pos hc] at hst; cases hst
        refine ev_succ (fun k => ?_)
        simp only [impl_routeOf.l0, hr, dist_impl hs.2.2.2 (near_of hp), Option.bind_some, hw]
        rw [if_pos (ilt hi), if_pos (ige _), if_pos (ilt hi), if_pos hv.1, if_pos hv.2, if_pos hc]
    · refine ⟨fun s' hst => ⟨inv_next hs hp hst, fun r hE => ?_⟩, fun r hst => ?_⟩
      · unfold step at hst; dsimp only at hst; rw [if_neg hc] at hst; cases hst
        have hm3 := mx_le (show s.2.2.1 + dist s.2.2.2 (rd_T37 l v) ≤ 100000 by omega) (show (rd_T37 l v).f2 ≤ 100000 by omega)
        have hw2 : wrap64 ((rd_T37 l v).f2 - (s.2.2.1 + dist s.2.2.2 (rd_T37 l v))) = (rd_T37 l v).f2 - (s.2.2.1 + dist s.2.2.2 (rd_T37 l v)) := w64 (by omega) (by omega)
        have hsum : s.2.2.1 + dist s.2.2.2 (rd_T37 l v) + mx 0 ((rd_T37 l v).f2 - (s.2.2.1 + dist s.2.2.2 (rd_T37 l v))) = mx (s.2.2.1 + dist s.2.2.2 (rd_T37 l v)) (rd_T37 l v).f2 := by
          unfold mx; split <;> split <;> omega
        have hm2 := le_mx (s.2.2.1 + dist s.2.2.2 (rd_T37 l v)) (rd_T37 l v).f2
        have hw4 : wrap64 (mx (s.2.2.1 + dist s.2.2.2 (rd_T37 l v)) (rd_T37 l v).f2) = mx (s.2.2.1 + dist s.2.2.2 (rd_T37 l v)) (rd_T37 l v).f2 := w64 (by omega) (by omega)
        have hw3 : wrap64 (mx (s.2.2.1 + dist s.2.2.2 (rd_T37 l v)) (rd_T37 l v).f2 + (rd_T37 l v).f4) = mx (s.2.2.1 + dist s.2.2.2 (rd_T37 l v)) (rd_T37 l v).f2 + (rd_T37 l v).f4 := w64 (by omega) (by omega)
        refine Ev.step (fun k => ?_) hE
        simp only [impl_routeOf.l0, hr, dist_impl hs.2.2.2 (near_of hp), Option.bind_some, hw, hw2, hsum, hw4, hw3]
        rw [if_pos (ilt hi), if_pos (ige _), if_pos (ilt hi), if_pos hv.1, if_pos hv.2, if_neg hc, if_pos (by omega), wrap_succ hi hm]
        rfl
      · unfold step at hst; dsimp only at hst; rw [if_neg hc] at hst; cases hst
  · have hd := dist_bd hs.2.2.2 near0
    have hb := hs.2
    have hw : wrap64 (s.2.2.1 + dist s.2.2.2 ⟨0, 0, 0, 0, 0⟩) = s.2.2.1 + dist s.2.2.2 ⟨0, 0, 0, 0, 0⟩ := w64 (by omega) (by omega)
    refine ev_succ (fun k => ?_)
    simp only [impl_routeOf.l0]
    rw [if_neg (by omega), dist_impl (q := ⟨0, 0, 0, 0, 0⟩) hs.2.2.2 near0]
    simp only [Option.bind_some, hw]
    rfl
theorem run_len (l : List Sp) (o : List Int) : ∀ (m : List Int) (i : Int) (s : St), (run (step l) (fin o) m i s).1.length ≤ o.length ∧ (run (step l) (fin o) m i s).2.1.length ≤ s.1.length + m.length
  | [], _, s => ⟨Nat.le_refl _, by show s.1.length ≤ s.1.length + 0; omega⟩
  | v :: m, i, s => by
    unfold run step
    dsimp only
    split
    · rename_i s' h
      split at h
      · cases h
      · cases h
        obtain ⟨g1, g2⟩ := run_len l o m (i + 1) (s.1 ++ [s.2.2.1 + dist s.2.2.2 (rd_T37 l v)], wrap64 (s.2.1 + mx 0 ((rd_T37 l v).f2 - (s.2.2.1 + dist s.2.2.2 (rd_T37 l v)))), mx (s.2.2.1 + dist s.2.2.2 (rd_T37 l v)) (rd_T37 l v).f2 + (rd_T37 l v).f4, rd_T37 l v)
        refine ⟨g1, Nat.le_trans g2 ?_⟩
        simp only [List.length_append, List.length_cons, List.length_nil]
        omega
    · rename_i r h
      split at h
      · cases h; exact ⟨Nat.zero_le _, Nat.zero_le _⟩
      · cases h
abbrev Rz := List Int × List Int × Int × Int × Int
/-- What RouteOf answers. -/
def routeB (l : List Sp) (a : Int) (o : List Int) : Rz :=
  if o.length > 4096 then ([], [], 0, 0, 2) else if codeB l a = 0 then (if orderB o l.length = true then (if (routeR l a o).2.2.2.2 = true then ((routeR l a o).1, (routeR l a o).2.1, (routeR l a o).2.2.1, (routeR l a o).2.2.2.1, 0) else ([], [], 0, 0, 17)) else ([], [], 0, 0, 3)) else ([], [], 0, 0, codeB l a)
theorem code_min {l : List Sp} {a : Int} (h : codeB l a = 0) : (0 ≤ a ∧ a ≤ 100000) ∧ l.length ≤ 4096 := by
  unfold codeB at h
  split at h
  · omega
  · split at h
    · split at h
      · rename_i h1 _ h3; exact ⟨h3, by omega⟩
      · omega
    · omega
theorem of_spec (l : List Sp) (a : Int) (o : List Int) (hl : l.length ≤ maxLen) : Ev (fun k => spec_RouteOf.f k l a o) (routeB l a o) := by
  unfold spec_RouteOf.f routeB
  by_cases h1 : o.length > 4096
  · simp only [if_pos h1, if_pos (show (o.length : Int) > 4096 by omega)]; exact ev_some _
  · simp only [if_neg h1, if_neg (show ¬ (o.length : Int) > 4096 by omega)]
    refine ev_bind (code_spec l a hl) ?_
    by_cases h2 : codeB l a = 0
    · simp only [if_pos h2]
      refine ev_bind (l19Order_ev o l.length (by omega)) ?_
      by_cases h3 : orderB o l.length = true
      · simp only [if_pos h3]
        refine ev_bind (route_spec (by omega) (code_min h2).1 (code_zero h2) (order_in h3 (code_min h2).2)) ?_
        by_cases h4 : (routeR l a o).2.2.2.2 = true
        · simp only [if_pos h4]; exact ev_some _
        · simp only [if_neg h4]; exact ev_some _
      · simp only [if_neg h3]; exact ev_some _
    · simp only [if_neg h2]; exact ev_some _
theorem of_impl (l : List Sp) (a : Int) (o : List Int) (hl : l.length ≤ maxLen) (ho : o.length ≤ maxLen) : Ev (fun k => impl_RouteOf.f k l a o) (routeB l a o) := by
  unfold impl_RouteOf.f routeB
  simp only [impl_isList_int.f, Option.bind_some, decide_eq_true_eq]
  by_cases h1 : o.length > 4096
  · simp only [if_pos h1, if_neg (show ¬ (o.length : Int) ≤ 4096 by omega)]; exact ev_some _
  · simp only [if_neg h1, if_pos (show (o.length : Int) ≤ 4096 by omega)]
    refine ev_bind (code_impl l a hl) ?_
    by_cases h2 : codeB l a = 0
    · simp only [if_pos h2]
      refine ev_bind (isOrder_ev o l.length ho) ?_
      by_cases h3 : orderB o l.length = true
      · simp only [if_pos h3]
        refine ev_bind (route_impl (by omega) (code_min h2).1 (code_zero h2) (order_in h3 (code_min h2).2)) ?_
        by_cases h4 : (routeR l a o).2.2.2.2 = true
        · simp only [if_pos h4]; exact ev_some _
        · simp only [if_neg h4]; exact ev_some _
      · simp only [if_neg h3]; exact ev_some _
    · simp only [if_neg h2]; exact ev_some _
theorem of_len (l : List Sp) (a : Int) (o : List Int) : (routeB l a o).1.length ≤ 4096 ∧ (routeB l a o).2.1.length ≤ 4096 := by
  unfold routeB
  split
  · exact ⟨by simp, by simp⟩
  · split
    · split
      · split
        · obtain ⟨g1, g2⟩ := run_len l o o 0 (s0 a)
          refine ⟨Nat.le_trans g1 (by omega), Nat.le_trans g2 ?_⟩
          show 0 + o.length ≤ 4096
          omega
        · exact ⟨by simp, by simp⟩
      · exact ⟨by simp, by simp⟩
    · exact ⟨by simp, by simp⟩
theorem FnExactRouteOf : laws_FnExactRouteOf.Pure := by
  intro l0 a1 l2 ⟨hl, _⟩ _ ⟨ho, _⟩
  refine Ev.rounds ?_
  unfold laws_FnExactRouteOf.f
  by_cases h0 : (l2.length : Int) > 1048576
  · exact ev_pos h0 (ev_some _)
  · refine ev_neg h0 ?_
    rcases sz_stops l0 hl with ⟨hs, n, hn, e⟩ | ⟨n, hn, e⟩
    · simp only [e, Option.bind_some]
      refine ev_neg (by omega) ?_
      have hm : (l0.map conv).length ≤ maxLen := by rw [List.length_map]; exact hl
      have hm2 : (l0.map conv).length ≤ 1048576 := by rw [List.length_map]; omega
      have ts := to_stops l0 hs
      have ti := to_ints l2 (by omega)
      have es := of_spec (l0.map conv) a1 l2 hm
      have ei := of_impl (l0.map conv) a1 l2 hm ho
      have hL := of_len (l0.map conv) a1 l2
      generalize hR : routeB (l0.map conv) a1 l2 = R at es ei hL
      have hq := eq_route R.1 R.2.1 R.2.2.1 R.2.2.2.1 (by unfold maxLen; omega) (by unfold maxLen; omega)
      have hmk := mark_route R.1 R.2.1 R.2.2.1 R.2.2.2.1 (by omega) (by omega)
      have hhd := held_route R.1 R.2.1 R.2.2.1 R.2.2.2.1 (by omega) (by omega)
      obtain ⟨w, hw⟩ := markS_ev (l0.map conv) hm2
      have hmi := markI_ev l2 (1 + 5 * ((l0.map conv).length : Int)) (by omega) (by omega) (by omega)
      refine ev_bind ts (ev_bind ti (ev_bind es (ev_bind ts (ev_bind ti (ev_bind ei (ev_bind hq (ev_pos rfl ?_)))))))
      rw [bne_self_eq_false]
      refine Ev.step (fun k => ?_) (ev_bind (f := fun k (t : List Sp) => (laws_eqStopS.f k (l0.map conv) t).bind fun t => if t = true then ((laws_toIntS.f k l2).bind fun t => (laws_eqIntS.f k l2 t).bind fun t => if t = true then ((laws_markStopS.f k (l0.map conv) 1).bind fun bt => (laws_markIntS.f k l2 bt.1).bind fun bt => if bt.1 < 0 then (laws_FnExactRouteOf.j1 k l0 a1 l2 R.2.2.2.2 true R.1 R.2.1 R.2.2.1 R.2.2.2.1 R.1 R.2.1 R.2.2.1 R.2.2.2.1) else ((laws_eqRoute.f k R.1 R.2.1 R.2.2.1 R.2.2.2.1 R.1 R.2.1 R.2.2.1 R.2.2.2.1).bind fun t => if t = true then (laws_FnExactRouteOf.j1 k l0 a1 l2 R.2.2.2.2 (R.2.2.2.2 != R.2.2.2.2) R.1 R.2.1 R.2.2.1 R.2.2.2.1 R.1 R.2.1 R.2.2.1 R.2.2.2.1) else (laws_FnExactRouteOf.j1 k l0 a1 l2 R.2.2.2.2 true R.1 R.2.1 R.2.2.1 R.2.2.2.1 R.1 R.2.1 R.2.2.1 R.2.2.2.1))) else some false) else some false) ts (ev_bind (eq_stops _ hm) (ev_pos rfl (ev_bind ti (ev_bind (eq_ints l2 ho) (ev_pos rfl (ev_bind hw (ev_bind hmi (ev_neg (by show ¬ (1 + 5 * ((l0.map conv).length : Int) + (l2.length : Int)) < 0; omega) (ev_bind hq (ev_pos rfl ?_)))))))))))
      · simp [laws_FnExactRouteOf.j0]
      · rw [bne_self_eq_false]
        refine Ev.step (fun k => ?_) (ev_bind (f := fun k (bt : Int × List Int × List Int) => (laws_heldRoute.f k bt.2.1 bt.2.2 R.2.2.1 R.2.2.2.1 1).bind fun t => if t < 0 then some false else if t = bt.1 then ((laws_toStopS.f k l0).bind fun t => (laws_toIntS.f k l2).bind fun t' => (impl_RouteOf.f k t a1 t').bind fun bt' => (laws_eqRoute.f k bt'.1 bt'.2.1 bt'.2.2.1 bt'.2.2.2.1 R.1 R.2.1 R.2.2.1 R.2.2.2.1).bind fun t => if t = true then (laws_FnExactRouteOf.j2 k bt.1 (bt'.2.2.2.2 != R.2.2.2.2) bt.2.1 bt.2.2 R.2.2.1 R.2.2.2.1) else (laws_FnExactRouteOf.j2 k bt.1 true bt.2.1 bt.2.2 R.2.2.1 R.2.2.2.1)) else some false) hmk (ev_bind hhd (ev_neg (by omega) (ev_pos rfl (ev_bind ts (ev_bind ti (ev_bind ei (ev_bind hq (ev_pos rfl ?_)))))))))
        · simp [laws_FnExactRouteOf.j1]
        · rw [bne_self_eq_false]
          refine Ev.step (fun k => ?_) (ev_bind (f := fun _ (t : Int) => if t < 0 then some false else if t = 1 + (R.1.length : Int) + (R.2.1.length : Int) then some true else some false) hhd (ev_neg (by omega) (ev_pos rfl (ev_some _))))
          simp [laws_FnExactRouteOf.j2]
    · simp only [e, Option.bind_some]
      exact ev_pos hn (ev_some _)
end Go.Proofs.Ytgneodfkfbaoaaa.Pure
