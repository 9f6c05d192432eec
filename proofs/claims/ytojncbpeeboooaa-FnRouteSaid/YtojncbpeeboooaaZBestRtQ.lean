/- BestRoute: the program's search and the reference's come to the same. -/
import Derived.Test.YtojncbpeeboooaaZRouteRQ
namespace Go.Proofs.Ytojncbpeeboooaa.ZBestRtQ
open Go.RowKit Go.Proofs.Ytojncbpeeboooaa.Q Go.Proofs.Ytojncbpeeboooaa.Lib Go.Proofs.Ytojncbpeeboooaa.ZStopsQ Go.Proofs.Ytojncbpeeboooaa.ZRouteRQ Go.Proofs.YtojncbpeeboooaaW.PrintWords Go.Proofs.YtojncbpeeboooaaW.PrintLast Go.Proofs.YtojncbpeeboooaaW.PrintMore
theorem index_int (l : List Int) (a : Int) (hl : l.length ≤ maxLen) : Ev (fun k => slices_Index_int_int.f k l a) (fidx (fun y => decide (a = y)) l 0) := by
  unfold slices_Index_int_int.f
  refine index_ev' l _ (fun k i => slices_Index_int_int.l0 k l a (l.length : Int) i) hl (fun k i x hx => ?_) (fun k => ?_)
  · have := some_lt hx
    have hr : rd l (i : Int) = x := getD_some hx
    simp only [slices_Index_int_int.l0, hr, decide_eq_true_eq]
    rw [if_pos (ilt this), if_pos (ige _), if_pos (ilt this)]
  · simp only [slices_Index_int_int.l0]
    rw [if_neg (by omega)]
theorem contains_int (l : List Int) (a : Int) (hl : l.length ≤ maxLen) : Ev (fun k => slices_Contains_int_int.f k l a) (l.any (fun y => decide (a = y))) := any_of_index (index_int l a hl)
abbrev Bs := Bool × List Int × List Int × Int × Int
abbrev Bz := List Int × List Int × Int × Int × Bool
def upd (r : Rt) (s : Bs) : Bs := if r.2.2.2.2 = true then (if s.1 = true then (if r.2.2.2.1 < s.2.2.2.2 then (true, r.1, r.2.1, r.2.2.1, r.2.2.2.1) else s) else (true, r.1, r.2.1, r.2.2.1, r.2.2.2.1)) else s
theorem upd_1 {r : Rt} {s : Bs} (h1 : r.2.2.2.2 = true) (h2 : s.1 = true) (h3 : r.2.2.2.1 < s.2.2.2.2) : upd r s = (true, r.1, r.2.1, r.2.2.1, r.2.2.2.1) := by unfold upd; rw [if_pos h1, if_pos h2, if_pos h3]
theorem upd_2 {r : Rt} {s : Bs} (h1 : r.2.2.2.2 = true) (h2 : s.1 = true) (h3 : ¬ r.2.2.2.1 < s.2.2.2.2) : upd r s = s := by unfold upd; rw [if_pos h1, if_pos h2, if_neg h3]
theorem upd_3 {r : Rt} {s : Bs} (h1 : r.2.2.2.2 = true) (h2 : ¬ s.1 = true) : upd r s = (true, r.1, r.2.1, r.2.2.1, r.2.2.2.1) := by unfold upd; rw [if_pos h1, if_neg h2]
theorem upd_4 {r : Rt} {s : Bs} (h1 : ¬ r.2.2.2.2 = true) : upd r s = s := by unfold upd; rw [if_neg h1]
def toZ (s : Bs) : Bz := (s.2.1, s.2.2.1, s.2.2.2.1, s.2.2.2.2, s.1)
def lp (n : Nat) (o : List Int) (g : List Int → Bs → Bs) : Nat → Bs → Bs
  | 0, s => s
  | m + 1, s => lp n o g m (if (o.any (fun y => decide (((n - (m + 1) : Nat) : Int) = y))) = true then s else g (o ++ [((n - (m + 1) : Nat) : Int)]) s)
def srch (L : List Sp) (a : Int) : Nat → List Int → Bs → Bs
  | 0, o, s => upd (routeR L a o) s
  | d + 1, o, s => lp L.length o (srch L a d) L.length s
theorem run_late (L : List Sp) (f f' : St → Rt) (m' : List Int) (hf : ∀ s, (f s).2.2.2.2 = true) : ∀ (m : List Int) (i : Int) (s : St), (run (ZRouteRQ.step L) f m i s).2.2.2.2 = false → (run (ZRouteRQ.step L) f' (m ++ m') i s).2.2.2.2 = false
  | [], _, s, h => by rw [run, hf] at h; cases h
  | v :: m, i, s, h => by
    rw [List.cons_append]
    unfold run at h ⊢
    cases hs : ZRouteRQ.step L i v s with
    | inl s' => rw [hs] at h; exact run_late L f f' m' hf m _ s' h
    | inr r => rw [hs] at h; exact h
theorem late_more {L : List Sp} {a : Int} {o : List Int} (m : List Int) (h : (routeR L a o).2.2.2.2 = false) : (routeR L a (o ++ m)).2.2.2.2 = false := run_late L (fin o) (fin (o ++ m)) m (fun _ => rfl) o 0 _ h
theorem lp_same {n : Nat} {o : List Int} {g : List Int → Bs → Bs} (h : ∀ v s, g (o ++ [v]) s = s) : ∀ m s, lp n o g m s = s
  | 0, _ => rfl
  | m + 1, s => by
    unfold lp
    rw [h, ite_self]
    exact lp_same h m s
theorem srch_late {L : List Sp} {a : Int} : ∀ (d : Nat) (o : List Int) (s : Bs), (routeR L a o).2.2.2.2 = false → srch L a d o s = s
  | 0, o, s, h => by unfold srch; exact upd_4 (by rw [h]; simp)
  | d + 1, o, s, h => by unfold srch; exact lp_same (fun v s => srch_late d (o ++ [v]) s (late_more [v] h)) _ s
theorem clos_ev {L : List Sp} {a : Int} (ha : 0 ≤ a ∧ a ≤ 100000) (hr : ∀ p ∈ L, Right p) {o : List Int} (s : Bs) (ho : o.length ≤ 4096) (hin : ∀ x ∈ o, 0 ≤ x ∧ x < (L.length : Int)) : Ev (fun k => impl_BestRoute_1.f k o L a s.1 s.2.1 s.2.2.1 s.2.2.2.1 s.2.2.2.2) (upd (routeR L a o) s) := by
  unfold impl_BestRoute_1.f
  refine ev_bind (route_impl ho ha hr hin) ?_
  by_cases h1 : (routeR L a o).2.2.2.2 = true
  · by_cases h2 : s.1 = true
    · by_cases h3 : (routeR L a o).2.2.2.1 < s.2.2.2.2
      · rw [upd_1 h1 h2 h3]; exact ev_pos h1 (ev_pos h2 (ev_pos h3 (ev_some _)))
      · rw [upd_2 h1 h2 h3]; exact ev_pos h1 (ev_pos h2 (ev_neg h3 (ev_some _)))
    · rw [upd_3 h1 h2]; exact ev_pos h1 (ev_neg h2 (ev_some _))
  · rw [upd_4 h1]; exact ev_neg h1 (ev_some _)
theorem impl_ev {L : List Sp} {a : Int} (hL : L.length ≤ 4096) (ha : 0 ≤ a ∧ a ≤ 100000) (hr : ∀ p ∈ L, Right p) : ∀ (d : Nat) (o : List Int) (s : Bs), o.length + d = L.length → (∀ x ∈ o, 0 ≤ x ∧ x < (L.length : Int)) → Ev (fun k => impl_orders_at_impl_BestRoute_1.f k o (L.length : Int) L a s.1 s.2.1 s.2.2.1 s.2.2.2.1 s.2.2.2.2) (srch L a d o s)
  | 0, o, s, ho, hin => by
    unfold srch
    refine Ev.step (f := fun k => (impl_BestRoute_1.f k o L a s.1 s.2.1 s.2.2.1 s.2.2.2.1 s.2.2.2.2).bind fun bt => some bt) (fun k => ?_) (ev_bind (clos_ev ha hr s (by omega) hin) (ev_some _))
    simp only [impl_orders_at_impl_BestRoute_1.f]
    rw [if_pos (by omega)]
  | d + 1, o, s, ho, hin => by
    unfold srch
    refine Ev.step (f := fun k => impl_orders_at_impl_BestRoute_1.l0 k o (L.length : Int) (L.length : Int) ((0 : Nat) : Int) L a s.1 s.2.1 s.2.2.1 s.2.2.2.1 s.2.2.2.2) (fun k => ?_) ?_
    · simp only [impl_orders_at_impl_BestRoute_1.f]
      rw [if_neg (by omega)]; rfl
    · have key := down (n := L.length) (P := fun i => ∀ s : Bs, Ev (fun k => impl_orders_at_impl_BestRoute_1.l0 k o (L.length : Int) (L.length : Int) (i : Int) L a s.1 s.2.1 s.2.2.1 s.2.2.2.1 s.2.2.2.2) (lp L.length o (srch L a d) (L.length - i) s)) ?_ ?_ 0 (Nat.zero_le _) s
      · exact key
      · intro s
        rw [Nat.sub_self]
        refine ev_succ (fun k => ?_)
        simp only [impl_orders_at_impl_BestRoute_1.l0]
        rw [if_neg (by omega)]; rfl
      · intro i hi ih s
        obtain ⟨m, hm⟩ : ∃ m, L.length - i = m + 1 := ⟨L.length - i - 1, by omega⟩
        rw [hm]
        unfold lp
        rw [show L.length - (m + 1) = i by omega]
        rw [show L.length - (i + 1) = m by omega] at ih
        have hw : Aside0 (wrap64 ((i : Int) + 1) = ((i + 1 : Nat) : Int)) := ⟨wrap_succ hi (by unfold maxLen; omega)⟩
        have hc := contains_int o (i : Int) (by unfold maxLen; omega)
        refine Ev.step (f := fun k => (slices_Contains_int_int.f k o (i : Int)).bind fun t => if t = true then impl_orders_at_impl_BestRoute_1.l0 k o (L.length : Int) (L.length : Int) ((i + 1 : Nat) : Int) L a s.1 s.2.1 s.2.2.1 s.2.2.2.1 s.2.2.2.2 else (impl_orders_at_impl_BestRoute_1.f k (o ++ [(i : Int)]) (L.length : Int) L a s.1 s.2.1 s.2.2.1 s.2.2.2.1 s.2.2.2.2).bind fun bt => impl_orders_at_impl_BestRoute_1.l0 k o (L.length : Int) (L.length : Int) ((i + 1 : Nat) : Int) L a bt.1 bt.2.1 bt.2.2.1 bt.2.2.2.1 bt.2.2.2.2) (fun k => ?_) (ev_bind hc ?_)
        · simp only [impl_orders_at_impl_BestRoute_1.l0, hw.out, slices_Clone_int_int.f, Option.bind_some, List.length_nil, Nat.zero_add, List.nil_append]
          rw [if_pos (ilt hi)]
          simp only [if_pos (show o.length < 17592186044416 by omega), Option.bind_some]
        · cases hb : (o.any (fun y => decide ((i : Int) = y))) with
          | true => exact ev_pos rfl (ih s)
          | false =>
            refine ev_neg (by simp) (ev_bind (impl_ev hL ha hr d (o ++ [(i : Int)]) s (by rw [List.length_append, List.length_cons, List.length_nil]; omega) (fun x hx => ?_)) (ih _))
            rcases List.mem_append.1 hx with h | h
            · exact hin x h
            · rw [List.mem_singleton.1 h]; exact ⟨ige _, ilt hi⟩
theorem there_ev {L : List Sp} {a : Int} {o : List Int} (ho : o.length ≤ 4096) (i : Int) (z : Bz) {r : Bz} (G : Bool → Nat → Option Bz) (hG : ∀ k b, spec_l20Search_try.l1 (k + 1) o i b (o.length : Int) L a z.1 z.2.1 z.2.2.1 z.2.2.2.1 z.2.2.2.2 = G b k)
    (h : Ev (fun k => G (o.any (fun y => decide (i = y))) k) r) : Ev (fun k => spec_l20Search_try.l1 k o i false 0 L a z.1 z.2.1 z.2.2.1 z.2.2.2.1 z.2.2.2.2) r := by
  have key := down_list o (P := fun j => ∀ b, (b || (o.drop j).any (fun y => decide (i = y))) = o.any (fun y => decide (i = y)) → Ev (fun k => spec_l20Search_try.l1 k o i b (j : Int) L a z.1 z.2.1 z.2.2.1 z.2.2.2.1 z.2.2.2.2) r) ?_ ?_ false (by simp)
  · exact key
  · intro b hb
    rw [List.drop_length, List.any_nil, Bool.or_false] at hb
    rw [← hb] at h
    exact Ev.step (fun k => hG k b) h
  · intro j x hx hd ih b hb
    have hj := some_lt hx
    have hrx : rd o (j : Int) = x := getD_some hx
    rw [hd, List.any_cons] at hb
    have hbeq : (x == i) = decide (i = x) := by
      by_cases e : x = i
      · subst e; simp
      · simp [e, show ¬ i = x from fun q => e q.symm]
    refine Ev.step (fun k => ?_) (ih (b || decide (i = x)) (by rw [← hb, Bool.or_assoc]))
    simp only [spec_l20Search_try.l1, hrx, hbeq]
    rw [if_pos (ilt hj), wrap_succ hj (by unfold maxLen; omega)]
    cases b with
    | true => simp
    | false => rw [if_neg (by simp), if_pos (ige _), Bool.false_or]
theorem spec_ev {L : List Sp} {a : Int} (hL : L.length ≤ 4096) (ha : 0 ≤ a ∧ a ≤ 100000) (hr : ∀ p ∈ L, Right p) : ∀ (d : Nat) (o : List Int) (s : Bs), o.length + d = L.length → (∀ x ∈ o, 0 ≤ x ∧ x < (L.length : Int)) → Ev (fun k => spec_l20Search_try.f k L a s.2.1 s.2.2.1 s.2.2.2.1 s.2.2.2.2 s.1 o) (toZ (srch L a d o s)) := by
  intro d
  induction d with
  | zero =>
    intro o s ho hin
    refine Ev.step (f := fun k => (spec_l20Route.f k L a o).bind fun bt214 => (if bt214.2.2.2.2 = true then (if s.1 = true then (if bt214.2.2.2.1 < s.2.2.2.2 then (some (bt214.1, bt214.2.1, bt214.2.2.1, bt214.2.2.2.1, true)) else (some (s.2.1, s.2.2.1, s.2.2.2.1, s.2.2.2.2, s.1))) else (some (bt214.1, bt214.2.1, bt214.2.2.1, bt214.2.2.2.1, true))) else (some (s.2.1, s.2.2.1, s.2.2.2.1, s.2.2.2.2, s.1)))) (fun k => ?_) (ev_bind (route_spec (by omega) ha hr hin) ?_)
    · simp only [spec_l20Search_try.f]
      simp only [if_pos (show (o.length : Int) = (L.length : Int) by omega)]
    · unfold srch
      by_cases h1 : (routeR L a o).2.2.2.2 = true
      · by_cases h2 : s.1 = true
        · by_cases h3 : (routeR L a o).2.2.2.1 < s.2.2.2.2
          · rw [upd_1 h1 h2 h3]; exact ev_pos h1 (ev_pos h2 (ev_pos h3 (ev_some _)))
          · rw [upd_2 h1 h2 h3]; exact ev_pos h1 (ev_pos h2 (ev_neg h3 (ev_some _)))
        · rw [upd_3 h1 h2]; exact ev_pos h1 (ev_neg h2 (ev_some _))
      · rw [upd_4 h1]; exact ev_neg h1 (ev_some _)
  | succ d ihd =>
    intro o s ho hin
    refine Ev.step (f := fun k => (spec_l20Route.f k L a o).bind fun bt214 => (if bt214.2.2.2.2 = true then spec_l20Search_try.l0 k o ((0 : Nat) : Int) L a s.2.1 s.2.2.1 s.2.2.2.1 s.2.2.2.2 s.1 else (some (s.2.1, s.2.2.1, s.2.2.2.1, s.2.2.2.2, s.1)))) (fun k => ?_) (ev_bind (route_spec (by omega) ha hr hin) ?_)
    · simp only [spec_l20Search_try.f]
      simp only [if_neg (show ¬ (o.length : Int) = (L.length : Int) by omega)]
      rfl
    · by_cases h1 : (routeR L a o).2.2.2.2 = true
      · refine ev_pos h1 ?_
        unfold srch
        have key := down (n := L.length) (P := fun i => ∀ s : Bs, Ev (fun k => spec_l20Search_try.l0 k o (i : Int) L a s.2.1 s.2.2.1 s.2.2.2.1 s.2.2.2.2 s.1) (toZ (lp L.length o (srch L a d) (L.length - i) s))) ?_ ?_ 0 (Nat.zero_le _) s
        · exact key
        · intro s
          rw [Nat.sub_self]
          refine ev_succ (fun k => ?_)
          simp only [spec_l20Search_try.l0]
          rw [if_neg (by omega)]; rfl
        · intro i hi ih s
          obtain ⟨m, hm⟩ : ∃ m, L.length - i = m + 1 := ⟨L.length - i - 1, by omega⟩
          rw [hm]
          unfold lp
          rw [show L.length - (m + 1) = i by omega]
          rw [show L.length - (i + 1) = m by omega] at ih
          have hw : Aside0 (wrap64 ((i : Int) + 1) = ((i + 1 : Nat) : Int)) := ⟨wrap_succ hi (by unfold maxLen; omega)⟩
          refine Ev.step (f := fun k => spec_l20Search_try.l1 k o (i : Int) false 0 L a s.2.1 s.2.2.1 s.2.2.2.1 s.2.2.2.2 s.1) (fun k => ?_) ?_
          · simp only [spec_l20Search_try.l0]
            rw [if_pos (ilt hi)]
          · refine there_ev (L := L) (a := a) (by omega) (i : Int) (toZ s) (fun b k => if b = true then spec_l20Search_try.l0 k o ((i + 1 : Nat) : Int) L a s.2.1 s.2.2.1 s.2.2.2.1 s.2.2.2.2 s.1 else (spec_l20Search_try.f k L a s.2.1 s.2.2.1 s.2.2.2.1 s.2.2.2.2 s.1 (o ++ [(i : Int)])).bind fun bt => spec_l20Search_try.l0 k o ((i + 1 : Nat) : Int) L a bt.1 bt.2.1 bt.2.2.1 bt.2.2.2.1 bt.2.2.2.2) (fun k b => ?_) ?_
            · unfold toZ
              simp only [spec_l20Search_try.l1, hw.out, Option.bind_some, List.length_nil, Nat.zero_add, List.nil_append]
              rw [if_neg (by omega)]
              simp only [if_pos (show o.length < 17592186044416 by omega)]
            · cases hb : (o.any (fun y => decide ((i : Int) = y))) with
              | true => exact ev_pos rfl (ih s)
              | false =>
                refine ev_neg (by simp) (ev_bind (ihd (o ++ [(i : Int)]) s (by rw [List.length_append, List.length_cons, List.length_nil]; omega) (fun x hx => ?_)) (ih _))
                rcases List.mem_append.1 hx with h | h
                · exact hin x h
                · rw [List.mem_singleton.1 h]; exact ⟨ige _, ilt hi⟩
      · rw [srch_late (d + 1) o s (by simpa using h1)]
        exact ev_neg h1 (ev_some _)
abbrev Rz := List Int × List Int × Int × Int × Int
def bestB (L : List Sp) (a : Int) : Rz := if codeB L a = 0 then (if (srch L a L.length [] (false, [], [], 0, 0)).1 = true then ((srch L a L.length [] (false, [], [], 0, 0)).2.1, (srch L a L.length [] (false, [], [], 0, 0)).2.2.1, (srch L a L.length [] (false, [], [], 0, 0)).2.2.2.1, (srch L a L.length [] (false, [], [], 0, 0)).2.2.2.2, 0) else ([], [], 0, 0, 8)) else ([], [], 0, 0, codeB L a)
theorem best_impl (L : List Sp) (a : Int) (hl : L.length ≤ maxLen) : Ev (fun k => impl_BestRoute.f k L a) (bestB L a) := by
  unfold impl_BestRoute.f bestB
  refine ev_bind (code_impl L a hl) ?_
  by_cases h : codeB L a = 0
  · rw [if_pos h]
    refine ev_pos h (ev_bind (impl_ev (code_min h).2 (code_min h).1 (code_zero h) L.length [] (false, [], [], 0, 0) (by simp) (by simp)) ?_)
    by_cases g : (srch L a L.length [] (false, [], [], 0, 0)).1 = true
    · simp only [if_pos g]; exact ev_some _
    · simp only [if_neg g]; exact ev_some _
  · rw [if_neg h]; exact ev_neg h (ev_some _)
theorem best_spec (L : List Sp) (a : Int) (hl : L.length ≤ maxLen) : Ev (fun k => spec_BestRoute.f k L a) (bestB L a) := by
  unfold spec_BestRoute.f bestB
  refine ev_bind (code_spec L a hl) ?_
  by_cases h : codeB L a = 0
  · rw [if_pos h]
    refine ev_pos h (ev_bind (spec_ev (code_min h).2 (code_min h).1 (code_zero h) L.length [] (false, [], [], 0, 0) (by simp) (by simp)) ?_)
    by_cases g : (srch L a L.length [] (false, [], [], 0, 0)).1 = true
    · rw [if_pos g]; exact ev_pos g (ev_some _)
    · rw [if_neg g]; exact ev_neg g (ev_some _)
  · rw [if_neg h]; exact ev_neg h (ev_some _)
end Go.Proofs.Ytojncbpeeboooaa.ZBestRtQ
