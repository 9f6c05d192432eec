/- The drawn stops are right ones, the drawn order is an order. -/
import Derived.Test.YtojncbpeeboooaaZDrawQ
import Derived.Test.YtojncbpeeboooaaZStopsQ
import Derived.Test.YtojncbpeeboooaaZOrdQ
namespace Go.Proofs.Ytojncbpeeboooaa.ZStDrQ
open Go.RowKit Go.Proofs.Ytojncbpeeboooaa.Q Go.Proofs.Ytojncbpeeboooaa.Lib Go.Proofs.Ytojncbpeeboooaa.ZDrawQ Go.Proofs.Ytojncbpeeboooaa.ZStopsQ Go.Proofs.Ytojncbpeeboooaa.ZOrdQ Go.Proofs.YtojncbpeeboooaaW.PrintWords Go.Proofs.YtojncbpeeboooaaW.PrintLast Go.Proofs.YtojncbpeeboooaaW.PrintMore
section
variable {l : List Int} {n : Nat} {o : List Int} {a s : Int} {R : List Int × Int × Int}
theorem scan_out {v : Int} (hn : n ≤ 4096) (hl : o.length ≤ n) (hv : v ∉ o) (h : Ev (fun k => spec_l00Src_order.l0 k (n : Int) (o ++ [v]) l a s) R) : Ev (fun k => spec_l00Src_order.l1 k (n : Int) o v 0 l a s) R := by
  have key := down_list o (P := fun i => Ev (fun k => spec_l00Src_order.l1 k (n : Int) o v (i : Int) l a s) R) ?_ ?_
  · exact key
  · refine Ev.step (fun k => ?_) h
    simp only [spec_l00Src_order.l1]
    rw [if_neg (by omega), if_pos (by omega)]
  · intro i x hx _ ih
    have hi := some_lt hx
    have hr : rd o (i : Int) = x := getD_some hx
    have hne : ¬ x = v := fun e => hv (e ▸ List.mem_of_getElem? hx)
    refine Ev.step (fun k => ?_) ih
    simp only [spec_l00Src_order.l1, hr]
    rw [if_pos (ilt hi), if_pos (ige _), if_neg hne, wrap_succ hi (by unfold maxLen; omega)]
theorem scan_in {v : Nat} (hn : n ≤ 4096) (h1 : 1 ≤ n) (hl : o.length ≤ n) (hvn : v < n) (hv : (v : Int) ∈ o) (h : Ev (fun k => spec_l00Src_order.l1 k (n : Int) o (((v + 1) % n : Nat) : Int) 0 l a s) R) : Ev (fun k => spec_l00Src_order.l1 k (n : Int) o (v : Int) 0 l a s) R := by
  have ht : Int.tmod (wrap64 ((v : Int) + 1)) (n : Int) = (((v + 1) % n : Nat) : Int) := by
    rw [w64 (by omega) (by omega), Int.tmod_eq_emod_of_nonneg (by omega)]
    rfl
  have key := down_list o (P := fun i => (v : Int) ∈ o.drop i → Ev (fun k => spec_l00Src_order.l1 k (n : Int) o (v : Int) (i : Int) l a s) R) ?_ ?_
  · exact key hv
  · intro hh
    rw [List.drop_length] at hh
    cases hh
  · intro i x hx hd ih hh
    have hi := some_lt hx
    have hr : rd o (i : Int) = x := getD_some hx
    by_cases e : x = (v : Int)
    · refine Ev.step (fun k => ?_) h
      simp only [spec_l00Src_order.l1, hr, ht]
      rw [if_pos (ilt hi), if_pos (ige _), if_pos e, if_neg (by omega)]
      rfl
    · rw [hd] at hh
      refine Ev.step (fun k => ?_) (ih (by
        rcases List.mem_cons.1 hh with hh | hh
        · exact absurd hh.symm e
        · exact hh))
      simp only [spec_l00Src_order.l1, hr]
      rw [if_pos (ilt hi), if_pos (ige _), if_neg e, wrap_succ hi (by unfold maxLen; omega)]
theorem probe (hn : n ≤ 4096) (h1 : 1 ≤ n) (hl : o.length ≤ n) {u : Nat} (hu : (u : Int) ∉ o) (hun : u < n) : ∀ (d v : Nat), v < n → (v + d) % n = u → ∃ w : Nat, (w : Int) ∉ o ∧ w < n ∧ ∀ R, Ev (fun k => spec_l00Src_order.l0 k (n : Int) (o ++ [(w : Int)]) l a s) R → Ev (fun k => spec_l00Src_order.l1 k (n : Int) o (v : Int) 0 l a s) R
  | 0, v, hv, e => by
    rw [Nat.add_zero, Nat.mod_eq_of_lt hv] at e
    subst e
    exact ⟨v, hu, hv, fun R h => scan_out hn hl hu h⟩
  | d + 1, v, hv, e => by
    by_cases c : (v : Int) ∈ o
    · obtain ⟨w, w1, w2, w3⟩ := probe hn h1 hl hu hun d ((v + 1) % n) (Nat.mod_lt _ (by omega)) (by rw [Nat.mod_add_mod, ← e]; congr 1; omega)
      exact ⟨w, w1, w2, fun R h => scan_in hn h1 hl hv c (w3 R h)⟩
    · exact ⟨v, c, hv, fun R h => scan_out hn hl c h⟩
end
theorem order_step {l : List Int} {n : Nat} (hl : Byt l) (hn : n ≤ 4096) : ∀ (m : Nat) (o : List Int) (c a s : Int), o.length + m = n → o.Nodup → (∀ x ∈ o, 0 ≤ x ∧ x < (n : Int)) → c ≤ 1000 + 3 * (o.length : Int) → St c a s →
    ∃ F a' s', Ev (fun k => spec_l00Src_order.l0 k (n : Int) o l a s) (F, a', s') ∧ Ord n F := by
  intro m
  induction m with
  | zero =>
    intro o c a s h h1 h2 hc hs
    refine ⟨o, a, s, ev_succ (fun k => ?_), ⟨by omega, h2, h1⟩⟩
    simp only [spec_l00Src_order.l0]
    rw [if_neg (by omega)]
  | succ m ih =>
    intro o c a s h h1 h2 hc hs
    obtain ⟨v, a1, s1, e1, p1, q1, i1⟩ := next_ok (n := (n : Int)) hl hs (by omega) (by omega)
    obtain ⟨v, rfl⟩ := Int.eq_ofNat_of_zero_le p1
    have hv : v < n := by omega
    obtain ⟨u, hu, hun⟩ : ∃ u : Nat, (u : Int) ∉ o ∧ u < n := by
      refine Classical.byContradiction fun g => ?_
      have := pig2 n o (fun i hi => Decidable.byContradiction fun c => g ⟨i, c, hi⟩)
      omega
    obtain ⟨w, w1, w2, w3⟩ := probe (l := l) (a := a1) (s := s1) hn (by omega) (by omega) hu hun (u + n - v) v hv (by rw [show v + (u + n - v) = u + n by omega, Nat.add_mod_right, Nat.mod_eq_of_lt hun])
    obtain ⟨F, a', s', hE, hO⟩ := ih (o ++ [(w : Int)]) (c + 3) a1 s1 (by rw [List.length_append, List.length_singleton]; omega) (by
      rw [List.nodup_append]
      refine ⟨h1, by simp, fun x hx y hy => ?_⟩
      rw [List.mem_singleton.1 hy]
      exact fun e => w1 (e ▸ hx)) (fun x hx => by
      rcases List.mem_append.1 hx with hx | hx
      · exact h2 x hx
      · rw [List.mem_singleton.1 hx]; omega) (by rw [List.length_append, List.length_singleton]; omega) i1
    refine ⟨F, a', s', Ev.step (fun k => ?_) (w3 _ hE), hO⟩
    simp only [spec_l00Src_order.l0, e1, Option.bind_some]
    rw [if_pos (by omega)]
structure Drawn (L : List S37) (a : Int) (F : List Int) : Prop where
  len : L.length ≤ 5
  right : ∀ p ∈ L, Right p ∧ p.f3 ≤ 300
  beg : 0 ≤ a ∧ a ≤ 30
  ord : Ord L.length F
theorem list_ok {l : List Int} (hl : Byt l) : ∀ (m : Nat) (L : List S37) (c a s : Int), L.length + m ≤ 5 → (∀ p ∈ L, Right p ∧ p.f3 ≤ 300) → c ≤ 100 + 15 * (L.length : Int) → St c a s →
    ∃ L' b F, Ev (fun k => spec_StopsOf.l0 k L (m : Int) l a s) (L', b, F) ∧ Drawn L' b F := by
  intro m
  induction m with
  | zero =>
    intro L c a s h5 hR hc hs
    obtain ⟨b, a1, s1, e1, p1, q1, i1⟩ := next_ok (n := 30) hl hs (by omega) (by omega)
    obtain ⟨F, a', s', hE, hO⟩ := order_step (n := L.length) hl (by omega) L.length [] (c + 3) a1 s1 (by simp) (by simp) (by simp) (by simp; omega) i1
    refine ⟨L, b, F, Ev.step (f := fun k => (spec_l00Src_order.f k l a1 s1 (L.length : Int)).bind fun bt140 => (some (L, b, bt140.1))) (fun k => ?_) (ev_bind hE (ev_some _)), ⟨by omega, hR, by omega, hO⟩⟩
    simp only [spec_StopsOf.l0, e1, Option.bind_some]
    rw [if_neg (by omega)]
  | succ m ih =>
    intro L c a s h5 hR hc hs
    obtain ⟨t1, a1, s1, e1, p1, q1, i1⟩ := next_ok (n := 60) hl hs (by omega) (by omega)
    obtain ⟨t2, a2, s2, e2, p2, q2, i2⟩ := next_ok (n := 41) hl i1 (by omega) (by omega)
    obtain ⟨t3, a3, s3, e3, p3, q3, i3⟩ := next_ok (n := 41) hl i2 (by omega) (by omega)
    obtain ⟨t4, a4, s4, e4, p4, q4, i4⟩ := next_ok (n := 200) hl i3 (by omega) (by omega)
    obtain ⟨t5, a5, s5, e5, p5, q5, i5⟩ := next_ok (n := 12) hl i4 (by omega) (by omega)
    have w1 : wrap64 (t2 - 20) = t2 - 20 := w64 (by omega) (by omega)
    have w2 : wrap64 (t3 - 20) = t3 - 20 := w64 (by omega) (by omega)
    have w3 : wrap64 (t1 + 20) = t1 + 20 := w64 (by omega) (by omega)
    have w4 : wrap64 (t1 + 20 + t4) = t1 + 20 + t4 := w64 (by omega) (by omega)
    have w5 : wrap64 (((m + 1 : Nat) : Int) - 1) = (m : Int) := by rw [w64 (by omega) (by omega)]; omega
    obtain ⟨L', b, F, hE, hD⟩ := ih (L ++ [(⟨t2 - 20, t3 - 20, t1, t1 + 20 + t4, t5⟩ : S37)]) (c + 3 + 3 + 3 + 3 + 3) a5 s5 (by rw [List.length_append, List.length_singleton]; omega) (fun p hp => by
      rcases List.mem_append.1 hp with h | h
      · exact hR p h
      · obtain rfl := List.mem_singleton.1 h
        unfold Right
        dsimp only
        omega) (by rw [List.length_append, List.length_singleton]; omega) i5
    refine ⟨L', b, F, Ev.step (fun k => ?_) hE, hD⟩
    simp only [spec_StopsOf.l0, e1, e2, e3, e4, e5, Option.bind_some, w1, w2, w3, w4, w5]
    rw [if_pos (by omega), if_pos (by omega)]
theorem stops_ok {l : List Int} (hl : Byt l) : ∃ L a F, Ev (fun k => spec_StopsOf.f k l) (L, a, F) ∧ Drawn L a F := by
  obtain ⟨s0, e0, i0⟩ := source_ok (l := l)
  obtain ⟨z, ez, hz, hz2⟩ := size_ok l 0 s0 5
  have hw : wrap64 (z + 1) = z + 1 := w64 (by omega) (by omega)
  obtain ⟨v, a1, s1, e1, p1, q1, i1⟩ := next_ok (n := z + 1) hl i0 (by omega) (by omega)
  have hv : v ≤ 5 := by omega
  obtain ⟨m, rfl⟩ := Int.eq_ofNat_of_zero_le p1
  obtain ⟨L, b, F, hE, hD⟩ := list_ok hl m [] (0 + 3) a1 s1 (by show 0 + m ≤ 5; omega) (fun p hp => by cases hp) (by show (0 : Int) + 3 ≤ 100 + 15 * ((0 : Nat) : Int); omega) i1
  have e : ∀ k, spec_StopsOf.f k l = spec_StopsOf.l0 k ([] : List S37) (m : Int) l a1 s1 := fun k => by
    rw [spec_StopsOf.f, e0, Option.bind_some, ez, Option.bind_some, hw, e1, Option.bind_some]
  exact ⟨L, b, F, ev_same hE e, hD⟩
end Go.Proofs.Ytojncbpeeboooaa.ZStDrQ
