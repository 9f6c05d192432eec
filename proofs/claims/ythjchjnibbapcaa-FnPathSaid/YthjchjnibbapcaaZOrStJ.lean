/- The drawn order is an order. -/
import Derived.Test.YthjchjnibbapcaaZDrawJ
import Derived.Test.YthjchjnibbapcaaZOrdJ
namespace Go.Proofs.Ythjchjnibbapcaa.ZOrStJ
open Go.RowKit Go.Proofs.Ythjchjnibbapcaa.J Go.Proofs.Ythjchjnibbapcaa.Lib Go.Proofs.Ythjchjnibbapcaa.ZDrawJ Go.Proofs.Ythjchjnibbapcaa.ZOrdJ Go.Proofs.YthjchjnibbapcaaW.PrintWords Go.Proofs.YthjchjnibbapcaaW.PrintLast Go.Proofs.YthjchjnibbapcaaW.PrintMore
section
variable {l : List Int} {n : Nat} {o : List Int} {a s : Int} {R : List Int × Int × Int}
theorem scan_out {v : Int} (hn : n ≤ 4096) (hl : o.length ≤ n) (hv : v ∉ o) (h : Ev (fun k => spec_l00Src_order.l0 k (n : Int) (o ++ [v]) l a s) R) : Ev (fun k => spec_l00Src_order.l1 k (n : Int) o v 0 l a s) R := by
  have key := down_list o (P := fun i => Ev (fun k => spec_l00Src_order.l1 k (n : Int) o v (i : Int) l a s) R) ?_ ?_
  · exact key
  · refine Ev.step (fun k => ?_) h
    simp only [spec_l00Src_order.l1]
    rw [if_neg (by omega), if_pos (by omega)]
  · intro i x hx _ ih
    have hi := some_lt hx
    have hr : rd o (i : Int) = x := getD_some hx
    have hne : ¬ x = v := fun e => hv (e ▸ List.mem_of_getElem? hx)
    refine Ev.step (fun k => ?_) ih
    simp only [spec_l00Src_order.l1, hr]
    rw [if_pos (ilt hi), if_pos (ige _), if_neg hne, wrap_succ hi (by unfold maxLen; omega)]
theorem scan_in {v : Nat} (hn : n ≤ 4096) (h1 : 1 ≤ n) (hl : o.length ≤ n) (hvn : v < n) (hv : (v : Int) ∈ o) (h : Ev (fun k => spec_l00Src_order.l1 k (n : Int) o (((v + 1) % n : Nat) : Int) 0 l a s) R) : Ev (fun k => spec_l00Src_order.l1 k (n : Int) o (v : Int) 0 l a s) R := by
  have ht : Int.tmod (wrap64 ((v : Int) + 1)) (n : Int) = (((v + 1) % n : Nat) : Int) := by
    rw [w64 (by omega) (by omega), Int.tmod_eq_emod_of_nonneg (by omega)]
    rfl
  have key := down_list o (P := fun i => (v : Int) ∈ o.drop i → Ev (fun k => spec_l00Src_order.l1 k (n : Int) o (v : Int) (i : Int) l a s) R) ?_ ?_
  · exact key hv
  · intro hh
    rw [List.drop_length] at hh
    cases hh
  · intro i x hx hd ih hh
    have hi := some_lt hx
    have hr : rd o (i : Int) = x := getD_some hx
    by_cases e : x = (v : Int)
    · refine Ev.step (fun k => ?_) h
      simp only [spec_l00Src_order.l1, hr, ht]
      rw [if_pos (ilt hi), if_pos (ige _), if_pos e, if_neg (by omega)]
      rfl
    · rw [hd] at hh
      refine Ev.step (fun k => ?_) (ih (by
        rcases List.mem_cons.1 hh with hh | hh
        · exact absurd hh.symm e
        · exact hh))
      simp only [spec_l00Src_order.l1, hr]
      rw [if_pos (ilt hi), if_pos (ige _), if_neg e, wrap_succ hi (by unfold maxLen; omega)]
theorem probe (hn : n ≤ 4096) (h1 : 1 ≤ n) (hl : o.length ≤ n) {u : Nat} (hu : (u : Int) ∉ o) (hun : u < n) : ∀ (d v : Nat), v < n → (v + d) % n = u → ∃ w : Nat, (w : Int) ∉ o ∧ w < n ∧ ∀ R, Ev (fun k => spec_l00Src_order.l0 k (n : Int) (o ++ [(w : Int)]) l a s) R → Ev (fun k => spec_l00Src_order.l1 k (n : Int) o (v : Int) 0 l a s) R
  | 0, v, hv, e => by
    rw [Nat.add_zero, Nat.mod_eq_of_lt hv] at e
    subst e
    exact ⟨v, hu, hv, fun R h => scan_out hn hl hu h⟩
  | d + 1, v, hv, e => by
    by_cases c : (v : Int) ∈ o
    · obtain ⟨w, w1, w2, w3⟩ := probe hn h1 hl hu hun d ((v + 1) % n) (Nat.mod_lt _ (by omega)) (by rw [Nat.mod_add_mod, ← e]; congr 1; omega)
      exact ⟨w, w1, w2, fun R h => scan_in hn h1 hl hv c (w3 R h)⟩
    · exact ⟨v, c, hv, fun R h => scan_out hn hl c h⟩
end
theorem order_step {l : List Int} {n : Nat} (hl : Byt l) (hn : n ≤ 4096) : ∀ (m : Nat) (o : List Int) (c a s : Int), o.length + m = n → o.Nodup → (∀ x ∈ o, 0 ≤ x ∧ x < (n : Int)) → c ≤ 1000 + 3 * (o.length : Int) → St c a s →
    ∃ F a' s', Ev (fun k => spec_l00Src_order.l0 k (n : Int) o l a s) (F, a', s') ∧ Ord n F := by
  intro m
  induction m with
  | zero =>
    intro o c a s h h1 h2 hc hs
    refine ⟨o, a, s, ev_succ (fun k => ?_), ⟨by omega, h2, h1⟩⟩
    simp only [spec_l00Src_order.l0]
    rw [if_neg (by omega)]
  | succ m ih =>
    intro o c a s h h1 h2 hc hs
    obtain ⟨v, a1, s1, e1, p1, q1, i1⟩ := next_ok (n := (n : Int)) hl hs (by omega) (by omega)
    obtain ⟨v, rfl⟩ := Int.eq_ofNat_of_zero_le p1
    have hv : v < n := by omega
    obtain ⟨u, hu, hun⟩ : ∃ u : Nat, (u : Int) ∉ o ∧ u < n := by
      refine Classical.byContradiction fun g => ?_
      have := pig2 n o (fun i hi => Decidable.byContradiction fun c => g ⟨i, c, hi⟩)
      omega
    obtain ⟨w, w1, w2, w3⟩ := probe (l := l) (a := a1) (s := s1) hn (by omega) (by omega) hu hun (u + n - v) v hv (by rw [show v + (u + n - v) = u + n by omega, Nat.add_mod_right, Nat.mod_eq_of_lt hun])
    obtain ⟨F, a', s', hE, hO⟩ := ih (o ++ [(w : Int)]) (c + 3) a1 s1 (by rw [List.length_append, List.length_singleton]; omega) (by
      rw [List.nodup_append]
      refine ⟨h1, by simp, fun x hx y hy => ?_⟩
      rw [List.mem_singleton.1 hy]
      exact fun e => w1 (e ▸ hx)) (fun x hx => by
      rcases List.mem_append.1 hx with hx | hx
      · exact h2 x hx
      · rw [List.mem_singleton.1 hx]; omega) (by rw [List.length_append, List.length_singleton]; omega) i1
    refine ⟨F, a', s', Ev.step (fun k => ?_) (w3 _ hE), hO⟩
    simp only [spec_l00Src_order.l0, e1, Option.bind_some]
    rw [if_pos (by omega)]
end Go.Proofs.Ythjchjnibbapcaa.ZOrStJ
