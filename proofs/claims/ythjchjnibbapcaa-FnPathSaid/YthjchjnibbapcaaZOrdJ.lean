/- Orders of 0 .. n-1: what isOrder answers; each place is there once; sums over them. -/
import Derived.Test.YthjchjnibbapcaaLibs
import Derived.Test.YthjchjnibbapcaaSFnPath
namespace Go.Proofs.Ythjchjnibbapcaa.ZOrdJ
open Go.RowKit Go.Proofs.Ythjchjnibbapcaa.J Go.Proofs.Ythjchjnibbapcaa.Lib Go.Proofs.YthjchjnibbapcaaW.PrintWords Go.Proofs.YthjchjnibbapcaaW.PrintLast Go.Proofs.YthjchjnibbapcaaW.PrintMore
structure Ord (n : Nat) (o : List Int) : Prop where
  len : o.length = n
  rng : ∀ x ∈ o, 0 ≤ x ∧ x < (n : Int)
  nd : o.Nodup
theorem pig : ∀ (n : Nat) (o : List Int), o.Nodup → (∀ x ∈ o, 0 ≤ x ∧ x < (n : Int)) → o.length ≤ n
  | 0, o, _, h => by
    cases o with
    | nil => simp
    | cons x o => have := h x (by simp); omega
  | n + 1, o, hn, h => by
    by_cases c : (n : Int) ∈ o
    · have h1 := pig n (o.erase (n : Int)) (hn.erase _) (fun x hx => by
        have h2 := (hn.mem_erase_iff).1 hx
        have := h x h2.2
        have h3 := h2.1
        omega)
      rw [List.length_erase_of_mem c] at h1
      omega
    · have h1 := pig n o hn (fun x hx => by
        have := h x hx
        have h3 : x ≠ (n : Int) := fun e => c (e ▸ hx)
        omega)
      omega
theorem pig2 : ∀ (n : Nat) (o : List Int), (∀ i : Nat, i < n → (i : Int) ∈ o) → n ≤ o.length
  | 0, _, _ => Nat.zero_le _
  | n + 1, o, h => by
    have c := h n (by omega)
    have h1 := pig2 n (o.erase (n : Int)) (fun i hi => (List.mem_erase_of_ne (by omega)).2 (h i (by omega)))
    rw [List.length_erase_of_mem c] at h1
    have := List.length_pos_of_mem c
    omega
theorem Ord.has {n : Nat} {o : List Int} (h : Ord n o) (i : Nat) (hi : i < n) : (i : Int) ∈ o := by
  refine Decidable.byContradiction fun c => ?_
  have := pig n ((i : Int) :: o) (List.nodup_cons.2 ⟨c, h.nd⟩) (fun x hx => by
    rcases List.mem_cons.1 hx with rfl | hx
    · omega
    · exact h.rng x hx)
  rw [List.length_cons, h.len] at this
  omega
def eqI (a b : Int) : Bool := decide (a = b)
theorem tw_nd : ∀ (l pre : List Int), (pre ++ l).Nodup → twG eqI pre l = false
  | [], _, _ => rfl
  | x :: l, pre, h => by
    have h1 : pre.any (eqI x) = false := by
      rw [List.any_eq_false]
      intro y hy
      have := (List.nodup_append.1 h).2.2 y hy x (by simp)
      unfold eqI
      simp only [decide_eq_true_eq]
      exact fun e => this e.symm
    rw [twG, h1, tw_nd l (pre ++ [x]) (by rw [List.append_assoc]; exact h)]
    rfl
theorem index_int (l : List Int) (a : Int) (hl : l.length ≤ maxLen) : Ev (fun k => slices_Index_int_int.f k l a) (fidx (eqI a) l 0) := by
  unfold slices_Index_int_int.f
  refine index_ev' l _ (fun k i => slices_Index_int_int.l0 k l a (l.length : Int) i) hl (fun k i x hx => ?_) (fun k => ?_)
  · have := some_lt hx
    have hr : rd l (i : Int) = x := getD_some hx
    simp only [slices_Index_int_int.l0, hr, eqI, decide_eq_true_eq]
    rw [if_pos (ilt this), if_pos (ige _), if_pos (ilt this)]
  · simp only [slices_Index_int_int.l0]
    rw [if_neg (by omega)]
theorem twice_int (l : List Int) (hl : l.length ≤ maxLen) : Ev (fun k => impl_hasTwice_int.f k l) (twG eqI [] l) := by
  unfold impl_hasTwice_int.f
  refine tw_ev l eqI (fun k i => impl_hasTwice_int.l0 k l l (l.length : Int) i) hl (fun i x hx => ⟨fun k => slices_Contains_int_int.f k (l.take i) x, any_of_index (index_int _ _ (by rw [List.length_take]; omega)), fun k => ?_⟩) (fun k => ?_)
  · have hi := some_lt hx
    have hr : rd l (i : Int) = x := getD_some hx
    simp only [impl_hasTwice_int.l0, hr, Int.toNat_natCast]
    rw [if_pos (ilt hi), if_pos (ige _), if_pos (ilt hi), if_pos (by omega)]
  · simp only [impl_hasTwice_int.l0]
    rw [if_neg (by omega)]
theorem w_in (a b c : Int) : impl_within.f a b c = some (decide (b ≤ a ∧ a ≤ c)) := by
  unfold impl_within.f
  by_cases h1 : a ≥ b
  · rw [if_pos h1]
    exact congrArg some (decide_eq_decide.2 ⟨fun h => ⟨h1, h⟩, fun h => h.2⟩)
  · rw [if_neg h1]
    exact congrArg some (decide_eq_false (fun h => h1 h.1)).symm
theorem from_ev (l : List Int) (lo hi : Int) (hl : l.length ≤ maxLen) : Ev (fun k => impl_areFrom.f k l lo hi) (l.all fun x => decide (lo ≤ x ∧ x ≤ hi)) := by
  unfold impl_areFrom.f
  have hx : Ev (fun k => slices_IndexFunc_at_impl_areFrom_1.f k l lo hi) (fidx (fun x => !decide (lo ≤ x ∧ x ≤ hi)) l 0) := by
    unfold slices_IndexFunc_at_impl_areFrom_1.f
    refine index_ev' l _ (fun k i => slices_IndexFunc_at_impl_areFrom_1.l0 k l (l.length : Int) i lo hi) hl (fun k i x hx => ?_) (fun k => ?_)
    · have := some_lt hx
      have hr : rd l (i : Int) = x := getD_some hx
      simp only [slices_IndexFunc_at_impl_areFrom_1.l0, hr, impl_areFrom_1.f, w_in, Option.bind_some]
      rw [if_pos (ilt this), if_pos (ige _), if_pos (ilt this)]
    · simp only [slices_IndexFunc_at_impl_areFrom_1.l0]
      rw [if_neg (by omega)]
  have hc : Ev (fun k => slices_ContainsFunc_at_impl_areFrom_1.f k l lo hi) (l.any fun x => !decide (lo ≤ x ∧ x ≤ hi)) := any_of_index hx
  refine ev_bind hc (ev_eq (ev_some _) ?_)
  rw [List.all_eq_not_any_not]
theorem order_impl {n : Nat} {o : List Int} (h : Ord n o) (hn : n ≤ 4096) : Ev (fun k => impl_isOrder.f k o (n : Int)) true := by
  have hl := h.len
  have e2 := from_ev o 0 (wrap64 ((n : Int) - 1)) (by unfold maxLen; omega)
  rw [show (o.all fun x => decide (0 ≤ x ∧ x ≤ wrap64 ((n : Int) - 1))) = true from List.all_eq_true.2 (fun x hx => by
    have := h.rng x hx
    rw [w64 (by omega) (by omega)]
    exact decide_eq_true (by omega))] at e2
  have e3 := twice_int o (by unfold maxLen; omega)
  rw [tw_nd o [] h.nd] at e3
  unfold impl_isOrder.f
  exact ev_pos (by omega) (ev_bind e2 (ev_pos rfl (ev_bind e3 (ev_some _))))
end Go.Proofs.Ythjchjnibbapcaa.ZOrdJ
