/- The law's copies and comparisons of whole numbers; orders of places: what the program's and the reference's tests come to. -/
import Derived.Test.YtgneodfkfbaoaaaLib
import Derived.Test.YtgneodfkfbaoaaaSFnExactRouteOf
namespace Go.Proofs.Ytgneodfkfbaoaaa.ZIntsU
open Go.RowKit Go.Proofs.Ytgneodfkfbaoaaa.U Go.Proofs.Ytgneodfkfbaoaaa.Lib Go.Proofs.YtgneodfkfbaoaaaW.PrintWords Go.Proofs.YtgneodfkfbaoaaaW.PrintLast Go.Proofs.YtgneodfkfbaoaaaW.PrintMore

theorem l01In_eq (a b c : Int) : spec_l01In.f a b c = some (decide (b ≤ a ∧ a ≤ c)) := by
  unfold spec_l01In.f
  by_cases h : a ≥ b
  · rw [if_pos h]; simp [h]
  · rw [if_neg h]; simp; omega
theorem within_eq (a b c : Int) : impl_within.f a b c = some (decide (b ≤ a ∧ a ≤ c)) := l01In_eq a b c
theorem to_ints (l : List Int) (hl : l.length ≤ 1048576) : Ev (fun k => laws_toIntS.f k l) l := by
  unfold laws_toIntS.f
  simp only [if_pos (ige _), Int.toNat_natCast, if_pos (show l.length ≤ 35184372088832 by omega)]
  refine ev_eq (to_ev l _ id (fun k out i => laws_toIntS.l0 k l out i) (by unfold maxLen; omega) (fun k out i x hx ho => ?_) (fun k out => ?_)) (List.map_id l)
  · have := some_lt hx
    have hr : rd l (i : Int) = x := getD_some hx
    simp only [laws_toIntS.l0, hr]
    rw [if_pos (ilt this), if_pos (ige _), if_pos (by omega)]; rfl
  · simp only [laws_toIntS.l0]
    rw [if_neg (by omega)]
theorem eq_ints (l : List Int) (hl : l.length ≤ maxLen) : Ev (fun k => laws_eqIntS.f k l l) true := by
  unfold laws_eqIntS.f
  simp only [if_true]
  refine ev_eq (all_ev' l (fun _ => true) (fun k i => laws_eqIntS.l0 k l l i) hl (fun k i x hx => ?_) (fun k => ?_)) (by simp)
  · have := some_lt hx
    simp only [laws_eqIntS.l0]
    rw [if_pos (ilt this), if_pos (ige _), if_pos (ilt this)]
  · simp only [laws_eqIntS.l0]
    rw [if_neg (by omega)]
/-! ### the places of an order -/
def twB : List Int → List Int → Bool
  | _, [] => false
  | pre, x :: l => pre.any (fun y => decide (x = y)) || twB (pre ++ [x]) l
theorem index_int (l : List Int) (a : Int) (hl : l.length ≤ maxLen) : Ev (fun k => slices_Index_int_int.f k l a) (fidx (fun y => decide (a = y)) l 0) := by
  unfold slices_Index_int_int.f
  refine index_ev' l _ (fun k i => slices_Index_int_int.l0 k l a (l.length : Int) i) hl (fun k i x hx => ?_) (fun k => ?_)
  · have := some_lt hx
    have hr : rd l (i : Int) = x := getD_some hx
    simp only [slices_Index_int_int.l0, hr, decide_eq_true_eq]
    rw [if_pos (ilt this), if_pos (ige _), if_pos (ilt this)]
  · simp only [slices_Index_int_int.l0]
    rw [if_neg (by omega)]
theorem contains_int (l : List Int) (a : Int) (hl : l.length ≤ maxLen) : Ev (fun k => slices_Contains_int_int.f k l a) (l.any (fun y => decide (a = y))) := any_of_index (index_int l a hl)
theorem twice_ev (l : List Int) (hl : l.length ≤ maxLen) : Ev (fun k => impl_hasTwice_int.f k l) (twB [] l) := by
  unfold impl_hasTwice_int.f
  have key : Ev (fun k => impl_hasTwice_int.l0 k l l (l.length : Int) ((0 : Nat) : Int)) (twB (l.take 0) (l.drop 0)) := by
    refine down_list l (P := fun i => Ev (fun k => impl_hasTwice_int.l0 k l l (l.length : Int) (i : Int)) (twB (l.take i) (l.drop i))) ?_ ?_
    · rw [List.drop_length]
      refine ev_succ (fun k => ?_)
      simp only [impl_hasTwice_int.l0, twB]
      rw [if_neg (by omega)]
    · intro i x hx hd ih
      have hi := some_lt hx
      have hr : rd l (i : Int) = x := getD_some hx
      refine Ev.step (f := fun k => (slices_Contains_int_int.f k (l.take i) x).bind fun t => if t = true then some true else impl_hasTwice_int.l0 k l l (l.length : Int) (wrap64 ((i : Int) + 1))) (fun k => ?_) (ev_bind (contains_int (l.take i) x (by rw [List.length_take]; omega)) ?_)
      · simp only [impl_hasTwice_int.l0, hr, Int.toNat_natCast]
        rw [if_pos (ilt hi), if_pos (ige _), if_pos (ilt hi), if_pos (by omega)]
      · rw [hd, twB, wrap_succ hi hl]
        by_cases hc : (l.take i).any (fun y => decide (x = y)) = true
        · rw [hc, Bool.true_or]; exact ev_pos rfl (ev_some _)
        · rw [Bool.eq_false_iff.2 hc, Bool.false_or]
          refine ev_neg (by simp) (ev_eq ih ?_)
          rw [List.take_succ_eq_append_getElem hi]
          rw [show l[i] = x from (List.getElem?_eq_some_iff.1 hx).2]
  simpa using key
theorem from_ev (l : List Int) (lo hi : Int) (hl : l.length ≤ maxLen) : Ev (fun k => impl_areFrom.f k l lo hi) (l.all fun x => decide (lo ≤ x ∧ x ≤ hi)) := by
  unfold impl_areFrom.f
  have hx : Ev (fun k => slices_IndexFunc_at_impl_areFrom_1.f k l lo hi) (fidx (fun x => !decide (lo ≤ x ∧ x ≤ hi)) l 0) := by
    unfold slices_IndexFunc_at_impl_areFrom_1.f
    refine index_ev' l _ (fun k i => slices_IndexFunc_at_impl_areFrom_1.l0 k l (l.length : Int) i lo hi) hl (fun k i x hx => ?_) (fun k => ?_)
    · have := some_lt hx
      have hr : rd l (i : Int) = x := getD_some hx
      simp only [slices_IndexFunc_at_impl_areFrom_1.l0, hr, impl_areFrom_1.f, within_eq, Option.bind_some]
      rw [if_pos (ilt this), if_pos (ige _), if_pos (ilt this)]
    · simp only [slices_IndexFunc_at_impl_areFrom_1.l0]
      rw [if_neg (by omega)]
  have hc : Ev (fun k => slices_ContainsFunc_at_impl_areFrom_1.f k l lo hi) (l.any fun x => !decide (lo ≤ x ∧ x ≤ hi)) := any_of_index hx
  refine ev_bind hc (ev_eq (ev_some _) ?_)
  rw [List.all_eq_not_any_not]
/-- A list has each of so many places once. -/
def orderB (l : List Int) (n : Nat) : Bool := decide (l.length = n) && (l.all (fun x => decide (0 ≤ x ∧ x ≤ wrap64 ((n : Int) - 1))) && !twB [] l)
theorem isOrder_ev (l : List Int) (n : Nat) (hl : l.length ≤ maxLen) : Ev (fun k => impl_isOrder.f k l (n : Int)) (orderB l n) := by
  unfold impl_isOrder.f orderB
  by_cases h : l.length = n
  · rw [decide_eq_true h, Bool.true_and]
    refine ev_pos (by omega) (ev_bind (from_ev l _ _ hl) ?_)
    by_cases ha : (l.all fun x => decide (0 ≤ x ∧ x ≤ wrap64 ((n : Int) - 1))) = true
    · rw [ha, Bool.true_and]
      exact ev_pos rfl (ev_bind (twice_ev l hl) (ev_some _))
    · rw [Bool.eq_false_iff.2 ha, Bool.false_and]
      exact ev_neg (by simp) (ev_some _)
  · rw [decide_eq_false h, Bool.false_and]
    exact ev_neg (by omega) (ev_some _)
def odB (q : Int → Bool) : List Int → List Int → Bool
  | _, [] => true
  | pre, x :: l => q x && (!(pre.any fun y => decide (x = y)) && odB q (pre ++ [x]) l)
theorem odB_eq (q : Int → Bool) : ∀ (l pre : List Int), odB q pre l = (l.all q && !twB pre l)
  | [], _ => by simp [odB, twB]
  | x :: l, pre => by
    rw [odB, twB, odB_eq q l, List.all_cons]
    cases q x <;> cases pre.any (fun y => decide (x = y)) <;> cases l.all q <;> simp
theorem l19Order_ev (l : List Int) (n : Nat) (hl : l.length ≤ 4096) : Ev (fun k => spec_l19Order.f k l (n : Int)) (orderB l n) := by
  unfold spec_l19Order.f orderB
  by_cases h : l.length = n
  · subst h
    rw [decide_eq_true rfl, Bool.true_and]
    refine ev_pos rfl (ev_pos (ige _) ?_)
    simp only [Int.toNat_natCast]
    refine ev_pos (by omega) ?_
    rw [← odB_eq]
    have hw : wrap64 ((l.length : Int) - 1) = (l.length : Int) - 1 := w64 (by omega) (by omega)
    have key : ∀ s : List Bool, s.length = l.length ∧ (∀ v : Nat, v < l.length → s.getD v false = (l.take 0).any (fun y => decide ((v : Int) = y))) → Ev (fun k => spec_l19Order.l0 k l (l.length : Int) s ((0 : Nat) : Int)) (odB (fun x => decide (0 ≤ x ∧ x ≤ wrap64 ((l.length : Int) - 1))) (l.take 0) (l.drop 0)) := by
      refine down_list l (P := fun i => ∀ s : List Bool, s.length = l.length ∧ (∀ v : Nat, v < l.length → s.getD v false = (l.take i).any (fun y => decide ((v : Int) = y))) → Ev (fun k => spec_l19Order.l0 k l (l.length : Int) s (i : Int)) (odB (fun x => decide (0 ≤ x ∧ x ≤ wrap64 ((l.length : Int) - 1))) (l.take i) (l.drop i))) ?_ ?_
      · intro s _
        rw [List.drop_length]
        refine ev_succ (fun k => ?_)
        simp only [spec_l19Order.l0, odB]
        rw [if_neg (by omega)]
      · intro i x hx hd ih s ⟨hsl, hs⟩
        have hi := some_lt hx
        have hr : rd l (i : Int) = x := getD_some hx
        rw [hd, odB]
        by_cases hq : 0 ≤ x ∧ x ≤ wrap64 ((l.length : Int) - 1)
        · obtain ⟨v, rfl⟩ := Int.eq_ofNat_of_zero_le hq.1
          have hv : v < l.length := by rw [hw] at hq; omega
          have hsv := hs v hv
          rw [decide_eq_true hq, Bool.true_and]
          by_cases hc : (l.take i).any (fun y => decide ((v : Int) = y)) = true
          · rw [hc, Bool.not_true, Bool.false_and]
            refine ev_succ (fun k => ?_)
            have hb : rdOf false s (v : Int) = true := by rw [← hc, ← hsv]; rfl
            simp only [spec_l19Order.l0, hr, l01In_eq, Option.bind_some, hb]
            rw [if_pos (ilt hi), if_pos (ige _), if_pos (ilt hi), if_pos (decide_eq_true hq), if_pos (ige _), if_pos (by omega)]; simp
          · rw [Bool.eq_false_iff.2 hc, Bool.not_false, Bool.true_and]
            have hb : rdOf false s (v : Int) = false := by
              show s.getD ((v : Int)).toNat false = false
              rw [Int.toNat_natCast, hsv]; exact Bool.eq_false_iff.2 hc
            refine Ev.step (f := fun k => spec_l19Order.l0 k l (l.length : Int) (s.set v true) (wrap64 ((i : Int) + 1))) (fun k => ?_) ?_
            · simp only [spec_l19Order.l0, hr, l01In_eq, Option.bind_some, hb, Int.toNat_natCast]
              rw [if_pos (ilt hi), if_pos (ige _), if_pos (ilt hi), if_pos (decide_eq_true hq), if_pos (ige _), if_pos (by omega)]; simp
            · rw [wrap_succ hi (by unfold maxLen; omega)]
              refine ev_eq (ih (s.set v true) ⟨by rw [List.length_set]; exact hsl, fun z hz => ?_⟩) ?_
              · rw [List.take_succ_eq_append_getElem hi, show l[i] = (v : Int) from (List.getElem?_eq_some_iff.1 hx).2, List.any_append, ← hs z hz]
                simp only [List.getD_eq_getElem?_getD, List.getElem?_set]
                by_cases hzv : v = z
                · subst hzv; simp [hsl, hv]
                · simp [hzv]; omega
              · rw [List.take_succ_eq_append_getElem hi, show l[i] = (v : Int) from (List.getElem?_eq_some_iff.1 hx).2]
        · rw [decide_eq_false hq, Bool.false_and]
          refine ev_succ (fun k => ?_)
          simp only [spec_l19Order.l0, hr, l01In_eq, Option.bind_some]
          rw [if_pos (ilt hi), if_pos (ige _), if_pos (ilt hi), if_neg (by simpa using hq)]
    have := key (List.replicate l.length false) ⟨by simp, fun v hv => by simp [hv]⟩
    simpa using this
  · rw [decide_eq_false h, Bool.false_and]
    exact ev_neg (by omega) (ev_some _)
end Go.Proofs.Ytgneodfkfbaoaaa.ZIntsU
