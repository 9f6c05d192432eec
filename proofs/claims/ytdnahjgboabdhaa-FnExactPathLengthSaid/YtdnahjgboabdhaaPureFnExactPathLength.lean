/- The statement of FnExactPathLength as plain Lean: at every hall, every list of spots and every list of whole numbers. -/
import Derived.Test.YtdnahjgboabdhaaHall
namespace Go.Proofs.Ytdnahjgboabdhaa.Pure
open Go.RowKit Go.Proofs.Ytdnahjgboabdhaa.R Go.Proofs.Ytdnahjgboabdhaa.Lib Go.Proofs.Ytdnahjgboabdhaa.Ints Go.Proofs.Ytdnahjgboabdhaa.Hall Go.Proofs.YtdnahjgboabdhaaW.PrintWords Go.Proofs.YtdnahjgboabdhaaW.PrintLast Go.Proofs.YtdnahjgboabdhaaW.PrintMore

theorem order_in {l : List Int} {n : Nat} (h : orderB l n = true) (hn : n ≤ 9) : ∀ x ∈ l, 0 ≤ x ∧ x < (n : Int) := by
  unfold orderB at h
  simp only [Bool.and_eq_true, List.all_eq_true, decide_eq_true_eq] at h
  intro x hx
  have := h.2.1 x hx
  rw [w64 (by omega) (by omega)] at this
  omega
def step (a b c : Int) (l : List S30) (_ : Int) (v : Int) (s : Int × S30) : (Int × S30) ⊕ Int :=
  .inl (wrap64 (s.1 + way a b c s.2 (rd_T30 l v)), rd_T30 l v)
def fin (a b c : Int) (s : Int × S30) : Int := wrap64 (s.1 + way a b c s.2 ⟨0, 0⟩)
def lenB (a b c : Int) (l : List S30) (o : List Int) : Int := run (step a b c l) (fin a b c) o 0 (0, ⟨0, 0⟩)
theorem len_spec {a b c : Int} {l : List S30} {o : List Int} (ho : o.length ≤ maxLen) (hin : ∀ x ∈ o, 0 ≤ x ∧ x < (l.length : Int)) : Ev (fun k => spec_l19Length.f k a b c l o) (lenB a b c l o) := by
  unfold spec_l19Length.f lenB
  refine run_ev o (step a b c l) (fin a b c) (fun k i s => spec_l19Length.l0 k l o s.1 i a b c s.2.f0 s.2.f1) (fun _ _ => True) (fun i v s hx _ => ⟨fun s' hs => ⟨trivial, fun r hr => ?_⟩, fun r hr => by cases hr⟩) (fun s _ => ?_) (0, ⟨0, 0⟩) trivial
  · cases hs
    have hi := some_lt hx
    have hv := hin v (List.mem_of_getElem? hx)
    have hr' : rd o (i : Int) = v := getD_some hx
    refine Ev.step (fun k => ?_) hr
    simp only [spec_l19Length.l0, hr', far_way, Option.bind_some]
    rw [if_pos (ilt hi), if_pos (ige _), if_pos hv.1, if_pos hv.2, wrap_succ hi ho]
    rfl
  · refine ev_succ (fun k => ?_)
    simp only [spec_l19Length.l0]
    rw [if_neg (by omega), far_way a b c s.2 ⟨0, 0⟩]; rfl
theorem len_impl {a b c : Int} {l : List S30} {o : List Int} (ho : o.length ≤ maxLen) (hh : Hl a b c) (hl : ∀ p ∈ l, Sp a b p) (hin : ∀ x ∈ o, 0 ≤ x ∧ x < (l.length : Int)) : Ev (fun k => impl_pathLength.f k a b c l o) (lenB a b c l o) := by
  unfold impl_pathLength.f lenB
  have hrd : ∀ v, 0 ≤ v ∧ v < (l.length : Int) → Sp a b (rd_T30 l v) := by
    intro v hv
    obtain ⟨w, rfl⟩ := Int.eq_ofNat_of_zero_le hv.1
    have hw : w < l.length := by omega
    have : rd_T30 l (w : Int) = l[w] := getD_some (List.getElem?_eq_getElem hw)
    rw [this]; exact hl _ (List.getElem_mem hw)
  refine run_ev o (step a b c l) (fin a b c) (fun k i s => impl_pathLength.l0 k l s.1 o (o.length : Int) i a b c s.2.f0 s.2.f1) (fun _ s => Sp a b s.2) (fun i v s hx hsp => ⟨fun s' hs => ?_, fun r hr => by cases hr⟩) (fun s hsp => ?_) (0, ⟨0, 0⟩) (sp_zero hh)
  · have hi := some_lt hx
    have hv := hin v (List.mem_of_getElem? hx)
    have hr' : rd o (i : Int) = v := getD_some hx
    cases hs
    refine ⟨hrd v hv, fun r hr => Ev.step (fun k => ?_) hr⟩
    simp only [impl_pathLength.l0, hr', between_way hh hsp (hrd v hv), Option.bind_some]
    rw [if_pos (ilt hi), if_pos (ige _), if_pos (ilt hi), if_pos hv.1, if_pos hv.2, wrap_succ hi ho]
    rfl
  · refine ev_succ (fun k => ?_)
    simp only [impl_pathLength.l0]
    rw [if_neg (by omega), between_way (q := ⟨0, 0⟩) hh hsp (sp_zero hh)]; rfl
/-- What PathLength answers. -/
def pathB (a b c : Int) (l : List S30) (o : List Int) : Int × Int :=
  if o.length > 4096 then (0, 2) else if picksB a b c l = 0 then (if orderB o l.length = true then (lenB a b c l o, 0) else (0, 3)) else (0, picksB a b c l)
theorem path_spec (a b c : Int) (l : List S30) (o : List Int) (hl : l.length ≤ maxLen) (ho : o.length ≤ maxLen) : Ev (fun k => spec_PathLength.f k a b c l o) (pathB a b c l o) := by
  unfold spec_PathLength.f pathB
  by_cases h1 : o.length > 4096
  · simp only [if_pos h1, if_pos (show (o.length : Int) > 4096 by omega)]; exact ev_some _
  · simp only [if_neg h1, if_neg (show ¬ (o.length : Int) > 4096 by omega)]
    refine ev_bind (picks_spec a b c l hl) ?_
    by_cases h2 : picksB a b c l = 0
    · simp only [if_pos h2]
      refine ev_bind (l19Order_ev o l.length (by omega)) ?_
      by_cases h3 : orderB o l.length = true
      · simp only [if_pos h3]
        exact ev_bind (len_spec ho (order_in h3 (picks_zero h2).2.2)) (ev_some _)
      · simp only [if_neg h3]; exact ev_some _
    · simp only [if_neg h2]; exact ev_some _
theorem path_impl (a b c : Int) (l : List S30) (o : List Int) (hl : l.length ≤ maxLen) (ho : o.length ≤ maxLen) : Ev (fun k => impl_PathLength.f k a b c l o) (pathB a b c l o) := by
  unfold impl_PathLength.f pathB
  simp only [impl_isList_int.f, Option.bind_some, decide_eq_true_eq]
  by_cases h1 : o.length > 4096
  · simp only [if_pos h1, if_neg (show ¬ (o.length : Int) ≤ 4096 by omega)]; exact ev_some _
  · simp only [if_neg h1, if_pos (show (o.length : Int) ≤ 4096 by omega)]
    refine ev_bind (picks_impl a b c l hl) ?_
    by_cases h2 : picksB a b c l = 0
    · simp only [if_pos h2]
      refine ev_bind (isOrder_ev o l.length ho) ?_
      by_cases h3 : orderB o l.length = true
      · simp only [if_pos h3]
        obtain ⟨hh, hs, h9⟩ := picks_zero h2
        exact ev_bind (len_impl ho hh hs (order_in h3 h9)) (ev_some _)
      · simp only [if_neg h3]; exact ev_some _
    · simp only [if_neg h2]; exact ev_some _
theorem FnExactPathLength : laws_FnExactPathLength.Pure := by
  intro x0 l1 l2 _ ⟨hl, _⟩ ⟨ho, _⟩
  refine Ev.rounds ?_
  unfold laws_FnExactPathLength.f
  by_cases h0 : (l2.length : Int) > 1048576
  · exact ev_pos h0 (ev_some _)
  · refine ev_neg h0 ?_
    rcases sz_spots l1 hl with ⟨hs, n, hn, e⟩ | ⟨n, hn, e⟩
    · simp only [e, Option.bind_some, laws_toHall.f]
      refine ev_neg (by omega) ?_
      have hm : (l1.map conv).length ≤ maxLen := by rw [List.length_map]; exact hl
      have hi := to_ints l2 (by omega)
      refine ev_bind (to_spots l1 hs) (ev_bind hi (ev_bind (path_spec _ _ _ _ l2 hm ho) (ev_bind (to_spots l1 hs) (ev_bind hi (ev_bind (path_impl _ _ _ _ l2 hm ho) ?_)))))
      simp only [if_true, bne_self_eq_false]
      refine Ev.step (fun k => ?_) (ev_bind (f := fun k (t : List S30) => (laws_eqSpotS.f k (l1.map conv) t).bind fun t => if t = true then ((laws_toIntS.f k l2).bind fun t => (laws_eqIntS.f k l2 t).bind fun t => if t = true then some true else some false) else some false) (to_spots l1 hs) (ev_bind (eq_spots _ hm) (ev_pos rfl (ev_bind hi (ev_bind (eq_ints l2 ho) (ev_eq (ev_some true) rfl))))))
      simp [laws_FnExactPathLength.j0]
    · simp only [e, Option.bind_some]
      exact ev_pos hn (ev_some _)
end Go.Proofs.Ytdnahjgboabdhaa.Pure
