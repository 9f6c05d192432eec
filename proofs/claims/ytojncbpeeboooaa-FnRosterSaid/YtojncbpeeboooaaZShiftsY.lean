/- Shifts and workers: what the tests come to; the law's copies, sizes and comparisons. -/
import Derived.Test.YtojncbpeeboooaaZNameY
namespace Go.Proofs.Ytojncbpeeboooaa.ZShiftsY
open Go.RowKit Go.Proofs.Ytojncbpeeboooaa.Y Go.Proofs.Ytojncbpeeboooaa.Lib Go.Proofs.Ytojncbpeeboooaa.ZNameY Go.Proofs.YtojncbpeeboooaaW.PrintWords Go.Proofs.YtojncbpeeboooaaW.PrintLast Go.Proofs.YtojncbpeeboooaaW.PrintMore

abbrev Sh := S139
abbrev Wo := S72
theorem eqS_comm (a b : ByteArray) : eqS a b = eqS b a := by unfold eqS; rw [decide_eq_decide]; exact eq_comm
noncomputable def okSh (l : List Sh) (i : Nat) (p : Sh) : Bool := decide (0 ≤ p.f0 ∧ p.f0 < p.f1 ∧ p.f1 ≤ 10080) && (nameB p.f2 && !(decide (0 < i) && decide (p.f0 < (rd_T139 l ((i : Int) - 1)).f0)))
noncomputable def allSh (l : List Sh) : Nat → Bool
  | 0 => true
  | n + 1 => match l[l.length - (n + 1)]? with
    | some p => okSh l (l.length - (n + 1)) p && allSh l n
    | none => true
noncomputable def okWo (p : Wo) : Bool := nameB p.f0 && (decide (0 ≤ p.f1 ∧ p.f1 ≤ 10080) && (decide (0 ≤ p.f2 ∧ p.f2 ≤ 10080) && (decide (0 ≤ p.f3 ∧ p.f3 ≤ 1000) && (decide ((p.f4.length : Int) ≤ 6) && p.f4.all nameB))))
noncomputable def woB (w : List Wo) : Bool := w.all okWo && !twG (fun x y => eqS x.f0 y.f0) [] w
noncomputable def shB (l : List Sh) (w : List Wo) : Bool := decide (l.length ≤ 8 ∧ w.length ≤ 5) && (allSh l l.length && woB w)
theorem sh_loop (l : List Sh) (r : Bool) (F : Nat → Int → Option Bool) (hend : Ev (fun k => F k (l.length : Nat)) r)
    (h : ∀ (i : Nat) x, l[i]? = some x → ∀ b, Ev (fun k => F k ((i + 1 : Nat) : Int)) b → Ev (fun k => F k (i : Int)) (okSh l i x && b)) : Ev (fun k => F k 0) (allSh l l.length && r) := by
  have key : Ev (fun k => F k ((0 : Nat) : Int)) (allSh l (l.length - 0) && r) := by
    refine down_list l (P := fun i => Ev (fun k => F k (i : Int)) (allSh l (l.length - i) && r)) ?_ ?_
    · rw [Nat.sub_self]; exact ev_eq hend (by simp [allSh])
    · intro i x hx hd ih
      have hi := some_lt hx
      obtain ⟨n, hn⟩ : ∃ n, l.length - i = n + 1 := ⟨l.length - i - 1, by omega⟩
      rw [hn, allSh, show l.length - (n + 1) = i by omega, hx]
      rw [show l.length - (i + 1) = n by omega] at ih
      dsimp only
      rw [Bool.and_assoc]
      exact h i x hx _ ih
  simpa using key
theorem prev_lt {l : List Sh} {i : Nat} (h : i < l.length) (hi : 0 < i) (hl : l.length ≤ maxLen) : wrap64 ((i : Int) - 1) = (i : Int) - 1 ∧ 0 ≤ (i : Int) - 1 ∧ (i : Int) - 1 < (l.length : Int) := by
  unfold maxLen at hl
  exact ⟨w64 (by omega) (by omega), by omega, by omega⟩
theorem names_spec (names : List ByteArray) (hl : names.length ≤ maxLen) (r : Bool) (F : Nat → Int → Option Bool) (hend : Ev (fun k => F k (names.length : Nat)) r)
    (h : ∀ k (i : Nat) x, names[i]? = some x → F (k + 1) (i : Int) = (spec_NameOK.f k x).bind fun t => if t = true then F k (wrap64 ((i : Int) + 1)) else some false) : Ev (fun k => F k 0) (names.all nameB && r) := by
  have key : Ev (fun k => F k ((0 : Nat) : Int)) ((names.drop 0).all nameB && r) := by
    refine down_list names (P := fun i => Ev (fun k => F k (i : Int)) ((names.drop i).all nameB && r)) ?_ ?_
    · rw [List.drop_length]; simpa using hend
    · intro i x hx hd ih
      refine Ev.step (fun k => h k i x hx) (ev_bind (name_spec x) ?_)
      rw [hd, List.all_cons, wrap_succ (some_lt hx) hl]
      cases nameB x
      · exact ev_neg (by decide) (ev_eq (ev_some _) (by simp))
      · rw [Bool.true_and]; exact ev_pos rfl ih
  simpa using key
theorem wo_spec (w : List Wo) (hl : w.length ≤ maxLen) (hs : ∀ p ∈ w, p.f4.length ≤ maxLen) : Ev (fun k => spec_ShiftsOK.l1 k w 0) (woB w) := by
  unfold woB
  refine od_ev w okWo (fun x y => eqS x.f0 y.f0) (fun k i => spec_ShiftsOK.l1 k w i) (fun i x hx r hE => ?_) (ev_succ (fun k => ?_))
  · have hi := some_lt hx
    have hr : rd_T72 w (i : Int) = x := getD_some hx
    have bad : ∀ b, b = true → Ev (fun k => spec_ShiftsOK.j4 k w (i : Int) b x.f0 x.f1 x.f2 x.f3 x.f4) false := fun b hb => ev_succ (fun k => by rw [hb]; simp [spec_ShiftsOK.j4])
    refine Ev.step (f := fun k => (spec_NameOK.f k x.f0).bind fun t => if t = true then (if 0 ≤ x.f1 ∧ x.f1 ≤ 10080 then (if 0 ≤ x.f2 ∧ x.f2 ≤ 10080 then (if 0 ≤ x.f3 ∧ x.f3 ≤ 1000 then spec_ShiftsOK.j4 k w (i : Int) (decide ((x.f4.length : Int) > 6)) x.f0 x.f1 x.f2 x.f3 x.f4 else spec_ShiftsOK.j4 k w (i : Int) true x.f0 x.f1 x.f2 x.f3 x.f4) else spec_ShiftsOK.j4 k w (i : Int) true x.f0 x.f1 x.f2 x.f3 x.f4) else spec_ShiftsOK.j4 k w (i : Int) true x.f0 x.f1 x.f2 x.f3 x.f4) else spec_ShiftsOK.j4 k w (i : Int) true x.f0 x.f1 x.f2 x.f3 x.f4) (fun k => ?_) (ev_bind (name_spec x.f0) ?_)
    · simp only [spec_ShiftsOK.l1, hr, l01In_eq, Option.bind_some, decide_eq_true_eq]
      rw [if_pos (ilt hi), if_pos (ige _)]
    · unfold okWo
      cases nameB x.f0
      · rw [Bool.false_and, Bool.false_and]; exact ev_neg (by decide) (bad true rfl)
      · rw [Bool.true_and]
        refine ev_pos rfl ?_
        by_cases h1 : 0 ≤ x.f1 ∧ x.f1 ≤ 10080
        · rw [decide_eq_true h1, Bool.true_and]
          refine ev_pos h1 ?_
          by_cases h2 : 0 ≤ x.f2 ∧ x.f2 ≤ 10080
          · rw [decide_eq_true h2, Bool.true_and]
            refine ev_pos h2 ?_
            by_cases h3 : 0 ≤ x.f3 ∧ x.f3 ≤ 1000
            · rw [decide_eq_true h3, Bool.true_and]
              refine ev_pos h3 ?_
              by_cases h4 : (x.f4.length : Int) > 6
              · rw [decide_eq_false (show ¬ (x.f4.length : Int) ≤ 6 by omega), Bool.false_and, Bool.false_and]
                exact bad _ (decide_eq_true h4)
              · rw [decide_eq_true (show (x.f4.length : Int) ≤ 6 by omega), Bool.true_and, decide_eq_false h4]
                refine Ev.step (f := fun k => spec_ShiftsOK.l2 k w (i : Int) 0 x.f0 x.f1 x.f2 x.f3 x.f4) (fun k => by simp [spec_ShiftsOK.j4]) ?_
                refine names_spec x.f4 (hs x (List.mem_of_getElem? hx)) _ (fun k j => spec_ShiftsOK.l2 k w (i : Int) j x.f0 x.f1 x.f2 x.f3 x.f4) ?_ (fun k j y hy => ?_)
                · refine Ev.step (f := fun k => spec_ShiftsOK.l3 k w (i : Int) 0 x.f0 x.f1 x.f2 x.f3 x.f4) (fun k => ?_) ?_
                  · simp only [spec_ShiftsOK.l2]
                    rw [if_neg (by omega)]
                  · refine back_ev w i (fun y => eqS x.f0 y.f0) (fun k j => spec_ShiftsOK.l3 k w (i : Int) j x.f0 x.f1 x.f2 x.f3 x.f4) r (by omega) hl (fun k j y hj hy => ?_) ?_
                    · have hjl := some_lt hy
                      have hry : rd_T72 w (j : Int) = y := getD_some hy
                      simp only [spec_ShiftsOK.l3, hry]
                      rw [if_pos (ilt hj), if_pos (ige _), if_pos (ilt hjl), eqS_comm]
                      simp only [eqS, decide_eq_true_eq]
                    · refine Ev.step (fun k => ?_) hE
                      simp only [spec_ShiftsOK.l3]
                      rw [if_neg (by omega), wrap_succ hi hl]
                · have hjl := some_lt hy
                  have hry : rdOf ByteArray.empty x.f4 (j : Int) = y := getD_some hy
                  simp only [spec_ShiftsOK.l2, hry]
                  rw [if_pos (ilt hjl), if_pos (ige _)]
            · rw [decide_eq_false h3, Bool.false_and, Bool.false_and]; exact ev_neg h3 (bad true rfl)
          · rw [decide_eq_false h2, Bool.false_and, Bool.false_and]; exact ev_neg h2 (bad true rfl)
        · rw [decide_eq_false h1, Bool.false_and, Bool.false_and]; exact ev_neg h1 (bad true rfl)
  · simp only [spec_ShiftsOK.l1]
    rw [if_neg (by omega)]
theorem shifts_spec (l : List Sh) (w : List Wo) (hl : l.length ≤ maxLen) (hw : w.length ≤ maxLen) (hs : ∀ p ∈ w, p.f4.length ≤ maxLen) : Ev (fun k => spec_ShiftsOK.f k l w) (shB l w) := by
  unfold spec_ShiftsOK.f shB
  have bad0 : ∀ b, b = true → Ev (fun k => spec_ShiftsOK.j0 k l w b) false := fun b hb => ev_succ (fun k => by rw [hb]; simp [spec_ShiftsOK.j0])
  by_cases h : (l.length : Int) > 8
  · rw [decide_eq_false (show ¬ (l.length ≤ 8 ∧ w.length ≤ 5) by omega), Bool.false_and]
    exact ev_pos h (bad0 true rfl)
  · refine ev_neg h ?_
    by_cases h' : (w.length : Int) > 5
    · rw [decide_eq_false (show ¬ (l.length ≤ 8 ∧ w.length ≤ 5) by omega), Bool.false_and]
      exact bad0 _ (decide_eq_true h')
    · rw [decide_eq_true (show l.length ≤ 8 ∧ w.length ≤ 5 by omega), Bool.true_and, decide_eq_false h']
      refine Ev.step (f := fun k => spec_ShiftsOK.l0 k l w 0) (fun k => by simp [spec_ShiftsOK.j0]) ?_
      refine sh_loop l (woB w) (fun k i => spec_ShiftsOK.l0 k l w i) ?_ (fun i x hx b hE => ?_)
      · refine Ev.step (fun k => ?_) (wo_spec w hw hs)
        simp only [spec_ShiftsOK.l0]
        rw [if_neg (by omega)]
      · have hi := some_lt hx
        have hr : rd_T139 l (i : Int) = x := getD_some hx
        have bad : Ev (fun k => spec_ShiftsOK.j2 k l w (i : Int) true x.f0 x.f1 x.f2) false := ev_succ (fun k => by simp [spec_ShiftsOK.j2])
        have st : ∀ r, Ev (fun k => if 0 ≤ x.f0 ∧ x.f0 < x.f1 ∧ x.f1 ≤ 10080 then ((spec_NameOK.f k x.f2).bind fun t => spec_ShiftsOK.j2 k l w (i : Int) (!t) x.f0 x.f1 x.f2) else spec_ShiftsOK.j2 k l w (i : Int) true x.f0 x.f1 x.f2) r → Ev (fun k => spec_ShiftsOK.l0 k l w (i : Int)) r := fun r hb => by
          refine Ev.step (fun k => ?_) hb
          simp only [spec_ShiftsOK.l0, hr]
          rw [if_pos (ilt hi), if_pos (ige _)]
          by_cases hc : 0 ≤ x.f0 ∧ x.f0 < x.f1 ∧ x.f1 ≤ 10080
          · rw [if_pos hc, if_neg (by omega), if_neg (by omega), if_neg (by omega)]
          · rw [if_neg hc]
            repeat' split
            all_goals first | rfl | (exfalso; omega)
        refine st _ ?_
        unfold okSh
        by_cases hc : 0 ≤ x.f0 ∧ x.f0 < x.f1 ∧ x.f1 ≤ 10080
        · rw [decide_eq_true hc, Bool.true_and]
          refine ev_pos hc (ev_bind (name_spec x.f2) ?_)
          cases nameB x.f2
          · rw [Bool.false_and, Bool.false_and]; exact bad
          · rw [Bool.true_and]
            by_cases hz : 0 < i
            · obtain ⟨hw1, hw2, hw3⟩ := prev_lt hi hz hl
              rw [decide_eq_true hz, Bool.true_and]
              by_cases hp : x.f0 < (rd_T139 l ((i : Int) - 1)).f0
              · rw [decide_eq_true hp, Bool.not_true, Bool.false_and]
                refine ev_succ (fun k => ?_)
                simp only [spec_ShiftsOK.j2, hw1]
                rw [if_neg (by decide), if_pos (by omega), if_pos hw2, if_pos hw3, if_pos hp]
              · rw [decide_eq_false hp, Bool.not_false, Bool.true_and]
                refine Ev.step (fun k => ?_) hE
                simp only [spec_ShiftsOK.j2, hw1]
                rw [if_neg (by decide), if_pos (by omega), if_pos hw2, if_pos hw3, if_neg hp, wrap_succ hi hl]
            · rw [decide_eq_false hz, Bool.false_and, Bool.not_false, Bool.true_and]
              refine Ev.step (fun k => ?_) hE
              simp only [spec_ShiftsOK.j2]
              rw [if_neg (by decide), if_neg (by omega), wrap_succ hi hl]
        · rw [decide_eq_false hc, Bool.false_and, Bool.false_and]
          exact ev_neg hc bad
theorem names_impl (names : List ByteArray) (hl : names.length ≤ maxLen) : Ev (fun k => impl_areNames.f k names) (names.all nameB) := by
  unfold impl_areNames.f
  have he : ∀ x, Ev (fun k => impl_areNames_1.f k x) (!nameB x) := fun x => by
    unfold impl_areNames_1.f
    exact ev_bind (name_impl x) (ev_some _)
  have hx : Ev (fun k => slices_IndexFunc_at_impl_areNames_1.f k names) (fidx (fun x => !nameB x) names 0) := by
    unfold slices_IndexFunc_at_impl_areNames_1.f
    refine index_ev names _ (fun k i => slices_IndexFunc_at_impl_areNames_1.l0 k names (names.length : Int) i) (fun k x => impl_areNames_1.f k x) hl (fun x _ => he x) (fun k i x hx => ?_) (fun k => ?_)
    · have := some_lt hx
      have hr : rdOf ByteArray.empty names (i : Int) = x := getD_some hx
      simp only [slices_IndexFunc_at_impl_areNames_1.l0, hr]
      rw [if_pos (ilt this), if_pos (ige _), if_pos (ilt this)]
    · simp only [slices_IndexFunc_at_impl_areNames_1.l0]
      rw [if_neg (by omega)]
  have hc : Ev (fun k => slices_ContainsFunc_at_impl_areNames_1.f k names) (names.any fun x => !nameB x) := any_of_index hx
  refine ev_bind hc (ev_eq (ev_some _) ?_)
  rw [List.all_eq_not_any_not]
theorem isWorker_ev (x : Wo) (hs : x.f4.length ≤ maxLen) : Ev (fun k => impl_isWorker.f k x.f0 x.f1 x.f2 x.f3 x.f4) (okWo x) := by
  unfold impl_isWorker.f okWo
  simp only [within_eq, Option.bind_some, decide_eq_true_eq]
  refine ev_bind (name_impl x.f0) ?_
  cases nameB x.f0
  · rw [Bool.false_and]; exact ev_neg (by decide) (ev_some _)
  · rw [Bool.true_and]
    refine ev_pos rfl ?_
    by_cases h1 : 0 ≤ x.f1 ∧ x.f1 ≤ 10080
    · rw [decide_eq_true h1, Bool.true_and]
      refine ev_pos h1 ?_
      by_cases h2 : 0 ≤ x.f2 ∧ x.f2 ≤ 10080
      · rw [decide_eq_true h2, Bool.true_and]
        refine ev_pos h2 ?_
        by_cases h3 : 0 ≤ x.f3 ∧ x.f3 ≤ 1000
        · rw [decide_eq_true h3, Bool.true_and]
          refine ev_pos h3 ?_
          by_cases h4 : (x.f4.length : Int) ≤ 6
          · rw [decide_eq_true h4, Bool.true_and]
            exact ev_pos h4 (ev_bind (names_impl x.f4 hs) (ev_some _))
          · rw [decide_eq_false h4, Bool.false_and]; exact ev_neg h4 (ev_some _)
        · rw [decide_eq_false h3, Bool.false_and]; exact ev_neg h3 (ev_some _)
      · rw [decide_eq_false h2, Bool.false_and]; exact ev_neg h2 (ev_some _)
    · rw [decide_eq_false h1, Bool.false_and]; exact ev_neg h1 (ev_some _)
theorem wo_impl (w : List Wo) (hl : w.length ≤ 8796093022208) (hs : ∀ p ∈ w, p.f4.length ≤ maxLen) : Ev (fun k => impl_ShiftsOK.l1 k [] w (w.length : Int) 0) (woB w) := by
  have hm : w.length ≤ maxLen := by unfold maxLen; omega
  unfold woB
  refine gather_ev w okWo (fun x => x.f0) (fun k names i => impl_ShiftsOK.l1 k names w (w.length : Int) i) _ (fun i x names hx hn => ?_) ?_
  · have hi := some_lt hx
    have hr : rd_T72 w (i : Int) = x := getD_some hx
    have hst := isWorker_ev x (hs x (List.mem_of_getElem? hx))
    have st : ∀ b, Ev (fun k => (impl_isWorker.f k x.f0 x.f1 x.f2 x.f3 x.f4).bind fun t => if t = true then impl_ShiftsOK.l1 k (names ++ [x.f0]) w (w.length : Int) ((i + 1 : Nat) : Int) else some false) b → Ev (fun k => impl_ShiftsOK.l1 k names w (w.length : Int) (i : Int)) b := fun b hb => by
      refine Ev.step (fun k => ?_) hb
      simp only [impl_ShiftsOK.l1, hr]
      rw [if_pos (ilt hi), if_pos (ige _), if_pos (ilt hi), if_pos (show names.length < 8796093022208 by omega), wrap_succ hi hm]
    refine ⟨fun hq r hE => st r ?_, fun hq => st false ?_⟩
    · rw [hq] at hst; exact ev_bind hst (ev_pos rfl hE)
    · rw [hq] at hst; exact ev_bind hst (ev_neg (by decide) (ev_some _))
  · refine Ev.step (f := fun k => (impl_hasTwice_string.f k (w.map fun x => x.f0)).bind fun t => some (!t)) (fun k => ?_) (ev_bind (twice_str _ (by rw [List.length_map]; exact hm)) (ev_eq (ev_some _) ?_))
    · simp only [impl_ShiftsOK.l1]
      rw [if_neg (by omega)]
    · rw [twG_map (fun x : Wo => x.f0) eqS]; rfl
theorem shifts_impl (l : List Sh) (w : List Wo) (hl : l.length ≤ maxLen) (hw : w.length ≤ 8796093022208) (hs : ∀ p ∈ w, p.f4.length ≤ maxLen) : Ev (fun k => impl_ShiftsOK.f k l w) (shB l w) := by
  unfold impl_ShiftsOK.f shB
  have bad0 : ∀ b, b = true → Ev (fun k => impl_ShiftsOK.j0 k l w b) false := fun b hb => ev_succ (fun k => by rw [hb]; simp [impl_ShiftsOK.j0])
  by_cases h : (l.length : Int) > 8
  · rw [decide_eq_false (show ¬ (l.length ≤ 8 ∧ w.length ≤ 5) by omega), Bool.false_and]
    exact ev_pos h (bad0 true rfl)
  · refine ev_neg h ?_
    by_cases h' : (w.length : Int) > 5
    · rw [decide_eq_false (show ¬ (l.length ≤ 8 ∧ w.length ≤ 5) by omega), Bool.false_and]
      exact bad0 _ (decide_eq_true h')
    · rw [decide_eq_true (show l.length ≤ 8 ∧ w.length ≤ 5 by omega), Bool.true_and, decide_eq_false h']
      refine Ev.step (f := fun k => impl_ShiftsOK.l0 k l w l (l.length : Int) 0) (fun k => by simp [impl_ShiftsOK.j0]) ?_
      refine sh_loop l (woB w) (fun k i => impl_ShiftsOK.l0 k l w l (l.length : Int) i) ?_ (fun i x hx b hE => ?_)
      · refine Ev.step (fun k => ?_) (wo_impl w hw hs)
        simp only [impl_ShiftsOK.l0]
        rw [if_neg (by omega)]
      · have hi := some_lt hx
        have hr : rd_T139 l (i : Int) = x := getD_some hx
        have st : ∀ r, Ev (fun k => if 0 ≤ x.f0 ∧ x.f0 < x.f1 ∧ x.f1 ≤ 10080 then ((impl_NameOK.f k x.f2).bind fun t => if t = true then (if (i : Int) > 0 then (if 0 ≤ wrap64 ((i : Int) - 1) then (if wrap64 ((i : Int) - 1) < (l.length : Int) then (if x.f0 < (rd_T139 l (wrap64 ((i : Int) - 1))).f0 then some false else impl_ShiftsOK.l0 k l w l (l.length : Int) ((i + 1 : Nat) : Int)) else none) else none) else impl_ShiftsOK.l0 k l w l (l.length : Int) ((i + 1 : Nat) : Int)) else some false) else some false) r → Ev (fun k => impl_ShiftsOK.l0 k l w l (l.length : Int) (i : Int)) r := fun r hb => by
          refine Ev.step (fun k => ?_) hb
          simp only [impl_ShiftsOK.l0, hr]
          rw [if_pos (ilt hi), if_pos (ige _), if_pos (ilt hi), wrap_succ hi hl]
          by_cases hc : 0 ≤ x.f0 ∧ x.f0 < x.f1 ∧ x.f1 ≤ 10080
          · rw [if_pos hc, if_neg (by omega), if_neg (by omega), if_neg (by omega)]
          · rw [if_neg hc]
            by_cases g1 : x.f0 < 0
            · rw [if_pos g1]
            · rw [if_neg g1]
              by_cases g2 : x.f0 ≥ x.f1
              · rw [if_pos g2]
              · rw [if_neg g2, if_pos (by omega)]
        refine st _ ?_
        unfold okSh
        by_cases hc : 0 ≤ x.f0 ∧ x.f0 < x.f1 ∧ x.f1 ≤ 10080
        · rw [decide_eq_true hc, Bool.true_and]
          refine ev_pos hc (ev_bind (name_impl x.f2) ?_)
          cases nameB x.f2
          · rw [Bool.false_and, Bool.false_and]; exact ev_neg (by decide) (ev_some _)
          · rw [Bool.true_and]
            refine ev_pos rfl ?_
            by_cases hz : 0 < i
            · obtain ⟨hw1, hw2, hw3⟩ := prev_lt hi hz hl
              rw [decide_eq_true hz, Bool.true_and]
              rw [hw1]
              refine ev_pos (by omega) (ev_pos hw2 (ev_pos hw3 ?_))
              by_cases hp : x.f0 < (rd_T139 l ((i : Int) - 1)).f0
              · rw [decide_eq_true hp, Bool.not_true, Bool.false_and]
                exact ev_pos hp (ev_some _)
              · rw [decide_eq_false hp, Bool.not_false, Bool.true_and]
                exact ev_neg hp hE
            · rw [decide_eq_false hz, Bool.false_and, Bool.not_false, Bool.true_and]
              exact ev_neg (by omega) hE
        · rw [decide_eq_false hc, Bool.false_and, Bool.false_and]
          exact ev_neg hc (ev_some _)
end Go.Proofs.Ytojncbpeeboooaa.ZShiftsY
