/- FnLedger: at every drawn history the program's ledger keeps each card's sums, refuses what no card can pay and no coupon twice.
   For every list of bytes. -/
import Derived.Test.YtoibmbkmpadmnaaZLedWV
import Derived.Test.YtoibmbkmpadmnaaZLedDV
namespace Go.Proofs.Ytoibmbkmpadmnaa.Pure
open Go.RowKit Go.Proofs.Ytoibmbkmpadmnaa.V Go.Proofs.Ytoibmbkmpadmnaa.Lib Go.Proofs.Ytoibmbkmpadmnaa.ZNamIV Go.Proofs.Ytoibmbkmpadmnaa.ZLedEiV Go.Proofs.Ytoibmbkmpadmnaa.ZLedRiV Go.Proofs.Ytoibmbkmpadmnaa.ZLedWV Go.Proofs.Ytoibmbkmpadmnaa.ZDrawV Go.Proofs.YtoibmbkmpadmnaaW.PrintWords Go.Proofs.YtoibmbkmpadmnaaW.PrintLast Go.Proofs.YtoibmbkmpadmnaaW.PrintMore
theorem byt_of {l : List Int} (h : ∀ y0 ∈ l, (Lit.int .u8 y0).wf = true) : Byt l := by
  intro y hy
  have := h y hy
  unfold Lit.wf at this
  rw [Bool.and_eq_true] at this
  exact ⟨of_decide_eq_true this.1, of_decide_eq_true this.2⟩
theorem has_ev (l : List ByteArray) (nm : ByteArray) (hl : l.length ≤ maxLen) : Ev (fun k => laws_has.f k l nm) (l.any (eqS nm)) := by
  have key : Ev (fun k => laws_has.l0 k l nm ((0 : Nat) : Int)) ((l.drop 0).any (eqS nm)) := by
    refine down_list l (P := fun i => Ev (fun k => laws_has.l0 k l nm (i : Int)) ((l.drop i).any (eqS nm))) ?_ ?_
    · rw [List.drop_length]
      refine ev_succ (fun k => ?_)
      simp only [laws_has.l0]
      rw [if_neg (by omega)]
      rfl
    · intro i x hx hd ih
      have hi := some_lt hx
      have hr : rdOf ByteArray.empty l (i : Int) = x := getD_some hx
      have hw := wrap_succ hi hl
      rw [hd, List.any_cons]
      by_cases h : x.toList = nm.toList
      · have e : eqS nm x = true := decide_eq_true h.symm
        rw [e, Bool.true_or]
        refine ev_succ (fun k => ?_)
        simp only [laws_has.l0, hr]
        rw [if_pos (ilt hi), if_pos (ige _), if_pos h]
      · have e : eqS nm x = false := decide_eq_false (fun h' => h h'.symm)
        rw [e, Bool.false_or]
        refine Ev.step (fun k => ?_) ih
        simp only [laws_has.l0, hr, hw]
        rw [if_pos (ilt hi), if_pos (ige _), if_neg h]
  unfold laws_has.f
  exact key
theorem same_ev (l : List ByteArray) (hl : l.length ≤ maxLen) : Ev (fun k => laws_sameTexts.f k l l) true := by
  have key : Ev (fun k => laws_sameTexts.l0 k l l ((0 : Nat) : Int)) true := by
    refine down_list l (P := fun i => Ev (fun k => laws_sameTexts.l0 k l l (i : Int)) true) ?_ ?_
    · refine ev_succ (fun k => ?_)
      simp only [laws_sameTexts.l0]
      rw [if_neg (by omega)]
    · intro i x hx hd ih
      have hi := some_lt hx
      have hw := wrap_succ hi hl
      refine Ev.step (fun k => ?_) ih
      simp only [laws_sameTexts.l0, hw]
      rw [if_pos (ilt hi), if_pos (ige _), if_pos (ilt hi)]
      simp
  unfold laws_sameTexts.f
  exact ev_pos rfl key
theorem numsC2 {c d : Cd} (h : numsC c = numsC d) : c.f1 = d.f1 ∧ c.f2 = d.f2 ∧ c.f3 = d.f3 := by
  unfold numsC at h
  exact ⟨congrArg (·.1) h, congrArg (·.2.1) h, congrArg (·.2.2) h⟩
/- what one event does to the card of a name -/
theorem one_three {lC : List Cd} {lS : List ByteArray} {e : Ew} (h3 : e.f3 = 3) : (doB lC lS e).2.1 = lC ∧ (doB lC lS e).1 = !lS.any (eqS e.f4) ∧ (doB lC lS e).2.2 = if lS.any (eqS e.f4) = true then lS else lS ++ [e.f4] := by
  unfold doB
  rw [if_pos h3]
  by_cases h : lS.any (eqS e.f4) = true
  · rw [if_pos h, if_pos h, h]; exact ⟨rfl, rfl, rfl⟩
  · rw [if_neg h, if_neg h, Bool.eq_false_iff.2 h]; exact ⟨rfl, rfl, rfl⟩
theorem one_sold {lC : List Cd} {lS : List ByteArray} {e : Ew} (h3 : ¬ e.f3 = 3) : (doB lC lS e).2.2 = lS := by
  rw [do_new lC lS h3]
  repeat' split
  all_goals rfl
theorem one_other {lC : List Cd} {lS : List ByteArray} {e : Ew} {nm : ByteArray} (h3 : ¬ e.f3 = 3) (hn : ¬ e.f4.toList = nm.toList) : fnd (doB lC lS e).2.1 nm = fnd lC nm := by
  rw [do_new lC lS h3]
  by_cases h1 : e.f3 = 1
  · rw [if_pos h1]; exact fnd_upd (g := gL e.f5) (fun _ => rfl) hn lC
  · rw [if_neg h1]
    by_cases h : e.f5 > (fnd lC e.f4).f1
    · rw [if_pos h]; exact fnd_upd (g := id) (fun _ => rfl) hn lC
    · rw [if_neg h]; exact fnd_upd (g := gS e.f5) (fun _ => rfl) hn lC
theorem one_load {lC : List Cd} {lS : List ByteArray} {e : Ew} {nm : ByteArray} (h1 : e.f3 = 1) (hn : e.f4.toList = nm.toList) : numsC (fnd (doB lC lS e).2.1 nm) = numsC (gL e.f5 (fnd lC nm)) := by
  rw [do_new lC lS (by omega), if_pos h1]
  exact fnd_same (g := gL e.f5) (fun _ => rfl) (gL_nums _) hn lC
theorem one_spend {lC : List Cd} {lS : List ByteArray} {e : Ew} {nm : ByteArray} (h3 : ¬ e.f3 = 3) (h1 : ¬ e.f3 = 1) (hn : e.f4.toList = nm.toList) :
    (e.f5 > (fnd lC nm).f1 → (doB lC lS e).1 = false ∧ numsC (fnd (doB lC lS e).2.1 nm) = numsC (fnd lC nm)) ∧ (¬ e.f5 > (fnd lC nm).f1 → (doB lC lS e).1 = true ∧ numsC (fnd (doB lC lS e).2.1 nm) = numsC (gS e.f5 (fnd lC nm))) := by
  have hq := (numsC2 (fnd_eq hn lC)).1
  rw [do_new lC lS h3, if_neg h1, hq]
  refine ⟨fun h => ?_, fun h => ?_⟩
  · rw [if_pos h]; exact ⟨rfl, fnd_same (g := id) (fun _ => rfl) (fun _ _ h => h) hn lC⟩
  · rw [if_neg h]; exact ⟨rfl, fnd_same (g := gS e.f5) (fun _ => rfl) (gS_nums _) hn lC⟩
theorem inv_fnd {lC : List Cd} (h : InvC lC) (nm : ByteArray) : (fnd lC nm).f1 = wrap64 ((fnd lC nm).f2 - (fnd lC nm).f3) := by
  rcases fnd_mem nm lC with h1 | h1
  · exact h _ h1
  · rw [h1]
    show (0 : Int) = wrap64 (0 - 0)
    unfold wrap64
    omega
theorem card_ok {L : List Ew} (hL : L.length ≤ 21) (he : ∀ e ∈ L, evB e = true) {C : List Cd} {T : List ByteArray} {F : List Int} (hC : C = (stA L L.length).1) (hF : F = (stA L L.length).2.2) {x : Cd} (hx : x ∈ C) (c : Int) {R : Bool}
    (hR : Ev (fun k => laws_FnLedger.l1 k L (wrap64 (c + 1)) C T F) R) : Ev (fun k => laws_FnLedger.l2 k L 0 c 0 0 0 C T F x.f0 x.f1 x.f2 x.f3) R := by
  have key : Ev (fun k => laws_FnLedger.l2 k L (((stA L 0).2.2.length : Nat) : Int) c (fnd (stA L 0).1 x.f0).f2 (fnd (stA L 0).1 x.f0).f3 ((0 : Nat) : Int) C T F x.f0 x.f1 x.f2 x.f3) R := by
    refine down_list L (P := fun i => Ev (fun k => laws_FnLedger.l2 k L (((stA L i).2.2.length : Nat) : Int) c (fnd (stA L i).1 x.f0).f2 (fnd (stA L i).1 x.f0).f3 (i : Int) C T F x.f0 x.f1 x.f2 x.f3) R) ?_ ?_
    · have hg := good_at (by omega) he L.length (Nat.le_refl _)
      rw [hC] at hx
      have hf := nd_fnd hg.nd x hx
      have h1 := hg.inv x hx
      have h2 := (hg.bd x hx).1
      rw [hf]
      refine Ev.step (fun k => ?_) hR
      simp only [laws_FnLedger.l2]
      rw [if_neg (by omega), if_pos trivial, if_pos trivial, if_pos h1, if_neg (by omega)]
    · intro i e hie hd ih
      have hi := some_lt hie
      have hr : rd_T35 L (i : Int) = e := getD_some hie
      have hw := wrap_succ hi (by unfold maxLen; omega : L.length ≤ maxLen)
      have hg := good_at (by omega) he i (by omega)
      have hh := head_ok L hi
      rw [← hF] at hh
      have hel := end_len L i
      have hlen := (len_at (l := L) i).2.2
      have hC' : (stA L (i + 1)).1 = (doB (stA L i).1 (stA L i).2.1 e).2.1 := by rw [← hr]; rfl
      have hb : okA L i = (doB (stA L i).1 (stA L i).2.1 e).1 := by rw [← hr]; rfl
      rw [hC'] at ih
      generalize (stA L (i + 1)).2.2.length = r' at ih hel
      generalize (stA L i).2.2.length = r at hh hel hlen ⊢
      have hinv := inv_fnd hg.inv x.f0
      -- the last step, from j8
      have g8 : Ev (fun k => laws_FnLedger.j8 k L (r' : Int) c (fnd (stA L i).1 x.f0).f2 (fnd (stA L i).1 x.f0).f3 (i : Int) (!okA L i) (if e.f4.toList = x.f0.toList then (e.f3 == 3) else true) C T F x.f0 x.f1 x.f2 x.f3) R := by
        by_cases h3 : e.f3 = 3
        · rw [(one_three h3).1] at ih
          refine Ev.step (fun k => ?_) ih
          simp only [laws_FnLedger.j8, hw]
          rw [if_pos (by rw [h3]; split <;> rfl)]
        · by_cases hn : e.f4.toList = x.f0.toList
          · have hb3 : (e.f3 == 3) = false := beq_eq_false_iff_ne.2 h3
            rw [if_pos hn, hb3]
            by_cases h1 : e.f3 = 1
            · obtain ⟨q1, q2, q3⟩ := numsC2 (one_load (lC := (stA L i).1) (lS := (stA L i).2.1) h1 hn)
              rw [q2, q3] at ih
              refine Ev.step (fun k => ?_) ih
              simp only [laws_FnLedger.j8, hw, hr]
              rw [if_neg (by decide), if_pos (ige _), if_pos (ilt hi), if_pos h1]
              rfl
            · have hs := one_spend (lC := (stA L i).1) (lS := (stA L i).2.1) h3 h1 hn
              by_cases hgt : e.f5 > (fnd (stA L i).1 x.f0).f1
              · obtain ⟨p1, p2⟩ := hs.1 hgt
                obtain ⟨q1, q2, q3⟩ := numsC2 p2
                rw [q2, q3] at ih
                rw [hinv] at hgt
                rw [hb, p1]
                refine Ev.step (fun k => ?_) ih
                simp only [laws_FnLedger.j8, hw, hr]
                rw [if_neg (by decide), if_pos (ige _), if_pos (ilt hi), if_neg h1, decide_eq_true hgt, if_neg (by decide), if_pos (by decide)]
              · obtain ⟨p1, p2⟩ := hs.2 hgt
                obtain ⟨q1, q2, q3⟩ := numsC2 p2
                rw [q2, q3] at ih
                rw [hinv] at hgt
                rw [hb, p1]
                refine Ev.step (fun k => ?_) ih
                simp only [laws_FnLedger.j8, hw, hr]
                rw [if_neg (by decide), if_pos (ige _), if_pos (ilt hi), if_neg h1, decide_eq_false hgt, if_neg (by decide), if_neg (by decide)]
                rfl
          · rw [one_other h3 hn] at ih
            rw [if_neg hn]
            refine Ev.step (fun k => ?_) ih
            simp only [laws_FnLedger.j8, hw]
            rw [if_pos trivial]
      have g7 : Ev (fun k => laws_FnLedger.j7 k L (r' : Int) c (fnd (stA L i).1 x.f0).f2 (fnd (stA L i).1 x.f0).f3 (i : Int) (!okA L i) C T F x.f0 x.f1 x.f2 x.f3) R := by
        refine Ev.step (fun k => ?_) g8
        simp only [laws_FnLedger.j7, hr]
        rw [if_pos (ige _), if_pos (ilt hi)]
        split <;> rfl
      have g6 : Ev (fun k => laws_FnLedger.j6 k L (r : Int) c (fnd (stA L i).1 x.f0).f2 (fnd (stA L i).1 x.f0).f3 (i : Int) (!okA L i) C T F x.f0 x.f1 x.f2 x.f3) R := by
        refine Ev.step (fun k => ?_) g7
        simp only [laws_FnLedger.j6]
        cases ho : okA L i with
        | true =>
          rw [ho, if_pos rfl] at hel
          rw [hel, if_neg (by decide)]
        | false =>
          rw [ho, if_neg (by decide)] at hel
          rw [hel, if_pos (by decide), wrap_succ (n := r + 1) (by omega) (by unfold maxLen; omega)]
      refine Ev.step (fun k => ?_) g6
      simp only [laws_FnLedger.l2]
      rw [if_pos (ilt hi)]
      by_cases h : r < F.length
      · rw [if_pos (ilt h), if_pos (ige _), hh.2 h]
      · rw [if_neg (by omega), hh.1 h]
        rfl
  exact key
theorem cards_ok {L : List Ew} (hL : L.length ≤ 21) (he : ∀ e ∈ L, evB e = true) {C : List Cd} {T : List ByteArray} {F : List Int} (hC : C = (stA L L.length).1) (hF : F = (stA L L.length).2.2) : Ev (fun k => laws_FnLedger.l1 k L 0 C T F) true := by
  have hl := (len_at (l := L) L.length).1
  rw [← hC] at hl
  have key : Ev (fun k => laws_FnLedger.l1 k L ((0 : Nat) : Int) C T F) true := by
    refine down_list C (P := fun i => Ev (fun k => laws_FnLedger.l1 k L (i : Int) C T F) true) ?_ ?_
    · refine ev_succ (fun k => ?_)
      simp only [laws_FnLedger.l1]
      rw [if_neg (by omega)]
    · intro i x hx hd ih
      have hi := some_lt hx
      have hr : rd_T39 C (i : Int) = x := getD_some hx
      have hw := wrap_succ hi (by unfold maxLen; omega : C.length ≤ maxLen)
      rw [← hw] at ih
      refine Ev.step (fun k => ?_) (card_ok hL he hC hF (List.mem_of_getElem? hx) (i : Int) ih)
      simp only [laws_FnLedger.l1, hr]
      rw [if_pos (ilt hi), if_pos (ige _)]
  exact key
theorem refs_ok {L : List Ew} (hL : L.length ≤ 21) (he : ∀ e ∈ L, evB e = true) {C : List Cd} {T : List ByteArray} {F : List Int} (hC : C = (stA L L.length).1) (hT : T = (stA L L.length).2.1) (hF : F = (stA L L.length).2.2) : Ev (fun k => laws_FnLedger.l0 k L ([] : List ByteArray) 0 0 C T F) true := by
  have key : Ev (fun k => laws_FnLedger.l0 k L (stA L 0).2.1 (((stA L 0).2.2.length : Nat) : Int) ((0 : Nat) : Int) C T F) true := by
    refine down_list L (P := fun i => Ev (fun k => laws_FnLedger.l0 k L (stA L i).2.1 (((stA L i).2.2.length : Nat) : Int) (i : Int) C T F) true) ?_ ?_
    · have hl := (len_at (l := L) L.length).2.1
      rw [← hT, ← hF]
      rw [← hT] at hl
      have g3 : Ev (fun k => laws_FnLedger.j3 k L (!true) C T F) true := by
        refine Ev.step (fun k => ?_) (cards_ok (T := T) hL he hC hF)
        simp only [laws_FnLedger.j3]
        rw [if_neg (by decide)]
      refine Ev.step (f := fun k => (laws_sameTexts.f k T T).bind fun t => laws_FnLedger.j3 k L (!t) C T F) (fun k => ?_) (ev_bind (same_ev T (by unfold maxLen; omega)) g3)
      simp only [laws_FnLedger.l0]
      rw [if_neg (by omega), if_pos trivial]
    · intro i e hie hd ih
      have hi := some_lt hie
      have hr : rd_T35 L (i : Int) = e := getD_some hie
      have hw := wrap_succ hi (by unfold maxLen; omega : L.length ≤ maxLen)
      have hh := head_ok L hi
      rw [← hF] at hh
      have hel := end_len L i
      have hlen := (len_at (l := L) i).2.2
      have hlen2 := (len_at (l := L) i).2.1
      have hS' : (stA L (i + 1)).2.1 = (doB (stA L i).1 (stA L i).2.1 e).2.2 := by rw [← hr]; rfl
      have hb : okA L i = (doB (stA L i).1 (stA L i).2.1 e).1 := by rw [← hr]; rfl
      rw [hS'] at ih
      generalize (stA L (i + 1)).2.2.length = r' at ih hel
      generalize (stA L i).2.2.length = r at hh hel hlen ⊢
      have g2 : Ev (fun k => laws_FnLedger.j2 k L (stA L i).2.1 (r' : Int) (i : Int) (!okA L i) C T F) true := by
        by_cases h3 : e.f3 = 3
        · obtain ⟨q1, q2, q3⟩ := one_three (lC := (stA L i).1) (lS := (stA L i).2.1) h3
          rw [q3] at ih
          rw [hb, q2, Bool.not_not]
          have hv := has_ev (stA L i).2.1 e.f4 (by unfold maxLen; omega)
          generalize (stA L i).2.1.any (eqS e.f4) = b at ih hv ⊢
          refine Ev.step (f := fun k => (laws_has.f k (stA L i).2.1 e.f4).bind fun t => (if (b != t) = true then (some false) else (if b = true then (laws_FnLedger.l0 k L (stA L i).2.1 (r' : Int) ((i + 1 : Nat) : Int) C T F) else (if (stA L i).2.1.length < 8796093022208 then (laws_FnLedger.l0 k L ((stA L i).2.1 ++ [e.f4]) (r' : Int) ((i + 1 : Nat) : Int) C T F) else (none))))) (fun k => ?_) (ev_bind hv (ev_neg (by simp) ?_))
          · simp only [laws_FnLedger.j2, hr, hw]
            rw [if_pos (ige _), if_pos (ilt hi), if_pos h3]
          · cases b with
            | true => exact ev_pos rfl ih
            | false => exact ev_neg (by decide) (ev_pos (by omega) ih)
        · rw [one_sold h3] at ih
          refine Ev.step (fun k => ?_) ih
          simp only [laws_FnLedger.j2, hr, hw]
          rw [if_pos (ige _), if_pos (ilt hi), if_neg h3]
      have g1 : Ev (fun k => laws_FnLedger.j1 k L (stA L i).2.1 (r : Int) (i : Int) (!okA L i) C T F) true := by
        refine Ev.step (fun k => ?_) g2
        simp only [laws_FnLedger.j1]
        cases ho : okA L i with
        | true =>
          rw [ho, if_pos rfl] at hel
          rw [hel, if_neg (by decide)]
        | false =>
          rw [ho, if_neg (by decide)] at hel
          rw [hel, if_pos (by decide), wrap_succ (n := r + 1) (by omega) (by unfold maxLen; omega)]
      refine Ev.step (fun k => ?_) g1
      simp only [laws_FnLedger.l0]
      rw [if_pos (ilt hi)]
      by_cases h : r < F.length
      · rw [if_pos (ilt h), if_pos (ige _), hh.2 h]
      · rw [if_neg (by omega), hh.1 h]
        rfl
  exact key
theorem FnLedger : laws_FnLedger.Pure := by
  intro l ⟨_, hb⟩
  refine Ev.rounds ?_
  unfold laws_FnLedger.f
  by_cases h0 : (l.length : Int) > 1048576
  · exact ev_pos h0 (ev_some _)
  refine ev_neg h0 ?_
  obtain ⟨P, L, hE, ho, hL, he⟩ := ZLedDV.history_ok (byt_of hb)
  have hi := led_impl L
  have e : ledB L = ((stA L L.length).1, (stA L L.length).2.1, (stA L L.length).2.2, 0) := by
    unfold ledB
    rw [if_neg (by omega), if_pos ho, run_eq]
  rw [e] at hi
  exact ev_bind hE (ev_bind hi (ev_pos rfl (refs_ok hL he rfl rfl rfl)))
end Go.Proofs.Ytoibmbkmpadmnaa.Pure
