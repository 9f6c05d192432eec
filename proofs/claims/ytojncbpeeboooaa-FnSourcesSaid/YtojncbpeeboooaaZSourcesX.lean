/- Sources and what they have: what the tests come to. -/
import Derived.Test.YtojncbpeeboooaaZNameX
namespace Go.Proofs.Ytojncbpeeboooaa.ZSourcesX
open Go.RowKit Go.Proofs.Ytojncbpeeboooaa.X Go.Proofs.Ytojncbpeeboooaa.Lib Go.Proofs.Ytojncbpeeboooaa.ZNameX Go.Proofs.YtojncbpeeboooaaW.PrintWords Go.Proofs.YtojncbpeeboooaaW.PrintLast Go.Proofs.YtojncbpeeboooaaW.PrintMore

abbrev Stk := S124
abbrev Src := S58
noncomputable def okSt (lo : Int) (p : Stk) : Bool := nameB p.f0 && decide (lo ≤ p.f1 ∧ p.f1 ≤ 100000)
noncomputable def stockB (l : List Stk) (n lo : Int) : Bool := decide ((l.length : Int) ≤ n) && (l.all (okSt lo) && !twG (fun x y => eqS x.f0 y.f0) [] l)
theorem eqS_comm (a b : ByteArray) : eqS a b = eqS b a := by unfold eqS; rw [decide_eq_decide]; exact eq_comm
theorem stock_spec (l : List Stk) (n lo : Int) (hl : l.length ≤ maxLen) : Ev (fun k => spec_l23Stock.f k l n lo) (stockB l n lo) := by
  unfold spec_l23Stock.f stockB
  by_cases h : (l.length : Int) > n
  · rw [decide_eq_false (by omega), Bool.false_and]
    exact ev_pos h (ev_some _)
  · rw [decide_eq_true (by omega), Bool.true_and]
    refine ev_neg h (od_ev l (okSt lo) (fun x y => eqS x.f0 y.f0) (fun k i => spec_l23Stock.l0 k l lo i) (fun i x hx r hE => ?_) (ev_succ (fun k => ?_)))
    · have hi := some_lt hx
      have hr : rd_T124 l (i : Int) = x := getD_some hx
      have bad : Ev (fun k => spec_l23Stock.j1 k l lo (i : Int) true) false := ev_succ (fun k => by simp [spec_l23Stock.j1])
      refine Ev.step (f := fun k => (spec_NameOK.f k x.f0).bind fun t => if t = true then spec_l23Stock.j1 k l lo (i : Int) (!decide (lo ≤ x.f1 ∧ x.f1 ≤ 100000)) else spec_l23Stock.j1 k l lo (i : Int) true) (fun k => ?_) (ev_bind (name_spec x.f0) ?_)
      · simp only [spec_l23Stock.l0, hr, l01In_eq, Option.bind_some]
        rw [if_pos (ilt hi), if_pos (ige _)]
      · unfold okSt
        cases hn : nameB x.f0
        · rw [Bool.false_and, Bool.false_and]; exact ev_neg (by decide) bad
        · rw [Bool.true_and]
          refine ev_pos rfl ?_
          by_cases hw : lo ≤ x.f1 ∧ x.f1 ≤ 100000
          · rw [decide_eq_true hw, Bool.true_and]
            refine Ev.step (f := fun k => spec_l23Stock.l1 k l lo (i : Int) 0) (fun k => by simp [spec_l23Stock.j1]) ?_
            refine back_ev l i (fun y => eqS x.f0 y.f0) (fun k j => spec_l23Stock.l1 k l lo (i : Int) j) r (by omega) hl (fun k j y hj hy => ?_) ?_
            · have hjl := some_lt hy
              have hry : rd_T124 l (j : Int) = y := getD_some hy
              simp only [spec_l23Stock.l1, hr, hry]
              rw [if_pos (ilt hj), if_pos (ige _), if_pos (ilt hjl), if_pos (ige _), if_pos (ilt hi), eqS_comm]
              simp only [eqS, decide_eq_true_eq]
            · refine Ev.step (fun k => ?_) hE
              simp only [spec_l23Stock.l1]
              rw [if_neg (by omega), wrap_succ hi hl]
          · rw [decide_eq_false hw, Bool.false_and]; exact bad
    · simp only [spec_l23Stock.l0]
      rw [if_neg (by omega)]
theorem stock_impl (l : List Stk) (n lo : Int) (hl : l.length ≤ 8796093022208) : Ev (fun k => impl_areStocked.f k l n lo) (stockB l n lo) := by
  have hm : l.length ≤ maxLen := by unfold maxLen; omega
  unfold impl_areStocked.f stockB
  by_cases h : (l.length : Int) > n
  · rw [decide_eq_false (by omega), Bool.false_and]
    exact ev_pos h (ev_some _)
  · rw [decide_eq_true (by omega), Bool.true_and]
    refine ev_neg h (gather_ev l (okSt lo) (fun x => x.f0) (fun k names i => impl_areStocked.l0 k lo names l (l.length : Int) i) _ (fun i x names hx hn => ?_) ?_)
    · have hi := some_lt hx
      have hr : rd_T124 l (i : Int) = x := getD_some hx
      have st : ∀ b, Ev (fun k => (impl_NameOK.f k x.f0).bind fun t => if t = true then (if lo ≤ x.f1 ∧ x.f1 ≤ 100000 then impl_areStocked.l0 k lo (names ++ [x.f0]) l (l.length : Int) ((i + 1 : Nat) : Int) else some false) else some false) b → Ev (fun k => impl_areStocked.l0 k lo names l (l.length : Int) (i : Int)) b := fun b hb => by
        refine Ev.step (fun k => ?_) hb
        simp only [impl_areStocked.l0, hr, within_eq, Option.bind_some, decide_eq_true_eq]
        rw [if_pos (ilt hi), if_pos (ige _), if_pos (ilt hi), if_pos (show names.length < 8796093022208 by omega), wrap_succ hi hm]
      unfold okSt
      refine ⟨fun hq r hE => st r ?_, fun hq => st false ?_⟩
      · rw [Bool.and_eq_true] at hq
        have hn' := name_impl x.f0
        rw [hq.1] at hn'
        exact ev_bind hn' (ev_pos rfl (ev_pos (of_decide_eq_true hq.2) hE))
      · refine ev_bind (name_impl x.f0) ?_
        cases hn : nameB x.f0
        · exact ev_neg (by decide) (ev_some _)
        · rw [hn, Bool.true_and] at hq
          exact ev_pos rfl (ev_neg (of_decide_eq_false hq) (ev_some _))
    · refine Ev.step (f := fun k => (impl_hasTwice_string.f k (l.map fun x => x.f0)).bind fun t => some (!t)) (fun k => ?_) (ev_bind (twice_str _ (by rw [List.length_map]; exact hm)) (ev_eq (ev_some _) ?_))
      · simp only [impl_areStocked.l0]
        rw [if_neg (by omega)]
      · rw [twG_map (fun x : Stk => x.f0) eqS]; rfl
noncomputable def okSo (p : Src) : Bool := nameB p.f0 && (decide (0 ≤ p.f1 ∧ p.f1 ≤ 1000000) && stockB p.f2 12 0)
noncomputable def srcB (l : List Src) (w : List Stk) : Bool := decide (l.length ≤ 6) && (stockB w 5 1 && (l.all okSo && !twG (fun x y => eqS x.f0 y.f0) [] l))
theorem src_spec (l : List Src) (w : List Stk) (hl : l.length ≤ maxLen) (hw : w.length ≤ maxLen) (hs : ∀ p ∈ l, p.f2.length ≤ maxLen) : Ev (fun k => spec_SourcesOK.f k l w) (srcB l w) := by
  unfold spec_SourcesOK.f srcB
  have bad0 : Ev (fun k => spec_SourcesOK.j0 k l true) false := ev_succ (fun k => by simp [spec_SourcesOK.j0])
  by_cases h : (l.length : Int) > 6
  · rw [decide_eq_false (by omega), Bool.false_and]
    exact ev_pos h bad0
  · rw [decide_eq_true (by omega), Bool.true_and]
    refine ev_neg h (ev_bind (stock_spec w 5 1 hw) ?_)
    cases stockB w 5 1
    · exact bad0
    · rw [Bool.true_and]
      refine Ev.step (f := fun k => spec_SourcesOK.l0 k l 0) (fun k => by simp [spec_SourcesOK.j0]) ?_
      refine od_ev l okSo (fun x y => eqS x.f0 y.f0) (fun k i => spec_SourcesOK.l0 k l i) (fun i x hx r hE => ?_) (ev_succ (fun k => ?_))
      · have hi := some_lt hx
        have hr : rd_T58 l (i : Int) = x := getD_some hx
        have bad : Ev (fun k => spec_SourcesOK.j2 k l (i : Int) true x.f0 x.f1 x.f2) false := ev_succ (fun k => by simp [spec_SourcesOK.j2])
        refine Ev.step (f := fun k => (spec_NameOK.f k x.f0).bind fun t => if t = true then (if 0 ≤ x.f1 ∧ x.f1 ≤ 1000000 then ((spec_l23Stock.f k x.f2 12 0).bind fun t => spec_SourcesOK.j2 k l (i : Int) (!t) x.f0 x.f1 x.f2) else spec_SourcesOK.j2 k l (i : Int) true x.f0 x.f1 x.f2) else spec_SourcesOK.j2 k l (i : Int) true x.f0 x.f1 x.f2) (fun k => ?_) (ev_bind (name_spec x.f0) ?_)
        · simp only [spec_SourcesOK.l0, hr, l01In_eq, Option.bind_some, decide_eq_true_eq]
          rw [if_pos (ilt hi), if_pos (ige _)]
        · unfold okSo
          cases hn : nameB x.f0
          · rw [Bool.false_and, Bool.false_and]; exact ev_neg (by decide) bad
          · rw [Bool.true_and]
            refine ev_pos rfl ?_
            by_cases hw : 0 ≤ x.f1 ∧ x.f1 ≤ 1000000
            · rw [decide_eq_true hw, Bool.true_and]
              refine ev_pos hw (ev_bind (stock_spec x.f2 12 0 (hs x (List.mem_of_getElem? hx))) ?_)
              cases stockB x.f2 12 0
              · rw [Bool.false_and]; exact bad
              · rw [Bool.true_and]
                refine Ev.step (f := fun k => spec_SourcesOK.l1 k l (i : Int) 0 x.f0 x.f1 x.f2) (fun k => by simp [spec_SourcesOK.j2]) ?_
                refine back_ev l i (fun y => eqS x.f0 y.f0) (fun k j => spec_SourcesOK.l1 k l (i : Int) j x.f0 x.f1 x.f2) r (by omega) hl (fun k j y hj hy => ?_) ?_
                · have hjl := some_lt hy
                  have hry : rd_T58 l (j : Int) = y := getD_some hy
                  simp only [spec_SourcesOK.l1, hry]
                  rw [if_pos (ilt hj), if_pos (ige _), if_pos (ilt hjl), eqS_comm]
                  simp only [eqS, decide_eq_true_eq]
                · refine Ev.step (fun k => ?_) hE
                  simp only [spec_SourcesOK.l1]
                  rw [if_neg (by omega), wrap_succ hi hl]
            · rw [decide_eq_false hw, Bool.false_and, Bool.false_and]; exact ev_neg hw bad
      · simp only [spec_SourcesOK.l0]
        rw [if_neg (by omega)]
theorem src_impl (l : List Src) (w : List Stk) (hl : l.length ≤ 8796093022208) (hw : w.length ≤ 8796093022208) (hs : ∀ p ∈ l, p.f2.length ≤ 8796093022208) : Ev (fun k => impl_SourcesOK.f k l w) (srcB l w) := by
  have hm : l.length ≤ maxLen := by unfold maxLen; omega
  unfold impl_SourcesOK.f srcB
  have bad0 : Ev (fun k => impl_SourcesOK.j0 k l true) false := ev_succ (fun k => by simp [impl_SourcesOK.j0])
  by_cases h : (l.length : Int) > 6
  · rw [decide_eq_false (by omega), Bool.false_and]
    exact ev_pos h bad0
  · rw [decide_eq_true (by omega), Bool.true_and]
    refine ev_neg h (ev_bind (stock_impl w 5 1 hw) ?_)
    cases stockB w 5 1
    · exact bad0
    · rw [Bool.true_and]
      refine Ev.step (f := fun k => impl_SourcesOK.l0 k [] l (l.length : Int) 0) (fun k => by simp [impl_SourcesOK.j0]) ?_
      refine gather_ev l okSo (fun x => x.f0) (fun k names i => impl_SourcesOK.l0 k names l (l.length : Int) i) _ (fun i x names hx hn => ?_) ?_
      · have hi := some_lt hx
        have hr : rd_T58 l (i : Int) = x := getD_some hx
        have st : ∀ b, Ev (fun k => (impl_NameOK.f k x.f0).bind fun t => if t = true then (if 0 ≤ x.f1 ∧ x.f1 ≤ 1000000 then ((impl_areStocked.f k x.f2 12 0).bind fun t => if t = true then impl_SourcesOK.l0 k (names ++ [x.f0]) l (l.length : Int) ((i + 1 : Nat) : Int) else some false) else some false) else some false) b → Ev (fun k => impl_SourcesOK.l0 k names l (l.length : Int) (i : Int)) b := fun b hb => by
          refine Ev.step (fun k => ?_) hb
          simp only [impl_SourcesOK.l0, hr, within_eq, Option.bind_some, decide_eq_true_eq]
          rw [if_pos (ilt hi), if_pos (ige _), if_pos (ilt hi), if_pos (show names.length < 8796093022208 by omega), wrap_succ hi hm]
        have hst := stock_impl x.f2 12 0 (hs x (List.mem_of_getElem? hx))
        unfold okSo
        refine ⟨fun hq r hE => st r ?_, fun hq => st false ?_⟩
        · rw [Bool.and_eq_true, Bool.and_eq_true] at hq
          have hn' := name_impl x.f0
          rw [hq.1] at hn'
          rw [hq.2.2] at hst
          exact ev_bind hn' (ev_pos rfl (ev_pos (of_decide_eq_true hq.2.1) (ev_bind hst (ev_pos rfl hE))))
        · refine ev_bind (name_impl x.f0) ?_
          cases hn : nameB x.f0
          · exact ev_neg (by decide) (ev_some _)
          · rw [hn, Bool.true_and] at hq
            refine ev_pos rfl ?_
            by_cases hw : 0 ≤ x.f1 ∧ x.f1 ≤ 1000000
            · rw [decide_eq_true hw, Bool.true_and] at hq
              rw [hq] at hst
              exact ev_pos hw (ev_bind hst (ev_neg (by decide) (ev_some _)))
            · exact ev_neg hw (ev_some _)
      · refine Ev.step (f := fun k => (impl_hasTwice_string.f k (l.map fun x => x.f0)).bind fun t => some (!t)) (fun k => ?_) (ev_bind (twice_str _ (by rw [List.length_map]; exact hm)) (ev_eq (ev_some _) ?_))
        · simp only [impl_SourcesOK.l0]
          rw [if_neg (by omega)]
        · rw [twG_map (fun x : Src => x.f0) eqS]; rfl
end Go.Proofs.Ytojncbpeeboooaa.ZSourcesX
