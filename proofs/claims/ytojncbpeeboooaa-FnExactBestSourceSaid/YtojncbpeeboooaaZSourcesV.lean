/- Sources and what they have: what the tests come to; the law's copies, sizes and comparisons. -/
import Derived.Test.YtojncbpeeboooaaZNameV
namespace Go.Proofs.Ytojncbpeeboooaa.ZSourcesV
open Go.RowKit Go.Proofs.Ytojncbpeeboooaa.V Go.Proofs.Ytojncbpeeboooaa.Lib Go.Proofs.Ytojncbpeeboooaa.ZNameV Go.Proofs.YtojncbpeeboooaaW.PrintWords Go.Proofs.YtojncbpeeboooaaW.PrintLast Go.Proofs.YtojncbpeeboooaaW.PrintMore

abbrev Stk := S124
abbrev Src := S58
noncomputable def okSt (lo : Int) (p : Stk) : Bool := nameB p.f0 && decide (lo ≤ p.f1 ∧ p.f1 ≤ 100000)
noncomputable def stockB (l : List Stk) (n lo : Int) : Bool := decide ((l.length : Int) ≤ n) && (l.all (okSt lo) && !twG (fun x y => eqS x.f0 y.f0) [] l)
theorem eqS_comm (a b : ByteArray) : eqS a b = eqS b a := by unfold eqS; rw [decide_eq_decide]; exact eq_comm
theorem stock_spec (l : List Stk) (n lo : Int) (hl : l.length ≤ maxLen) : Ev (fun k => spec_l23Stock.f k l n lo) (stockB l n lo) := by
  unfold spec_l23Stock.f stockB
  by_cases h : (l.length : Int) > n
  · rw [decide_eq_false (by omega), Bool.false_and]
    exact ev_pos h (ev_some _)
  · rw [decide_eq_true (by omega), Bool.true_and]
    refine ev_neg h (od_ev l (okSt lo) (fun x y => eqS x.f0 y.f0) (fun k i => spec_l23Stock.l0 k l lo i) (fun i x hx r hE => ?_) (ev_succ (fun k => ?_)))
    · have hi := some_lt hx
      have hr : rd_T124 l (i : Int) = x := getD_some hx
      have bad : Ev (fun k => spec_l23Stock.j1 k l lo (i : Int) true) false := ev_succ (fun k => by simp [spec_l23Stock.j1])
      refine Ev.step (f := fun k => (spec_NameOK.f k x.f0).bind fun t => if t = true then spec_l23Stock.j1 k l lo (i : Int) (!decide (lo ≤ x.f1 ∧ x.f1 ≤ 100000)) else spec_l23Stock.j1 k l lo (i : Int) true) (fun k => ?_) (ev_bind (name_spec x.f0) ?_)
      · simp only [spec_l23Stock.l0, hr, l01In_eq, Option.bind_some]
        rw [if_pos (ilt hi), if_pos (ige _)]
      · unfold okSt
        cases hn : nameB x.f0
        · rw [Bool.false_and, Bool.false_and]; exact ev_neg (by decide) bad
        · rw [Bool.true_and]
          refine ev_pos rfl ?_
          by_cases hw : lo ≤ x.f1 ∧ x.f1 ≤ 100000
          · rw [decide_eq_true hw, Bool.true_and]
            refine Ev.step (f := fun k => spec_l23Stock.l1 k l lo (i : Int) 0) (fun k => by simp [spec_l23Stock.j1]) ?_
            refine back_ev l i (fun y => eqS x.f0 y.f0) (fun k j => spec_l23Stock.l1 k l lo (i : Int) j) r (by omega) hl (fun k j y hj hy => ?_) ?_
            · have hjl := some_lt hy
              have hry : rd_T124 l (j : Int) = y := getD_some hy
              simp only [spec_l23Stock.l1, hr, hry]
              rw [if_pos (ilt hj), if_pos (ige _), if_pos (ilt hjl), if_pos (ige _), if_pos (ilt hi), eqS_comm]
              simp only [eqS, decide_eq_true_eq]
            · refine Ev.step (fun k => ?_) hE
              simp only [spec_l23Stock.l1]
              rw [if_neg (by omega), wrap_succ hi hl]
          · rw [decide_eq_false hw, Bool.false_and]; exact bad
    · simp only [spec_l23Stock.l0]
      rw [if_neg (by omega)]
theorem stock_impl (l : List Stk) (n lo : Int) (hl : l.length ≤ 8796093022208) : Ev (fun k => impl_areStocked.f k l n lo) (stockB l n lo) := by
  have hm : l.length ≤ maxLen := by unfold maxLen; omega
  unfold impl_areStocked.f stockB
  by_cases h : (l.length : Int) > n
  · rw [decide_eq_false (by omega), Bool.false_and]
    exact ev_pos h (ev_some _)
  · rw [decide_eq_true (by omega), Bool.true_and]
    refine ev_neg h (gather_ev l (okSt lo) (fun x => x.f0) (fun k names i => impl_areStocked.l0 k lo names l (l.length : Int) i) _ (fun i x names hx hn => ?_) ?_)
    · have hi := some_lt hx
      have hr : rd_T124 l (i : Int) = x := getD_some hx
      have st : ∀ b, Ev (fun k => (impl_NameOK.f k x.f0).bind fun t => if t = true then (if lo ≤ x.f1 ∧ x.f1 ≤ 100000 then impl_areStocked.l0 k lo (names ++ [x.f0]) l (l.length : Int) ((i + 1 : Nat) : Int) else some false) else some false) b → Ev (fun k => impl_areStocked.l0 k lo names l (l.length : Int) (i : Int)) b := fun b hb => by
        refine Ev.step (fun k => ?_) hb
        simp only [impl_areStocked.l0, hr, within_eq, Option.bind_some, decide_eq_true_eq]
        rw [if_pos (ilt hi), if_pos (ige _), if_pos (ilt hi), if_pos (show names.length < 8796093022208 by omega), wrap_succ hi hm]
      unfold okSt
      refine ⟨fun hq r hE => st r ?_, fun hq => st false ?_⟩
      · rw [Bool.and_eq_true] at hq
        have hn' := name_impl x.f0
        rw [hq.1] at hn'
        exact ev_bind hn' (ev_pos rfl (ev_pos (of_decide_eq_true hq.2) hE))
      · refine ev_bind (name_impl x.f0) ?_
        cases hn : nameB x.f0
        · exact ev_neg (by decide) (ev_some _)
        · rw [hn, Bool.true_and] at hq
          exact ev_pos rfl (ev_neg (of_decide_eq_false hq) (ev_some _))
    · refine Ev.step (f := fun k => (impl_hasTwice_string.f k (l.map fun x => x.f0)).bind fun t => some (!t)) (fun k => ?_) (ev_bind (twice_str _ (by rw [List.length_map]; exact hm)) (ev_eq (ev_some _) ?_))
      · simp only [impl_areStocked.l0]
        rw [if_neg (by omega)]
      · rw [twG_map (fun x : Stk => x.f0) eqS]; rfl
noncomputable def okSo (p : Src) : Bool := nameB p.f0 && (decide (0 ≤ p.f1 ∧ p.f1 ≤ 1000000) && stockB p.f2 12 0)
noncomputable def srcB (l : List Src) (w : List Stk) : Bool := decide (l.length ≤ 6) && (stockB w 5 1 && (l.all okSo && !twG (fun x y => eqS x.f0 y.f0) [] l))
theorem src_spec (l : List Src) (w : List Stk) (hl : l.length ≤ maxLen) (hw : w.length ≤ maxLen) (hs : ∀ p ∈ l, p.f2.length ≤ maxLen) : Ev (fun k => spec_SourcesOK.f k l w) (srcB l w) := by
  unfold spec_SourcesOK.f srcB
  have bad0 : Ev (fun k => spec_SourcesOK.j0 k l true) false := ev_succ (fun k => by simp [spec_SourcesOK.j0])
  by_cases h : (l.length : Int) > 6
  · rw [decide_eq_false (by omega), Bool.false_and]
    exact ev_pos h bad0
  · rw [decide_eq_true (by omega), Bool.true_and]
    refine ev_neg h (ev_bind (stock_spec w 5 1 hw) ?_)
    cases stockB w 5 1
    · exact bad0
    · rw [Bool.true_and]
      refine Ev.step (f := fun k => spec_SourcesOK.l0 k l 0) (fun k => by simp [spec_SourcesOK.j0]) ?_
      refine od_ev l okSo (fun x y => eqS x.f0 y.f0) (fun k i => spec_SourcesOK.l0 k l i) (fun i x hx r hE => ?_) (ev_succ (fun k => ?_))
      · have hi := some_lt hx
        have hr : rd_T58 l (i : Int) = x := getD_some hx
        have bad : Ev (fun k => spec_SourcesOK.j2 k l (i : Int) true x.f0 x.f1 x.f2) false := ev_succ (fun k => by simp [spec_SourcesOK.j2])
        refine Ev.step (f := fun k => (spec_NameOK.f k x.f0).bind fun t => if t = true then (if 0 ≤ x.f1 ∧ x.f1 ≤ 1000000 then ((spec_l23Stock.f k x.f2 12 0).bind fun t => spec_SourcesOK.j2 k l (i : Int) (!t) x.f0 x.f1 x.f2) else spec_SourcesOK.j2 k l (i : Int) true x.f0 x.f1 x.f2) else spec_SourcesOK.j2 k l (i : Int) true x.f0 x.f1 x.f2) (fun k => ?_) (ev_bind (name_spec x.f0) ?_)
        · simp only [spec_SourcesOK.l0, hr, l01In_eq, Option.bind_some, decide_eq_true_eq]
          rw [if_pos (ilt hi), if_pos (ige _)]
        · unfold okSo
          cases hn : nameB x.f0
          · rw [Bool.false_and, Bool.false_and]; exact ev_neg (by decide) bad
          · rw [Bool.true_and]
            refine ev_pos rfl ?_
            by_cases hw : 0 ≤ x.f1 ∧ x.f1 ≤ 1000000
            · rw [decide_eq_true hw, Bool.true_and]
              refine ev_pos hw (ev_bind (stock_spec x.f2 12 0 (hs x (List.mem_of_getElem? hx))) ?_)
              cases stockB x.f2 12 0
              · rw [Bool.false_and]; exact bad
              · rw [Bool.true_and]
                refine Ev.step (f := fun k => spec_SourcesOK.l1 k l (i : Int) 0 x.f0 x.f1 x.f2) (fun k => by simp [spec_SourcesOK.j2]) ?_
                refine back_ev l i (fun y => eqS x.f0 y.f0) (fun k j => spec_SourcesOK.l1 k l (i : Int) j x.f0 x.f1 x.f2) r (by omega) hl (fun k j y hj hy => ?_) ?_
                · have hjl := some_lt hy
                  have hry : rd_T58 l (j : Int) = y := getD_some hy
                  simp only [spec_SourcesOK.l1, hry]
                  rw [if_pos (ilt hj), if_pos (ige _), if_pos (ilt hjl), eqS_comm]
                  simp only [eqS, decide_eq_true_eq]
                · refine Ev.step (fun k => ?_) hE
                  simp only [spec_SourcesOK.l1]
                  rw [if_neg (by omega), wrap_succ hi hl]
            · rw [decide_eq_false hw, Bool.false_and, Bool.false_and]; exact ev_neg hw bad
      · simp only [spec_SourcesOK.l0]
        rw [if_neg (by omega)]
theorem src_impl (l : List Src) (w : List Stk) (hl : l.length ≤ 8796093022208) (hw : w.length ≤ 8796093022208) (hs : ∀ p ∈ l, p.f2.length ≤ 8796093022208) : Ev (fun k => impl_SourcesOK.f k l w) (srcB l w) := by
  have hm : l.length ≤ maxLen := by unfold maxLen; omega
  unfold impl_SourcesOK.f srcB
  have bad0 : Ev (fun k => impl_SourcesOK.j0 k l true) false := ev_succ (fun k => by simp [impl_SourcesOK.j0])
  by_cases h : (l.length : Int) > 6
  · rw [decide_eq_false (by omega), Bool.false_and]
    exact ev_pos h bad0
  · rw [decide_eq_true (by omega), Bool.true_and]
    refine ev_neg h (ev_bind (stock_impl w 5 1 hw) ?_)
    cases stockB w 5 1
    · exact bad0
    · rw [Bool.true_and]
      refine Ev.step (f := fun k => impl_SourcesOK.l0 k [] l (l.length : Int) 0) (fun k => by simp [impl_SourcesOK.j0]) ?_
      refine gather_ev l okSo (fun x => x.f0) (fun k names i => impl_SourcesOK.l0 k names l (l.length : Int) i) _ (fun i x names hx hn => ?_) ?_
      · have hi := some_lt hx
        have hr : rd_T58 l (i : Int) = x := getD_some hx
        have st : ∀ b, Ev (fun k => (impl_NameOK.f k x.f0).bind fun t => if t = true then (if 0 ≤ x.f1 ∧ x.f1 ≤ 1000000 then ((impl_areStocked.f k x.f2 12 0).bind fun t => if t = true then impl_SourcesOK.l0 k (names ++ [x.f0]) l (l.length : Int) ((i + 1 : Nat) : Int) else some false) else some false) else some false) b → Ev (fun k => impl_SourcesOK.l0 k names l (l.length : Int) (i : Int)) b := fun b hb => by
          refine Ev.step (fun k => ?_) hb
          simp only [impl_SourcesOK.l0, hr, within_eq, Option.bind_some, decide_eq_true_eq]
          rw [if_pos (ilt hi), if_pos (ige _), if_pos (ilt hi), if_pos (show names.length < 8796093022208 by omega), wrap_succ hi hm]
        have hst := stock_impl x.f2 12 0 (hs x (List.mem_of_getElem? hx))
        unfold okSo
        refine ⟨fun hq r hE => st r ?_, fun hq => st false ?_⟩
        · rw [Bool.and_eq_true, Bool.and_eq_true] at hq
          have hn' := name_impl x.f0
          rw [hq.1] at hn'
          rw [hq.2.2] at hst
          exact ev_bind hn' (ev_pos rfl (ev_pos (of_decide_eq_true hq.2.1) (ev_bind hst (ev_pos rfl hE))))
        · refine ev_bind (name_impl x.f0) ?_
          cases hn : nameB x.f0
          · exact ev_neg (by decide) (ev_some _)
          · rw [hn, Bool.true_and] at hq
            refine ev_pos rfl ?_
            by_cases hw : 0 ≤ x.f1 ∧ x.f1 ≤ 1000000
            · rw [decide_eq_true hw, Bool.true_and] at hq
              rw [hq] at hst
              exact ev_pos hw (ev_bind hst (ev_neg (by decide) (ev_some _)))
            · exact ev_neg hw (ev_some _)
      · refine Ev.step (f := fun k => (impl_hasTwice_string.f k (l.map fun x => x.f0)).bind fun t => some (!t)) (fun k => ?_) (ev_bind (twice_str _ (by rw [List.length_map]; exact hm)) (ev_eq (ev_some _) ?_))
        · simp only [impl_SourcesOK.l0]
          rw [if_neg (by omega)]
        · rw [twG_map (fun x : Src => x.f0) eqS]; rfl
/-! ### the law's copies, sizes, comparisons -/
def cvSt (p : S153) : Stk := ⟨p.f0, p.f1⟩
def cvSo (p : S151) : Src := ⟨p.f0, p.f1, p.f2.map cvSt⟩
theorem to_stock (l : List S153) (hl : l.length ≤ 1048576) : Ev (fun k => laws_toStockedS.f k l) (l.map cvSt) := by
  unfold laws_toStockedS.f
  simp only [if_pos (ige _), Int.toNat_natCast, if_pos (show l.length ≤ 11728124029610 by omega)]
  refine to_ev l _ cvSt (fun k out i => laws_toStockedS.l0 k l out i) (by unfold maxLen; omega) (fun k out i x hx ho => ?_) (fun k out => ?_)
  · have := some_lt hx
    simp only [laws_toStockedS.l0, rd_T153, laws_toStocked.f, Option.bind_some]
    rw [if_pos (ilt this), if_pos (ige _), if_pos (by omega), getD_some hx]; rfl
  · simp only [laws_toStockedS.l0]
    rw [if_neg (by omega)]
theorem to_source (l : List S151) (hl : l.length ≤ 1048576) (hs : ∀ p ∈ l, p.f2.length ≤ 1048576) : Ev (fun k => laws_toSourceS.f k l) (l.map cvSo) := by
  unfold laws_toSourceS.f
  simp only [if_pos (ige _), Int.toNat_natCast, if_pos (show l.length ≤ 5864062014805 by omega)]
  have key : ∀ out : List Src, out.length = l.length → Ev (fun k => laws_toSourceS.l0 k l out ((0 : Nat) : Int)) (out.take 0 ++ (l.drop 0).map cvSo) := by
    refine down_list l (P := fun i => ∀ out : List Src, out.length = l.length → Ev (fun k => laws_toSourceS.l0 k l out (i : Int)) (out.take i ++ (l.drop i).map cvSo)) ?_ ?_
    · intro out ho
      rw [List.drop_length, List.map_nil, List.append_nil, List.take_of_length_le (by omega)]
      refine ev_succ (fun k => ?_)
      simp only [laws_toSourceS.l0]
      rw [if_neg (by omega)]
    · intro i x hx hd ih out ho
      have hi := some_lt hx
      have hr : rd_T151 l (i : Int) = x := getD_some hx
      refine Ev.step (f := fun k => (laws_toStockedS.f k x.f2).bind fun t => laws_toSourceS.l0 k l (out.set i ⟨x.f0, x.f1, t⟩) ((i + 1 : Nat) : Int)) (fun k => ?_) (ev_bind (to_stock x.f2 (hs x (List.mem_of_getElem? hx))) (ev_eq (ih (out.set i (cvSo x)) (by rw [List.length_set]; exact ho)) ?_))
      · simp only [laws_toSourceS.l0, hr, laws_toSource.f, Int.toNat_natCast]
        rw [if_pos (ilt hi), if_pos (ige _)]
        cases laws_toStockedS.f k x.f2 with
        | none => rfl
        | some t =>
          simp only [Option.bind_some]
          rw [if_pos (by omega), wrap_succ hi (by unfold maxLen; omega)]
      · rw [hd, List.map_cons, List.take_succ_eq_append_getElem (by rw [List.length_set]; omega), List.getElem_set_self, List.append_assoc, List.take_set, List.set_eq_of_length_le (by rw [List.length_take]; omega)]
        rfl
  have := key (List.replicate l.length z58) (by simp)
  simpa using this
theorem eq_stock (l : List Stk) (hl : l.length ≤ maxLen) : Ev (fun k => laws_eqStockedS.f k l l) true := by
  unfold laws_eqStockedS.f
  simp only [if_true]
  refine ev_eq (all_ev' l (fun _ => true) (fun k i => laws_eqStockedS.l0 k l l i) hl (fun k i x hx => ?_) (fun k => ?_)) (by simp)
  · have := some_lt hx
    have hr : rd_T124 l (i : Int) = x := getD_some hx
    simp only [laws_eqStockedS.l0, hr, laws_eqStocked.f, if_true, Option.bind_some]
    rw [if_pos (ilt this), if_pos (ige _), if_pos (ilt this)]
  · simp only [laws_eqStockedS.l0]
    rw [if_neg (by omega)]
theorem eq_source (l : List Src) (hl : l.length ≤ maxLen) (hs : ∀ p ∈ l, p.f2.length ≤ maxLen) : Ev (fun k => laws_eqSourceS.f k l l) true := by
  unfold laws_eqSourceS.f
  simp only [if_true]
  refine ev_eq (all_ev l (fun _ => true) (fun k i => laws_eqSourceS.l0 k l l i) (fun k x => laws_eqSource.f k x.f0 x.f1 x.f2 x.f0 x.f1 x.f2) hl (fun x hx => ?_) (fun k i x hx => ?_) (fun k => ?_)) (by simp)
  · unfold laws_eqSource.f
    exact ev_pos rfl (ev_pos rfl (ev_bind (eq_stock x.f2 (hs x hx)) (ev_pos rfl (ev_some _))))
  · have := some_lt hx
    have hr : rd_T58 l (i : Int) = x := getD_some hx
    simp only [laws_eqSourceS.l0, hr]
    rw [if_pos (ilt this), if_pos (ige _), if_pos (ilt this)]
  · simp only [laws_eqSourceS.l0]
    rw [if_neg (by omega)]
theorem sz_stock (l : List S153) (n : Int) (hl : l.length ≤ maxLen) (hs : ∀ p ∈ l, p.f0.size ≤ maxLen) (h0 : 0 ≤ n) (h1 : n ≤ 1048576) : ∃ m, Ev (fun k => laws_szStockedS.f k l n) m ∧ (m < 0 ∨ (0 ≤ m ∧ m ≤ n ∧ (l.length : Int) ≤ n)) := by
  unfold maxLen at hl
  unfold laws_szStockedS.f
  rw [w64 (by omega) (by omega)]
  by_cases h : (n - (l.length : Int)) < 0
  · exact ⟨-1, ev_pos h (ev_some _), .inl (by omega)⟩
  · have key : ∀ a : Int, 0 ≤ a → a ≤ n → ∃ m, Ev (fun k => laws_szStockedS.l0 k l a ((0 : Nat) : Int)) m ∧ (m < 0 ∨ (0 ≤ m ∧ m ≤ n)) := by
      refine down_list l (P := fun i => ∀ a : Int, 0 ≤ a → a ≤ n → ∃ m, Ev (fun k => laws_szStockedS.l0 k l a (i : Int)) m ∧ (m < 0 ∨ (0 ≤ m ∧ m ≤ n))) ?_ ?_
      · intro a g0 g1
        refine ⟨a, ev_succ (fun k => ?_), .inr ⟨g0, g1⟩⟩
        simp only [laws_szStockedS.l0]
        rw [if_neg (by omega)]
      · intro i x hx hd ih a g0 g1
        have hi := some_lt hx
        have hr : rd_T153 l (i : Int) = x := getD_some hx
        have hsz := hs x (List.mem_of_getElem? hx)
        unfold maxLen at hsz
        have hw : wrap64 (a - (x.f0.size : Int)) = a - x.f0.size := w64 (by omega) (by omega)
        by_cases hn : a - (x.f0.size : Int) < 0
        · refine ⟨-1, ev_succ (fun k => ?_), .inl (by omega)⟩
          simp only [laws_szStockedS.l0, hr, laws_szStocked.f, hw]
          rw [if_pos (ilt hi), if_pos (ige _), if_pos hn]
          rfl
        · obtain ⟨m, hm, hb⟩ := ih (a - x.f0.size) (by omega) (by omega)
          refine ⟨m, Ev.step (fun k => ?_) hm, hb⟩
          simp only [laws_szStockedS.l0, hr, laws_szStocked.f, hw]
          rw [if_pos (ilt hi), if_pos (ige _), if_neg hn]
          simp only [Option.bind_some]
          rw [if_neg hn, wrap_succ hi (by unfold maxLen; omega)]
    obtain ⟨m, hm, hb⟩ := key (n - l.length) (by omega) (by omega)
    refine ⟨m, ev_neg h hm, ?_⟩
    rcases hb with hb | hb
    · exact .inl hb
    · exact .inr ⟨hb.1, hb.2, by omega⟩
theorem sz_source (l : List S151) (n : Int) (hl : l.length ≤ maxLen) (hs : ∀ p ∈ l, p.f0.size ≤ maxLen ∧ p.f2.length ≤ maxLen ∧ ∀ q ∈ p.f2, q.f0.size ≤ maxLen) (h0 : 0 ≤ n) (h1 : n ≤ 1048576) :
    ∃ m, Ev (fun k => laws_szSourceS.f k l n) m ∧ (m < 0 ∨ (0 ≤ m ∧ m ≤ n ∧ (l.length : Int) ≤ n ∧ ∀ p ∈ l, (p.f2.length : Int) ≤ n)) := by
  unfold maxLen at hl
  unfold laws_szSourceS.f
  rw [w64 (by omega) (by omega)]
  by_cases h : (n - (l.length : Int)) < 0
  · exact ⟨-1, ev_pos h (ev_some _), .inl (by omega)⟩
  · have key : ∀ a : Int, 0 ≤ a → a ≤ n → ∃ m, Ev (fun k => laws_szSourceS.l0 k l a ((0 : Nat) : Int)) m ∧ (m < 0 ∨ (0 ≤ m ∧ m ≤ n ∧ ∀ p ∈ l.drop 0, (p.f2.length : Int) ≤ n)) := by
      refine down_list l (P := fun i => ∀ a : Int, 0 ≤ a → a ≤ n → ∃ m, Ev (fun k => laws_szSourceS.l0 k l a (i : Int)) m ∧ (m < 0 ∨ (0 ≤ m ∧ m ≤ n ∧ ∀ p ∈ l.drop i, (p.f2.length : Int) ≤ n))) ?_ ?_
      · intro a g0 g1
        refine ⟨a, ev_succ (fun k => ?_), .inr ⟨g0, g1, by rw [List.drop_length]; simp⟩⟩
        simp only [laws_szSourceS.l0]
        rw [if_neg (by omega)]
      · intro i x hx hd ih a g0 g1
        have hi := some_lt hx
        have hr : rd_T151 l (i : Int) = x := getD_some hx
        obtain ⟨hsz, hs2, hs3⟩ := hs x (List.mem_of_getElem? hx)
        unfold maxLen at hsz
        have hw : wrap64 (a - (x.f0.size : Int)) = a - x.f0.size := w64 (by omega) (by omega)
        by_cases hn : a - (x.f0.size : Int) < 0
        · refine ⟨-1, ev_succ (fun k => ?_), .inl (by omega)⟩
          simp only [laws_szSourceS.l0, hr, laws_szSource.f, hw]
          rw [if_pos (ilt hi), if_pos (ige _), if_pos hn]
          rfl
        · obtain ⟨b, hb, hbb⟩ := sz_stock x.f2 (a - x.f0.size) hs2 hs3 (by omega) (by omega)
          have st : ∀ r, Ev (fun k => (laws_szStockedS.f k x.f2 (a - x.f0.size)).bind fun t => if t < 0 then some (-1) else laws_szSourceS.l0 k l t ((i + 1 : Nat) : Int)) r → Ev (fun k => laws_szSourceS.l0 k l a (i : Int)) r := fun r hE => by
            refine Ev.step (fun k => ?_) hE
            simp only [laws_szSourceS.l0, hr, laws_szSource.f, hw]
            rw [if_pos (ilt hi), if_pos (ige _), if_neg hn, wrap_succ hi (by unfold maxLen; omega)]
            cases laws_szStockedS.f k x.f2 (a - x.f0.size) with
            | none => rfl
            | some t =>
              simp only [Option.bind_some]
              by_cases ht : t < 0
              · rw [if_pos ht, if_pos ht]; rfl
              · rw [if_neg ht, if_neg ht]
                simp only [Option.bind_some]
                rw [if_neg ht]
          rcases hbb with hb0 | ⟨hb1, hb2, hb3⟩
          · exact ⟨-1, st _ (ev_bind hb (ev_pos hb0 (ev_some _))), .inl (by omega)⟩
          · obtain ⟨m, hm, hmm⟩ := ih b hb1 (by omega)
            refine ⟨m, st _ (ev_bind hb (ev_neg (by omega) hm)), ?_⟩
            rcases hmm with h4 | ⟨h4, h5, h6⟩
            · exact .inl h4
            · refine .inr ⟨h4, h5, ?_⟩
              rw [hd]
              intro p hp
              rcases List.mem_cons.1 hp with rfl | hp
              · omega
              · exact h6 p hp
    obtain ⟨m, hm, hb⟩ := key (n - l.length) (by omega) (by omega)
    refine ⟨m, ev_neg h hm, ?_⟩
    rcases hb with hb | ⟨h4, h5, h6⟩
    · exact .inl hb
    · exact .inr ⟨h4, h5, by omega, h6⟩
end Go.Proofs.Ytojncbpeeboooaa.ZSourcesV
