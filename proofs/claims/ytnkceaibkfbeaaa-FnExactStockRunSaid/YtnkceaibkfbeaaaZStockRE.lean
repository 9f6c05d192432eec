/- Stock: an act, and a list of acts, by the program and by the reference. -/
import Derived.Test.YtnkceaibkfbeaaaZStockAE
namespace Go.Proofs.Ytnkceaibkfbeaaa.ZStockRE
open Go.RowKit Go.Proofs.Ytnkceaibkfbeaaa.E Go.Proofs.Ytnkceaibkfbeaaa.Lib Go.Proofs.Ytnkceaibkfbeaaa.ZNamE Go.Proofs.Ytnkceaibkfbeaaa.ZStockAE Go.Proofs.YtnkceaibkfbeaaaW.PrintWords Go.Proofs.YtnkceaibkfbeaaaW.PrintLast Go.Proofs.YtnkceaibkfbeaaaW.PrintMore

abbrev Ac := S34
abbrev Ob := S36
abbrev St := Int × Int × Int × Int × Int × List Lot
abbrev fI (c n : Int) (s : St) : Int × Int × Int × Int × Int × Int × Int × List Lot := (c, n, s.1, s.2.1, s.2.2.1, s.2.2.2.1, s.2.2.2.2.1, s.2.2.2.2.2)
abbrev fS (c n : Int) (s : St) : Int × Int × Int × Int × Int × List Lot × Int × Int := (s.1, s.2.1, s.2.2.1, s.2.2.2.1, s.2.2.2.2.1, s.2.2.2.2.2, c, n)
def Both (f : Nat → Option (Int × Int × Int × Int × Int × Int × Int × List Lot)) (g : Nat → Option (Int × Int × Int × Int × Int × List Lot × Int × Int)) : Prop :=
  ∃ c n s, Ev f (fI c n s) ∧ Ev g (fS c n s) ∧ GoodL s.2.2.2.2.2 ∧ s.2.2.2.2.2.length ≤ 60
theorem both_same {f : Nat → Option (Int × Int × Int × Int × Int × Int × Int × List Lot)} {g : Nat → Option (Int × Int × Int × Int × Int × List Lot × Int × Int)} (c n d0 d1 d2 d3 d4 : Int) (l : List Lot) (hf : Ev f (c, n, d0, d1, d2, d3, d4, l)) (hg : Ev g (d0, d1, d2, d3, d4, l, c, n)) (h1 : GoodL l) (h2 : l.length ≤ 60) : Both f g := ⟨c, n, (d0, d1, d2, d3, d4, l), hf, hg, h1, h2⟩
theorem receive_both (d0 d1 d2 d3 d4 : Int) (l : List Lot) (x : Ac) (hg : GoodL l) (hl : l.length ≤ 60) :
    Both (fun k => impl_Stock_receive.f k d0 d1 d2 d3 d4 l x.f0 x.f1 x.f2 x.f3 x.f4) (fun k => spec_l14Receive.f k d0 d1 d2 d3 d4 l x.f0 x.f1 x.f2 x.f3 x.f4) := by
  unfold impl_Stock_receive.f spec_l14Receive.f
  simp only [within_eq, l01In_eq, Option.bind_some, decide_eq_true_eq]
  have hbad : Ev (fun k => impl_Stock_receive.j0 k true d0 d1 d2 d3 d4 l x.f0 x.f1 x.f2 x.f3 x.f4) (5, 0, d0, d1, d2, d3, d4, l) := ev_succ (fun k => by rw [impl_Stock_receive.j0, if_pos rfl])
  have bad : ∀ {f g}, Ev f (5, 0, d0, d1, d2, d3, d4, l) → Ev g (d0, d1, d2, d3, d4, l, 5, 0) → Both f g := fun hf hg' => both_same 5 0 d0 d1 d2 d3 d4 l hf hg' hg hl
  have n1 := name_impl x.f1
  have n2 := name_spec x.f1
  cases hn : nameB x.f1 with
  | false =>
    rw [hn] at n1 n2
    exact both_same 6 0 d0 d1 d2 d3 d4 l (ev_bind n1 (ev_neg (by decide) (ev_some _))) (ev_bind n2 (ev_neg (by decide) (ev_some _))) hg hl
  | true =>
    rw [hn] at n1 n2
    by_cases a1 : 1 ≤ x.f2 ∧ x.f2 ≤ 1000000
    · by_cases a2 : 1 ≤ x.f3 ∧ x.f3 ≤ 100000
      · by_cases a3 : d0 ≤ x.f4 ∧ x.f4 ≤ 100000
        · have f1 := find_impl l x.f1 x.f2 (by omega)
          have f2 := find_spec l x.f1 x.f2 (by omega)
          obtain ⟨hlt, hge⟩ := fidx_lt (qL x.f1 x.f2) l 0 (by omega)
          generalize fidx (qL x.f1 x.f2) l 0 = at_ at f1 f2 hlt hge
          have hf : ∀ r, (at_ ≥ 0 → r = (7, 0, d0, d1, d2, d3, d4, l)) → (at_ < 0 → (l.length : Int) = 60 → r = (14, 0, d0, d1, d2, d3, d4, l)) → (at_ < 0 → ¬ (l.length : Int) = 60 → r = (0, x.f3, d0, wrap64 (d1 + x.f3), d2, d3, d4, l ++ [(⟨x.f1, x.f2, x.f3, x.f4, false⟩ : Lot)])) →
              Ev (fun k => (impl_NameOK.f k x.f1).bind fun t => if t = true then (if 1 ≤ x.f2 ∧ x.f2 ≤ 1000000 then (if 1 ≤ x.f3 ∧ x.f3 ≤ 100000 then impl_Stock_receive.j0 k (!decide (d0 ≤ x.f4 ∧ x.f4 ≤ 100000)) d0 d1 d2 d3 d4 l x.f0 x.f1 x.f2 x.f3 x.f4 else impl_Stock_receive.j0 k true d0 d1 d2 d3 d4 l x.f0 x.f1 x.f2 x.f3 x.f4) else impl_Stock_receive.j0 k true d0 d1 d2 d3 d4 l x.f0 x.f1 x.f2 x.f3 x.f4) else some (6, 0, d0, d1, d2, d3, d4, l)) r := by
            intro r r1 r2 r3
            refine ev_bind n1 (ev_pos rfl (ev_pos a1 (ev_pos a2 ?_)))
            rw [decide_eq_true a3]
            refine Ev.step (f := fun k => (impl_Stock_lotAt.f k d0 d1 d2 d3 d4 l x.f1 x.f2).bind fun bt => (if bt.1 ≥ 0 then (some (7, 0, bt.2.1, bt.2.2.1, bt.2.2.2.1, bt.2.2.2.2.1, bt.2.2.2.2.2.1, bt.2.2.2.2.2.2)) else (if (bt.2.2.2.2.2.2.length : Int) = 60 then (some (14, 0, bt.2.1, bt.2.2.1, bt.2.2.2.1, bt.2.2.2.2.1, bt.2.2.2.2.2.1, bt.2.2.2.2.2.2)) else (if bt.2.2.2.2.2.2.length < 2932031007402 then (some (0, x.f3, bt.2.1, wrap64 (bt.2.2.1 + x.f3), bt.2.2.2.1, bt.2.2.2.2.1, bt.2.2.2.2.2.1, (bt.2.2.2.2.2.2 ++ [(⟨x.f1, x.f2, x.f3, x.f4, false⟩ : Lot)]))) else (none))))) (fun k => by rw [impl_Stock_receive.j0, Bool.not_true, if_neg (by decide)]) ?_
            refine ev_bind (a := (at_, d0, d1, d2, d3, d4, l)) (ev_bind f1 (ev_some _)) ?_
            by_cases h0 : at_ ≥ 0
            · rw [r1 h0]; exact ev_pos h0 (ev_some _)
            · refine ev_neg h0 ?_
              by_cases h6 : (l.length : Int) = 60
              · rw [r2 (by omega) h6]; exact ev_pos h6 (ev_some _)
              · rw [r3 (by omega) h6]; exact ev_neg h6 (ev_pos (show l.length < 2932031007402 by omega) (ev_some _))
          by_cases h0 : at_ ≥ 0
          · refine both_same 7 0 d0 d1 d2 d3 d4 l (hf _ (fun _ => rfl) (fun h => by omega) (fun h => by omega)) ?_ hg hl
            exact ev_bind n2 (ev_pos rfl (ev_pos a1 (ev_pos a2 (ev_pos a3 (ev_bind f2 (ev_pos h0 (ev_some _)))))))
          · by_cases h6 : (l.length : Int) = 60
            · refine both_same 14 0 d0 d1 d2 d3 d4 l (hf _ (fun h => absurd h h0) (fun _ _ => rfl) (fun _ h => absurd h6 h)) ?_ hg hl
              exact ev_bind n2 (ev_pos rfl (ev_pos a1 (ev_pos a2 (ev_pos a3 (ev_bind f2 (ev_neg h0 (ev_pos h6 (ev_some _))))))))
            · refine both_same 0 x.f3 d0 (wrap64 (d1 + x.f3)) d2 d3 d4 (l ++ [(⟨x.f1, x.f2, x.f3, x.f4, false⟩ : Lot)]) (hf _ (fun h => absurd h h0) (fun _ h => absurd h h6) (fun _ _ => rfl)) ?_ (fun h hh => ?_) (by rw [List.length_append, List.length_singleton]; omega)
              · exact ev_bind n2 (ev_pos rfl (ev_pos a1 (ev_pos a2 (ev_pos a3 (ev_bind f2 (ev_neg h0 (ev_neg h6 (ev_pos (show l.length < 2932031007402 by omega) (ev_some _)))))))))
              · rcases List.mem_append.mp hh with hh | hh
                · exact hg h hh
                · rw [List.mem_singleton.mp hh]; exact a2
        · refine bad (ev_bind n1 (ev_pos rfl (ev_pos a1 (ev_pos a2 ?_)))) (ev_bind n2 (ev_pos rfl (ev_pos a1 (ev_pos a2 (ev_neg a3 (ev_some _))))))
          rw [decide_eq_false a3]
          exact hbad
      · exact bad (ev_bind n1 (ev_pos rfl (ev_pos a1 (ev_neg a2 hbad)))) (ev_bind n2 (ev_pos rfl (ev_pos a1 (ev_neg a2 (ev_some _)))))
    · exact bad (ev_bind n1 (ev_pos rfl (ev_neg a1 hbad))) (ev_bind n2 (ev_pos rfl (ev_neg a1 (ev_some _))))
theorem sell_act (d0 d1 d2 d3 d4 : Int) (l : List Lot) (x : Ac) (hx : x.f0 = 2) (hg : GoodL l) (hl : l.length ≤ 60) :
    Both (fun k => impl_Stock_do.f k d0 d1 d2 d3 d4 l x.f0 x.f1 x.f2 x.f3 x.f4) (fun k => spec_l14Act.f k d0 d1 d2 d3 d4 l x.f0 x.f1 x.f2 x.f3 x.f4) := by
  unfold impl_Stock_do.f spec_l14Act.f
  rw [hx]
  simp only [show ¬ ((2 : Int) = 1) by decide, if_false, if_true]
  have u0 := units0 d0 d1 d2 d3 d4 l x.f1 (by omega)
  have u1 := units1 d0 d1 d2 d3 d4 l x.f1 (by omega)
  have u2 := units2 d0 d1 d2 d3 d4 l x.f1 (by omega)
  have hs := has_su (pF x.f1 d0) l hg (by omega)
  have hb := su_bound (pF x.f1 d0) l hg
  have same : ∀ (c : Int) {f g}, Ev f (c, 0, d0, d1, d2, d3, d4, l) → Ev g (d0, d1, d2, d3, d4, l, c, 0) → Both f g := fun c _ _ hf hg' => both_same c 0 d0 d1 d2 d3 d4 l hf hg' hg hl
  unfold sellR
  by_cases h1 : x.f3 < 1
  · exact same 5 (ev_pos h1 (ev_some _)) (ev_pos h1 (ev_some _))
  · by_cases h2 : x.f3 ≤ hasB (pF x.f1 d0) l
    · obtain ⟨q, q1, q2, q3, q4⟩ := sell_both (pF x.f1 d0) (fun _ _ => rfl) x.f3.toNat l x.f3 0 (by omega) hg hl (by rw [← hs]; exact h2) (by omega) (by omega) (by omega)
      refine ⟨0, q.2, (d0, d1, wrap64 (d2 + x.f3), d3, d4, q.1), ev_neg h1 (ev_pos h2 (ev_bind q1 (ev_some _))), ev_neg h1 (ev_bind u0 (ev_neg (by omega) ?_)), q3, by dsimp only; omega⟩
      refine ev_bind (a := (d0, d1, wrap64 (d2 + x.f3), d3, d4, q.1, q.2)) ?_ (ev_some _)
      unfold spec_l14Sell.f
      rw [pS_pF]
      exact ev_bind q2 (ev_some _)
    · by_cases h3 : x.f3 ≤ hasB (pD x.f1 d0) l
      · exact same 18 (ev_neg h1 (ev_neg h2 (ev_pos h3 (ev_some _)))) (ev_neg h1 (ev_bind u0 (ev_pos (by omega) (ev_bind u1 (ev_pos h3 (ev_some _))))))
      · by_cases h4 : x.f3 ≤ hasB (pO x.f1) l
        · exact same 17 (ev_neg h1 (ev_neg h2 (ev_neg h3 (ev_pos h4 (ev_some _))))) (ev_neg h1 (ev_bind u0 (ev_pos (by omega) (ev_bind u1 (ev_neg h3 (ev_bind u2 (ev_pos h4 (ev_some _))))))))
        · exact same 19 (ev_neg h1 (ev_neg h2 (ev_neg h3 (ev_neg h4 (ev_some _))))) (ev_neg h1 (ev_bind u0 (ev_pos (by omega) (ev_bind u1 (ev_neg h3 (ev_bind u2 (ev_neg h4 (ev_some _))))))))
theorem lot_both (d0 d1 d2 d3 d4 : Int) (l : List Lot) (x : Ac) (a : Int) (h0 : 0 ≤ a) (h1 : a < (l.length : Int)) (hg : GoodL l) (hl : l.length ≤ 60) :
    Both (fun _ => ofLotA a d0 d1 d2 d3 d4 l x.f0 x.f3) (fun k => spec_l14Lot.f k d0 d1 d2 d3 d4 l x.f0 x.f1 x.f2 x.f3 x.f4 a) := by
  unfold ofLotA spec_l14Lot.f
  simp only [within_eq, l01In_eq, Option.bind_some, decide_eq_true_eq, if_neg (show ¬ a < 0 by omega), if_pos h0, if_pos h1, drop_eq l a h0 h1 (by omega)]
  obtain ⟨g1, g2⟩ := good_rd hg h0 h1
  by_cases k45 : x.f0 = 4 ∨ x.f0 = 5
  · simp only [if_pos k45]
    by_cases hs : (rd_T38 l a).f4 = (x.f0 == 4)
    · simp only [if_pos hs]
      exact both_same 12 0 d0 d1 d2 d3 d4 l (ev_some _) (ev_some _) hg hl
    · simp only [if_neg hs]
      exact both_same 0 _ d0 d1 d2 d3 d4 _ (ev_some _) (ev_some _) (good_set hg a.toNat (y := ⟨(rd_T38 l a).f0, (rd_T38 l a).f1, (rd_T38 l a).f2, (rd_T38 l a).f3, !(rd_T38 l a).f4⟩) ⟨g1, g2⟩) (by rw [List.length_set]; exact hl)
  · simp only [if_neg k45]
    by_cases k6 : x.f0 = 6
    · simp only [if_pos k6]
      have hz : wrap64 ((rd_T38 l a).f2 - (rd_T38 l a).f2) = 0 := by rw [w64 (by omega) (by omega)]; omega
      have hle : lessenB l a (rd_T38 l a).f2 = l.eraseIdx a.toNat := by rw [lessenB, if_pos hz, List.eraseIdx_set_eq]
      rw [hle]
      exact both_same 0 _ d0 d1 d2 _ d4 _ (ev_some _) (ev_some _) (good_erase hg _) (by have := List.length_eraseIdx_le l a.toNat; omega)
    · simp only [if_neg k6]
      by_cases h3 : 0 ≤ x.f3 ∧ x.f3 ≤ (rd_T38 l a).f2
      · simp only [if_pos h3]
        have hw : wrap64 ((rd_T38 l a).f2 - x.f3) = (rd_T38 l a).f2 - x.f3 := w64 (by omega) (by omega)
        have hw2 : wrap64 ((rd_T38 l a).f2 - ((rd_T38 l a).f2 - x.f3)) = x.f3 := by rw [w64 (by omega) (by omega)]; omega
        rw [hw, lessenB, hw2]
        by_cases hz : x.f3 = 0
        · simp only [if_pos hz]
          rw [drop_eq _ a h0 (by rw [List.length_set]; exact h1) (by rw [List.length_set]; omega)]
          refine both_same 0 _ d0 d1 d2 d3 _ _ (ev_some _) (ev_some _) ?_ ?_
          · rw [List.eraseIdx_set_eq]; exact good_erase hg _
          · rw [List.eraseIdx_set_eq]; have := List.length_eraseIdx_le l a.toNat; omega
        · simp only [if_neg hz]
          exact both_same 0 _ d0 d1 d2 d3 _ _ (ev_some _) (ev_some _) (good_set hg a.toNat (y := ⟨(rd_T38 l a).f0, (rd_T38 l a).f1, x.f3, (rd_T38 l a).f3, (rd_T38 l a).f4⟩) ⟨by dsimp only; omega, by dsimp only; omega⟩) (by rw [List.length_set]; exact hl)
      · simp only [if_neg h3]
        exact both_same 5 0 d0 d1 d2 d3 d4 l (ev_some _) (ev_some _) hg hl
theorem act_both (d0 d1 d2 d3 d4 : Int) (l : List Lot) (x : Ac) (hg : GoodL l) (hl : l.length ≤ 60) :
    Both (fun k => impl_Stock_do.f k d0 d1 d2 d3 d4 l x.f0 x.f1 x.f2 x.f3 x.f4) (fun k => spec_l14Act.f k d0 d1 d2 d3 d4 l x.f0 x.f1 x.f2 x.f3 x.f4) := by
  by_cases h2 : x.f0 = 2
  · exact sell_act d0 d1 d2 d3 d4 l x h2 hg hl
  · unfold impl_Stock_do.f spec_l14Act.f
    simp only [within_eq, l01In_eq, Option.bind_some, decide_eq_true_eq, if_neg h2]
    by_cases h1 : x.f0 = 1
    · simp only [if_pos h1]
      exact receive_both d0 d1 d2 d3 d4 l x hg hl
    · simp only [if_neg h1]
      by_cases h3 : x.f0 = 3
      · simp only [if_pos h3]
        by_cases h4 : d0 ≤ x.f3 ∧ x.f3 ≤ 100000
        · simp only [if_pos h4]
          exact both_same 0 x.f3 x.f3 d1 d2 d3 d4 l (ev_some _) (ev_some _) hg hl
        · simp only [if_neg h4]
          exact both_same 5 0 d0 d1 d2 d3 d4 l (ev_some _) (ev_some _) hg hl
      · simp only [if_neg h3]
        by_cases h4 : x.f0 = 4 ∨ x.f0 = 5 ∨ x.f0 = 6 ∨ x.f0 = 7
        · simp only [if_pos h4]
          have f1 := find_impl l x.f1 x.f2 (by omega)
          have f2 := find_spec l x.f1 x.f2 (by omega)
          obtain ⟨hlt, hge⟩ := fidx_lt (qL x.f1 x.f2) l 0 (by omega)
          generalize fidx (qL x.f1 x.f2) l 0 = at_ at f1 f2 hlt hge
          unfold ofLotR
          by_cases h0 : at_ < 0
          · exact both_same 8 0 d0 d1 d2 d3 d4 l (ev_bind f1 (ev_const (fun _ => by unfold ofLotA; rw [if_pos h0]))) (ev_bind f2 (ev_pos h0 (ev_some _))) hg hl
          · obtain ⟨c, n, s, e1, e2, e3, e4⟩ := lot_both d0 d1 d2 d3 d4 l x at_ (by omega) (by omega) hg hl
            exact ⟨c, n, s, ev_bind f1 e1, ev_bind f2 (ev_neg h0 e2), e3, e4⟩
        · simp only [if_neg h4]
          exact both_same 13 0 d0 d1 d2 d3 d4 l (ev_some _) (ev_some _) hg hl
theorem run_both (L : List Ac) (hL : L.length ≤ 200) : ∃ (o : List Ob) (s : St), Ev (fun k => impl_StockRun.l0 k [] L (L.length : Int) 0 0 0 0 0 0 []) (o, s.1, s.2.1, s.2.2.1, s.2.2.2.1, s.2.2.2.2.1, s.2.2.2.2.2, 0) ∧ Ev (fun k => spec_StockRun.l0 k L [] 0 0 0 0 0 0 []) (o, s.1, s.2.1, s.2.2.1, s.2.2.2.1, s.2.2.2.2.1, s.2.2.2.2.2, 0) ∧ o.length ≤ 200 ∧ s.2.2.2.2.2.length ≤ 60 := by
  have key : ∀ (out : List Ob) (d0 d1 d2 d3 d4 : Int) (l : List Lot), out.length = 0 → GoodL l → l.length ≤ 60 → ∃ (o : List Ob) (s : St), Ev (fun k => impl_StockRun.l0 k out L (L.length : Int) ((0 : Nat) : Int) d0 d1 d2 d3 d4 l) (o, s.1, s.2.1, s.2.2.1, s.2.2.2.1, s.2.2.2.2.1, s.2.2.2.2.2, 0) ∧ Ev (fun k => spec_StockRun.l0 k L out ((0 : Nat) : Int) d0 d1 d2 d3 d4 l) (o, s.1, s.2.1, s.2.2.1, s.2.2.2.1, s.2.2.2.2.1, s.2.2.2.2.2, 0) ∧ o.length ≤ 200 ∧ s.2.2.2.2.2.length ≤ 60 := by
    refine down_list L (P := fun i => ∀ (out : List Ob) (d0 d1 d2 d3 d4 : Int) (l : List Lot), out.length = i → GoodL l → l.length ≤ 60 → ∃ (o : List Ob) (s : St), Ev (fun k => impl_StockRun.l0 k out L (L.length : Int) (i : Int) d0 d1 d2 d3 d4 l) (o, s.1, s.2.1, s.2.2.1, s.2.2.2.1, s.2.2.2.2.1, s.2.2.2.2.2, 0) ∧ Ev (fun k => spec_StockRun.l0 k L out (i : Int) d0 d1 d2 d3 d4 l) (o, s.1, s.2.1, s.2.2.1, s.2.2.2.1, s.2.2.2.2.1, s.2.2.2.2.2, 0) ∧ o.length ≤ 200 ∧ s.2.2.2.2.2.length ≤ 60) ?_ ?_
    · intro out d0 d1 d2 d3 d4 l ho hg hl
      refine ⟨out, (d0, d1, d2, d3, d4, l), ev_succ (fun k => ?_), ev_succ (fun k => ?_), by omega, hl⟩
      · simp only [impl_StockRun.l0]
        rw [if_neg (by omega)]
      · simp only [spec_StockRun.l0]
        rw [if_neg (by omega)]
    · intro i x hx hd ih out d0 d1 d2 d3 d4 l ho hg hl
      have hi := some_lt hx
      have hr : rd_T34 L (i : Int) = x := getD_some hx
      have hw := wrap_succ hi (show L.length ≤ maxLen by unfold maxLen; omega)
      obtain ⟨c, n, s, e1, e2, e3, e4⟩ := act_both d0 d1 d2 d3 d4 l x hg hl
      obtain ⟨o, t, r1, r2, r3, r4⟩ := ih (out ++ [⟨c, n⟩]) s.1 s.2.1 s.2.2.1 s.2.2.2.1 s.2.2.2.2.1 s.2.2.2.2.2 (by simp; omega) e3 e4
      refine ⟨o, t, ?_, ?_, r3, r4⟩
      · refine Ev.step (f := fun k => (impl_Stock_do.f k d0 d1 d2 d3 d4 l x.f0 x.f1 x.f2 x.f3 x.f4).bind fun bt => impl_StockRun.l0 k (out ++ [⟨bt.1, bt.2.1⟩]) L (L.length : Int) ((i + 1 : Nat) : Int) bt.2.2.1 bt.2.2.2.1 bt.2.2.2.2.1 bt.2.2.2.2.2.1 bt.2.2.2.2.2.2.1 bt.2.2.2.2.2.2.2) (fun k => ?_) (ev_bind e1 r1)
        simp only [impl_StockRun.l0, hr, hw]
        rw [if_pos (ilt hi), if_pos (ige _), if_pos (ilt hi)]
        simp only [if_pos (show out.length < 8796093022208 by omega)]
      · refine Ev.step (f := fun k => (spec_l14Act.f k d0 d1 d2 d3 d4 l x.f0 x.f1 x.f2 x.f3 x.f4).bind fun bt => spec_StockRun.l0 k L (out ++ [⟨bt.2.2.2.2.2.2.1, bt.2.2.2.2.2.2.2⟩]) ((i + 1 : Nat) : Int) bt.1 bt.2.1 bt.2.2.1 bt.2.2.2.1 bt.2.2.2.2.1 bt.2.2.2.2.2.1) (fun k => ?_) (ev_bind e2 r2)
        simp only [spec_StockRun.l0, hr, hw]
        rw [if_pos (ilt hi), if_pos (ige _)]
        simp only [if_pos (show out.length < 8796093022208 by omega)]
  exact key [] 0 0 0 0 0 [] rfl (fun h hh => by simp at hh) (by simp)
theorem stock_both (L : List Ac) : ∃ (o : List Ob) (d0 d1 d2 d3 d4 : Int) (l : List Lot) (c : Int), Ev (fun k => impl_StockRun.f k L) (o, d0, d1, d2, d3, d4, l, c) ∧ Ev (fun k => spec_StockRun.f k L) (o, d0, d1, d2, d3, d4, l, c) ∧ o.length ≤ 200 ∧ l.length ≤ 60 := by
  unfold impl_StockRun.f spec_StockRun.f
  simp only [impl_StockAct.f, Option.bind_some, decide_eq_true_eq]
  by_cases hb : (L.length : Int) > 4096
  · exact ⟨[], 0, 0, 0, 0, 0, [], 2, ev_neg (by omega) (ev_some _), ev_pos hb (ev_some _), by simp, by simp⟩
  · by_cases h2 : (L.length : Int) > 200
    · exact ⟨[], 0, 0, 0, 0, 0, [], 9, ev_pos (by omega) (ev_pos h2 (ev_some _)), ev_neg hb (ev_pos h2 (ev_some _)), by simp, by simp⟩
    · obtain ⟨o, s, r1, r2, r3, r4⟩ := run_both L (by omega)
      exact ⟨o, s.1, s.2.1, s.2.2.1, s.2.2.2.1, s.2.2.2.2.1, s.2.2.2.2.2, 0, ev_pos (by omega) (ev_neg h2 r1), ev_neg hb (ev_neg h2 r2), r3, r4⟩
end Go.Proofs.Ytnkceaibkfbeaaa.ZStockRE
