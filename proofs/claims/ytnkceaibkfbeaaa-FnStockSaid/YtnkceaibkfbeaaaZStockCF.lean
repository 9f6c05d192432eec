/- Stock: an act, and a list of acts, by the program: nothing is lost, and a sale takes what it may. -/
import Derived.Test.YtnkceaibkfbeaaaZStockBF
namespace Go.Proofs.Ytnkceaibkfbeaaa.ZStockCF
open Go.RowKit Go.Proofs.Ytnkceaibkfbeaaa.F Go.Proofs.Ytnkceaibkfbeaaa.Lib Go.Proofs.Ytnkceaibkfbeaaa.ZNamIF Go.Proofs.Ytnkceaibkfbeaaa.ZStockBF Go.Proofs.YtnkceaibkfbeaaaW.PrintWords Go.Proofs.YtnkceaibkfbeaaaW.PrintLast Go.Proofs.YtnkceaibkfbeaaaW.PrintMore

abbrev Ac := S34
abbrev Ob := S36
abbrev St := Int × Int × Int × Int × Int × List Lot
abbrev Out := Int × Int × Int × Int × Int × Int × Int × List Lot
abbrev fI (c n : Int) (s : St) : Out := (c, n, s.1, s.2.1, s.2.2.1, s.2.2.2.1, s.2.2.2.2.1, s.2.2.2.2.2)
structure Inv (i : Nat) (d0 d1 d2 d3 d4 : Int) (l : List Lot) : Prop where
  good : GoodL l
  keys : Keys l
  len : l.length ≤ 60
  day : 0 ≤ d0
  a2 : 0 ≤ d2
  a3 : 0 ≤ d3
  a4 : 0 ≤ d4
  sum : d1 = d2 + d3 + d4 + su all l
  cap : d1 ≤ 100000 * (i : Int)
def Act (i : Nat) (x : Ac) (d0 d2 : Int) (l : List Lot) (f : Nat → Option Out) : Prop :=
  ∃ (c n : Int) (s : St), Ev f (fI c n s) ∧ Inv (i + 1) s.1 s.2.1 s.2.2.1 s.2.2.2.1 s.2.2.2.2.1 s.2.2.2.2.2 ∧ (x.f0 = 2 → c = 0 → s.2.2.1 = wrap64 (d2 + x.f3) ∧ After (pF x.f1 d0) l s.2.2.2.2.2)
section
variable {i : Nat} {x : Ac} {d0 d1 d2 d3 d4 : Int} {l : List Lot}
theorem act_mk {f : Nat → Option Out} (c n e0 e1 e2 e3 e4 : Int) (m : List Lot) (hf : Ev f (c, n, e0, e1, e2, e3, e4, m)) (hI : Inv (i + 1) e0 e1 e2 e3 e4 m) (h2 : x.f0 = 2 → c = 0 → e2 = wrap64 (d2 + x.f3) ∧ After (pF x.f1 d0) l m) : Act i x d0 d2 l f := ⟨c, n, (e0, e1, e2, e3, e4, m), hf, hI, h2⟩
theorem Inv.next (h : Inv i d0 d1 d2 d3 d4 l) : Inv (i + 1) d0 d1 d2 d3 d4 l := ⟨h.good, h.keys, h.len, h.day, h.a2, h.a3, h.a4, h.sum, by have := h.cap; push_cast; omega⟩
theorem act_same {f : Nat → Option Out} (c : Int) (h : Inv i d0 d1 d2 d3 d4 l) (hc : c ≠ 0) (hf : Ev f (c, 0, d0, d1, d2, d3, d4, l)) : Act i x d0 d2 l f := act_mk c 0 d0 d1 d2 d3 d4 l hf h.next (fun _ e => absurd e hc)
theorem fidx_neg {α : Type} (q : α → Bool) : ∀ (l : List α) (i : Int), 0 ≤ i → fidx q l i < 0 → ∀ y ∈ l, q y = false
  | z :: l, i, h, hn, y, hy => by
    unfold fidx at hn
    by_cases hz : q z = true
    · rw [if_pos hz] at hn; omega
    · rw [if_neg hz] at hn
      rcases List.mem_cons.1 hy with rfl | hy
      · simpa using hz
      · exact fidx_neg q l (i + 1) (by omega) hn y hy
theorem receive_ok (hi : i ≤ 1000) (h : Inv i d0 d1 d2 d3 d4 l) (h1 : x.f0 = 1) : Act i x d0 d2 l (fun k => impl_Stock_receive.f k d0 d1 d2 d3 d4 l x.f0 x.f1 x.f2 x.f3 x.f4) := by
  have hl := h.len
  have hb := su_bound all l h.good
  unfold impl_Stock_receive.f
  simp only [within_eq, Option.bind_some, decide_eq_true_eq]
  have hbad : Ev (fun k => impl_Stock_receive.j0 k true d0 d1 d2 d3 d4 l x.f0 x.f1 x.f2 x.f3 x.f4) (5, 0, d0, d1, d2, d3, d4, l) := ev_succ (fun k => by rw [impl_Stock_receive.j0, if_pos rfl])
  obtain ⟨nb, n1⟩ := name_ends x.f1
  cases nb with
  | false => exact act_same 6 h (by decide) (ev_bind n1 (ev_neg (by decide) (ev_some _)))
  | true =>
    by_cases a1 : 1 ≤ x.f2 ∧ x.f2 ≤ 1000000
    · by_cases a2 : 1 ≤ x.f3 ∧ x.f3 ≤ 100000
      · by_cases a3 : d0 ≤ x.f4 ∧ x.f4 ≤ 100000
        · have f1 := find_impl l x.f1 x.f2 (by omega)
          obtain ⟨hlt, hge⟩ := fidx_lt (qL x.f1 x.f2) l 0 (by omega)
          have hno := fidx_neg (qL x.f1 x.f2) l 0 (by omega)
          generalize fidx (qL x.f1 x.f2) l 0 = at_ at f1 hlt hge hno
          have hf : ∀ r, (at_ ≥ 0 → r = (7, 0, d0, d1, d2, d3, d4, l)) → (at_ < 0 → (l.length : Int) = 60 → r = (14, 0, d0, d1, d2, d3, d4, l)) → (at_ < 0 → ¬ (l.length : Int) = 60 → r = (0, x.f3, d0, wrap64 (d1 + x.f3), d2, d3, d4, l ++ [(⟨x.f1, x.f2, x.f3, x.f4, false⟩ : Lot)])) →
              Ev (fun k => (impl_NameOK.f k x.f1).bind fun t => if t = true then (if 1 ≤ x.f2 ∧ x.f2 ≤ 1000000 then (if 1 ≤ x.f3 ∧ x.f3 ≤ 100000 then impl_Stock_receive.j0 k (!decide (d0 ≤ x.f4 ∧ x.f4 ≤ 100000)) d0 d1 d2 d3 d4 l x.f0 x.f1 x.f2 x.f3 x.f4 else impl_Stock_receive.j0 k true d0 d1 d2 d3 d4 l x.f0 x.f1 x.f2 x.f3 x.f4) else impl_Stock_receive.j0 k true d0 d1 d2 d3 d4 l x.f0 x.f1 x.f2 x.f3 x.f4) else some (6, 0, d0, d1, d2, d3, d4, l)) r := by
            intro r r1 r2 r3
            refine ev_bind n1 (ev_pos rfl (ev_pos a1 (ev_pos a2 ?_)))
            rw [decide_eq_true a3]
            refine Ev.step (f := fun k => (impl_Stock_lotAt.f k d0 d1 d2 d3 d4 l x.f1 x.f2).bind fun bt => (if bt.1 ≥ 0 then (some (7, 0, bt.2.1, bt.2.2.1, bt.2.2.2.1, bt.2.2.2.2.1, bt.2.2.2.2.2.1, bt.2.2.2.2.2.2)) else (if (bt.2.2.2.2.2.2.length : Int) = 60 then (some (14, 0, bt.2.1, bt.2.2.1, bt.2.2.2.1, bt.2.2.2.2.1, bt.2.2.2.2.2.1, bt.2.2.2.2.2.2)) else (if bt.2.2.2.2.2.2.length < 2932031007402 then (some (0, x.f3, bt.2.1, wrap64 (bt.2.2.1 + x.f3), bt.2.2.2.1, bt.2.2.2.2.1, bt.2.2.2.2.2.1, (bt.2.2.2.2.2.2 ++ [(⟨x.f1, x.f2, x.f3, x.f4, false⟩ : Lot)]))) else (none))))) (fun k => by rw [impl_Stock_receive.j0, Bool.not_true, if_neg (by decide)]) ?_
            refine ev_bind (a := (at_, d0, d1, d2, d3, d4, l)) (ev_bind f1 (ev_some _)) ?_
            by_cases h0 : at_ ≥ 0
            · rw [r1 h0]; exact ev_pos h0 (ev_some _)
            · refine ev_neg h0 ?_
              by_cases h6 : (l.length : Int) = 60
              · rw [r2 (by omega) h6]; exact ev_pos h6 (ev_some _)
              · rw [r3 (by omega) h6]; exact ev_neg h6 (ev_pos (show l.length < 2932031007402 by omega) (ev_some _))
          by_cases h0 : at_ ≥ 0
          · exact act_same 7 h (by decide) (hf _ (fun _ => rfl) (fun h => by omega) (fun h => by omega))
          · by_cases h6 : (l.length : Int) = 60
            · exact act_same 14 h (by decide) (hf _ (fun h => absurd h h0) (fun _ _ => rfl) (fun _ h => absurd h6 h))
            · have sm := h.sum
              have ac := h.cap
              have b2 := h.a2
              have b3 := h.a3
              have b4 := h.a4
              have hno := hno (by omega)
              have hw : wrap64 (d1 + x.f3) = d1 + x.f3 := w64 (by omega) (by omega)
              have hsu : ∀ (L : List Lot), su all (L ++ [(⟨x.f1, x.f2, x.f3, x.f4, false⟩ : Lot)]) = su all L + x.f3 := by
                intro L
                induction L with
                | nil => simp [su]
                | cons y L ih => rw [List.cons_append, su, su, ih]; omega
              refine act_mk 0 x.f3 d0 (wrap64 (d1 + x.f3)) d2 d3 d4 (l ++ [(⟨x.f1, x.f2, x.f3, x.f4, false⟩ : Lot)]) (hf _ (fun h => absurd h h0) (fun _ h => absurd h h6) (fun _ _ => rfl)) ⟨fun y hy => ?_, ?_, by rw [List.length_append, List.length_singleton]; omega, h.day, b2, b3, b4, by rw [hw, hsu]; omega, by rw [hw]; push_cast; omega⟩ (fun e => by rw [h1] at e; exact absurd e (by decide))
              · rcases List.mem_append.mp hy with hy | hy
                · exact h.good y hy
                · rw [List.mem_singleton.mp hy]; exact a2
              · unfold Keys
                rw [List.map_append, List.nodup_append]
                refine ⟨h.keys, by simp, fun a ha b hb e => ?_⟩
                obtain ⟨y, hy, rfl⟩ := List.mem_map.1 ha
                rw [List.map_singleton, List.mem_singleton] at hb
                rw [hb] at e
                have := hno y hy
                have e1 : y.f0.toList = x.f1.toList := congrArg Prod.fst e
                have e2 : y.f1 = x.f2 := congrArg Prod.snd e
                simp [qL, e1, e2] at this
        · refine act_same 5 h (by decide) (ev_bind n1 (ev_pos rfl (ev_pos a1 (ev_pos a2 ?_))))
          rw [decide_eq_false a3]
          exact hbad
      · exact act_same 5 h (by decide) (ev_bind n1 (ev_pos rfl (ev_pos a1 (ev_neg a2 hbad))))
    · exact act_same 5 h (by decide) (ev_bind n1 (ev_pos rfl (ev_neg a1 hbad)))
theorem sell_act (hi : i ≤ 1000) (h : Inv i d0 d1 d2 d3 d4 l) : Act i x d0 d2 l (fun k => sellR k d0 d1 d2 d3 d4 l x.f1 x.f3) := by
  have hl := h.len
  have hs := has_su (pF x.f1 d0) l h.good (by omega)
  have hb := su_bound (pF x.f1 d0) l h.good
  have hba := su_bound all l h.good
  have sm := h.sum
  have ac := h.cap
  have b2 := h.a2
  have b3 := h.a3
  have b4 := h.a4
  unfold sellR
  by_cases h1 : x.f3 < 1
  · exact act_same 5 h (by decide) (ev_pos h1 (ev_some _))
  · by_cases h2 : x.f3 ≤ hasB (pF x.f1 d0) l
    · obtain ⟨q, q1, q2, q3, q4⟩ := sell_ok (pF x.f1 d0) (fun _ _ => rfl) h.keys x.f3.toNat l x.f3 0 (by omega) (after_refl h.good h.keys) hl (by rw [← hs]; exact h2) (by omega) (by omega) (by omega)
      have hq := su_bound all q.1 q2.good
      have hw : wrap64 (d2 + x.f3) = d2 + x.f3 := w64 (by omega) (by omega)
      exact act_mk 0 q.2 d0 d1 (wrap64 (d2 + x.f3)) d3 d4 q.1 (ev_neg h1 (ev_pos h2 (ev_bind q1 (ev_some _)))) ⟨q2.good, q2.keys, q3, h.day, by rw [hw]; omega, b3, b4, by rw [hw, q4]; omega, by push_cast; omega⟩ (fun _ _ => ⟨rfl, q2⟩)
    · by_cases h3 : x.f3 ≤ hasB (pD x.f1 d0) l
      · exact act_same 18 h (by decide) (ev_neg h1 (ev_neg h2 (ev_pos h3 (ev_some _))))
      · by_cases h4 : x.f3 ≤ hasB (pO x.f1) l
        · exact act_same 17 h (by decide) (ev_neg h1 (ev_neg h2 (ev_neg h3 (ev_pos h4 (ev_some _)))))
        · exact act_same 19 h (by decide) (ev_neg h1 (ev_neg h2 (ev_neg h3 (ev_neg h4 (ev_some _)))))
theorem lot_ok (hi : i ≤ 1000) (h : Inv i d0 d1 d2 d3 d4 l) (hx : x.f0 ≠ 2) (a : Int) (h0 : 0 ≤ a) (h1 : a < (l.length : Int)) : Act i x d0 d2 l (fun _ => ofLotA a d0 d1 d2 d3 d4 l x.f0 x.f3) := by
  have hl := h.len
  have hba := su_bound all l h.good
  have sm := h.sum
  have ac := h.cap
  have b2 := h.a2
  have b3 := h.a3
  have b4 := h.a4
  obtain ⟨g1, g2⟩ := good_rd h.good h0 h1
  have hgt := rd_get (l := l) h0 h1
  unfold ofLotA
  simp only [within_eq, Option.bind_some, decide_eq_true_eq, if_neg (show ¬ a < 0 by omega), if_pos h1]
  by_cases k45 : x.f0 = 4 ∨ x.f0 = 5
  · simp only [if_pos k45]
    by_cases hs : (rd_T38 l a).f4 = (x.f0 == 4)
    · simp only [if_pos hs]
      exact act_same 12 h (by decide) (ev_some _)
    · simp only [if_neg hs]
      refine act_mk 0 _ d0 d1 d2 d3 d4 _ (ev_some _) ⟨good_set h.good a.toNat (y := ⟨(rd_T38 l a).f0, (rd_T38 l a).f1, (rd_T38 l a).f2, (rd_T38 l a).f3, !(rd_T38 l a).f4⟩) ⟨g1, g2⟩, keys_set h.keys a.toNat (by omega) _ (by rw [← hgt]; rfl), by rw [List.length_set]; exact hl, h.day, b2, b3, b4, ?_, by push_cast; omega⟩ (fun e => absurd e hx)
      rw [su_set all _ l a.toNat (by omega), ← hgt, if_pos rfl]
      omega
  · simp only [if_neg k45]
    by_cases k6 : x.f0 = 6
    · simp only [if_pos k6]
      have L := lessen_ok h.good h.keys h0 h1 (show 0 ≤ (rd_T38 l a).f2 by omega) (Int.le_refl _)
      have s := L.sum all (fun _ _ => rfl)
      rw [if_pos rfl] at s
      have hq := su_bound all _ L.good
      have hw : wrap64 (d3 + (rd_T38 l a).f2) = d3 + (rd_T38 l a).f2 := w64 (by omega) (by omega)
      exact act_mk 0 _ d0 d1 d2 _ d4 _ (ev_some _) ⟨L.good, L.keys, Nat.le_trans L.len hl, h.day, b2, by rw [hw]; omega, b4, by rw [hw, s]; omega, by push_cast; omega⟩ (fun e => absurd e hx)
    · simp only [if_neg k6]
      by_cases h3 : 0 ≤ x.f3 ∧ x.f3 ≤ (rd_T38 l a).f2
      · simp only [if_pos h3]
        have hw : wrap64 ((rd_T38 l a).f2 - x.f3) = (rd_T38 l a).f2 - x.f3 := w64 (by omega) (by omega)
        rw [hw]
        have L := lessen_ok h.good h.keys h0 h1 (show 0 ≤ (rd_T38 l a).f2 - x.f3 by omega) (by omega)
        have s := L.sum all (fun _ _ => rfl)
        rw [if_pos rfl] at s
        have hq := su_bound all _ L.good
        have hw2 : wrap64 (d4 + ((rd_T38 l a).f2 - x.f3)) = d4 + ((rd_T38 l a).f2 - x.f3) := w64 (by omega) (by omega)
        exact act_mk 0 _ d0 d1 d2 d3 _ _ (ev_some _) ⟨L.good, L.keys, Nat.le_trans L.len hl, h.day, b2, b3, by rw [hw2]; omega, by rw [hw2, s]; omega, by push_cast; omega⟩ (fun e => absurd e hx)
      · simp only [if_neg h3]
        exact act_same 5 h (by decide) (ev_some _)
theorem act_ok (hi : i ≤ 1000) (h : Inv i d0 d1 d2 d3 d4 l) : Act i x d0 d2 l (fun k => impl_Stock_do.f k d0 d1 d2 d3 d4 l x.f0 x.f1 x.f2 x.f3 x.f4) := by
  unfold impl_Stock_do.f
  by_cases h1 : x.f0 = 1
  · simp only [if_pos h1]
    exact receive_ok hi h h1
  · simp only [if_neg h1]
    by_cases h2 : x.f0 = 2
    · simp only [if_pos h2]
      exact sell_act hi h
    · simp only [if_neg h2, within_eq, Option.bind_some, decide_eq_true_eq]
      by_cases h3 : x.f0 = 3
      · simp only [if_pos h3]
        by_cases h4 : d0 ≤ x.f3 ∧ x.f3 ≤ 100000
        · simp only [if_pos h4]
          have n := h.next
          exact act_mk 0 x.f3 x.f3 d1 d2 d3 d4 l (ev_some _) ⟨n.good, n.keys, n.len, by have := n.day; omega, n.a2, n.a3, n.a4, n.sum, n.cap⟩ (fun e => absurd e h2)
        · simp only [if_neg h4]
          exact act_same 5 h (by decide) (ev_some _)
      · simp only [if_neg h3]
        by_cases h4 : x.f0 = 4 ∨ x.f0 = 5 ∨ x.f0 = 6 ∨ x.f0 = 7
        · simp only [if_pos h4]
          have hl := h.len
          have f1 := find_impl l x.f1 x.f2 (by omega)
          obtain ⟨hlt, hge⟩ := fidx_lt (qL x.f1 x.f2) l 0 (by omega)
          generalize fidx (qL x.f1 x.f2) l 0 = at_ at f1 hlt hge
          unfold ofLotR
          by_cases h0 : at_ < 0
          · exact act_same 8 h (by decide) (ev_bind f1 (ev_const (fun _ => by unfold ofLotA; rw [if_pos h0])))
          · obtain ⟨c, n, s, e1, e2, e3⟩ := lot_ok (x := x) hi h h2 at_ (by omega) (by omega)
            exact ⟨c, n, s, ev_bind f1 e1, e2, e3⟩
        · simp only [if_neg h4]
          exact act_same 13 h (by decide) (ev_some _)
end
def Reach (M : List Ac) (i : Nat) (o : List Ob) (s : St) : Prop := ∀ R, Ev (fun k => impl_StockRun.l0 k o M (M.length : Int) (i : Int) s.1 s.2.1 s.2.2.1 s.2.2.2.1 s.2.2.2.2.1 s.2.2.2.2.2) R → Ev (fun k => impl_StockRun.l0 k [] M (M.length : Int) 0 0 0 0 0 0 []) R
abbrev InvS (i : Nat) (s : St) : Prop := Inv i s.1 s.2.1 s.2.2.1 s.2.2.2.1 s.2.2.2.2.1 s.2.2.2.2.2
theorem reach_step {M : List Ac} (hM : M.length ≤ 200) {i : Nat} {o : List Ob} {s s' : St} {x : Ac} {c n : Int} (hx : M[i]? = some x) (ho : o.length = i) (e : Ev (fun k => impl_Stock_do.f k s.1 s.2.1 s.2.2.1 s.2.2.2.1 s.2.2.2.2.1 s.2.2.2.2.2 x.f0 x.f1 x.f2 x.f3 x.f4) (fI c n s')) (h : Reach M i o s) : Reach M (i + 1) (o ++ [⟨c, n⟩]) s' := fun R r1 => by
  have hi := some_lt hx
  have hr : rd_T34 M (i : Int) = x := getD_some hx
  have hw := wrap_succ hi (show M.length ≤ maxLen by unfold maxLen; omega)
  refine h R (Ev.step (f := fun k => (impl_Stock_do.f k s.1 s.2.1 s.2.2.1 s.2.2.2.1 s.2.2.2.2.1 s.2.2.2.2.2 x.f0 x.f1 x.f2 x.f3 x.f4).bind fun bt => impl_StockRun.l0 k (o ++ [⟨bt.1, bt.2.1⟩]) M (M.length : Int) ((i + 1 : Nat) : Int) bt.2.2.1 bt.2.2.2.1 bt.2.2.2.2.1 bt.2.2.2.2.2.1 bt.2.2.2.2.2.2.1 bt.2.2.2.2.2.2.2) (fun k => ?_) (ev_bind e r1))
  simp only [impl_StockRun.l0, hr, hw]
  rw [if_pos (ilt hi), if_pos (ige _), if_pos (ilt hi)]
  simp only [if_pos (show o.length < 8796093022208 by omega)]
theorem run_to (L : List Ac) (hL : L.length ≤ 199) : ∀ i, i ≤ L.length → ∃ (o : List Ob) (s : St), o.length = i ∧ InvS i s ∧ ∀ n, i ≤ n → n ≤ L.length → Reach (L.take n) i o s
  | 0, _ => ⟨[], (0, 0, 0, 0, 0, []), rfl, ⟨fun h hh => by simp at hh, List.nodup_nil, by simp, by decide, by decide, by decide, by decide, by simp [su], by decide⟩, fun n _ _ R h => h⟩
  | i + 1, hi => by
    obtain ⟨o, s, ho, I, hr⟩ := run_to L hL i (by omega)
    have hx : L[i]? = some L[i] := List.getElem?_eq_getElem (by omega)
    obtain ⟨c, n, s', e, I', _⟩ := act_ok (x := L[i]) (by omega) I
    refine ⟨o ++ [⟨c, n⟩], s', by simp [ho], I', fun m h1 h2 => reach_step (by rw [List.length_take]; omega) (x := L[i]) ?_ ho e (hr m (by omega) h2)⟩
    rw [List.getElem?_take, if_pos (by omega), hx]
theorem run_end {M : List Ac} (hM : M.length ≤ 200) {o : List Ob} {s : St} (h : Reach M M.length o s) : Ev (fun k => impl_StockRun.f k M) (o, s.1, s.2.1, s.2.2.1, s.2.2.2.1, s.2.2.2.2.1, s.2.2.2.2.2, 0) := by
  unfold impl_StockRun.f
  simp only [impl_StockAct.f, Option.bind_some, decide_eq_true_eq]
  refine ev_pos (by omega) (ev_neg (by omega) (h _ (ev_succ (fun k => ?_))))
  simp only [impl_StockRun.l0]
  rw [if_neg (by omega)]
end Go.Proofs.Ytnkceaibkfbeaaa.ZStockCF
