/- FnStock: of acts on stock that are drawn, by the program all that was received is there, sold, wasted or missing; a sale takes no unit of a lot that is held or over, and the lots that end soonest first.
   For every two codes of bytes that are no longer than the bound. -/
import Derived.Test.YtnkceaibkfbeaaaZStockCF
import Derived.Test.YtnkceaibkfbeaaaZStockDF
namespace Go.Proofs.Ytnkceaibkfbeaaa.Pure
open Go.RowKit Go.Proofs.Ytnkceaibkfbeaaa.F Go.Proofs.Ytnkceaibkfbeaaa.Lib Go.Proofs.Ytnkceaibkfbeaaa.ZNamIF Go.Proofs.Ytnkceaibkfbeaaa.ZStockBF Go.Proofs.Ytnkceaibkfbeaaa.ZStockCF Go.Proofs.Ytnkceaibkfbeaaa.ZStockDF Go.Proofs.YtnkceaibkfbeaaaW.PrintWords Go.Proofs.YtnkceaibkfbeaaaW.PrintLast Go.Proofs.YtnkceaibkfbeaaaW.PrintMore

section
variable {i : Nat} {d0 d1 d2 d3 d4 e0 e1 e2 e3 e4 : Int} {l m : List Lot} {x : Ac}
theorem balanced_ev (I : Inv i d0 d1 d2 d3 d4 l) (hi : i ≤ 1000) : Ev (fun k => laws_balanced.f k d0 d1 d2 d3 d4 l) true := by
  have hl := I.len
  have sm := I.sum
  have ac := I.cap
  have b2 := I.a2
  have b3 := I.a3
  have b4 := I.a4
  have hb := su_bound all l I.good
  unfold laws_balanced.f
  rw [w64 (x := d2 + d3) (by omega) (by omega), w64 (x := d2 + d3 + d4) (by omega) (by omega)]
  have key0 : ∀ n : Int, 0 ≤ n → n + su all (l.drop 0) = d1 → Ev (fun k => laws_balanced.l0 k n ((0 : Nat) : Int) d0 d1 d2 d3 d4 l) true := by
    refine down_list l (P := fun j => ∀ n : Int, 0 ≤ n → n + su all (l.drop j) = d1 → Ev (fun k => laws_balanced.l0 k n (j : Int) d0 d1 d2 d3 d4 l) true) ?_ ?_
    · intro n n0 hn
      rw [List.drop_length, su] at hn
      refine ev_succ (fun k => ?_)
      simp only [laws_balanced.l0]
      rw [if_neg (by omega), if_pos (by omega), if_pos b2, if_pos b3, decide_eq_true (by omega)]
    · intro j y hy hd ih n n0 hn
      have hj := some_lt hy
      have hr : rd_T38 l (j : Int) = y := getD_some hy
      have hw := wrap_succ hj (show l.length ≤ maxLen by unfold maxLen; omega)
      have hg := I.good y (List.mem_of_getElem? hy)
      have hbd := su_bound all (l.drop (j + 1)) (fun h hh => I.good h (List.mem_of_mem_drop hh))
      rw [hd, su, if_pos rfl] at hn
      have hw2 : wrap64 (n + y.f2) = n + y.f2 := w64 (by omega) (by omega)
      refine Ev.step (fun k => ?_) (ih (n + y.f2) (by omega) (by omega))
      simp only [laws_balanced.l0, hr, hw, hw2]
      rw [if_pos (ilt hj), if_pos (ige _), if_neg (by omega)]
  exact key0 (d2 + d3 + d4) (by omega) (by rw [List.drop_zero]; omega)
theorem pF_iff {z : ByteArray} {d : Int} {y : Lot} : pF z d y = true ↔ y.f0.toList = z.toList ∧ y.f3 ≥ d ∧ y.f4 = false := by
  unfold pF pD pO
  simp [and_assoc]
/-- No lot that ends sooner keeps units. -/
theorem soon_loop (I : Inv i d0 d1 d2 d3 d4 l) (hm : m.length ≤ 60) (A : After (pF x.f1 d0) l m) (last : Int) (hlast : last = -1 ∨ ∃ h ∈ l, su (kq h) m < h.f2 ∧ last = h.f3) : Ev (fun k => laws_FnStock.l1 k last 0 d0 d1 d2 d3 d4 l e0 e1 e2 e3 e4 m x.f0 x.f1 x.f2 x.f3 x.f4) true := by
  have hl := I.len
  have hd0 := I.day
  have key0 := down_list l (P := fun j => Ev (fun k => laws_FnStock.l1 k last (j : Int) d0 d1 d2 d3 d4 l e0 e1 e2 e3 e4 m x.f0 x.f1 x.f2 x.f3 x.f4) true) ?_ ?_
  · exact key0
  · refine ev_succ (fun k => ?_)
    simp only [laws_FnStock.l1]
    rw [if_neg (by omega)]
  · intro j y hy _ ih
    have hj := some_lt hy
    have hr : rd_T38 l (j : Int) = y := getD_some hy
    have hw := wrap_succ hj (show l.length ≤ maxLen by unfold maxLen; omega)
    have hym := List.mem_of_getElem? hy
    by_cases hA : y.f0.toList = x.f1.toList ∧ y.f4 = false ∧ y.f3 ≥ d0 ∧ y.f3 < last
    · obtain ⟨a1, a2, a3, a4⟩ := hA
      have hz : su (kq y) m = 0 := by
        rcases hlast with h | ⟨h, h1, h2, h3⟩
        · omega
        · exact A.soon h h1 y hym h2 (pF_iff.2 ⟨a1, a3, a2⟩) (by omega)
      have hu := units_ev m y A.keys (by omega)
      rw [hz] at hu
      refine Ev.step (f := fun k => (laws_units.f k m y.f0 y.f1 y.f2 y.f3 y.f4).bind fun t => if t > 0 then some false else laws_FnStock.l1 k last ((j + 1 : Nat) : Int) d0 d1 d2 d3 d4 l e0 e1 e2 e3 e4 m x.f0 x.f1 x.f2 x.f3 x.f4) (fun k => ?_) (ev_bind hu (ev_neg (by decide) ih))
      simp only [laws_FnStock.l1, hr, hw]
      rw [if_pos (ilt hj), if_pos (ige _), if_pos a1, if_neg (by rw [a2]; decide), if_pos a3, if_pos a4]
    · refine Ev.step (fun k => ?_) ih
      simp only [laws_FnStock.l1, hr, hw]
      rw [if_pos (ilt hj), if_pos (ige _)]
      by_cases a1 : y.f0.toList = x.f1.toList
      · rw [if_pos a1]
        by_cases a2 : y.f4 = true
        · rw [if_pos a2]
        · rw [if_neg a2]
          by_cases a3 : y.f3 ≥ d0
          · rw [if_pos a3, if_neg (fun a4 => hA ⟨a1, by simpa using a2, a3, a4⟩)]
          · rw [if_neg a3]
      · rw [if_neg a1]
theorem touch_loop (I : Inv i d0 d1 d2 d3 d4 l) (hm : m.length ≤ 60) (A : After (pF x.f1 d0) l m) : Ev (fun k => laws_FnStock.l0 k (-1) 0 d0 d1 d2 d3 d4 l e0 e1 e2 e3 e4 m x.f0 x.f1 x.f2 x.f3 x.f4) true := by
  have hl := I.len
  have key0 := down_list l (P := fun j => ∀ last : Int, (last = -1 ∨ ∃ h ∈ l, su (kq h) m < h.f2 ∧ last = h.f3) → Ev (fun k => laws_FnStock.l0 k last (j : Int) d0 d1 d2 d3 d4 l e0 e1 e2 e3 e4 m x.f0 x.f1 x.f2 x.f3 x.f4) true) ?_ ?_
  · exact key0 (-1) (.inl rfl)
  · intro last hlast
    refine Ev.step (fun k => ?_) (soon_loop (e0 := e0) (e1 := e1) (e2 := e2) (e3 := e3) (e4 := e4) I hm A last hlast)
    simp only [laws_FnStock.l0]
    rw [if_neg (by omega)]
  · intro j y hy _ ih last hlast
    have hj := some_lt hy
    have hr : rd_T38 l (j : Int) = y := getD_some hy
    have hw := wrap_succ hj (show l.length ≤ maxLen by unfold maxLen; omega)
    have hym := List.mem_of_getElem? hy
    have hu := units_ev m y A.keys (by omega)
    have hle := A.le y hym
    have hown := A.own y hym
    by_cases ht : su (kq y) m < y.f2
    · obtain ⟨p1, p2, p3⟩ := pF_iff.1 (hown ht)
      have hnext : Ev (fun k => laws_FnStock.l0 k (mx last y.f3) ((j + 1 : Nat) : Int) d0 d1 d2 d3 d4 l e0 e1 e2 e3 e4 m x.f0 x.f1 x.f2 x.f3 x.f4) true := by
        refine ih _ ?_
        unfold mx
        split
        · exact .inr ⟨y, hym, ht, rfl⟩
        · exact hlast
      generalize su (kq y) m = u at hu ht hle
      have hj5 : Ev (fun k => laws_FnStock.j5 k last (j : Int) u (decide (y.f3 < d0)) d0 d1 d2 d3 d4 l e0 e1 e2 e3 e4 m x.f0 x.f1 x.f2 x.f3 x.f4 y.f0 y.f1 y.f2 y.f3 y.f4) true := by
        rw [decide_eq_false (show ¬ y.f3 < d0 by omega)]
        refine Ev.step (fun k => ?_) hnext
        simp only [laws_FnStock.j5, hw]
        rw [if_neg (by decide), if_pos ht]
      refine Ev.step (f := fun k => laws_FnStock.l0 (k + 1) last (j : Int) d0 d1 d2 d3 d4 l e0 e1 e2 e3 e4 m x.f0 x.f1 x.f2 x.f3 x.f4) (fun _ => rfl) ?_
      simp only [laws_FnStock.l0, hr]
      exact ev_pos (ilt hj) (ev_pos (ige _) (ev_bind hu (ev_neg (by omega) (ev_pos ht (ev_pos p1 (ev_neg (by rw [p3]; decide) hj5))))))
    · have hj5 : Ev (fun k => laws_FnStock.j5 k last (j : Int) (su (kq y) m) false d0 d1 d2 d3 d4 l e0 e1 e2 e3 e4 m x.f0 x.f1 x.f2 x.f3 x.f4 y.f0 y.f1 y.f2 y.f3 y.f4) true := by
        refine Ev.step (fun k => ?_) (ih last hlast)
        simp only [laws_FnStock.j5, hw]
        rw [if_neg (by decide), if_neg ht]
      refine Ev.step (f := fun k => laws_FnStock.l0 (k + 1) last (j : Int) d0 d1 d2 d3 d4 l e0 e1 e2 e3 e4 m x.f0 x.f1 x.f2 x.f3 x.f4) (fun _ => rfl) ?_
      simp only [laws_FnStock.l0, hr]
      exact ev_pos (ilt hj) (ev_pos (ige _) (ev_bind hu (ev_neg (by omega) (ev_neg ht hj5))))
end
theorem FnStock : laws_FnStock.Pure := by
  intro l0 l1 hyp0 hyp1
  refine Ev.rounds ?_
  have hb0 := byt_of hyp0.2
  have hb1 := byt_of hyp1.2
  have htrue : Ev (fun k => laws_FnStock.j0 k l0 l1 true) true := ev_succ (fun k => by rw [laws_FnStock.j0, if_pos rfl])
  unfold laws_FnStock.f
  by_cases h0 : (l0.length : Int) > 1048576
  · exact ev_pos h0 htrue
  refine ev_neg h0 ?_
  by_cases h1 : (l1.length : Int) > 1048576
  · rw [decide_eq_true h1]; exact htrue
  rw [decide_eq_false h1]
  obtain ⟨A, eA, hA⟩ := stockOf_ok (l := l0) hb0
  have hm : wrap64 ((A.length : Int) + 1) = (A.length : Int) + 1 := w64 (by omega) (by omega)
  obtain ⟨t, eT, t0, t1⟩ := at_ok hb1 (by omega) ((A.length : Int) + 1) (by omega)
  have t2 : t ≤ (A.length : Int) := by rcases t1 with t1 | t1 <;> omega
  obtain ⟨n, rfl⟩ := Int.eq_ofNat_of_zero_le t0
  have hn : n ≤ A.length := by omega
  have hlen : (A.take n).length = n := by rw [List.length_take]; omega
  obtain ⟨o, s, ho, I, hr⟩ := run_to A (by omega) n hn
  have eI := run_end (M := A.take n) (o := o) (s := s) (by omega) (by rw [hlen]; exact hr n (Nat.le_refl _) hn)
  have eB := balanced_ev I (by omega)
  refine Ev.step (f := fun k => laws_FnStock.j0 (k + 1) l0 l1 false) (fun _ => rfl) ?_
  simp only [laws_FnStock.j0]
  refine ev_neg (by decide) (ev_bind eA ?_)
  rw [hm, eT]
  simp only [Option.bind_some]
  refine ev_pos (by omega) (ev_pos t2 ?_)
  rw [Int.toNat_natCast]
  refine ev_bind eI ?_
  refine ev_pos rfl (ev_bind eB ?_)
  dsimp only [Bool.not_true]
  refine Ev.step (f := fun k => laws_FnStock.j1 (k + 1) A (n : Int) false s.1 s.2.1 s.2.2.1 s.2.2.2.1 s.2.2.2.2.1 s.2.2.2.2.2) (fun _ => rfl) ?_
  simp only [laws_FnStock.j1]
  refine ev_neg (by decide) ?_
  by_cases he : (n : Int) = (A.length : Int)
  · exact ev_pos he (ev_some _)
  have hn2 : n < A.length := by omega
  have hw : wrap64 ((n : Int) + 1) = ((n + 1 : Nat) : Int) := wrap_succ hn2 (by unfold maxLen; omega)
  have hx : A[n]? = some A[n] := List.getElem?_eq_getElem hn2
  generalize A[n] = x at hx
  have hrx : rd_T34 A (n : Int) = x := getD_some hx
  obtain ⟨c, v, s', e, I', hsell⟩ := act_ok (x := x) (by omega) I
  have hlen' : (A.take (n + 1)).length = n + 1 := by rw [List.length_take]; omega
  have hr' := reach_step (M := A.take (n + 1)) (by omega) (x := x) (by rw [List.getElem?_take, if_pos (by omega), hx]) ho e (hr (n + 1) (by omega) (by omega))
  have eI' := run_end (M := A.take (n + 1)) (by omega) (by rw [hlen']; exact hr')
  have eB' := balanced_ev I' (by omega)
  have ho' : (o ++ [(⟨c, v⟩ : Ob)]).length = n + 1 := by rw [List.length_append, List.length_singleton, ho]
  have hro : rd_T36 (o ++ [(⟨c, v⟩ : Ob)]) (n : Int) = ⟨c, v⟩ := getD_some (by rw [← ho]; simp)
  refine ev_neg he ?_
  rw [hw]
  refine ev_pos (ige _) (ev_pos (by omega) ?_)
  rw [Int.toNat_natCast]
  refine ev_bind eI' ?_
  refine ev_pos rfl (ev_bind eB' (ev_pos rfl ?_))
  dsimp only
  rw [ho', bne_self_eq_false]
  refine Ev.step (f := fun k => laws_FnStock.j2 (k + 1) A (n : Int) (o ++ [(⟨c, v⟩ : Ob)]) false s.1 s.2.1 s.2.2.1 s.2.2.2.1 s.2.2.2.2.1 s.2.2.2.2.2 s'.1 s'.2.1 s'.2.2.1 s'.2.2.2.1 s'.2.2.2.2.1 s'.2.2.2.2.2) (fun _ => rfl) ?_
  simp only [laws_FnStock.j2, hrx, hro]
  refine ev_neg (by decide) (ev_pos (ige _) (ev_pos (by omega) ?_))
  have hj3 : Ev (fun k => laws_FnStock.j3 k true s.1 s.2.1 s.2.2.1 s.2.2.2.1 s.2.2.2.2.1 s.2.2.2.2.2 s'.1 s'.2.1 s'.2.2.1 s'.2.2.2.1 s'.2.2.2.2.1 s'.2.2.2.2.2 x.f0 x.f1 x.f2 x.f3 x.f4) true := ev_succ (fun k => by rw [laws_FnStock.j3, if_pos rfl])
  by_cases h2 : x.f0 = 2
  · refine ev_pos h2 (ev_pos (by rw [ho']; omega) ?_)
    by_cases hc : c = 0
    · obtain ⟨g1, g2⟩ := hsell h2 hc
      rw [hc, bne_self_eq_false]
      refine Ev.step (fun k => ?_) (touch_loop (e0 := s'.1) (e1 := s'.2.1) (e2 := s'.2.2.1) (e3 := s'.2.2.2.1) (e4 := s'.2.2.2.2.1) I I'.len g2)
      simp only [laws_FnStock.j3]
      rw [if_neg (by decide), if_pos g1]
    · rw [bne_iff_ne.mpr hc]
      exact hj3
  · exact ev_neg h2 hj3
end Go.Proofs.Ytnkceaibkfbeaaa.Pure
