/- Stock: sums of lots, the lot that ends soonest, a sale; by the program and by the reference. -/
import Derived.Test.YtnkceaibkfbeaaaLib
import Derived.Test.YtnkceaibkfbeaaaZNamE
namespace Go.Proofs.Ytnkceaibkfbeaaa.ZStockAE
open Go.RowKit Go.Proofs.Ytnkceaibkfbeaaa.E Go.Proofs.Ytnkceaibkfbeaaa.Lib Go.Proofs.Ytnkceaibkfbeaaa.ZNamE Go.Proofs.YtnkceaibkfbeaaaW.PrintWords Go.Proofs.YtnkceaibkfbeaaaW.PrintLast Go.Proofs.YtnkceaibkfbeaaaW.PrintMore

abbrev Lot := S38
abbrev zl : Lot := z38
def GoodL (l : List Lot) : Prop := ∀ h ∈ l, 1 ≤ h.f2 ∧ h.f2 ≤ 100000
def su (p : Lot → Bool) : List Lot → Int
  | [] => 0
  | x :: l => (if p x = true then x.f2 else 0) + su p l
theorem su_bound (p : Lot → Bool) : ∀ (l : List Lot), GoodL l → 0 ≤ su p l ∧ su p l ≤ 100000 * (l.length : Int)
  | [], _ => ⟨Int.le_refl _, by simp [su]⟩
  | x :: l, hg => by
    have hx := hg x List.mem_cons_self
    have h := su_bound p l (fun h hh => hg h (List.mem_cons_of_mem _ hh))
    rw [su, List.length_cons]
    push_cast
    split <;> omega
theorem fold_su (p : Lot → Bool) : ∀ (l : List Lot) (s : Int), GoodL l → 0 ≤ s → s + 100000 * (l.length : Int) ≤ 1000000000 → l.foldl (sumN p) s = s + su p l
  | [], s, _, _, _ => by simp [su]
  | x :: l, s, hg, h0, h1 => by
    have hx := hg x List.mem_cons_self
    have hg2 : GoodL l := fun h hh => hg h (List.mem_cons_of_mem _ hh)
    rw [List.length_cons] at h1
    push_cast at h1
    rw [List.foldl_cons, su]
    cases hp : p x with
    | true =>
      have e : sumN p s x = s + x.f2 := by rw [sumN, hp]; exact w64 (by omega) (by omega)
      rw [e, fold_su p l _ hg2 (by omega) (by omega), if_pos rfl]
      omega
    | false =>
      have e : sumN p s x = s := by rw [sumN, hp]; rfl
      rw [e, fold_su p l _ hg2 h0 (by omega), if_neg (by decide)]
      omega
theorem has_su (p : Lot → Bool) (l : List Lot) (hg : GoodL l) (hl : l.length ≤ 1000) : hasB p l = su p l := by
  rw [hasB, fold_su p l 0 hg (Int.le_refl _) (by omega)]
  omega
theorem su_set (p : Lot → Bool) (y : Lot) : ∀ (l : List Lot) (i : Nat) (h : i < l.length), su p (l.set i y) = su p l - (if p l[i] = true then l[i].f2 else 0) + (if p y = true then y.f2 else 0)
  | x :: l, 0, _ => by simp only [List.set_cons_zero, su, List.getElem_cons_zero]; omega
  | x :: l, i + 1, h => by
    simp only [List.set_cons_succ, su, List.getElem_cons_succ]
    rw [su_set p y l i (by simpa using h)]
    omega
theorem su_erase (p : Lot → Bool) : ∀ (l : List Lot) (i : Nat) (h : i < l.length), su p (l.eraseIdx i) = su p l - (if p l[i] = true then l[i].f2 else 0)
  | x :: l, 0, _ => by simp only [List.eraseIdx_cons_zero, su, List.getElem_cons_zero]; omega
  | x :: l, i + 1, h => by
    simp only [List.eraseIdx_cons_succ, su, List.getElem_cons_succ]
    rw [su_erase p l i (by simpa using h)]
    omega
theorem su_none (p : Lot → Bool) : ∀ (l : List Lot), (∀ j, j < l.length → p (l.getD j zl) = false) → su p l = 0
  | [], _ => rfl
  | x :: l, h => by
    rw [su, if_neg (by have := h 0 (by simp); simpa using this), su_none p l (fun j hj => by have := h (j + 1) (by simpa using hj); simpa using this)]
    rfl
theorem rd_get {l : List Lot} {i : Int} (h0 : 0 ≤ i) (h1 : i < (l.length : Int)) : rd_T38 l i = l[i.toNat]'(by omega) := by
  unfold rd_T38
  rw [List.getD_eq_getElem?_getD, List.getElem?_eq_getElem (by omega)]
  rfl
theorem good_rd {l : List Lot} (hg : GoodL l) {i : Int} (h0 : 0 ≤ i) (h1 : i < (l.length : Int)) : 1 ≤ (rd_T38 l i).f2 ∧ (rd_T38 l i).f2 ≤ 100000 := by
  rw [rd_get h0 h1]
  exact hg _ (List.getElem_mem _)
theorem good_set {l : List Lot} (hg : GoodL l) (i : Nat) {y : Lot} (hy : 1 ≤ y.f2 ∧ y.f2 ≤ 100000) : GoodL (l.set i y) := fun h hh => by
  rcases List.mem_or_eq_of_mem_set hh with hh | rfl
  · exact hg h hh
  · exact hy
theorem good_erase {l : List Lot} (hg : GoodL l) (i : Nat) : GoodL (l.eraseIdx i) := fun h hh => hg h (List.mem_of_mem_eraseIdx hh)
theorem best_spec (p : Lot → Bool) (l : List Lot) : ∀ n, n ≤ l.length → (bestN p l n = -1 ∧ ∀ j, j < n → p (l.getD j zl) = false) ∨ (0 ≤ bestN p l n ∧ bestN p l n < n ∧ p (rd_T38 l (bestN p l n)) = true)
  | 0, _ => .inl ⟨rfl, fun j hj => absurd hj (Nat.not_lt_zero _)⟩
  | n + 1, hn => by
    have ih := best_spec p l n (by omega)
    rw [bestN_succ]
    unfold bestS
    by_cases hc : (p (l.getD n zl) && (decide (bestN p l n < 0) || decide ((l.getD n zl).f3 < (rd_T38 l (bestN p l n)).f3))) = true
    · rw [if_pos hc]
      refine .inr ⟨by omega, by omega, ?_⟩
      have h1 := (Bool.and_eq_true _ _ ▸ hc).1
      have : rd_T38 l (n : Int) = l.getD n zl := by unfold rd_T38; rw [Int.toNat_natCast]
      rw [this]
      exact h1
    · rw [if_neg hc]
      rcases ih with ⟨h1, h2⟩ | ⟨h1, h2, h3⟩
      · refine .inl ⟨h1, fun j hj => ?_⟩
        by_cases he : j = n
        · subst he
          cases hp : p (l.getD j zl) with
          | false => rfl
          | true => exact absurd (by rw [hp, h1]; rfl) hc
        · exact h2 j (by omega)
      · exact .inr ⟨h1, by omega, h3⟩
theorem drop_eq (l : List Lot) (a : Int) (h0 : 0 ≤ a) (h1 : a < (l.length : Int)) (hl : l.length ≤ 1000) : spec_l14Drop.f l a = some (l.eraseIdx a.toNat) := by
  have hw : wrap64 (a + 1) = a + 1 := w64 (by omega) (by omega)
  have ht : (a + 1).toNat = a.toNat + 1 := by omega
  unfold spec_l14Drop.f
  simp only [Option.bind_some, hw, ht, List.length_nil, List.nil_append]
  rw [if_pos h0, if_pos (by omega), if_pos (by rw [List.length_take]; omega), if_pos (by omega), if_pos (by omega), if_pos (by rw [List.length_take, List.length_drop]; omega), List.eraseIdx_eq_take_drop_succ]
theorem sell_both (p : Lot → Bool) (hp : ∀ (x : Lot) (v : Int), p ⟨x.f0, x.f1, v, x.f3, x.f4⟩ = p x) : ∀ (N : Nat) (l : List Lot) (n c : Int), n ≤ (N : Int) → GoodL l → l.length ≤ 60 → n ≤ su p l → 0 ≤ n → 0 ≤ c → c + n ≤ 1000000000 →
    ∃ q : List Lot × Int, Ev (fun k => sellF p k l n c) q ∧ Ev (fun k => sellS p k l n c) q ∧ GoodL q.1 ∧ q.1.length ≤ l.length
  | N, l, n, c, hN, hg, hl, hs, h0, c0, c1 => by
    by_cases hn : 0 < n
    · obtain ⟨N', rfl⟩ : ∃ m, N = m + 1 := ⟨N - 1, by omega⟩
      have hb := best_spec p l l.length (Nat.le_refl _)
      rcases hb with ⟨_, h2⟩ | ⟨b0, b1, b2⟩
      · rw [su_none p l h2] at hs
        omega
      · obtain ⟨b, hbb⟩ : ∃ b, bestN p l l.length = b := ⟨_, rfl⟩
        rw [hbb] at b0 b1 b2
        have hx := good_rd hg b0 b1
        have hm1 : 1 ≤ min n (rd_T38 l (b)).f2 := by omega
        have hm2 : min n (rd_T38 l (b)).f2 ≤ (rd_T38 l (b)).f2 := by omega
        have hm3 : min n (rd_T38 l (b)).f2 ≤ n := by omega
        generalize hmm : min n (rd_T38 l (b)).f2 = m at hm1 hm2 hm3
        have hw1 : wrap64 (n - m) = n - m := w64 (by omega) (by omega)
        have hw2 : wrap64 (c + 1) = c + 1 := w64 (by omega) (by omega)
        have hw3 : wrap64 ((rd_T38 l (b)).f2 - m) = (rd_T38 l (b)).f2 - m := w64 (by omega) (by omega)
        have hgt := rd_get (l := l) b0 b1
        have hpi : p (l[(b).toNat]'(by omega)) = true := by rw [← hgt]; exact b2
        have hsf : ∀ k, sellF p (k + 1) l n c = sellF p k (lessenB l (b) m) (n - m) (c + 1) := fun k => by rw [sellF, if_pos hn, hbb, if_pos b0, hmm, hw1, hw2]
        have hrs : ∀ y : Lot, rd_T38 (l.set b.toNat y) b = y := fun y => by
          rw [rd_get b0 (by rw [List.length_set]; exact b1), List.getElem_set_self]
        have hss : ∀ k, sellS p (k + 1) l n c = if (rd_T38 l b).f2 - m = 0 then sellS p k (l.eraseIdx b.toNat) (n - m) (c + 1) else sellS p k (l.set b.toNat ⟨(rd_T38 l b).f0, (rd_T38 l b).f1, (rd_T38 l b).f2 - m, (rd_T38 l b).f3, (rd_T38 l b).f4⟩) (n - m) (c + 1) := fun k => by
          rw [sellS, if_pos hn, hbb, if_pos b0, hmm, hw1, hw2, hw3, hrs]
          dsimp only
          by_cases hz : (rd_T38 l b).f2 - m = 0
          · rw [if_pos hz, if_pos hz, drop_eq _ b b0 (by rw [List.length_set]; exact b1) (by rw [List.length_set]; omega), Option.bind_some, List.eraseIdx_set_eq]
          · rw [if_neg hz, if_neg hz]
        by_cases hz : (rd_T38 l b).f2 - m = 0
        · have hle : lessenB l b m = l.eraseIdx b.toNat := by rw [lessenB, hw3, if_pos hz, List.eraseIdx_set_eq]
          have hsu : su p (l.eraseIdx b.toNat) = su p l - (rd_T38 l b).f2 := by rw [su_erase p l b.toNat (by omega), if_pos hpi, hgt]
          obtain ⟨q, q1, q2, q3, q4⟩ := sell_both p hp N' (l.eraseIdx b.toNat) (n - m) (c + 1) (by omega) (good_erase hg _) (by have := List.length_eraseIdx_le l b.toNat; omega) (by rw [hsu]; omega) (by omega) (by omega) (by omega)
          refine ⟨q, Ev.step (fun k => by rw [hsf, hle]) q1, Ev.step (fun k => by rw [hss, if_pos hz]) q2, q3, ?_⟩
          have := List.length_eraseIdx_le l b.toNat
          omega
        · have hle : lessenB l b m = l.set b.toNat ⟨(rd_T38 l b).f0, (rd_T38 l b).f1, (rd_T38 l b).f2 - m, (rd_T38 l b).f3, (rd_T38 l b).f4⟩ := by rw [lessenB, hw3, if_neg hz]
          have hsu : su p (l.set b.toNat ⟨(rd_T38 l b).f0, (rd_T38 l b).f1, (rd_T38 l b).f2 - m, (rd_T38 l b).f3, (rd_T38 l b).f4⟩) = su p l - m := by
            rw [su_set p _ l b.toNat (by omega), if_pos hpi, hp, b2, if_pos rfl, ← hgt]
            dsimp only
            omega
          obtain ⟨q, q1, q2, q3, q4⟩ := sell_both p hp N' _ (n - m) (c + 1) (by omega) (good_set hg b.toNat (y := ⟨(rd_T38 l b).f0, (rd_T38 l b).f1, (rd_T38 l b).f2 - m, (rd_T38 l b).f3, (rd_T38 l b).f4⟩) ⟨by dsimp only; omega, by dsimp only; omega⟩) (by rw [List.length_set]; exact hl) (by rw [hsu]; omega) (by omega) (by omega) (by omega)
          refine ⟨q, Ev.step (fun k => by rw [hsf, hle]) q1, Ev.step (fun k => by rw [hss, if_neg hz]) q2, q3, ?_⟩
          rw [List.length_set] at q4
          exact q4
    · refine ⟨(l, c), ev_succ (fun k => by rw [sellF, if_neg hn]), ev_succ (fun k => by rw [sellS, if_neg (by omega)]), hg, Nat.le_refl _⟩
theorem pS_pF (x : ByteArray) (d : Int) : pS x d = pF x d := by
  funext h
  unfold pS pF pD pO
  cases (h.f0.toList == x.toList) <;> cases h.f4 <;> simp
theorem units_ev (d0 d1 d2 d3 d4 : Int) (l : List Lot) (x : ByteArray) (kind : Int) (p : Lot → Bool) (hl : l.length ≤ 1000) (hp : ∀ h : Lot, p h = decide (h.f0.toList = x.toList ∧ (kind = 2 ∨ (h.f3 ≥ d0 ∧ (kind = 1 ∨ h.f4 = false))))) : Ev (fun k => spec_l14Units.f k d0 d1 d2 d3 d4 l x kind) (hasB p l) := by
  have key : ∀ s : Int, Ev (fun k => spec_l14Units.l0 k x kind s ((0 : Nat) : Int) d0 d1 d2 d3 d4 l) ((l.drop 0).foldl (sumN p) s) := by
    refine down_list l (P := fun i => ∀ s : Int, Ev (fun k => spec_l14Units.l0 k x kind s (i : Int) d0 d1 d2 d3 d4 l) ((l.drop i).foldl (sumN p) s)) ?_ ?_
    · intro s
      refine ev_succ (fun k => ?_)
      simp only [spec_l14Units.l0]
      rw [if_neg (by omega), List.drop_length]
      rfl
    · intro i y hy hd ih s
      have hi := some_lt hy
      have hr : rd_T38 l (i : Int) = y := getD_some hy
      have hw := wrap_succ hi (show l.length ≤ maxLen by unfold maxLen; omega)
      rw [hd, List.foldl_cons]
      refine Ev.step (fun k => ?_) (ih (sumN p s y))
      simp only [spec_l14Units.l0, hr, hw]
      rw [if_pos (ilt hi), if_pos (ige _)]
      have hpy := hp y
      unfold sumN
      by_cases h1 : y.f0.toList = x.toList
      · rw [if_pos h1]
        by_cases h2 : kind = 2
        · rw [if_pos h2, hpy, decide_eq_true ⟨h1, .inl h2⟩, if_pos rfl]
        · rw [if_neg h2]
          by_cases h3 : y.f3 ≥ d0
          · rw [if_pos h3]
            by_cases h4 : kind = 1
            · rw [if_pos h4, hpy, decide_eq_true ⟨h1, .inr ⟨h3, .inl h4⟩⟩, if_pos rfl]
            · rw [if_neg h4]
              cases h5 : y.f4 with
              | true => rw [if_pos rfl, hpy, decide_eq_false (by rw [h5]; simp [h2, h4]), if_neg (by decide)]
              | false => rw [if_neg (by decide), hpy, decide_eq_true ⟨h1, .inr ⟨h3, .inr h5⟩⟩, if_pos rfl]
          · rw [if_neg h3, hpy, decide_eq_false (by simp only [not_and, not_or]; exact fun _ => ⟨h2, fun h => absurd h h3⟩), if_neg (by decide)]
      · rw [if_neg h1, hpy, decide_eq_false (fun h => h1 h.1), if_neg (by decide)]
  have := key 0
  unfold spec_l14Units.f
  simpa [hasB] using this
theorem units0 (d0 d1 d2 d3 d4 : Int) (l : List Lot) (x : ByteArray) (hl : l.length ≤ 1000) : Ev (fun k => spec_l14Units.f k d0 d1 d2 d3 d4 l x 0) (hasB (pF x d0) l) := units_ev d0 d1 d2 d3 d4 l x 0 _ hl (fun h => by
  unfold pF pD pO
  rw [Bool.eq_iff_iff]
  simp [and_assoc])
theorem units1 (d0 d1 d2 d3 d4 : Int) (l : List Lot) (x : ByteArray) (hl : l.length ≤ 1000) : Ev (fun k => spec_l14Units.f k d0 d1 d2 d3 d4 l x 1) (hasB (pD x d0) l) := units_ev d0 d1 d2 d3 d4 l x 1 _ hl (fun h => by
  unfold pD pO
  rw [Bool.eq_iff_iff]
  simp)
theorem units2 (d0 d1 d2 d3 d4 : Int) (l : List Lot) (x : ByteArray) (hl : l.length ≤ 1000) : Ev (fun k => spec_l14Units.f k d0 d1 d2 d3 d4 l x 2) (hasB (pO x) l) := units_ev d0 d1 d2 d3 d4 l x 2 _ hl (fun h => by
  unfold pO
  rw [Bool.eq_iff_iff]
  simp)
/-! ### the place of a lot -/
def qL (x : ByteArray) (n : Int) (h : Lot) : Bool := decide (h.f0.toList = x.toList) && (h.f1 == n)
theorem fidx_lt {α : Type} (q : α → Bool) : ∀ (l : List α) (i : Int), 0 ≤ i → fidx q l i < i + l.length ∧ -1 ≤ fidx q l i
  | [], i, h => by simp only [fidx, List.length_nil]; omega
  | x :: l, i, h => by
    have := fidx_lt q l (i + 1) (by omega)
    unfold fidx
    rw [List.length_cons]
    push_cast
    split <;> omega
theorem find_impl (l : List Lot) (x : ByteArray) (n : Int) (hl : l.length ≤ 1000) : Ev (fun k => slices_IndexFunc_at_impl_Stock_lotAt_1.f k l x n) (fidx (qL x n) l 0) := by
  unfold slices_IndexFunc_at_impl_Stock_lotAt_1.f
  refine index_ev l (qL x n) (fun k i => slices_IndexFunc_at_impl_Stock_lotAt_1.l0 k l (l.length : Int) i x n) (fun k y => impl_Stock_lotAt_1.f y.f0 y.f1 y.f2 y.f3 y.f4 x n) (by unfold maxLen; omega) (fun y _ => ?_) (fun k i y hy => ?_) (fun k => ?_)
  · refine ev_const (fun k => ?_)
    unfold impl_Stock_lotAt_1.f qL
    by_cases h : y.f0.toList = x.toList
    · rw [if_pos h, decide_eq_true h, Bool.true_and]
    · rw [if_neg h, decide_eq_false h, Bool.false_and]
  · have hi := some_lt hy
    have hr : rd_T38 l (i : Int) = y := getD_some hy
    simp only [slices_IndexFunc_at_impl_Stock_lotAt_1.l0, hr]
    rw [if_pos (ilt hi), if_pos (ige _), if_pos (ilt hi)]
  · simp only [slices_IndexFunc_at_impl_Stock_lotAt_1.l0]
    rw [if_neg (by omega)]
theorem find_spec (l : List Lot) (x : ByteArray) (n : Int) (hl : l.length ≤ 1000) : Ev (fun k => spec_l14Find.f k l x n) (fidx (qL x n) l 0) := by
  unfold spec_l14Find.f
  refine index_ev' l (qL x n) (fun k i => spec_l14Find.l0 k l x n i) (by unfold maxLen; omega) (fun k i y hy => ?_) (fun k => ?_)
  · have hi := some_lt hy
    have hr : rd_T38 l (i : Int) = y := getD_some hy
    simp only [spec_l14Find.l0, hr]
    rw [if_pos (ilt hi), if_pos (ige _)]
    unfold qL
    by_cases h : y.f0.toList = x.toList
    · rw [if_pos h, decide_eq_true h, Bool.true_and]
      by_cases h2 : y.f1 = n
      · rw [if_pos h2, if_pos (beq_iff_eq.mpr h2)]
      · rw [if_neg h2, if_neg (by simpa using h2)]
    · rw [if_neg h, decide_eq_false h, Bool.false_and, if_neg (by decide)]
  · simp only [spec_l14Find.l0]
    rw [if_neg (by omega)]
end Go.Proofs.Ytnkceaibkfbeaaa.ZStockAE
