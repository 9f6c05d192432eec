/- Stock: lots, sums, the lot that ends soonest, what a sale leaves; by the program. -/
import Derived.Test.YtnkceaibkfbeaaaZNamIF
namespace Go.Proofs.Ytnkceaibkfbeaaa.ZStockBF
open Go.RowKit Go.Proofs.Ytnkceaibkfbeaaa.F Go.Proofs.Ytnkceaibkfbeaaa.Lib Go.Proofs.Ytnkceaibkfbeaaa.ZNamIF Go.Proofs.YtnkceaibkfbeaaaW.PrintWords Go.Proofs.YtnkceaibkfbeaaaW.PrintLast Go.Proofs.YtnkceaibkfbeaaaW.PrintMore

abbrev Lot := S38
abbrev zl : Lot := z38
def GoodL (l : List Lot) : Prop := ∀ h ∈ l, 1 ≤ h.f2 ∧ h.f2 ≤ 100000
def su (p : Lot → Bool) : List Lot → Int
  | [] => 0
  | x :: l => (if p x = true then x.f2 else 0) + su p l
theorem su_bound (p : Lot → Bool) : ∀ (l : List Lot), GoodL l → 0 ≤ su p l ∧ su p l ≤ 100000 * (l.length : Int)
  | [], _ => ⟨Int.le_refl _, by simp [su]⟩
  | x :: l, hg => by
    have hx := hg x List.mem_cons_self
    have h := su_bound p l (fun h hh => hg h (List.mem_cons_of_mem _ hh))
    rw [su, List.length_cons]
    push_cast
    split <;> omega
theorem fold_su (p : Lot → Bool) : ∀ (l : List Lot) (s : Int), GoodL l → 0 ≤ s → s + 100000 * (l.length : Int) ≤ 1000000000 → l.foldl (sumN p) s = s + su p l
  | [], s, _, _, _ => by simp [su]
  | x :: l, s, hg, h0, h1 => by
    have hx := hg x List.mem_cons_self
    have hg2 : GoodL l := fun h hh => hg h (List.mem_cons_of_mem _ hh)
    rw [List.length_cons] at h1
    push_cast at h1
    rw [List.foldl_cons, su]
    cases hp : p x with
    | true =>
      have e : sumN p s x = s + x.f2 := by rw [sumN, hp]; exact w64 (by omega) (by omega)
      rw [e, fold_su p l _ hg2 (by omega) (by omega), if_pos rfl]
      omega
    | false =>
      have e : sumN p s x = s := by rw [sumN, hp]; rfl
      rw [e, fold_su p l _ hg2 h0 (by omega), if_neg (by decide)]
      omega
theorem has_su (p : Lot → Bool) (l : List Lot) (hg : GoodL l) (hl : l.length ≤ 1000) : hasB p l = su p l := by
  rw [hasB, fold_su p l 0 hg (Int.le_refl _) (by omega)]
  omega
theorem su_set (p : Lot → Bool) (y : Lot) : ∀ (l : List Lot) (i : Nat) (h : i < l.length), su p (l.set i y) = su p l - (if p l[i] = true then l[i].f2 else 0) + (if p y = true then y.f2 else 0)
  | x :: l, 0, _ => by simp only [List.set_cons_zero, su, List.getElem_cons_zero]; omega
  | x :: l, i + 1, h => by
    simp only [List.set_cons_succ, su, List.getElem_cons_succ]
    rw [su_set p y l i (by simpa using h)]
    omega
theorem su_erase (p : Lot → Bool) : ∀ (l : List Lot) (i : Nat) (h : i < l.length), su p (l.eraseIdx i) = su p l - (if p l[i] = true then l[i].f2 else 0)
  | x :: l, 0, _ => by simp only [List.eraseIdx_cons_zero, su, List.getElem_cons_zero]; omega
  | x :: l, i + 1, h => by
    simp only [List.eraseIdx_cons_succ, su, List.getElem_cons_succ]
    rw [su_erase p l i (by simpa using h)]
    omega
theorem su_none (p : Lot → Bool) : ∀ (l : List Lot), (∀ j, j < l.length → p (l.getD j zl) = false) → su p l = 0
  | [], _ => rfl
  | x :: l, h => by
    rw [su, if_neg (by have := h 0 (by simp); simpa using this), su_none p l (fun j hj => by have := h (j + 1) (by simpa using hj); simpa using this)]
    rfl
theorem rd_get {l : List Lot} {i : Int} (h0 : 0 ≤ i) (h1 : i < (l.length : Int)) : rd_T38 l i = l[i.toNat]'(by omega) := by
  unfold rd_T38
  rw [List.getD_eq_getElem?_getD, List.getElem?_eq_getElem (by omega)]
  rfl
theorem good_rd {l : List Lot} (hg : GoodL l) {i : Int} (h0 : 0 ≤ i) (h1 : i < (l.length : Int)) : 1 ≤ (rd_T38 l i).f2 ∧ (rd_T38 l i).f2 ≤ 100000 := by
  rw [rd_get h0 h1]
  exact hg _ (List.getElem_mem _)
theorem good_set {l : List Lot} (hg : GoodL l) (i : Nat) {y : Lot} (hy : 1 ≤ y.f2 ∧ y.f2 ≤ 100000) : GoodL (l.set i y) := fun h hh => by
  rcases List.mem_or_eq_of_mem_set hh with hh | rfl
  · exact hg h hh
  · exact hy
theorem good_erase {l : List Lot} (hg : GoodL l) (i : Nat) : GoodL (l.eraseIdx i) := fun h hh => hg h (List.mem_of_mem_eraseIdx hh)
theorem best_spec (p : Lot → Bool) (l : List Lot) : ∀ n, n ≤ l.length → (bestN p l n = -1 ∧ ∀ j, j < n → p (l.getD j zl) = false) ∨ (0 ≤ bestN p l n ∧ bestN p l n < n ∧ p (rd_T38 l (bestN p l n)) = true)
  | 0, _ => .inl ⟨rfl, fun j hj => absurd hj (Nat.not_lt_zero _)⟩
  | n + 1, hn => by
    have ih := best_spec p l n (by omega)
    rw [bestN_succ]
    unfold bestS
    by_cases hc : (p (l.getD n zl) && (decide (bestN p l n < 0) || decide ((l.getD n zl).f3 < (rd_T38 l (bestN p l n)).f3))) = true
    · rw [if_pos hc]
      refine .inr ⟨by omega, by omega, ?_⟩
      have h1 := (Bool.and_eq_true _ _ ▸ hc).1
      have : rd_T38 l (n : Int) = l.getD n zl := by unfold rd_T38; rw [Int.toNat_natCast]
      rw [this]
      exact h1
    · rw [if_neg hc]
      rcases ih with ⟨h1, h2⟩ | ⟨h1, h2, h3⟩
      · refine .inl ⟨h1, fun j hj => ?_⟩
        by_cases he : j = n
        · subst he
          cases hp : p (l.getD j zl) with
          | false => rfl
          | true => exact absurd (by rw [hp, h1]; rfl) hc
        · exact h2 j (by omega)
      · exact .inr ⟨h1, by omega, h3⟩
def qL (x : ByteArray) (n : Int) (h : Lot) : Bool := decide (h.f0.toList = x.toList) && (h.f1 == n)
theorem fidx_lt {α : Type} (q : α → Bool) : ∀ (l : List α) (i : Int), 0 ≤ i → fidx q l i < i + l.length ∧ -1 ≤ fidx q l i
  | [], i, h => by simp only [fidx, List.length_nil]; omega
  | x :: l, i, h => by
    have := fidx_lt q l (i + 1) (by omega)
    unfold fidx
    rw [List.length_cons]
    push_cast
    split <;> omega
theorem find_impl (l : List Lot) (x : ByteArray) (n : Int) (hl : l.length ≤ 1000) : Ev (fun k => slices_IndexFunc_at_impl_Stock_lotAt_1.f k l x n) (fidx (qL x n) l 0) := by
  unfold slices_IndexFunc_at_impl_Stock_lotAt_1.f
  refine index_ev l (qL x n) (fun k i => slices_IndexFunc_at_impl_Stock_lotAt_1.l0 k l (l.length : Int) i x n) (fun k y => impl_Stock_lotAt_1.f y.f0 y.f1 y.f2 y.f3 y.f4 x n) (by unfold maxLen; omega) (fun y _ => ?_) (fun k i y hy => ?_) (fun k => ?_)
  · refine ev_const (fun k => ?_)
    unfold impl_Stock_lotAt_1.f qL
    by_cases h : y.f0.toList = x.toList
    · rw [if_pos h, decide_eq_true h, Bool.true_and]
    · rw [if_neg h, decide_eq_false h, Bool.false_and]
  · have hi := some_lt hy
    have hr : rd_T38 l (i : Int) = y := getD_some hy
    simp only [slices_IndexFunc_at_impl_Stock_lotAt_1.l0, hr]
    rw [if_pos (ilt hi), if_pos (ige _), if_pos (ilt hi)]
  · simp only [slices_IndexFunc_at_impl_Stock_lotAt_1.l0]
    rw [if_neg (by omega)]
/-! ### lots by their keys -/
def key (h : Lot) : List UInt8 × Int := (h.f0.toList, h.f1)
def kq (h x : Lot) : Bool := decide (key x = key h)
def Keys (l : List Lot) : Prop := (l.map key).Nodup
theorem keys_cons {x : Lot} {l : List Lot} (h : Keys (x :: l)) : key x ∉ l.map key ∧ Keys l := by
  unfold Keys at h
  rw [List.map_cons, List.nodup_cons] at h
  exact h
theorem su_nokey {h : Lot} : ∀ {l : List Lot}, key h ∉ l.map key → su (kq h) l = 0
  | [], _ => rfl
  | x :: l, hn => by
    rw [List.map_cons, List.mem_cons, not_or] at hn
    rw [su, if_neg (by simp only [kq, decide_eq_true_eq]; exact fun e => hn.1 e.symm), su_nokey hn.2]
    rfl
theorem su_key {h : Lot} : ∀ {l : List Lot}, Keys l → ∀ y ∈ l, key y = key h → su (kq h) l = y.f2
  | x :: l, hk, y, hy, e => by
    have hk := keys_cons hk
    rcases List.mem_cons.1 hy with rfl | hy
    · rw [su, if_pos (by simp [kq, e]), su_nokey (by rw [← e]; exact hk.1)]
      omega
    · have : key x ≠ key h := fun e2 => hk.1 (by rw [e2, ← e]; exact List.mem_map_of_mem hy)
      rw [su, if_neg (by simp only [kq, decide_eq_true_eq]; exact this), su_key hk.2 y hy e]
      omega
theorem keys_inj : ∀ {l : List Lot}, Keys l → ∀ h ∈ l, ∀ g ∈ l, key h = key g → h = g
  | x :: l, hk, h, hh, g, hg, e => by
    have hk := keys_cons hk
    rcases List.mem_cons.1 hh with h1 | h1
    · rcases List.mem_cons.1 hg with h2 | h2
      · rw [h1, h2]
      · exact absurd (by rw [← h1, e]; exact List.mem_map_of_mem h2) hk.1
    · rcases List.mem_cons.1 hg with h2 | h2
      · exact absurd (by rw [← h2, ← e]; exact List.mem_map_of_mem h1) hk.1
      · exact keys_inj hk.2 h h1 g h2 e
theorem units_ev (l : List Lot) (h : Lot) (hk : Keys l) (hl : l.length ≤ 1000) : Ev (fun k => laws_units.f k l h.f0 h.f1 h.f2 h.f3 h.f4) (su (kq h) l) := by
  have key0 : Keys (l.drop 0) → Ev (fun k => laws_units.l0 k l ((0 : Nat) : Int) h.f0 h.f1 h.f2 h.f3 h.f4) (su (kq h) (l.drop 0)) := by
    refine down_list l (P := fun i => Keys (l.drop i) → Ev (fun k => laws_units.l0 k l (i : Int) h.f0 h.f1 h.f2 h.f3 h.f4) (su (kq h) (l.drop i))) ?_ ?_
    · intro _
      refine ev_succ (fun k => ?_)
      simp only [laws_units.l0]
      rw [if_neg (by omega), List.drop_length]
      rfl
    · intro i y hy hd ih hk
      have hi := some_lt hy
      have hr : rd_T38 l (i : Int) = y := getD_some hy
      have hw := wrap_succ hi (show l.length ≤ maxLen by unfold maxLen; omega)
      rw [hd] at hk ⊢
      by_cases e : key y = key h
      · rw [su_key hk y List.mem_cons_self e]
        have e1 : y.f0.toList = h.f0.toList := congrArg Prod.fst e
        have e2 : y.f1 = h.f1 := congrArg Prod.snd e
        refine ev_succ (fun k => ?_)
        simp only [laws_units.l0, hr]
        rw [if_pos (ilt hi), if_pos (ige _), if_pos e1, if_pos e2]
      · rw [su, if_neg (by simp only [kq, decide_eq_true_eq]; exact e), Int.zero_add]
        refine Ev.step (fun k => ?_) (ih (keys_cons hk).2)
        simp only [laws_units.l0, hr, hw]
        rw [if_pos (ilt hi), if_pos (ige _)]
        by_cases e1 : y.f0.toList = h.f0.toList
        · rw [if_pos e1, if_neg (show ¬ y.f1 = h.f1 from fun e2 => e (Prod.ext e1 e2))]
        · rw [if_neg e1]
  exact key0 hk
theorem best_least (p : Lot → Bool) (l : List Lot) : ∀ n, n ≤ l.length → ∀ j, j < n → p (l.getD j zl) = true → 0 ≤ bestN p l n → (rd_T38 l (bestN p l n)).f3 ≤ (l.getD j zl).f3
  | n + 1, hn, j, hj, hp, h0 => by
    have ih := best_least p l n (by omega)
    have hs := best_spec p l n (by omega)
    have hrd : rd_T38 l (n : Int) = l.getD n zl := by unfold rd_T38; rw [Int.toNat_natCast]
    rw [bestN_succ] at h0 ⊢
    unfold bestS at h0 ⊢
    by_cases hc : (p (l.getD n zl) && (decide (bestN p l n < 0) || decide ((l.getD n zl).f3 < (rd_T38 l (bestN p l n)).f3))) = true
    · rw [if_pos hc, hrd]
      by_cases he : j = n
      · subst he; exact Int.le_refl _
      · rcases hs with ⟨h1, h2⟩ | ⟨h1, h2, h3⟩
        · rw [h2 j (by omega)] at hp; cases hp
        · have := ih j (by omega) hp h1
          simp only [Bool.and_eq_true, Bool.or_eq_true, decide_eq_true_eq] at hc
          omega
    · rw [if_neg hc] at h0 ⊢
      by_cases he : j = n
      · subst he
        simp only [Bool.and_eq_true, Bool.or_eq_true, decide_eq_true_eq, not_and, not_or] at hc
        have := hc hp
        omega
      · exact ih j (by omega) hp h0
/-! ### what is left behind units that go -/
structure Less (x : Lot) (t : Int) (m m' : List Lot) : Prop where
  sum : ∀ q : Lot → Bool, (∀ (x : Lot) (v : Int), q ⟨x.f0, x.f1, v, x.f3, x.f4⟩ = q x) → su q m' = su q m - (if q x = true then t else 0)
  good : GoodL m'
  keys : Keys m'
  same : ∀ y ∈ m', ∃ z ∈ m, y.f0 = z.f0 ∧ y.f1 = z.f1 ∧ y.f3 = z.f3 ∧ y.f4 = z.f4
  len : m'.length ≤ m.length
theorem keys_set {m : List Lot} (hk : Keys m) (i : Nat) (hi : i < m.length) (y : Lot) (hy : key y = key m[i]) : Keys (m.set i y) := by
  unfold Keys
  rw [List.map_set, hy, show key m[i] = (m.map key)[i]'(by simpa using hi) by rw [List.getElem_map], List.set_getElem_self]
  exact hk
theorem lessen_ok {m : List Lot} {b t : Int} (hg : GoodL m) (hk : Keys m) (h0 : 0 ≤ b) (h1 : b < (m.length : Int)) (t0 : 0 ≤ t) (t1 : t ≤ (rd_T38 m b).f2) : Less (rd_T38 m b) t m (lessenB m b t) := by
  have hx := good_rd hg h0 h1
  have hw3 : wrap64 ((rd_T38 m b).f2 - t) = (rd_T38 m b).f2 - t := w64 (by omega) (by omega)
  have hgt := rd_get (l := m) h0 h1
  by_cases hz : (rd_T38 m b).f2 - t = 0
  · have hle : lessenB m b t = m.eraseIdx b.toNat := by rw [lessenB, hw3, if_pos hz, List.eraseIdx_set_eq]
    rw [hle]
    refine ⟨fun q hq => ?_, good_erase hg _, List.Nodup.sublist ((List.eraseIdx_sublist m b.toNat).map key) hk, fun y hy => ⟨y, List.mem_of_mem_eraseIdx hy, rfl, rfl, rfl, rfl⟩, List.length_eraseIdx_le _ _⟩
    rw [su_erase q m b.toNat (by omega), ← hgt]
    split <;> omega
  · have hle : lessenB m b t = m.set b.toNat ⟨(rd_T38 m b).f0, (rd_T38 m b).f1, (rd_T38 m b).f2 - t, (rd_T38 m b).f3, (rd_T38 m b).f4⟩ := by rw [lessenB, hw3, if_neg hz]
    rw [hle]
    refine ⟨fun q hq => ?_, good_set hg b.toNat (y := ⟨(rd_T38 m b).f0, (rd_T38 m b).f1, (rd_T38 m b).f2 - t, (rd_T38 m b).f3, (rd_T38 m b).f4⟩) ⟨by dsimp only; omega, by dsimp only; omega⟩, keys_set hk b.toNat (by omega) _ (by rw [← hgt]; rfl), fun y hy => ?_, by rw [List.length_set]; exact Nat.le_refl _⟩
    · rw [su_set q _ m b.toNat (by omega), ← hgt, hq (rd_T38 m b) ((rd_T38 m b).f2 - t)]
      dsimp only
      by_cases c : q (rd_T38 m b) = true
      · simp only [if_pos c]; omega
      · simp only [if_neg c]; omega
    · rcases List.mem_or_eq_of_mem_set hy with hy | rfl
      · exact ⟨y, hy, rfl, rfl, rfl, rfl⟩
      · exact ⟨rd_T38 m b, by rw [hgt]; exact List.getElem_mem _, rfl, rfl, rfl, rfl⟩
structure After (p : Lot → Bool) (l m : List Lot) : Prop where
  good : GoodL m
  keys : Keys m
  same : ∀ y ∈ m, ∃ h ∈ l, y.f0 = h.f0 ∧ y.f1 = h.f1 ∧ y.f3 = h.f3 ∧ y.f4 = h.f4
  le : ∀ h ∈ l, su (kq h) m ≤ h.f2
  own : ∀ h ∈ l, su (kq h) m < h.f2 → p h = true
  soon : ∀ h ∈ l, ∀ g ∈ l, su (kq h) m < h.f2 → p g = true → g.f3 < h.f3 → su (kq g) m = 0
theorem after_refl {p : Lot → Bool} {l : List Lot} (hg : GoodL l) (hk : Keys l) : After p l l :=
  ⟨hg, hk, fun y hy => ⟨y, hy, rfl, rfl, rfl, rfl⟩, fun h hh => by rw [su_key hk h hh rfl]; exact Int.le_refl _, fun h hh hl => by rw [su_key hk h hh rfl] at hl; omega, fun h hh g _ hl => by rw [su_key hk h hh rfl] at hl; omega⟩
theorem p_same {p : Lot → Bool} (hp : ∀ (x : Lot) (v : Int), p ⟨x.f0, x.f1, v, x.f3, x.f4⟩ = p x) {x h : Lot} (e0 : x.f0 = h.f0) (e1 : x.f1 = h.f1) (e3 : x.f3 = h.f3) (e4 : x.f4 = h.f4) : p x = p h := by
  rw [← hp x h.f2, e0, e1, e3, e4]
theorem kq_same (h x : Lot) (v : Int) : kq h ⟨x.f0, x.f1, v, x.f3, x.f4⟩ = kq h x := rfl
theorem after_less {p : Lot → Bool} (hp : ∀ (x : Lot) (v : Int), p ⟨x.f0, x.f1, v, x.f3, x.f4⟩ = p x) {l m m' : List Lot} {x : Lot} {t : Int} (hk : Keys l) (A : After p l m) (hxm : x ∈ m) (px : p x = true) (least : ∀ y ∈ m, p y = true → x.f3 ≤ y.f3) (t0 : 0 ≤ t) (L : Less x t m m') : After p l m' := by
  -- a lot of the list there is, is the one of its key
  have orig : ∀ y ∈ m, ∀ h ∈ l, key y = key h → y.f3 = h.f3 ∧ p y = p h := by
    intro y hy h hh e
    obtain ⟨h0, q0, e0, e1, e3, e4⟩ := A.same y hy
    have : h0 = h := keys_inj hk h0 q0 h hh (by rw [← e]; unfold key; rw [e0, e1])
    subst this
    exact ⟨e3, p_same hp e0 e1 e3 e4⟩
  have zero : ∀ g ∈ l, su (kq g) m = 0 → su (kq g) m' = 0 := by
    intro g _ hz
    have h1 := L.sum (kq g) (kq_same g)
    have h2 := su_bound (kq g) m' L.good
    rw [hz] at h1
    split at h1 <;> omega
  refine ⟨L.good, L.keys, fun y hy => ?_, fun h hh => ?_, fun h hh hl => ?_, fun h hh g hg hl pg lt => zero g hg ?_⟩
  · obtain ⟨z, hz, e0, e1, e3, e4⟩ := L.same y hy
    obtain ⟨h, hh, f0, f1, f3, f4⟩ := A.same z hz
    exact ⟨h, hh, e0.trans f0, e1.trans f1, e3.trans f3, e4.trans f4⟩
  · have h1 := L.sum (kq h) (kq_same h)
    have h2 := A.le h hh
    split at h1 <;> omega
  · have h1 := L.sum (kq h) (kq_same h)
    by_cases c : kq h x = true
    · rw [← (orig x hxm h hh (by simpa [kq] using c)).2]; exact px
    · rw [if_neg c] at h1
      exact A.own h hh (by omega)
  · have h1 := L.sum (kq h) (kq_same h)
    by_cases c : kq h x = true
    · have o := (orig x hxm h hh (by simpa [kq] using c)).1
      refine su_nokey (fun hm => ?_)
      obtain ⟨y, hy, e⟩ := List.mem_map.1 hm
      obtain ⟨o1, o2⟩ := orig y hy g hg e
      have := least y hy (by rw [o2]; exact pg)
      omega
    · rw [if_neg c] at h1
      exact A.soon h hh g hg (by omega) pg lt
abbrev all : Lot → Bool := fun _ => true
theorem sell_ok (p : Lot → Bool) (hp : ∀ (x : Lot) (v : Int), p ⟨x.f0, x.f1, v, x.f3, x.f4⟩ = p x) {l : List Lot} (hkl : Keys l) : ∀ (N : Nat) (m : List Lot) (n c : Int), n ≤ (N : Int) → After p l m → m.length ≤ 60 → n ≤ su p m → 0 ≤ n → 0 ≤ c → c + n ≤ 1000000000 →
    ∃ q : List Lot × Int, Ev (fun k => sellF p k m n c) q ∧ After p l q.1 ∧ q.1.length ≤ 60 ∧ su all q.1 = su all m - n
  | N, m, n, c, hN, A, hl, hs, h0, c0, c1 => by
    by_cases hn : 0 < n
    · obtain ⟨N', rfl⟩ : ∃ z, N = z + 1 := ⟨N - 1, by omega⟩
      rcases best_spec p m m.length (Nat.le_refl _) with ⟨_, h2⟩ | ⟨b0, b1, b2⟩
      · rw [su_none p m h2] at hs
        omega
      · have bl := best_least p m m.length (Nat.le_refl _)
        obtain ⟨b, hbb⟩ : ∃ b, bestN p m m.length = b := ⟨_, rfl⟩
        rw [hbb] at b0 b1 b2 bl
        have hx := good_rd A.good b0 b1
        have hxm : rd_T38 m b ∈ m := by rw [rd_get b0 b1]; exact List.getElem_mem _
        have least : ∀ y ∈ m, p y = true → (rd_T38 m b).f3 ≤ y.f3 := by
          intro y hy py
          obtain ⟨j, hj, rfl⟩ := List.getElem_of_mem hy
          have e : m.getD j zl = m[j] := by rw [List.getD_eq_getElem?_getD, List.getElem?_eq_getElem hj]; rfl
          have := bl j hj (by rw [e]; exact py) b0
          rw [e] at this
          exact this
        have hm1 : 1 ≤ min n (rd_T38 m b).f2 := by omega
        have hm2 : min n (rd_T38 m b).f2 ≤ (rd_T38 m b).f2 := by omega
        have hm3 : min n (rd_T38 m b).f2 ≤ n := by omega
        generalize hmm : min n (rd_T38 m b).f2 = t at hm1 hm2 hm3
        have hw1 : wrap64 (n - t) = n - t := w64 (by omega) (by omega)
        have hw2 : wrap64 (c + 1) = c + 1 := w64 (by omega) (by omega)
        have L := lessen_ok A.good A.keys b0 b1 (show 0 ≤ t by omega) hm2
        have hsf : ∀ k, sellF p (k + 1) m n c = sellF p k (lessenB m b t) (n - t) (c + 1) := fun k => by rw [sellF, if_pos hn, hbb, if_pos b0, hmm, hw1, hw2]
        have s1 := L.sum p hp
        have s2 := L.sum all (fun _ _ => rfl)
        rw [if_pos b2] at s1
        rw [if_pos rfl] at s2
        obtain ⟨q, q1, q2, q3, q4⟩ := sell_ok p hp hkl N' (lessenB m b t) (n - t) (c + 1) (by omega) (after_less hp hkl A hxm b2 least (by omega) L) (Nat.le_trans L.len hl) (by omega) (by omega) (by omega) (by omega)
        exact ⟨q, Ev.step hsf q1, q2, q3, by rw [q4, s2]; omega⟩
    · exact ⟨(m, c), ev_succ (fun k => by rw [sellF, if_neg hn]), A, hl, by show su all m = su all m - n; omega⟩
end Go.Proofs.Ytnkceaibkfbeaaa.ZStockBF
