/- The law's own work on stock acts, observations and lots: copies, comparisons, sizes, marks. -/
import Derived.Test.YtnkceaibkfbeaaaZStockRE
import Derived.Test.YtnkceaibkfbeaaaZMarkUE
namespace Go.Proofs.Ytnkceaibkfbeaaa.ZStockME
open Go.RowKit Go.Proofs.Ytnkceaibkfbeaaa.E Go.Proofs.Ytnkceaibkfbeaaa.Lib Go.Proofs.Ytnkceaibkfbeaaa.ZStockAE Go.Proofs.Ytnkceaibkfbeaaa.ZStockRE Go.Proofs.Ytnkceaibkfbeaaa.ZMarkUE Go.Proofs.YtnkceaibkfbeaaaW.PrintWords Go.Proofs.YtnkceaibkfbeaaaW.PrintLast Go.Proofs.YtnkceaibkfbeaaaW.PrintMore

abbrev La := S57
def cvA (p : La) : Ac := ⟨p.f0, p.f1, p.f2, p.f3, p.f4⟩
theorem to_acts (l : List La) (hl : l.length ≤ 1048576) : Ev (fun k => laws_toStockActS.f k l) (l.map cvA) := by
  unfold laws_toStockActS.f
  simp only [if_pos (ige _), Int.toNat_natCast, if_pos (show l.length ≤ 5864062014805 by omega)]
  refine to_ev l _ cvA (fun k out i => laws_toStockActS.l0 k l out i) (by unfold maxLen; omega) (fun k out i x hx ho => ?_) (fun k out => ?_)
  · have := some_lt hx
    simp only [laws_toStockActS.l0, rd_T57, laws_toStockAct.f, Option.bind_some]
    rw [if_pos (ilt this), if_pos (ige _), if_pos (by omega), getD_some hx]; rfl
  · simp only [laws_toStockActS.l0]
    rw [if_neg (by omega)]
theorem eq_acts (l : List Ac) (hl : l.length ≤ maxLen) : Ev (fun k => laws_eqStockActS.f k l l) true := by
  unfold laws_eqStockActS.f
  simp only [if_true]
  refine ev_eq (all_ev' l (fun _ => true) (fun k i => laws_eqStockActS.l0 k l l i) hl (fun k i x hx => ?_) (fun k => ?_)) (by simp)
  · have := some_lt hx
    have hr : rd_T34 l (i : Int) = x := getD_some hx
    simp only [laws_eqStockActS.l0, hr, laws_eqStockAct.f, if_true, Option.bind_some]
    rw [if_pos (ilt this), if_pos (ige _), if_pos (ilt this)]
  · simp only [laws_eqStockActS.l0]
    rw [if_neg (by omega)]
theorem eq_obs (l : List Ob) (hl : l.length ≤ maxLen) : Ev (fun k => laws_eqStockObsS.f k l l) true := by
  unfold laws_eqStockObsS.f
  simp only [if_true]
  refine ev_eq (all_ev' l (fun _ => true) (fun k i => laws_eqStockObsS.l0 k l l i) hl (fun k i x hx => ?_) (fun k => ?_)) (by simp)
  · have := some_lt hx
    have hr : rd_T36 l (i : Int) = x := getD_some hx
    simp only [laws_eqStockObsS.l0, hr, laws_eqStockObs.f, if_true, Option.bind_some]
    rw [if_pos (ilt this), if_pos (ige _), if_pos (ilt this)]
  · simp only [laws_eqStockObsS.l0]
    rw [if_neg (by omega)]
theorem eq_lots (l : List Lot) (hl : l.length ≤ maxLen) : Ev (fun k => laws_eqStockLotS.f k l l) true := by
  unfold laws_eqStockLotS.f
  simp only [if_true]
  refine ev_eq (all_ev' l (fun _ => true) (fun k i => laws_eqStockLotS.l0 k l l i) hl (fun k i x hx => ?_) (fun k => ?_)) (by simp)
  · have := some_lt hx
    have hr : rd_T38 l (i : Int) = x := getD_some hx
    simp only [laws_eqStockLotS.l0, hr, laws_eqStockLot.f, bne_self_eq_false, Bool.false_eq_true, if_false, if_true, Option.bind_some]
    rw [if_pos (ilt this), if_pos (ige _), if_pos (ilt this)]
  · simp only [laws_eqStockLotS.l0]
    rw [if_neg (by omega)]
theorem eq_stock (a b c d e : Int) (l : List Lot) (hl : l.length ≤ maxLen) : Ev (fun k => laws_eqStock.f k a b c d e l a b c d e l) true := by
  unfold laws_eqStock.f
  exact ev_pos rfl (ev_pos rfl (ev_pos rfl (ev_pos rfl (ev_pos rfl (ev_bind (eq_lots l hl) (ev_pos rfl (ev_some _)))))))
theorem sz_acts (l : List La) (hl : l.length ≤ maxLen) (hs : ∀ p ∈ l, p.f1.size ≤ maxLen) : ∃ m, Ev (fun k => laws_szStockActS.f k l 1048576) m ∧ (m < 0 ∨ (0 ≤ m ∧ (l.length : Int) ≤ 1048576)) := by
  unfold maxLen at hl
  unfold laws_szStockActS.f
  rw [w64 (by omega) (by omega)]
  by_cases h : (1048576 - (l.length : Int)) < 0
  · exact ⟨-1, ev_pos h (ev_some _), .inl (by omega)⟩
  · have key : ∀ a : Int, 0 ≤ a → a ≤ 1048576 → ∃ m, Ev (fun k => laws_szStockActS.l0 k l a ((0 : Nat) : Int)) m ∧ (m < 0 ∨ (0 ≤ m ∧ m ≤ 1048576)) := by
      refine down_list l (P := fun i => ∀ a : Int, 0 ≤ a → a ≤ 1048576 → ∃ m, Ev (fun k => laws_szStockActS.l0 k l a (i : Int)) m ∧ (m < 0 ∨ (0 ≤ m ∧ m ≤ 1048576))) ?_ ?_
      · intro a g0 g1
        refine ⟨a, ev_succ (fun k => ?_), .inr ⟨g0, g1⟩⟩
        simp only [laws_szStockActS.l0]
        rw [if_neg (by omega)]
      · intro i x hx hd ih a g0 g1
        have hi := some_lt hx
        have hr : rd_T57 l (i : Int) = x := getD_some hx
        have hsz := hs x (List.mem_of_getElem? hx)
        unfold maxLen at hsz
        have hw : wrap64 (a - (x.f1.size : Int)) = a - x.f1.size := w64 (by omega) (by omega)
        by_cases hn : a - (x.f1.size : Int) < 0
        · refine ⟨-1, ev_succ (fun k => ?_), .inl (by omega)⟩
          simp only [laws_szStockActS.l0, hr, laws_szStockAct.f, hw]
          rw [if_pos (ilt hi), if_pos (ige _), if_pos hn]
          rfl
        · obtain ⟨m, hm, hb⟩ := ih (a - x.f1.size) (by omega) (by omega)
          refine ⟨m, Ev.step (fun k => ?_) hm, hb⟩
          simp only [laws_szStockActS.l0, hr, laws_szStockAct.f, hw]
          rw [if_pos (ilt hi), if_pos (ige _), if_neg hn]
          simp only [Option.bind_some]
          rw [if_neg hn, wrap_succ hi (by unfold maxLen; omega)]
    obtain ⟨m, hm, hb⟩ := key (1048576 - l.length) (by omega) (by omega)
    refine ⟨m, ev_neg h hm, ?_⟩
    rcases hb with hb | hb
    · exact .inl hb
    · exact .inr ⟨hb.1, by omega⟩
/-! ### marks -/
noncomputable def tx (a : Int) : ByteArray := if h : a ≤ 4398046511104 then (text_big a h).choose else ⟨#[]⟩
theorem tx_ev (a : Int) (h : a ≤ 4398046511104) : Ev (fun k => laws_markText.f k a) (tx a) := by
  unfold tx
  rw [dif_pos h]
  exact (text_big a h).choose_spec
theorem mark_acts (l : List Ac) (hl : l.length ≤ 1048576) : ∃ w, Ev (fun k => laws_markStockActS.f k l 1) (1 + 5 * (l.length : Int), w) := by
  unfold laws_markStockActS.f
  have key : ∀ (out : List Ac) (n : Int), out.length = l.length → n = 1 + 5 * ((0 : Nat) : Int) → ∃ w, Ev (fun k => laws_markStockActS.l0 k out n ((0 : Nat) : Int)) (1 + 5 * (l.length : Int), w) := by
    refine down (n := l.length) (P := fun i => ∀ (out : List Ac) (n : Int), out.length = l.length → n = 1 + 5 * (i : Int) → ∃ w, Ev (fun k => laws_markStockActS.l0 k out n (i : Int)) (1 + 5 * (l.length : Int), w)) ?_ ?_ 0 (Nat.zero_le _)
    · intro out n ho hn
      refine ⟨out, ev_succ (fun k => ?_)⟩
      simp only [laws_markStockActS.l0]
      rw [if_neg (by omega), hn]
    · intro i hi ih out n ho hn
      have hi2 : i < out.length := by omega
      have hw1 : wrap64 (n + 1) = n + 1 := w64 (by omega) (by omega)
      have hw2 : wrap64 (n + 1 + 1) = n + 1 + 1 := w64 (by omega) (by omega)
      have hw3 : wrap64 (n + 1 + 1 + 1) = n + 1 + 1 + 1 := w64 (by omega) (by omega)
      have hw4 : wrap64 (n + 1 + 1 + 1 + 1) = n + 1 + 1 + 1 + 1 := w64 (by omega) (by omega)
      have hw5 : wrap64 (n + 1 + 1 + 1 + 1 + 1) = n + 1 + 1 + 1 + 1 + 1 := w64 (by omega) (by omega)
      have hrd : ∀ y : Ac, rd_T34 (out.set i y) (i : Int) = y := fun y => getD_some (by simp [hi2])
      obtain ⟨w, hE⟩ := ih (out.set i ⟨n, tx (n + 1), n + 1 + 1, n + 1 + 1 + 1, n + 1 + 1 + 1 + 1⟩) (n + 1 + 1 + 1 + 1 + 1) (by rw [List.length_set]; exact ho) (by omega)
      refine ⟨w, Ev.step (f := fun k => (laws_markText.f k (n + 1)).bind fun t => laws_markStockActS.l0 k (out.set i ⟨n, t, n + 1 + 1, n + 1 + 1 + 1, n + 1 + 1 + 1 + 1⟩) (n + 1 + 1 + 1 + 1 + 1) ((i + 1 : Nat) : Int)) (fun k => ?_) (ev_bind (tx_ev (n + 1) (by omega)) hE)⟩
      simp only [laws_markStockActS.l0, Option.bind_some, hw1, hw2, hw3, hw4, hw5, Int.toNat_natCast, hrd, List.set_set]
      rw [if_pos (by omega), if_pos (ige _), wrap_succ (show i < l.length by omega) (by unfold maxLen; omega)]
  exact key l 1 rfl rfl
def mkO : Int → List Ob → List Ob
  | _, [] => []
  | n, _ :: l => ⟨n, n + 1⟩ :: mkO (n + 1 + 1) l
theorem mkO_len : ∀ (l : List Ob) (n : Int), (mkO n l).length = l.length
  | [], _ => rfl
  | _ :: l, n => by simp [mkO, mkO_len l]
theorem mark_obs (l : List Ob) (a : Int) (hl : l.length ≤ 1048576) (h0 : 0 ≤ a) (h1 : a ≤ 100000000) : Ev (fun k => laws_markStockObsS.f k l a) (a + 2 * (l.length : Int), mkO a l) := by
  unfold laws_markStockObsS.f
  have key : ∀ (out : List Ob) (n : Int), out.length = l.length → n = a + 2 * ((0 : Nat) : Int) → Ev (fun k => laws_markStockObsS.l0 k out n ((0 : Nat) : Int)) (a + 2 * (l.length : Int), out.take 0 ++ mkO n (out.drop 0)) := by
    refine down (n := l.length) (P := fun i => ∀ (out : List Ob) (n : Int), out.length = l.length → n = a + 2 * (i : Int) → Ev (fun k => laws_markStockObsS.l0 k out n (i : Int)) (a + 2 * (l.length : Int), out.take i ++ mkO n (out.drop i))) ?_ ?_ 0 (Nat.zero_le _)
    · intro out n ho hn
      refine ev_succ (fun k => ?_)
      simp only [laws_markStockObsS.l0]
      rw [if_neg (by omega), hn, ← ho, List.drop_length, List.take_length]
      simp [mkO]
    · intro i hi ih out n ho hn
      have hi2 : i < out.length := by omega
      have hw1 : wrap64 (n + 1) = n + 1 := w64 (by omega) (by omega)
      have hw2 : wrap64 (n + 1 + 1) = n + 1 + 1 := w64 (by omega) (by omega)
      have hrd : ∀ y : Ob, rd_T36 (out.set i y) (i : Int) = y := fun y => getD_some (by simp [hi2])
      refine Ev.step (fun k => ?_) (ev_eq (ih (out.set i ⟨n, n + 1⟩) (n + 1 + 1) (by rw [List.length_set]; exact ho) (by omega)) ?_)
      · simp only [laws_markStockObsS.l0, Option.bind_some, hw1, hw2, Int.toNat_natCast, hrd, List.set_set]
        rw [if_pos (by omega), wrap_succ (show i < l.length by omega) (by unfold maxLen; omega), if_pos (ige _)]
      · rw [List.take_succ_eq_append_getElem (by rw [List.length_set]; omega), List.getElem_set_self, List.take_set, List.set_eq_of_length_le (by rw [List.length_take]; omega), List.append_assoc]
        rw [List.drop_eq_getElem_cons hi2, mkO, List.drop_set_of_lt (by omega)]
        rfl
  have := key l a rfl (by omega)
  simpa using this
theorem held_obs (l : List Ob) (a : Int) (hl : l.length ≤ 1048576) (h0 : 0 ≤ a) (h1 : a ≤ 100000000) : Ev (fun k => laws_heldStockObsS.f k (mkO a l) a) (a + 2 * (l.length : Int)) := by
  unfold laws_heldStockObsS.f
  have hlen := mkO_len l a
  have key : ∀ (n : Int) (m : List Ob), m.length = l.length - 0 → (mkO a l).drop 0 = mkO n m → n = a + 2 * ((0 : Nat) : Int) → Ev (fun k => laws_heldStockObsS.l0 k (mkO a l) n ((0 : Nat) : Int)) (a + 2 * (l.length : Int)) := by
    refine down (n := l.length) (P := fun i => ∀ (n : Int) (m : List Ob), m.length = l.length - i → (mkO a l).drop i = mkO n m → n = a + 2 * (i : Int) → Ev (fun k => laws_heldStockObsS.l0 k (mkO a l) n (i : Int)) (a + 2 * (l.length : Int))) ?_ ?_ 0 (Nat.zero_le _)
    · intro n m _ _ hn
      refine ev_succ (fun k => ?_)
      simp only [laws_heldStockObsS.l0]
      rw [if_neg (by omega), hn]
    · intro i hi ih n m hm hd hn
      obtain ⟨y, m', rfl⟩ : ∃ y m', m = y :: m' := by
        cases m with
        | nil => simp at hm; omega
        | cons y m' => exact ⟨y, m', rfl⟩
      rw [mkO] at hd
      have h1' : (mkO a l)[i]? = some ⟨n, n + 1⟩ := by
        have : ((mkO a l).drop i)[0]? = some ⟨n, n + 1⟩ := by rw [hd]; rfl
        rw [List.getElem?_drop] at this
        simpa using this
      have hrd : rd_T36 (mkO a l) (i : Int) = ⟨n, n + 1⟩ := getD_some h1'
      have hw1 : wrap64 (n + 1) = n + 1 := w64 (by omega) (by omega)
      have hw2 : wrap64 (n + 1 + 1) = n + 1 + 1 := w64 (by omega) (by omega)
      have hE := ih (n + 1 + 1) m' (by simp at hm; omega) (by rw [← List.drop_drop, hd]; rfl) (by omega)
      refine Ev.step (fun k => ?_) hE
      simp only [laws_heldStockObsS.l0, hrd, hw1, hw2]
      rw [if_pos (by omega), if_pos (ige _), wrap_succ (show i < l.length by omega) (by unfold maxLen; omega)]
      simp only [if_true]
  exact key a l rfl rfl (by omega)
noncomputable def lotM (n : Int) : Lot := ⟨tx n, n + 1, n + 1 + 1, n + 1 + 1 + 1, (Int.tmod (n + 1 + 1 + 1 + 1) 3 == 0)⟩
noncomputable def mkL : Int → List Lot → List Lot
  | _, [] => []
  | n, _ :: l => lotM n :: mkL (n + 1 + 1 + 1 + 1 + 1) l
theorem mkL_len : ∀ (l : List Lot) (n : Int), (mkL n l).length = l.length
  | [], _ => rfl
  | _ :: l, n => by simp [mkL, mkL_len l]
theorem mark_lots (l : List Lot) (a : Int) (hl : l.length ≤ 1048576) (h0 : 0 ≤ a) (h1 : a ≤ 100000000) : Ev (fun k => laws_markStockLotS.f k l a) (a + 5 * (l.length : Int), mkL a l) := by
  unfold laws_markStockLotS.f
  have key : ∀ (out : List Lot) (n : Int), out.length = l.length → n = a + 5 * ((0 : Nat) : Int) → Ev (fun k => laws_markStockLotS.l0 k out n ((0 : Nat) : Int)) (a + 5 * (l.length : Int), out.take 0 ++ mkL n (out.drop 0)) := by
    refine down (n := l.length) (P := fun i => ∀ (out : List Lot) (n : Int), out.length = l.length → n = a + 5 * (i : Int) → Ev (fun k => laws_markStockLotS.l0 k out n (i : Int)) (a + 5 * (l.length : Int), out.take i ++ mkL n (out.drop i))) ?_ ?_ 0 (Nat.zero_le _)
    · intro out n ho hn
      refine ev_succ (fun k => ?_)
      simp only [laws_markStockLotS.l0]
      rw [if_neg (by omega), hn, ← ho, List.drop_length, List.take_length]
      simp [mkL]
    · intro i hi ih out n ho hn
      have hi2 : i < out.length := by omega
      have hw1 : wrap64 (n + 1) = n + 1 := w64 (by omega) (by omega)
      have hw2 : wrap64 (n + 1 + 1) = n + 1 + 1 := w64 (by omega) (by omega)
      have hw3 : wrap64 (n + 1 + 1 + 1) = n + 1 + 1 + 1 := w64 (by omega) (by omega)
      have hw4 : wrap64 (n + 1 + 1 + 1 + 1) = n + 1 + 1 + 1 + 1 := w64 (by omega) (by omega)
      have hw5 : wrap64 (n + 1 + 1 + 1 + 1 + 1) = n + 1 + 1 + 1 + 1 + 1 := w64 (by omega) (by omega)
      have hrd : ∀ y : Lot, rd_T38 (out.set i y) (i : Int) = y := fun y => getD_some (by simp [hi2])
      refine Ev.step (f := fun k => (laws_markText.f k n).bind fun t => laws_markStockLotS.l0 k (out.set i ⟨t, n + 1, n + 1 + 1, n + 1 + 1 + 1, (Int.tmod (n + 1 + 1 + 1 + 1) 3 == 0)⟩) (n + 1 + 1 + 1 + 1 + 1) ((i + 1 : Nat) : Int)) (fun k => ?_) (ev_bind (tx_ev n (by omega)) (ev_eq (ih (out.set i (lotM n)) (n + 1 + 1 + 1 + 1 + 1) (by rw [List.length_set]; exact ho) (by omega)) ?_))
      · simp only [laws_markStockLotS.l0, Option.bind_some, hw1, hw2, hw3, hw4, hw5, Int.toNat_natCast, hrd, List.set_set]
        rw [if_pos (by omega), wrap_succ (show i < l.length by omega) (by unfold maxLen; omega)]
        simp only [if_pos (ige i)]
      · rw [List.take_succ_eq_append_getElem (by rw [List.length_set]; omega), List.getElem_set_self, List.take_set, List.set_eq_of_length_le (by rw [List.length_take]; omega), List.append_assoc]
        rw [List.drop_eq_getElem_cons hi2, mkL, List.drop_set_of_lt (by omega)]
        rfl
  have := key l a rfl (by omega)
  simpa using this
theorem held_lots (l : List Lot) (a : Int) (hl : l.length ≤ 1048576) (h0 : 0 ≤ a) (h1 : a ≤ 100000000) : Ev (fun k => laws_heldStockLotS.f k (mkL a l) a) (a + 5 * (l.length : Int)) := by
  unfold laws_heldStockLotS.f
  have hlen := mkL_len l a
  have key : ∀ (n : Int) (m : List Lot), m.length = l.length - 0 → (mkL a l).drop 0 = mkL n m → n = a + 5 * ((0 : Nat) : Int) → Ev (fun k => laws_heldStockLotS.l0 k (mkL a l) n ((0 : Nat) : Int)) (a + 5 * (l.length : Int)) := by
    refine down (n := l.length) (P := fun i => ∀ (n : Int) (m : List Lot), m.length = l.length - i → (mkL a l).drop i = mkL n m → n = a + 5 * (i : Int) → Ev (fun k => laws_heldStockLotS.l0 k (mkL a l) n (i : Int)) (a + 5 * (l.length : Int))) ?_ ?_ 0 (Nat.zero_le _)
    · intro n m _ _ hn
      refine ev_succ (fun k => ?_)
      simp only [laws_heldStockLotS.l0]
      rw [if_neg (by omega), hn]
    · intro i hi ih n m hm hd hn
      obtain ⟨y, m', rfl⟩ : ∃ y m', m = y :: m' := by
        cases m with
        | nil => simp at hm; omega
        | cons y m' => exact ⟨y, m', rfl⟩
      rw [mkL] at hd
      have h1' : (mkL a l)[i]? = some (lotM n) := by
        have : ((mkL a l).drop i)[0]? = some (lotM n) := by rw [hd]; rfl
        rw [List.getElem?_drop] at this
        simpa using this
      have hrd : rd_T38 (mkL a l) (i : Int) = lotM n := getD_some h1'
      have hw1 : wrap64 (n + 1) = n + 1 := w64 (by omega) (by omega)
      have hw2 : wrap64 (n + 1 + 1) = n + 1 + 1 := w64 (by omega) (by omega)
      have hw3 : wrap64 (n + 1 + 1 + 1) = n + 1 + 1 + 1 := w64 (by omega) (by omega)
      have hw4 : wrap64 (n + 1 + 1 + 1 + 1) = n + 1 + 1 + 1 + 1 := w64 (by omega) (by omega)
      have hw5 : wrap64 (n + 1 + 1 + 1 + 1 + 1) = n + 1 + 1 + 1 + 1 + 1 := w64 (by omega) (by omega)
      have hE := ih (n + 1 + 1 + 1 + 1 + 1) m' (by simp at hm; omega) (by rw [← List.drop_drop, hd]; rfl) (by omega)
      refine Ev.step (f := fun k => (laws_markText.f k n).bind fun t => if (tx n).toList = t.toList then laws_heldStockLotS.l0 k (mkL a l) (n + 1 + 1 + 1 + 1 + 1) ((i + 1 : Nat) : Int) else some (-1)) (fun k => ?_) (ev_bind (tx_ev n (by omega)) (ev_pos rfl hE))
      simp only [laws_heldStockLotS.l0, hrd, hw1, hw2, hw3, hw4, hw5]
      rw [if_pos (by omega), if_pos (ige _), wrap_succ (show i < l.length by omega) (by unfold maxLen; omega)]
      simp only [lotM, if_true, bne_self_eq_false, Bool.false_eq_true, if_false]
  exact key a l rfl rfl (by omega)
theorem mark_stock (a b c d e : Int) (l : List Lot) (n : Int) (hl : l.length ≤ 1048576) (h0 : 0 ≤ n) (h1 : n ≤ 100000000) : Ev (fun k => laws_markStock.f k a b c d e l n) (n + 5 * (l.length : Int), mkL n l) := by
  unfold laws_markStock.f
  exact ev_bind (mark_lots l n hl h0 h1) (ev_some _)
theorem held_stock (a b c d e : Int) (l : List Lot) (n : Int) (hl : l.length ≤ 1048576) (h0 : 0 ≤ n) (h1 : n ≤ 100000000) : Ev (fun k => laws_heldStock.f k a b c d e (mkL n l) n) (n + 5 * (l.length : Int)) := by
  unfold laws_heldStock.f
  exact ev_bind (held_lots l n hl h0 h1) (ev_neg (by omega) (ev_some _))
end Go.Proofs.Ytnkceaibkfbeaaa.ZStockME
