/- The law's own work on events and ledgers: copies, comparisons, sizes, marks. -/
import Derived.Test.YtoibmbkmpadmnaaZLedRG
import Derived.Test.YtoibmbkmpadmnaaZMarkUG
import Derived.Test.YtoibmbkmpadmnaaZMarkIG
namespace Go.Proofs.Ytoibmbkmpadmnaa.ZLedMG
open Go.RowKit Go.Proofs.Ytoibmbkmpadmnaa.G Go.Proofs.Ytoibmbkmpadmnaa.Lib Go.Proofs.Ytoibmbkmpadmnaa.ZNamG Go.Proofs.Ytoibmbkmpadmnaa.ZLedEG Go.Proofs.Ytoibmbkmpadmnaa.ZLedRG Go.Proofs.Ytoibmbkmpadmnaa.ZMarkUG Go.Proofs.Ytoibmbkmpadmnaa.ZMarkIG Go.Proofs.YtoibmbkmpadmnaaW.PrintWords Go.Proofs.YtoibmbkmpadmnaaW.PrintLast Go.Proofs.YtoibmbkmpadmnaaW.PrintMore
abbrev La := S59
def cvE (p : La) : Ew := ⟨p.f0, p.f1, p.f2, p.f3, p.f4, p.f5⟩
theorem to_events (l : List La) (hl : l.length ≤ 1048576) : Ev (fun k => laws_toEventS.f k l) (l.map cvE) := by
  unfold laws_toEventS.f
  simp only [if_pos (ige _), Int.toNat_natCast, if_pos (show l.length ≤ 5026338869833 by omega)]
  refine to_ev l _ cvE (fun k out i => laws_toEventS.l0 k l out i) (by unfold maxLen; omega) (fun k out i x hx ho => ?_) (fun k out => ?_)
  · have := some_lt hx
    simp only [laws_toEventS.l0, rd_T59, laws_toEvent.f, Option.bind_some]
    rw [if_pos (ilt this), if_pos (ige _), if_pos (by omega), getD_some hx]; rfl
  · simp only [laws_toEventS.l0]
    rw [if_neg (by omega)]
theorem eq_events (l : List Ew) (hl : l.length ≤ maxLen) : Ev (fun k => laws_eqEventS.f k l l) true := by
  unfold laws_eqEventS.f
  simp only [if_true]
  refine ev_eq (all_ev' l (fun _ => true) (fun k i => laws_eqEventS.l0 k l l i) hl (fun k i x hx => ?_) (fun k => ?_)) (by simp)
  · have := some_lt hx
    have hr : rd_T35 l (i : Int) = x := getD_some hx
    simp only [laws_eqEventS.l0, hr, laws_eqEvent.f, if_true, Option.bind_some]
    rw [if_pos (ilt this), if_pos (ige _), if_pos (ilt this)]
  · simp only [laws_eqEventS.l0]
    rw [if_neg (by omega)]
theorem eq_cards (l : List Cd) (hl : l.length ≤ maxLen) : Ev (fun k => laws_eqCardS.f k l l) true := by
  unfold laws_eqCardS.f
  simp only [if_true]
  refine ev_eq (all_ev' l (fun _ => true) (fun k i => laws_eqCardS.l0 k l l i) hl (fun k i x hx => ?_) (fun k => ?_)) (by simp)
  · have := some_lt hx
    have hr : rd_T39 l (i : Int) = x := getD_some hx
    simp only [laws_eqCardS.l0, hr, laws_eqCard.f, if_true, Option.bind_some]
    rw [if_pos (ilt this), if_pos (ige _), if_pos (ilt this)]
  · simp only [laws_eqCardS.l0]
    rw [if_neg (by omega)]
theorem eq_strs (l : List ByteArray) (hl : l.length ≤ maxLen) : Ev (fun k => laws_eqStringS.f k l l) true := by
  unfold laws_eqStringS.f
  simp only [if_true]
  refine ev_eq (all_ev' l (fun _ => true) (fun k i => laws_eqStringS.l0 k l l i) hl (fun k i x hx => ?_) (fun k => ?_)) (by simp)
  · have := some_lt hx
    simp only [laws_eqStringS.l0]
    rw [if_pos (ilt this), if_pos (ige _), if_pos (ilt this)]
  · simp only [laws_eqStringS.l0]
    rw [if_neg (by omega)]
theorem eq_led (a : List Cd) (b : List ByteArray) (c : List Int) (ha : a.length ≤ maxLen) (hb : b.length ≤ maxLen) (hc : c.length ≤ maxLen) : Ev (fun k => laws_eqLedger.f k a b c a b c) true := by
  unfold laws_eqLedger.f
  exact ev_bind (eq_cards a ha) (ev_pos rfl (ev_bind (eq_strs b hb) (ev_pos rfl (ev_bind (eq_ints c hc) (ev_pos rfl (ev_some _))))))
theorem sz_events (l : List La) (hl : l.length ≤ maxLen) (hs : ∀ p ∈ l, p.f4.size ≤ maxLen) : ∃ m, Ev (fun k => laws_szEventS.f k l 1048576) m ∧ (m < 0 ∨ (0 ≤ m ∧ (l.length : Int) ≤ 1048576)) := by
  unfold maxLen at hl
  unfold laws_szEventS.f
  rw [w64 (by omega) (by omega)]
  by_cases h : (1048576 - (l.length : Int)) < 0
  · exact ⟨-1, ev_pos h (ev_some _), .inl (by omega)⟩
  · have key : ∀ a : Int, 0 ≤ a → a ≤ 1048576 → ∃ m, Ev (fun k => laws_szEventS.l0 k l a ((0 : Nat) : Int)) m ∧ (m < 0 ∨ (0 ≤ m ∧ m ≤ 1048576)) := by
      refine down_list l (P := fun i => ∀ a : Int, 0 ≤ a → a ≤ 1048576 → ∃ m, Ev (fun k => laws_szEventS.l0 k l a (i : Int)) m ∧ (m < 0 ∨ (0 ≤ m ∧ m ≤ 1048576))) ?_ ?_
      · intro a g0 g1
        refine ⟨a, ev_succ (fun k => ?_), .inr ⟨g0, g1⟩⟩
        simp only [laws_szEventS.l0]
        rw [if_neg (by omega)]
      · intro i x hx hd ih a g0 g1
        have hi := some_lt hx
        have hr : rd_T59 l (i : Int) = x := getD_some hx
        have hsz := hs x (List.mem_of_getElem? hx)
        unfold maxLen at hsz
        have hw : wrap64 (a - (x.f4.size : Int)) = a - x.f4.size := w64 (by omega) (by omega)
        by_cases hn : a - (x.f4.size : Int) < 0
        · refine ⟨-1, ev_succ (fun k => ?_), .inl (by omega)⟩
          simp only [laws_szEventS.l0, hr, laws_szEvent.f, hw]
          rw [if_pos (ilt hi), if_pos (ige _), if_pos hn]
          rfl
        · obtain ⟨m, hm, hb⟩ := ih (a - x.f4.size) (by omega) (by omega)
          refine ⟨m, Ev.step (fun k => ?_) hm, hb⟩
          simp only [laws_szEventS.l0, hr, laws_szEvent.f, hw]
          rw [if_pos (ilt hi), if_pos (ige _), if_neg hn]
          simp only [Option.bind_some]
          rw [if_neg hn, wrap_succ hi (by unfold maxLen; omega)]
    obtain ⟨m, hm, hb⟩ := key (1048576 - l.length) (by omega) (by omega)
    refine ⟨m, ev_neg h hm, ?_⟩
    rcases hb with hb | hb
    · exact .inl hb
    · exact .inr ⟨hb.1, by omega⟩
/-! ### marks -/
noncomputable def tx (a : Int) : ByteArray := if h : a ≤ 4398046511104 then (text_big a h).choose else ⟨#[]⟩
theorem tx_ev (a : Int) (h : a ≤ 4398046511104) : Ev (fun k => laws_markText.f k a) (tx a) := by
  unfold tx
  rw [dif_pos h]
  exact (text_big a h).choose_spec
theorem mark_events (l : List Ew) (hl : l.length ≤ 1048576) : ∃ w, Ev (fun k => laws_markEventS.f k l 1) (1 + 6 * (l.length : Int), w) := by
  unfold laws_markEventS.f
  have key : ∀ (out : List Ew) (n : Int), out.length = l.length → n = 1 + 6 * ((0 : Nat) : Int) → ∃ w, Ev (fun k => laws_markEventS.l0 k out n ((0 : Nat) : Int)) (1 + 6 * (l.length : Int), w) := by
    refine down (n := l.length) (P := fun i => ∀ (out : List Ew) (n : Int), out.length = l.length → n = 1 + 6 * (i : Int) → ∃ w, Ev (fun k => laws_markEventS.l0 k out n (i : Int)) (1 + 6 * (l.length : Int), w)) ?_ ?_ 0 (Nat.zero_le _)
    · intro out n ho hn
      refine ⟨out, ev_succ (fun k => ?_)⟩
      simp only [laws_markEventS.l0]
      rw [if_neg (by omega), hn]
    · intro i hi ih out n ho hn
      have hi2 : i < out.length := by omega
      have hw1 : wrap64 (n + 1) = n + 1 := w64 (by omega) (by omega)
      have hw2 : wrap64 (n + 1 + 1) = n + 1 + 1 := w64 (by omega) (by omega)
      have hw3 : wrap64 (n + 1 + 1 + 1) = n + 1 + 1 + 1 := w64 (by omega) (by omega)
      have hw4 : wrap64 (n + 1 + 1 + 1 + 1) = n + 1 + 1 + 1 + 1 := w64 (by omega) (by omega)
      have hw5 : wrap64 (n + 1 + 1 + 1 + 1 + 1) = n + 1 + 1 + 1 + 1 + 1 := w64 (by omega) (by omega)
      have hw6 : wrap64 (n + 1 + 1 + 1 + 1 + 1 + 1) = n + 1 + 1 + 1 + 1 + 1 + 1 := w64 (by omega) (by omega)
      have hrd : ∀ y : Ew, rd_T35 (out.set i y) (i : Int) = y := fun y => getD_some (by simp [hi2])
      obtain ⟨w, hE⟩ := ih (out.set i ⟨n, n + 1, n + 1 + 1, n + 1 + 1 + 1, tx (n + 1 + 1 + 1 + 1), n + 1 + 1 + 1 + 1 + 1⟩) (n + 1 + 1 + 1 + 1 + 1 + 1) (by rw [List.length_set]; exact ho) (by omega)
      refine ⟨w, Ev.step (f := fun k => (laws_markText.f k (n + 1 + 1 + 1 + 1)).bind fun t => laws_markEventS.l0 k (out.set i ⟨n, n + 1, n + 1 + 1, n + 1 + 1 + 1, t, n + 1 + 1 + 1 + 1 + 1⟩) (n + 1 + 1 + 1 + 1 + 1 + 1) ((i + 1 : Nat) : Int)) (fun k => ?_) (ev_bind (tx_ev (n + 1 + 1 + 1 + 1) (by omega)) hE)⟩
      simp only [laws_markEventS.l0, Option.bind_some, hw1, hw2, hw3, hw4, hw5, hw6, Int.toNat_natCast, hrd, List.set_set]
      rw [if_pos (by omega), if_pos (ige _), wrap_succ (show i < l.length by omega) (by unfold maxLen; omega)]
  exact key l 1 rfl rfl
noncomputable def cdM (n : Int) : Cd := ⟨tx n, n + 1, n + 1 + 1, n + 1 + 1 + 1⟩
noncomputable def mkC : Int → List Cd → List Cd
  | _, [] => []
  | n, _ :: l => cdM n :: mkC (n + 1 + 1 + 1 + 1) l
theorem mkC_len : ∀ (l : List Cd) (n : Int), (mkC n l).length = l.length
  | [], _ => rfl
  | _ :: l, n => by simp [mkC, mkC_len l]
theorem mark_cards (l : List Cd) (a : Int) (hl : l.length ≤ 1048576) (h0 : 0 ≤ a) (h1 : a ≤ 100000000) : Ev (fun k => laws_markCardS.f k l a) (a + 4 * (l.length : Int), mkC a l) := by
  unfold laws_markCardS.f
  have key : ∀ (out : List Cd) (n : Int), out.length = l.length → n = a + 4 * ((0 : Nat) : Int) → Ev (fun k => laws_markCardS.l0 k out n ((0 : Nat) : Int)) (a + 4 * (l.length : Int), out.take 0 ++ mkC n (out.drop 0)) := by
    refine down (n := l.length) (P := fun i => ∀ (out : List Cd) (n : Int), out.length = l.length → n = a + 4 * (i : Int) → Ev (fun k => laws_markCardS.l0 k out n (i : Int)) (a + 4 * (l.length : Int), out.take i ++ mkC n (out.drop i))) ?_ ?_ 0 (Nat.zero_le _)
    · intro out n ho hn
      refine ev_succ (fun k => ?_)
      simp only [laws_markCardS.l0]
      rw [if_neg (by omega), hn, ← ho, List.drop_length, List.take_length]
      simp [mkC]
    · intro i hi ih out n ho hn
      have hi2 : i < out.length := by omega
      have hw1 : wrap64 (n + 1) = n + 1 := w64 (by omega) (by omega)
      have hw2 : wrap64 (n + 1 + 1) = n + 1 + 1 := w64 (by omega) (by omega)
      have hw3 : wrap64 (n + 1 + 1 + 1) = n + 1 + 1 + 1 := w64 (by omega) (by omega)
      have hw4 : wrap64 (n + 1 + 1 + 1 + 1) = n + 1 + 1 + 1 + 1 := w64 (by omega) (by omega)
      have hrd : ∀ y : Cd, rd_T39 (out.set i y) (i : Int) = y := fun y => getD_some (by simp [hi2])
      refine Ev.step (f := fun k => (laws_markText.f k n).bind fun t => laws_markCardS.l0 k (out.set i ⟨t, n + 1, n + 1 + 1, n + 1 + 1 + 1⟩) (n + 1 + 1 + 1 + 1) ((i + 1 : Nat) : Int)) (fun k => ?_) (ev_bind (tx_ev n (by omega)) (ev_eq (ih (out.set i (cdM n)) (n + 1 + 1 + 1 + 1) (by rw [List.length_set]; exact ho) (by omega)) ?_))
      · simp only [laws_markCardS.l0, Option.bind_some, hw1, hw2, hw3, hw4, Int.toNat_natCast, hrd, List.set_set]
        rw [if_pos (by omega), wrap_succ (show i < l.length by omega) (by unfold maxLen; omega)]
        simp only [if_pos (ige i)]
      · rw [List.take_succ_eq_append_getElem (by rw [List.length_set]; omega), List.getElem_set_self, List.take_set, List.set_eq_of_length_le (by rw [List.length_take]; omega), List.append_assoc]
        rw [List.drop_eq_getElem_cons hi2, mkC, List.drop_set_of_lt (by omega)]
        rfl
  have := key l a rfl (by omega)
  simpa using this
theorem held_cards (l : List Cd) (a : Int) (hl : l.length ≤ 1048576) (h0 : 0 ≤ a) (h1 : a ≤ 100000000) : Ev (fun k => laws_heldCardS.f k (mkC a l) a) (a + 4 * (l.length : Int)) := by
  unfold laws_heldCardS.f
  have hlen := mkC_len l a
  have key : ∀ (n : Int) (m : List Cd), m.length = l.length - 0 → (mkC a l).drop 0 = mkC n m → n = a + 4 * ((0 : Nat) : Int) → Ev (fun k => laws_heldCardS.l0 k (mkC a l) n ((0 : Nat) : Int)) (a + 4 * (l.length : Int)) := by
    refine down (n := l.length) (P := fun i => ∀ (n : Int) (m : List Cd), m.length = l.length - i → (mkC a l).drop i = mkC n m → n = a + 4 * (i : Int) → Ev (fun k => laws_heldCardS.l0 k (mkC a l) n (i : Int)) (a + 4 * (l.length : Int))) ?_ ?_ 0 (Nat.zero_le _)
    · intro n m _ _ hn
      refine ev_succ (fun k => ?_)
      simp only [laws_heldCardS.l0]
      rw [if_neg (by omega), hn]
    · intro i hi ih n m hm hd hn
      obtain ⟨y, m', rfl⟩ : ∃ y m', m = y :: m' := by
        cases m with
        | nil => simp at hm; omega
        | cons y m' => exact ⟨y, m', rfl⟩
      rw [mkC] at hd
      have h1' : (mkC a l)[i]? = some (cdM n) := by
        have : ((mkC a l).drop i)[0]? = some (cdM n) := by rw [hd]; rfl
        rw [List.getElem?_drop] at this
        simpa using this
      have hrd : rd_T39 (mkC a l) (i : Int) = cdM n := getD_some h1'
      have hw1 : wrap64 (n + 1) = n + 1 := w64 (by omega) (by omega)
      have hw2 : wrap64 (n + 1 + 1) = n + 1 + 1 := w64 (by omega) (by omega)
      have hw3 : wrap64 (n + 1 + 1 + 1) = n + 1 + 1 + 1 := w64 (by omega) (by omega)
      have hw4 : wrap64 (n + 1 + 1 + 1 + 1) = n + 1 + 1 + 1 + 1 := w64 (by omega) (by omega)
      have hE := ih (n + 1 + 1 + 1 + 1) m' (by simp at hm; omega) (by rw [← List.drop_drop, hd]; rfl) (by omega)
      refine Ev.step (f := fun k => (laws_markText.f k n).bind fun t => if (tx n).toList = t.toList then laws_heldCardS.l0 k (mkC a l) (n + 1 + 1 + 1 + 1) ((i + 1 : Nat) : Int) else some (-1)) (fun k => ?_) (ev_bind (tx_ev n (by omega)) (ev_pos rfl hE))
      simp only [laws_heldCardS.l0, hrd, hw1, hw2, hw3, hw4]
      rw [if_pos (by omega), if_pos (ige _), wrap_succ (show i < l.length by omega) (by unfold maxLen; omega)]
      simp only [cdM, if_true]
  exact key a l rfl rfl (by omega)
noncomputable def mkT : Int → List ByteArray → List ByteArray
  | _, [] => []
  | n, _ :: l => tx n :: mkT (n + 1) l
theorem mkT_len : ∀ (l : List ByteArray) (n : Int), (mkT n l).length = l.length
  | [], _ => rfl
  | _ :: l, n => by simp [mkT, mkT_len l]
theorem mark_strs (l : List ByteArray) (a : Int) (hl : l.length ≤ 1048576) (h0 : 0 ≤ a) (h1 : a ≤ 100000000) : Ev (fun k => laws_markStringS.f k l a) (a + (l.length : Int), mkT a l) := by
  unfold laws_markStringS.f
  have key : ∀ (out : List ByteArray) (n : Int), out.length = l.length → n = a + ((0 : Nat) : Int) → Ev (fun k => laws_markStringS.l0 k out n ((0 : Nat) : Int)) (a + (l.length : Int), out.take 0 ++ mkT n (out.drop 0)) := by
    refine down (n := l.length) (P := fun i => ∀ (out : List ByteArray) (n : Int), out.length = l.length → n = a + (i : Int) → Ev (fun k => laws_markStringS.l0 k out n (i : Int)) (a + (l.length : Int), out.take i ++ mkT n (out.drop i))) ?_ ?_ 0 (Nat.zero_le _)
    · intro out n ho hn
      refine ev_succ (fun k => ?_)
      simp only [laws_markStringS.l0]
      rw [if_neg (by omega), hn, ← ho, List.drop_length, List.take_length]
      simp [mkT]
    · intro i hi ih out n ho hn
      have hi2 : i < out.length := by omega
      have hw : wrap64 (n + 1) = n + 1 := w64 (by omega) (by omega)
      refine Ev.step (f := fun k => (laws_markText.f k n).bind fun t => laws_markStringS.l0 k (out.set i t) (n + 1) ((i + 1 : Nat) : Int)) (fun k => ?_) (ev_bind (tx_ev n (by omega)) (ev_eq (ih (out.set i (tx n)) (n + 1) (by rw [List.length_set]; exact ho) (by omega)) ?_))
      · simp only [laws_markStringS.l0, hw, Int.toNat_natCast]
        rw [if_pos (by omega), wrap_succ (show i < l.length by omega) (by unfold maxLen; omega)]
        simp only [if_pos (ige i)]
      · rw [List.take_succ_eq_append_getElem (by rw [List.length_set]; omega), List.getElem_set_self, List.take_set, List.set_eq_of_length_le (by rw [List.length_take]; omega), List.append_assoc]
        rw [List.drop_eq_getElem_cons hi2, mkT, List.drop_set_of_lt (by omega)]
        rfl
  have := key l a rfl (by omega)
  simpa using this
theorem held_strs (l : List ByteArray) (a : Int) (hl : l.length ≤ 1048576) (h0 : 0 ≤ a) (h1 : a ≤ 100000000) : Ev (fun k => laws_heldStringS.f k (mkT a l) a) (a + (l.length : Int)) := by
  unfold laws_heldStringS.f
  have hlen := mkT_len l a
  have key : ∀ (n : Int) (m : List ByteArray), m.length = l.length - 0 → (mkT a l).drop 0 = mkT n m → n = a + ((0 : Nat) : Int) → Ev (fun k => laws_heldStringS.l0 k (mkT a l) n ((0 : Nat) : Int)) (a + (l.length : Int)) := by
    refine down (n := l.length) (P := fun i => ∀ (n : Int) (m : List ByteArray), m.length = l.length - i → (mkT a l).drop i = mkT n m → n = a + (i : Int) → Ev (fun k => laws_heldStringS.l0 k (mkT a l) n (i : Int)) (a + (l.length : Int))) ?_ ?_ 0 (Nat.zero_le _)
    · intro n m _ _ hn
      refine ev_succ (fun k => ?_)
      simp only [laws_heldStringS.l0]
      rw [if_neg (by omega), hn]
    · intro i hi ih n m hm hd hn
      obtain ⟨y, m', rfl⟩ : ∃ y m', m = y :: m' := by
        cases m with
        | nil => simp at hm; omega
        | cons y m' => exact ⟨y, m', rfl⟩
      rw [mkT] at hd
      have h1' : (mkT a l)[i]? = some (tx n) := by
        have : ((mkT a l).drop i)[0]? = some (tx n) := by rw [hd]; rfl
        rw [List.getElem?_drop] at this
        simpa using this
      have hrd : rdOf ByteArray.empty (mkT a l) (i : Int) = tx n := getD_some h1'
      have hw : wrap64 (n + 1) = n + 1 := w64 (by omega) (by omega)
      have hE := ih (n + 1) m' (by simp at hm; omega) (by rw [← List.drop_drop, hd]; rfl) (by omega)
      refine Ev.step (f := fun k => (laws_markText.f k n).bind fun t => if (tx n).toList = t.toList then laws_heldStringS.l0 k (mkT a l) (n + 1) ((i + 1 : Nat) : Int) else some (-1)) (fun k => ?_) (ev_bind (tx_ev n (by omega)) (ev_pos rfl hE))
      simp only [laws_heldStringS.l0, hrd, hw]
      rw [if_pos (by omega), if_pos (ige _), wrap_succ (show i < l.length by omega) (by unfold maxLen; omega)]
  exact key a l rfl rfl (by omega)
theorem mark_led (a : List Cd) (b : List ByteArray) (c : List Int) (ha : a.length ≤ 120) (hb : b.length ≤ 120) (hc : c.length ≤ 120) : Ev (fun k => laws_markLedger.f k a b c 1) (1 + 4 * (a.length : Int) + (b.length : Int) + (c.length : Int), mkC 1 a, mkT (1 + 4 * (a.length : Int)) b, mkI (1 + 4 * (a.length : Int) + (b.length : Int)) c) := by
  unfold laws_markLedger.f
  exact ev_bind (mark_cards a 1 (by omega) (by omega) (by omega)) (ev_bind (mark_strs b _ (by omega) (by omega) (by omega)) (ev_bind (markI_ev c _ (by omega) (by omega) (by omega)) (ev_some _)))
theorem held_led (a : List Cd) (b : List ByteArray) (c : List Int) (ha : a.length ≤ 120) (hb : b.length ≤ 120) (hc : c.length ≤ 120) : Ev (fun k => laws_heldLedger.f k (mkC 1 a) (mkT (1 + 4 * (a.length : Int)) b) (mkI (1 + 4 * (a.length : Int) + (b.length : Int)) c) 1) (1 + 4 * (a.length : Int) + (b.length : Int) + (c.length : Int)) := by
  unfold laws_heldLedger.f
  exact ev_bind (held_cards a 1 (by omega) (by omega) (by omega)) (ev_neg (by omega) (ev_bind (held_strs b _ (by omega) (by omega) (by omega)) (ev_neg (by omega) (ev_bind (heldI_ev c _ (by omega) (by omega) (by omega)) (ev_neg (by omega) (ev_some _))))))
end Go.Proofs.Ytoibmbkmpadmnaa.ZLedMG
