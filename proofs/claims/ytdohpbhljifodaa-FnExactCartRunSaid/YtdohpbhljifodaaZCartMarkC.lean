/- The law's own work on acts, observations and holds: copies, comparisons, sizes, marks. -/
import Derived.Test.YtdohpbhljifodaaZCartsC
namespace Go.Proofs.Ytdohpbhljifodaa.ZCartMarkC
open Go.RowKit Go.Proofs.Ytdohpbhljifodaa.C Go.Proofs.Ytdohpbhljifodaa.Lib Go.Proofs.Ytdohpbhljifodaa.ZCartsC Go.Proofs.YtdohpbhljifodaaW.PrintWords Go.Proofs.YtdohpbhljifodaaW.PrintLast Go.Proofs.YtdohpbhljifodaaW.PrintMore

abbrev La := S60
def cvA (p : La) : Ac := ⟨p.f0, p.f1, p.f2, p.f3⟩
theorem to_acts (l : List La) (hl : l.length ≤ 1048576) : Ev (fun k => laws_toCartActS.f k l) (l.map cvA) := by
  unfold laws_toCartActS.f
  simp only [if_pos (ige _), Int.toNat_natCast, if_pos (show l.length ≤ 8796093022208 by omega)]
  refine to_ev l _ cvA (fun k out i => laws_toCartActS.l0 k l out i) (by unfold maxLen; omega) (fun k out i x hx ho => ?_) (fun k out => ?_)
  · have := some_lt hx
    simp only [laws_toCartActS.l0, rd_T60, laws_toCartAct.f, Option.bind_some]
    rw [if_pos (ilt this), if_pos (ige _), if_pos (by omega), getD_some hx]; rfl
  · simp only [laws_toCartActS.l0]
    rw [if_neg (by omega)]
theorem eq_acts (l : List Ac) (hl : l.length ≤ maxLen) : Ev (fun k => laws_eqCartActS.f k l l) true := by
  unfold laws_eqCartActS.f
  simp only [if_true]
  refine ev_eq (all_ev' l (fun _ => true) (fun k i => laws_eqCartActS.l0 k l l i) hl (fun k i x hx => ?_) (fun k => ?_)) (by simp)
  · have := some_lt hx
    have hr : rd_T54 l (i : Int) = x := getD_some hx
    simp only [laws_eqCartActS.l0, hr, laws_eqCartAct.f, if_true, Option.bind_some]
    rw [if_pos (ilt this), if_pos (ige _), if_pos (ilt this)]
  · simp only [laws_eqCartActS.l0]
    rw [if_neg (by omega)]
theorem eq_obs (l : List Ob) (hl : l.length ≤ maxLen) : Ev (fun k => laws_eqCartObsS.f k l l) true := by
  unfold laws_eqCartObsS.f
  simp only [if_true]
  refine ev_eq (all_ev' l (fun _ => true) (fun k i => laws_eqCartObsS.l0 k l l i) hl (fun k i x hx => ?_) (fun k => ?_)) (by simp)
  · have := some_lt hx
    have hr : rd_T34 l (i : Int) = x := getD_some hx
    simp only [laws_eqCartObsS.l0, hr, laws_eqCartObs.f, if_true, Option.bind_some]
    rw [if_pos (ilt this), if_pos (ige _), if_pos (ilt this)]
  · simp only [laws_eqCartObsS.l0]
    rw [if_neg (by omega)]
theorem eq_holds (l : List H) (hl : l.length ≤ maxLen) : Ev (fun k => laws_eqCartHoldS.f k l l) true := by
  unfold laws_eqCartHoldS.f
  simp only [if_true]
  refine ev_eq (all_ev' l (fun _ => true) (fun k i => laws_eqCartHoldS.l0 k l l i) hl (fun k i x hx => ?_) (fun k => ?_)) (by simp)
  · have := some_lt hx
    have hr : rd_T36 l (i : Int) = x := getD_some hx
    simp only [laws_eqCartHoldS.l0, hr, laws_eqCartHold.f, if_true, Option.bind_some]
    rw [if_pos (ilt this), if_pos (ige _), if_pos (ilt this)]
  · simp only [laws_eqCartHoldS.l0]
    rw [if_neg (by omega)]
theorem eq_carts (a b c : Int) (l : List H) (hl : l.length ≤ maxLen) : Ev (fun k => laws_eqCarts.f k a b c l a b c l) true := by
  unfold laws_eqCarts.f
  exact ev_pos rfl (ev_pos rfl (ev_pos rfl (ev_bind (eq_holds l hl) (ev_pos rfl (ev_some _)))))
theorem sz_acts (l : List La) (hl : l.length ≤ maxLen) : ∃ m, laws_szCartActS.f l 1048576 = some m ∧ (m < 0 ∨ (0 ≤ m ∧ (l.length : Int) ≤ 1048576)) := by
  unfold maxLen at hl
  unfold laws_szCartActS.f
  rw [w64 (by omega) (by omega)]
  by_cases h : (1048576 - (l.length : Int)) < 0
  · exact ⟨-1, by rw [if_pos h], .inl (by omega)⟩
  · exact ⟨_, by rw [if_neg h], .inr ⟨by omega, by omega⟩⟩
/-! ### marks -/
def st4 (out : List Ac) (i : Int) (n : Int) : List Ac :=
  let y1 := out.set i.toNat ⟨n, (rd_T54 out i).f1, (rd_T54 out i).f2, (rd_T54 out i).f3⟩
  let y2 := y1.set i.toNat ⟨(rd_T54 y1 i).f0, n + 1, (rd_T54 y1 i).f2, (rd_T54 y1 i).f3⟩
  let y3 := y2.set i.toNat ⟨(rd_T54 y2 i).f0, (rd_T54 y2 i).f1, n + 1 + 1, (rd_T54 y2 i).f3⟩
  y3.set i.toNat ⟨(rd_T54 y3 i).f0, (rd_T54 y3 i).f1, (rd_T54 y3 i).f2, n + 1 + 1 + 1⟩
theorem mark_acts (l : List Ac) (hl : l.length ≤ 1048576) : ∃ w, Ev (fun k => laws_markCartActS.f k l 1) (1 + 4 * (l.length : Int), w) := by
  unfold laws_markCartActS.f
  have key : ∀ (out : List Ac) (n : Int), out.length = l.length → n = 1 + 4 * ((0 : Nat) : Int) → ∃ w, Ev (fun k => laws_markCartActS.l0 k out n ((0 : Nat) : Int)) (1 + 4 * (l.length : Int), w) := by
    refine down (n := l.length) (P := fun i => ∀ (out : List Ac) (n : Int), out.length = l.length → n = 1 + 4 * (i : Int) → ∃ w, Ev (fun k => laws_markCartActS.l0 k out n (i : Int)) (1 + 4 * (l.length : Int), w)) ?_ ?_ 0 (Nat.zero_le _)
    · intro out n ho hn
      refine ⟨out, ev_succ (fun k => ?_)⟩
      simp only [laws_markCartActS.l0]
      rw [if_neg (by omega), hn]
    · intro i hi ih out n ho hn
      have hw1 : wrap64 (n + 1) = n + 1 := w64 (by omega) (by omega)
      have hw2 : wrap64 (n + 1 + 1) = n + 1 + 1 := w64 (by omega) (by omega)
      have hw3 : wrap64 (n + 1 + 1 + 1) = n + 1 + 1 + 1 := w64 (by omega) (by omega)
      have hw4 : wrap64 (n + 1 + 1 + 1 + 1) = n + 1 + 1 + 1 + 1 := w64 (by omega) (by omega)
      obtain ⟨w, hE⟩ := ih (st4 out (i : Int) n) (n + 1 + 1 + 1 + 1) (by unfold st4; simp only [List.length_set]; exact ho) (by omega)
      refine ⟨w, Ev.step (fun k => ?_) hE⟩
      simp only [laws_markCartActS.l0, Option.bind_some, hw1, hw2, hw3, hw4]
      rw [if_pos (by omega), if_pos (ige _), wrap_succ (show i < l.length by omega) (by unfold maxLen; omega)]
      rfl
  exact key l 1 rfl (by omega)
def mkO : Int → List Ob → List Ob
  | _, [] => []
  | n, _ :: l => ⟨n, n + 1⟩ :: mkO (n + 1 + 1) l
theorem mkO_len : ∀ (l : List Ob) (n : Int), (mkO n l).length = l.length
  | [], _ => rfl
  | _ :: l, n => by simp [mkO, mkO_len l]
theorem mark_obs (l : List Ob) (a : Int) (hl : l.length ≤ 1048576) (h0 : 0 ≤ a) (h1 : a ≤ 100000000) : Ev (fun k => laws_markCartObsS.f k l a) (a + 2 * (l.length : Int), mkO a l) := by
  unfold laws_markCartObsS.f
  have key : ∀ (out : List Ob) (n : Int), out.length = l.length → n = a + 2 * ((0 : Nat) : Int) → Ev (fun k => laws_markCartObsS.l0 k out n ((0 : Nat) : Int)) (a + 2 * (l.length : Int), out.take 0 ++ mkO n (out.drop 0)) := by
    refine down (n := l.length) (P := fun i => ∀ (out : List Ob) (n : Int), out.length = l.length → n = a + 2 * (i : Int) → Ev (fun k => laws_markCartObsS.l0 k out n (i : Int)) (a + 2 * (l.length : Int), out.take i ++ mkO n (out.drop i))) ?_ ?_ 0 (Nat.zero_le _)
    · intro out n ho hn
      refine ev_succ (fun k => ?_)
      simp only [laws_markCartObsS.l0]
      rw [if_neg (by omega), hn, ← ho, List.drop_length, List.take_length]
      simp [mkO]
    · intro i hi ih out n ho hn
      have hi2 : i < out.length := by omega
      have hw1 : wrap64 (n + 1) = n + 1 := w64 (by omega) (by omega)
      have hw2 : wrap64 (n + 1 + 1) = n + 1 + 1 := w64 (by omega) (by omega)
      have hrd : ∀ y : Ob, rd_T34 (out.set i y) (i : Int) = y := fun y => getD_some (by simp [hi2])
      refine Ev.step (fun k => ?_) (ev_eq (ih (out.set i ⟨n, n + 1⟩) (n + 1 + 1) (by rw [List.length_set]; exact ho) (by omega)) ?_)
      · simp only [laws_markCartObsS.l0, Option.bind_some, hw1, hw2, Int.toNat_natCast, hrd, List.set_set]
        rw [if_pos (by omega), wrap_succ (show i < l.length by omega) (by unfold maxLen; omega), if_pos (ige _)]
      · rw [List.take_succ_eq_append_getElem (by rw [List.length_set]; omega), List.getElem_set_self, List.take_set, List.set_eq_of_length_le (by rw [List.length_take]; omega), List.append_assoc]
        rw [List.drop_eq_getElem_cons hi2, mkO, List.drop_set_of_lt (by omega)]
        rfl
  have := key l a rfl (by omega)
  simpa using this
theorem held_obs (l : List Ob) (a : Int) (hl : l.length ≤ 1048576) (h0 : 0 ≤ a) (h1 : a ≤ 100000000) : Ev (fun k => laws_heldCartObsS.f k (mkO a l) a) (a + 2 * (l.length : Int)) := by
  unfold laws_heldCartObsS.f
  have hlen := mkO_len l a
  have key : ∀ (n : Int) (m : List Ob), m.length = l.length - 0 → (mkO a l).drop 0 = mkO n m → n = a + 2 * ((0 : Nat) : Int) → Ev (fun k => laws_heldCartObsS.l0 k (mkO a l) n ((0 : Nat) : Int)) (a + 2 * (l.length : Int)) := by
    refine down (n := l.length) (P := fun i => ∀ (n : Int) (m : List Ob), m.length = l.length - i → (mkO a l).drop i = mkO n m → n = a + 2 * (i : Int) → Ev (fun k => laws_heldCartObsS.l0 k (mkO a l) n (i : Int)) (a + 2 * (l.length : Int))) ?_ ?_ 0 (Nat.zero_le _)
    · intro n m _ _ hn
      refine ev_succ (fun k => ?_)
      simp only [laws_heldCartObsS.l0]
      rw [if_neg (by omega), hn]
    · intro i hi ih n m hm hd hn
      obtain ⟨y, m', rfl⟩ : ∃ y m', m = y :: m' := by
        cases m with
        | nil => simp at hm; omega
        | cons y m' => exact ⟨y, m', rfl⟩
      rw [mkO] at hd
      have h1' : (mkO a l)[i]? = some ⟨n, n + 1⟩ := by
        have : ((mkO a l).drop i)[0]? = some ⟨n, n + 1⟩ := by rw [hd]; rfl
        rw [List.getElem?_drop] at this
        simpa using this
      have hrd : rd_T34 (mkO a l) (i : Int) = ⟨n, n + 1⟩ := getD_some h1'
      have hw1 : wrap64 (n + 1) = n + 1 := w64 (by omega) (by omega)
      have hw2 : wrap64 (n + 1 + 1) = n + 1 + 1 := w64 (by omega) (by omega)
      have hE := ih (n + 1 + 1) m' (by simp at hm; omega) (by rw [← List.drop_drop, hd]; rfl) (by omega)
      refine Ev.step (fun k => ?_) hE
      simp only [laws_heldCartObsS.l0, hrd, hw1, hw2]
      rw [if_pos (by omega), if_pos (ige _), wrap_succ (show i < l.length by omega) (by unfold maxLen; omega)]
      simp only [if_true]
  exact key a l rfl rfl (by omega)
def mkH : Int → List H → List H
  | _, [] => []
  | n, _ :: l => ⟨n, n + 1, n + 1 + 1⟩ :: mkH (n + 1 + 1 + 1) l
theorem mkH_len : ∀ (l : List H) (n : Int), (mkH n l).length = l.length
  | [], _ => rfl
  | _ :: l, n => by simp [mkH, mkH_len l]
theorem mark_holds (l : List H) (a : Int) (hl : l.length ≤ 1048576) (h0 : 0 ≤ a) (h1 : a ≤ 100000000) : Ev (fun k => laws_markCartHoldS.f k l a) (a + 3 * (l.length : Int), mkH a l) := by
  unfold laws_markCartHoldS.f
  have key : ∀ (out : List H) (n : Int), out.length = l.length → n = a + 3 * ((0 : Nat) : Int) → Ev (fun k => laws_markCartHoldS.l0 k out n ((0 : Nat) : Int)) (a + 3 * (l.length : Int), out.take 0 ++ mkH n (out.drop 0)) := by
    refine down (n := l.length) (P := fun i => ∀ (out : List H) (n : Int), out.length = l.length → n = a + 3 * (i : Int) → Ev (fun k => laws_markCartHoldS.l0 k out n (i : Int)) (a + 3 * (l.length : Int), out.take i ++ mkH n (out.drop i))) ?_ ?_ 0 (Nat.zero_le _)
    · intro out n ho hn
      refine ev_succ (fun k => ?_)
      simp only [laws_markCartHoldS.l0]
      rw [if_neg (by omega), hn, ← ho, List.drop_length, List.take_length]
      simp [mkH]
    · intro i hi ih out n ho hn
      have hi2 : i < out.length := by omega
      have hw1 : wrap64 (n + 1) = n + 1 := w64 (by omega) (by omega)
      have hw2 : wrap64 (n + 1 + 1) = n + 1 + 1 := w64 (by omega) (by omega)
      have hw3 : wrap64 (n + 1 + 1 + 1) = n + 1 + 1 + 1 := w64 (by omega) (by omega)
      have hrd : ∀ y : H, rd_T36 (out.set i y) (i : Int) = y := fun y => getD_some (by simp [hi2])
      refine Ev.step (fun k => ?_) (ev_eq (ih (out.set i ⟨n, n + 1, n + 1 + 1⟩) (n + 1 + 1 + 1) (by rw [List.length_set]; exact ho) (by omega)) ?_)
      · simp only [laws_markCartHoldS.l0, Option.bind_some, hw1, hw2, hw3, Int.toNat_natCast, hrd, List.set_set]
        rw [if_pos (by omega), wrap_succ (show i < l.length by omega) (by unfold maxLen; omega), if_pos (ige _)]
      · rw [List.take_succ_eq_append_getElem (by rw [List.length_set]; omega), List.getElem_set_self, List.take_set, List.set_eq_of_length_le (by rw [List.length_take]; omega), List.append_assoc]
        rw [List.drop_eq_getElem_cons hi2, mkH, List.drop_set_of_lt (by omega)]
        rfl
  have := key l a rfl (by omega)
  simpa using this
theorem held_holds (l : List H) (a : Int) (hl : l.length ≤ 1048576) (h0 : 0 ≤ a) (h1 : a ≤ 100000000) : Ev (fun k => laws_heldCartHoldS.f k (mkH a l) a) (a + 3 * (l.length : Int)) := by
  unfold laws_heldCartHoldS.f
  have hlen := mkH_len l a
  have key : ∀ (n : Int) (m : List H), m.length = l.length - 0 → (mkH a l).drop 0 = mkH n m → n = a + 3 * ((0 : Nat) : Int) → Ev (fun k => laws_heldCartHoldS.l0 k (mkH a l) n ((0 : Nat) : Int)) (a + 3 * (l.length : Int)) := by
    refine down (n := l.length) (P := fun i => ∀ (n : Int) (m : List H), m.length = l.length - i → (mkH a l).drop i = mkH n m → n = a + 3 * (i : Int) → Ev (fun k => laws_heldCartHoldS.l0 k (mkH a l) n (i : Int)) (a + 3 * (l.length : Int))) ?_ ?_ 0 (Nat.zero_le _)
    · intro n m _ _ hn
      refine ev_succ (fun k => ?_)
      simp only [laws_heldCartHoldS.l0]
      rw [if_neg (by omega), hn]
    · intro i hi ih n m hm hd hn
      obtain ⟨y, m', rfl⟩ : ∃ y m', m = y :: m' := by
        cases m with
        | nil => simp at hm; omega
        | cons y m' => exact ⟨y, m', rfl⟩
      rw [mkH] at hd
      have h1' : (mkH a l)[i]? = some ⟨n, n + 1, n + 1 + 1⟩ := by
        have : ((mkH a l).drop i)[0]? = some ⟨n, n + 1, n + 1 + 1⟩ := by rw [hd]; rfl
        rw [List.getElem?_drop] at this
        simpa using this
      have hrd : rd_T36 (mkH a l) (i : Int) = ⟨n, n + 1, n + 1 + 1⟩ := getD_some h1'
      have hw1 : wrap64 (n + 1) = n + 1 := w64 (by omega) (by omega)
      have hw2 : wrap64 (n + 1 + 1) = n + 1 + 1 := w64 (by omega) (by omega)
      have hw3 : wrap64 (n + 1 + 1 + 1) = n + 1 + 1 + 1 := w64 (by omega) (by omega)
      have hE := ih (n + 1 + 1 + 1) m' (by simp at hm; omega) (by rw [← List.drop_drop, hd]; rfl) (by omega)
      refine Ev.step (fun k => ?_) hE
      simp only [laws_heldCartHoldS.l0, hrd, hw1, hw2, hw3]
      rw [if_pos (by omega), if_pos (ige _), wrap_succ (show i < l.length by omega) (by unfold maxLen; omega)]
      simp only [if_true]
  exact key a l rfl rfl (by omega)
theorem mark_carts (a b c : Int) (l : List H) (n : Int) (hl : l.length ≤ 1048576) (h0 : 0 ≤ n) (h1 : n ≤ 100000000) : Ev (fun k => laws_markCarts.f k a b c l n) (n + 3 * (l.length : Int), mkH n l) := by
  unfold laws_markCarts.f
  exact ev_bind (mark_holds l n hl h0 h1) (ev_some _)
theorem held_carts (a b c : Int) (l : List H) (n : Int) (hl : l.length ≤ 1048576) (h0 : 0 ≤ n) (h1 : n ≤ 100000000) : Ev (fun k => laws_heldCarts.f k a b c (mkH n l) n) (n + 3 * (l.length : Int)) := by
  unfold laws_heldCarts.f
  exact ev_bind (held_holds l n hl h0 h1) (ev_neg (by omega) (ev_some _))
end Go.Proofs.Ytdohpbhljifodaa.ZCartMarkC
