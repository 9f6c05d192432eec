/- The law's own work on acts and payments: copies, comparisons, sizes, marks. -/
import Derived.Test.YthljgekhknfllaaZPayY
import Derived.Test.YthljgekhknfllaaZMarkIY
namespace Go.Proofs.Ythljgekhknfllaa.ZPayMarkY
open Go.RowKit Go.Proofs.Ythljgekhknfllaa.Y Go.Proofs.Ythljgekhknfllaa.Lib Go.Proofs.Ythljgekhknfllaa.ZNamY Go.Proofs.Ythljgekhknfllaa.ZPayY Go.Proofs.YthljgekhknfllaaW.PrintWords Go.Proofs.YthljgekhknfllaaW.PrintLast Go.Proofs.YthljgekhknfllaaW.PrintMore

abbrev La := S55
def cvA (p : La) : Ac := ⟨p.f0, p.f1, p.f2⟩
theorem to_acts (l : List La) (hl : l.length ≤ 1048576) : Ev (fun k => laws_toPayActS.f k l) (l.map cvA) := by
  unfold laws_toPayActS.f
  simp only [if_pos (ige _), Int.toNat_natCast, if_pos (show l.length ≤ 8796093022208 by omega)]
  refine to_ev l _ cvA (fun k out i => laws_toPayActS.l0 k l out i) (by unfold maxLen; omega) (fun k out i x hx ho => ?_) (fun k out => ?_)
  · have := some_lt hx
    simp only [laws_toPayActS.l0, rd_T55, laws_toPayAct.f, Option.bind_some]
    rw [if_pos (ilt this), if_pos (ige _), if_pos (by omega), getD_some hx]; rfl
  · simp only [laws_toPayActS.l0]
    rw [if_neg (by omega)]
theorem eq_acts (l : List Ac) (hl : l.length ≤ maxLen) : Ev (fun k => laws_eqPayActS.f k l l) true := by
  unfold laws_eqPayActS.f
  simp only [if_true]
  refine ev_eq (all_ev' l (fun _ => true) (fun k i => laws_eqPayActS.l0 k l l i) hl (fun k i x hx => ?_) (fun k => ?_)) (by simp)
  · have := some_lt hx
    have hr : rd_T33 l (i : Int) = x := getD_some hx
    simp only [laws_eqPayActS.l0, hr, laws_eqPayAct.f, if_true, Option.bind_some]
    rw [if_pos (ilt this), if_pos (ige _), if_pos (ilt this)]
  · simp only [laws_eqPayActS.l0]
    rw [if_neg (by omega)]
theorem eq_pays (l : List P) (hl : l.length ≤ maxLen) : Ev (fun k => laws_eqPaymentS.f k l l) true := by
  have he : ∀ x : P, laws_eqPayment.f x.f0 x.f1 x.f2 x.f3 x.f4 x.f0 x.f1 x.f2 x.f3 x.f4 = some true := fun x => by
    unfold laws_eqPayment.f
    rw [if_pos rfl, if_pos rfl, if_pos rfl, if_pos rfl, bne_self_eq_false, if_neg (by decide)]
  unfold laws_eqPaymentS.f
  simp only [if_true]
  refine ev_eq (all_ev' l (fun _ => true) (fun k i => laws_eqPaymentS.l0 k l l i) hl (fun k i x hx => ?_) (fun k => ?_)) (by simp)
  · have := some_lt hx
    have hr : rd_T31 l (i : Int) = x := getD_some hx
    simp only [laws_eqPaymentS.l0, hr, he, if_true, Option.bind_some]
    rw [if_pos (ilt this), if_pos (ige _), if_pos (ilt this)]
  · simp only [laws_eqPaymentS.l0]
    rw [if_neg (by omega)]
theorem sz_acts (l : List La) (n : Int) (hl : l.length ≤ maxLen) (hs : ∀ p ∈ l, p.f1.size ≤ maxLen) (h0 : 0 ≤ n) (h1 : n ≤ 1048576) : ∃ m, Ev (fun k => laws_szPayActS.f k l n) m ∧ (m < 0 ∨ (0 ≤ m ∧ m ≤ n ∧ (l.length : Int) ≤ n)) := by
  unfold maxLen at hl
  unfold laws_szPayActS.f
  rw [w64 (by omega) (by omega)]
  by_cases h : (n - (l.length : Int)) < 0
  · exact ⟨-1, ev_pos h (ev_some _), .inl (by omega)⟩
  · have key : ∀ a : Int, 0 ≤ a → a ≤ n → ∃ m, Ev (fun k => laws_szPayActS.l0 k l a ((0 : Nat) : Int)) m ∧ (m < 0 ∨ (0 ≤ m ∧ m ≤ n)) := by
      refine down_list l (P := fun i => ∀ a : Int, 0 ≤ a → a ≤ n → ∃ m, Ev (fun k => laws_szPayActS.l0 k l a (i : Int)) m ∧ (m < 0 ∨ (0 ≤ m ∧ m ≤ n))) ?_ ?_
      · intro a g0 g1
        refine ⟨a, ev_succ (fun k => ?_), .inr ⟨g0, g1⟩⟩
        simp only [laws_szPayActS.l0]
        rw [if_neg (by omega)]
      · intro i x hx hd ih a g0 g1
        have hi := some_lt hx
        have hr : rd_T55 l (i : Int) = x := getD_some hx
        have hsz := hs x (List.mem_of_getElem? hx)
        unfold maxLen at hsz
        have hw : wrap64 (a - (x.f1.size : Int)) = a - x.f1.size := w64 (by omega) (by omega)
        by_cases hn : a - (x.f1.size : Int) < 0
        · refine ⟨-1, ev_succ (fun k => ?_), .inl (by omega)⟩
          simp only [laws_szPayActS.l0, hr, laws_szPayAct.f, hw]
          rw [if_pos (ilt hi), if_pos (ige _), if_pos hn]
          rfl
        · obtain ⟨m, hm, hb⟩ := ih (a - x.f1.size) (by omega) (by omega)
          refine ⟨m, Ev.step (fun k => ?_) hm, hb⟩
          simp only [laws_szPayActS.l0, hr, laws_szPayAct.f, hw]
          rw [if_pos (ilt hi), if_pos (ige _), if_neg hn]
          simp only [Option.bind_some]
          rw [if_neg hn, wrap_succ hi (by unfold maxLen; omega)]
    obtain ⟨m, hm, hb⟩ := key (n - l.length) (by omega) (by omega)
    refine ⟨m, ev_neg h hm, ?_⟩
    rcases hb with hb | hb
    · exact .inl hb
    · exact .inr ⟨hb.1, hb.2, by omega⟩
/-! ### marks -/
theorem text_ex (a : Int) (h : a ≤ 1000000000) : ∃ t, Ev (fun k => laws_markText.f k a) t := by
  unfold laws_markText.f
  by_cases h0 : a ≤ 0
  · exact ⟨_, ev_pos h0 (ev_some _)⟩
  · have key : ∀ (n : Nat) (b : Int) (s : ByteArray), b ≤ (n : Int) → 0 ≤ b → (s.size : Int) + b ≤ 2000000000 → ∃ t, Ev (fun k => laws_markText.l0 k b s) t := by
      intro n
      induction n with
      | zero =>
        intro b s h1 h2 h3
        refine ⟨(⟨#[109]⟩ : ByteArray) ++ s, ev_succ (fun k => ?_)⟩
        simp only [laws_markText.l0]
        rw [if_neg (by omega), if_pos (by omega)]
      | succ n ih =>
        intro b s h1 h2 h3
        by_cases hb : b > 0
        · have hd : wrap64 (Int.tdiv b 10) = b / 10 := by
            rw [Int.tdiv_eq_ediv_of_nonneg h2]
            exact w64 (by omega) (by omega)
          have hsz : (strOfNums [(wrap64 (48 + (Int.tmod b 10))) % 256]).size = 1 := rfl
          have hap : (strOfNums [(wrap64 (48 + (Int.tmod b 10))) % 256] ++ s).size = 1 + s.size := by rw [ByteArray.size_append, hsz]
          obtain ⟨t, hE⟩ := ih (b / 10) (strOfNums [(wrap64 (48 + (Int.tmod b 10))) % 256] ++ s) (by omega) (by omega) (by rw [hap]; omega)
          refine ⟨t, Ev.step (fun k => ?_) hE⟩
          rw [laws_markText.l0, if_pos hb, Option.bind_some, if_pos (by rw [hsz]; omega), hd]
        · refine ⟨(⟨#[109]⟩ : ByteArray) ++ s, ev_succ (fun k => ?_)⟩
          simp only [laws_markText.l0]
          rw [if_neg hb, if_pos (by omega)]
    obtain ⟨t, hE⟩ := key a.toNat a ⟨#[]⟩ (by omega) (by omega) (by show ((0 : Nat) : Int) + a ≤ _; omega)
    exact ⟨t, ev_neg h0 hE⟩
noncomputable def markT (a : Int) : ByteArray := if h : a ≤ 1000000000 then (text_ex a h).choose else ByteArray.empty
theorem mark_text {a : Int} (h : a ≤ 1000000000) : Ev (fun k => laws_markText.f k a) (markT a) := by
  unfold markT
  rw [dif_pos h]
  exact (text_ex a h).choose_spec
def st3 (out : List Ac) (i : Int) (n : Int) (t : ByteArray) : List Ac :=
  let y1 := out.set i.toNat ⟨n, (rd_T33 out i).f1, (rd_T33 out i).f2⟩
  let y2 := y1.set i.toNat ⟨(rd_T33 y1 i).f0, t, (rd_T33 y1 i).f2⟩
  y2.set i.toNat ⟨(rd_T33 y2 i).f0, (rd_T33 y2 i).f1, n + 1 + 1⟩
theorem mark_acts (l : List Ac) (hl : l.length ≤ 1048576) : ∃ w, Ev (fun k => laws_markPayActS.f k l 1) (1 + 3 * (l.length : Int), w) := by
  unfold laws_markPayActS.f
  have key : ∀ (out : List Ac) (n : Int), out.length = l.length → n = 1 + 3 * ((0 : Nat) : Int) → ∃ w, Ev (fun k => laws_markPayActS.l0 k out n ((0 : Nat) : Int)) (1 + 3 * (l.length : Int), w) := by
    refine down (n := l.length) (P := fun i => ∀ (out : List Ac) (n : Int), out.length = l.length → n = 1 + 3 * (i : Int) → ∃ w, Ev (fun k => laws_markPayActS.l0 k out n (i : Int)) (1 + 3 * (l.length : Int), w)) ?_ ?_ 0 (Nat.zero_le _)
    · intro out n ho hn
      refine ⟨out, ev_succ (fun k => ?_)⟩
      simp only [laws_markPayActS.l0]
      rw [if_neg (by omega), hn]
    · intro i hi ih out n ho hn
      have hw1 : wrap64 (n + 1) = n + 1 := w64 (by omega) (by omega)
      have hw2 : wrap64 (n + 1 + 1) = n + 1 + 1 := w64 (by omega) (by omega)
      have hw3 : wrap64 (n + 1 + 1 + 1) = n + 1 + 1 + 1 := w64 (by omega) (by omega)
      obtain ⟨w, hE⟩ := ih (st3 out (i : Int) n (markT (n + 1))) (n + 1 + 1 + 1) (by unfold st3; simp only [List.length_set]; exact ho) (by omega)
      refine ⟨w, Ev.step (f := fun k => (laws_markText.f k (n + 1)).bind fun t => laws_markPayActS.l0 k (st3 out (i : Int) n t) (n + 1 + 1 + 1) ((i + 1 : Nat) : Int)) (fun k => ?_) (ev_bind (mark_text (by omega)) hE)⟩
      simp only [laws_markPayActS.l0, Option.bind_some, hw1, hw2, hw3]
      rw [if_pos (by omega), if_pos (ige _), wrap_succ (show i < l.length by omega) (by unfold maxLen; omega)]
      rfl
  exact key l 1 rfl (by omega)
noncomputable def mkOne (n : Int) : P := ⟨markT n, n + 1, n + 1 + 1, n + 1 + 1 + 1, (Int.tmod (n + 1 + 1 + 1 + 1) 3) == 0⟩
noncomputable def mkP : Int → List P → List P
  | _, [] => []
  | n, _ :: l => mkOne n :: mkP (n + 1 + 1 + 1 + 1 + 1) l
theorem mkP_len : ∀ (l : List P) (n : Int), (mkP n l).length = l.length
  | [], _ => rfl
  | _ :: l, n => by simp [mkP, mkP_len l]
theorem mark_pays (l : List P) (a : Int) (hl : l.length ≤ 1048576) (h0 : 0 ≤ a) (h1 : a ≤ 100000000) : Ev (fun k => laws_markPaymentS.f k l a) (a + 5 * (l.length : Int), mkP a l) := by
  unfold laws_markPaymentS.f
  have key : ∀ (out : List P) (n : Int), out.length = l.length → n = a + 5 * ((0 : Nat) : Int) → Ev (fun k => laws_markPaymentS.l0 k out n ((0 : Nat) : Int)) (a + 5 * (l.length : Int), out.take 0 ++ mkP n (out.drop 0)) := by
    refine down (n := l.length) (P := fun i => ∀ (out : List P) (n : Int), out.length = l.length → n = a + 5 * (i : Int) → Ev (fun k => laws_markPaymentS.l0 k out n (i : Int)) (a + 5 * (l.length : Int), out.take i ++ mkP n (out.drop i))) ?_ ?_ 0 (Nat.zero_le _)
    · intro out n ho hn
      refine ev_succ (fun k => ?_)
      simp only [laws_markPaymentS.l0]
      rw [if_neg (by omega), hn, ← ho, List.drop_length, List.take_length]
      simp [mkP]
    · intro i hi ih out n ho hn
      have hi2 : i < out.length := by omega
      have hw1 : wrap64 (n + 1) = n + 1 := w64 (by omega) (by omega)
      have hw2 : wrap64 (n + 1 + 1) = n + 1 + 1 := w64 (by omega) (by omega)
      have hw3 : wrap64 (n + 1 + 1 + 1) = n + 1 + 1 + 1 := w64 (by omega) (by omega)
      have hw4 : wrap64 (n + 1 + 1 + 1 + 1) = n + 1 + 1 + 1 + 1 := w64 (by omega) (by omega)
      have hw5 : wrap64 (n + 1 + 1 + 1 + 1 + 1) = n + 1 + 1 + 1 + 1 + 1 := w64 (by omega) (by omega)
      have hrd : ∀ y : P, rd_T31 (out.set i y) (i : Int) = y := fun y => getD_some (by simp [hi2])
      refine Ev.step (f := fun k => (laws_markText.f k n).bind fun t => laws_markPaymentS.l0 k (out.set i ⟨t, n + 1, n + 1 + 1, n + 1 + 1 + 1, (Int.tmod (n + 1 + 1 + 1 + 1) 3) == 0⟩) (n + 1 + 1 + 1 + 1 + 1) ((i + 1 : Nat) : Int)) (fun k => ?_) (ev_bind (mark_text (by omega)) (ev_eq (ih (out.set i (mkOne n)) (n + 1 + 1 + 1 + 1 + 1) (by rw [List.length_set]; exact ho) (by omega)) ?_))
      · simp only [laws_markPaymentS.l0, Option.bind_some, hw1, hw2, hw3, hw4, hw5, Int.toNat_natCast, hrd, List.set_set]
        rw [if_pos (by omega), wrap_succ (show i < l.length by omega) (by unfold maxLen; omega)]
        simp only [if_pos (ige _)]
      · rw [List.take_succ_eq_append_getElem (by rw [List.length_set]; omega), List.getElem_set_self, List.take_set, List.set_eq_of_length_le (by rw [List.length_take]; omega), List.append_assoc]
        rw [List.drop_eq_getElem_cons hi2, mkP, List.drop_set_of_lt (by omega)]
        rfl
  have := key l a rfl (by omega)
  simpa using this
theorem held_pays (l : List P) (a : Int) (hl : l.length ≤ 1048576) (h0 : 0 ≤ a) (h1 : a ≤ 100000000) : Ev (fun k => laws_heldPaymentS.f k (mkP a l) a) (a + 5 * (l.length : Int)) := by
  unfold laws_heldPaymentS.f
  have hlen := mkP_len l a
  have key : ∀ (n : Int) (m : List P), m.length = l.length - 0 → (mkP a l).drop 0 = mkP n m → n = a + 5 * ((0 : Nat) : Int) → Ev (fun k => laws_heldPaymentS.l0 k (mkP a l) n ((0 : Nat) : Int)) (a + 5 * (l.length : Int)) := by
    refine down (n := l.length) (P := fun i => ∀ (n : Int) (m : List P), m.length = l.length - i → (mkP a l).drop i = mkP n m → n = a + 5 * (i : Int) → Ev (fun k => laws_heldPaymentS.l0 k (mkP a l) n (i : Int)) (a + 5 * (l.length : Int))) ?_ ?_ 0 (Nat.zero_le _)
    · intro n m _ _ hn
      refine ev_succ (fun k => ?_)
      simp only [laws_heldPaymentS.l0]
      rw [if_neg (by omega), hn]
    · intro i hi ih n m hm hd hn
      obtain ⟨y, m', rfl⟩ : ∃ y m', m = y :: m' := by
        cases m with
        | nil => simp at hm; omega
        | cons y m' => exact ⟨y, m', rfl⟩
      rw [mkP] at hd
      have h1' : (mkP a l)[i]? = some (mkOne n) := by
        have : ((mkP a l).drop i)[0]? = some (mkOne n) := by rw [hd]; rfl
        rw [List.getElem?_drop] at this
        simpa using this
      have hrd : rd_T31 (mkP a l) (i : Int) = mkOne n := getD_some h1'
      have hw1 : wrap64 (n + 1) = n + 1 := w64 (by omega) (by omega)
      have hw2 : wrap64 (n + 1 + 1) = n + 1 + 1 := w64 (by omega) (by omega)
      have hw3 : wrap64 (n + 1 + 1 + 1) = n + 1 + 1 + 1 := w64 (by omega) (by omega)
      have hw4 : wrap64 (n + 1 + 1 + 1 + 1) = n + 1 + 1 + 1 + 1 := w64 (by omega) (by omega)
      have hw5 : wrap64 (n + 1 + 1 + 1 + 1 + 1) = n + 1 + 1 + 1 + 1 + 1 := w64 (by omega) (by omega)
      have hE := ih (n + 1 + 1 + 1 + 1 + 1) m' (by simp at hm; omega) (by rw [← List.drop_drop, hd]; rfl) (by omega)
      refine Ev.step (f := fun k => (laws_markText.f k n).bind fun t => (if (markT n).toList = t.toList then laws_heldPaymentS.l0 k (mkP a l) (n + 1 + 1 + 1 + 1 + 1) ((i + 1 : Nat) : Int) else some (-1))) (fun k => ?_) (ev_bind (mark_text (by omega)) (ev_pos rfl hE))
      simp only [laws_heldPaymentS.l0, hrd, hw1, hw2, hw3, hw4, hw5]
      rw [if_pos (by omega), if_pos (ige _), wrap_succ (show i < l.length by omega) (by unfold maxLen; omega)]
      simp only [mkOne, if_true, bne_self_eq_false, Bool.false_eq_true, if_false]
  exact key a l rfl rfl (by omega)
end Go.Proofs.Ythljgekhknfllaa.ZPayMarkY
