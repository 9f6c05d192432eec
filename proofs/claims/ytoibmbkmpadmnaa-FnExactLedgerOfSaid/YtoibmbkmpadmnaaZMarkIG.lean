/- The law's marks of whole numbers. -/
import Derived.Test.YtoibmbkmpadmnaaLib
import Derived.Test.YtoibmbkmpadmnaaSFnExactLedgerOf
namespace Go.Proofs.Ytoibmbkmpadmnaa.ZMarkIG
open Go.RowKit Go.Proofs.Ytoibmbkmpadmnaa.G Go.Proofs.Ytoibmbkmpadmnaa.Lib Go.Proofs.YtoibmbkmpadmnaaW.PrintWords Go.Proofs.YtoibmbkmpadmnaaW.PrintLast Go.Proofs.YtoibmbkmpadmnaaW.PrintMore

theorem eq_ints (l : List Int) (hl : l.length ≤ maxLen) : Ev (fun k => laws_eqIntS.f k l l) true := by
  unfold laws_eqIntS.f
  simp only [if_true]
  refine ev_eq (all_ev' l (fun _ => true) (fun k i => laws_eqIntS.l0 k l l i) hl (fun k i x hx => ?_) (fun k => ?_)) (by simp)
  · have := some_lt hx
    simp only [laws_eqIntS.l0]
    rw [if_pos (ilt this), if_pos (ige _), if_pos (ilt this)]
  · simp only [laws_eqIntS.l0]
    rw [if_neg (by omega)]
def mkI : Int → List Int → List Int
  | _, [] => []
  | n, _ :: l => n :: mkI (n + 1) l
theorem mkI_len : ∀ (l : List Int) (n : Int), (mkI n l).length = l.length
  | [], _ => rfl
  | _ :: l, n => by simp [mkI, mkI_len l]
theorem markI_ev (l : List Int) (a : Int) (hl : l.length ≤ 1048576) (h0 : 0 ≤ a) (h1 : a ≤ 100000000) : Ev (fun k => laws_markIntS.f k l a) (a + (l.length : Int), mkI a l) := by
  unfold laws_markIntS.f
  have key : ∀ (out : List Int) (n : Int), out.length = l.length → n = a + ((0 : Nat) : Int) → Ev (fun k => laws_markIntS.l0 k out n ((0 : Nat) : Int)) (a + (l.length : Int), out.take 0 ++ mkI n (out.drop 0)) := by
    refine down (n := l.length) (P := fun i => ∀ (out : List Int) (n : Int), out.length = l.length → n = a + (i : Int) → Ev (fun k => laws_markIntS.l0 k out n (i : Int)) (a + (l.length : Int), out.take i ++ mkI n (out.drop i))) ?_ ?_ 0 (Nat.zero_le _)
    · intro out n ho hn
      refine ev_succ (fun k => ?_)
      simp only [laws_markIntS.l0]
      rw [if_neg (by omega), hn, ← ho, List.drop_length, List.take_length]
      simp [mkI]
    · intro i hi ih out n ho hn
      have hi2 : i < out.length := by omega
      have hw : wrap64 (n + 1) = n + 1 := w64 (by omega) (by omega)
      refine Ev.step (f := fun k => laws_markIntS.l0 k (out.set i n) (n + 1) ((i + 1 : Nat) : Int)) (fun k => ?_) (ev_eq (ih (out.set i n) (n + 1) (by rw [List.length_set]; exact ho) (by omega)) ?_)
      · simp only [laws_markIntS.l0, hw, Int.toNat_natCast]
        rw [if_pos (by omega), if_pos (ige _), wrap_succ (show i < l.length by omega) (by unfold maxLen; omega)]
      · rw [List.take_succ_eq_append_getElem (by rw [List.length_set]; omega), List.getElem_set_self, List.take_set, List.set_eq_of_length_le (by rw [List.length_take]; omega), List.append_assoc]
        rw [List.drop_eq_getElem_cons hi2, mkI, List.drop_set_of_lt (by omega)]
        rfl
  have := key l a rfl (by omega)
  simpa using this
theorem heldI_ev (l : List Int) (a : Int) (hl : l.length ≤ 1048576) (h0 : 0 ≤ a) (h1 : a ≤ 100000000) : Ev (fun k => laws_heldIntS.f k (mkI a l) a) (a + (l.length : Int)) := by
  unfold laws_heldIntS.f
  have hlen := mkI_len l a
  have key : ∀ (n : Int) (m : List Int), m.length = l.length - 0 → (mkI a l).drop 0 = mkI n m → n = a + ((0 : Nat) : Int) → Ev (fun k => laws_heldIntS.l0 k (mkI a l) n ((0 : Nat) : Int)) (a + (l.length : Int)) := by
    refine down (n := l.length) (P := fun i => ∀ (n : Int) (m : List Int), m.length = l.length - i → (mkI a l).drop i = mkI n m → n = a + (i : Int) → Ev (fun k => laws_heldIntS.l0 k (mkI a l) n (i : Int)) (a + (l.length : Int))) ?_ ?_ 0 (Nat.zero_le _)
    · intro n m _ _ hn
      refine ev_succ (fun k => ?_)
      simp only [laws_heldIntS.l0]
      rw [if_neg (by omega), hn]
    · intro i hi ih n m hm hd hn
      obtain ⟨y, m', rfl⟩ : ∃ y m', m = y :: m' := by
        cases m with
        | nil => simp at hm; omega
        | cons y m' => exact ⟨y, m', rfl⟩
      rw [mkI] at hd
      have h1' : (mkI a l)[i]? = some n := by
        have : ((mkI a l).drop i)[0]? = some n := by rw [hd]; rfl
        rw [List.getElem?_drop] at this
        simpa using this
      have hrd : rd (mkI a l) (i : Int) = n := getD_some h1'
      have hw : wrap64 (n + 1) = n + 1 := w64 (by omega) (by omega)
      refine Ev.step (fun k => ?_) (ih (n + 1) m' (by simp at hm; omega) (by rw [← List.drop_drop, hd]; rfl) (by omega))
      simp only [laws_heldIntS.l0, hrd, hw, if_true]
      rw [if_pos (by omega), if_pos (ige _), wrap_succ (show i < l.length by omega) (by unfold maxLen; omega)]
  exact key a l rfl rfl (by omega)
end Go.Proofs.Ytoibmbkmpadmnaa.ZMarkIG
