/- Names: the program's test of a name ends. -/
import Derived.Test.YtoibmbkmpadmnaaLibs
import Derived.Test.YtoibmbkmpadmnaaSFnLedger
namespace Go.Proofs.Ytoibmbkmpadmnaa.ZNamIV
open Go.RowKit Go.Proofs.Ytoibmbkmpadmnaa.V Go.Proofs.Ytoibmbkmpadmnaa.Lib Go.Proofs.YtoibmbkmpadmnaaW.PrintWords Go.Proofs.YtoibmbkmpadmnaaW.PrintLast Go.Proofs.YtoibmbkmpadmnaaW.PrintMore

theorem within_eq (a b c : Int) : impl_within.f a b c = some (decide (b ≤ a ∧ a ≤ c)) := by
  unfold impl_within.f
  by_cases h : a ≥ b
  · rw [if_pos h]; simp [h]
  · rw [if_neg h]; simp; omega
def Lt (c : Int) : Prop := (97 ≤ c ∧ c ≤ 122) ∨ (65 ≤ c ∧ c ≤ 90) ∨ c = 95
instance (c : Int) : Decidable (Lt c) := by unfold Lt; infer_instance
def Wr (r : Int) : Prop := (192 ≤ r ∧ r ≤ 591 ∧ r ≠ 215 ∧ r ≠ 247) ∨ (913 ≤ r ∧ r ≤ 969) ∨ (1040 ≤ r ∧ r ≤ 1103)
instance (r : Int) : Decidable (Wr r) := by unfold Wr; infer_instance
def Wd (c d : Int) : Prop := (194 ≤ c ∧ c ≤ 223) ∧ (128 ≤ d ∧ d ≤ 191) ∧ Wr ((c - 192) * 64 + d - 128)
instance (c d : Int) : Decidable (Wd c d) := by unfold Wd; infer_instance
theorem letter_eq (c : Int) : impl_isLetter.f c = some (decide (Lt c)) := by
  unfold impl_isLetter.f
  by_cases h : Lt c
  · rw [decide_eq_true h]
    unfold Lt at h
    repeat' split
    all_goals first | rfl | (exfalso; omega) | (simp; omega)
  · rw [decide_eq_false h]
    unfold Lt at h
    repeat' split
    all_goals first | rfl | (exfalso; omega) | (simp; omega)
theorem digit_eq (c : Int) : impl_isDigit.f c = some (decide (48 ≤ c ∧ c ≤ 57)) := by
  unfold impl_isDigit.f
  by_cases h : c ≥ 48
  · rw [if_pos h]; simp [h]
  · rw [if_neg h]; simp; omega
theorem bits_all : (List.range 30).all (fun c => (List.range 64).all fun d => Go.bits .or .i64 (wrap64 ((wrap64 (Go.bits .and .u8 ((c : Int) + 194) 31)) * 64)) (wrap64 (Go.bits .and .u8 ((d : Int) + 128) 63)) == ((c : Int) + 194 - 192) * 64 + ((d : Int) + 128) - 128) = true := by decide +kernel
theorem bits_eq {c d : Int} (h1 : 194 ≤ c ∧ c ≤ 223) (h2 : 128 ≤ d ∧ d ≤ 191) : Go.bits .or .i64 (wrap64 ((wrap64 (Go.bits .and .u8 c 31)) * 64)) (wrap64 (Go.bits .and .u8 d 63)) = (c - 192) * 64 + d - 128 := by
  obtain ⟨n, hn⟩ := Int.eq_ofNat_of_zero_le (show 0 ≤ c - 194 by omega)
  obtain ⟨m, hm⟩ := Int.eq_ofNat_of_zero_le (show 0 ≤ d - 128 by omega)
  have h := List.all_eq_true.1 bits_all n (List.mem_range.2 (by omega))
  have h' := List.all_eq_true.1 h m (List.mem_range.2 (by omega))
  have hc : c = (n : Int) + 194 := by omega
  have hd : d = (m : Int) + 128 := by omega
  rw [hc, hd]
  simpa using h'
theorem wr_chain (r : Int) : ((impl_within.f r 192 591).bind fun t => if t = true then (if r = 215 then ((impl_within.f r 913 969).bind fun t => if t = true then some true else (impl_within.f r 1040 1103).bind fun t => some t) else (if r = 247 then ((impl_within.f r 913 969).bind fun t => if t = true then some true else (impl_within.f r 1040 1103).bind fun t => some t) else some true)) else ((impl_within.f r 913 969).bind fun t => if t = true then some true else (impl_within.f r 1040 1103).bind fun t => some t)) = some (decide (Wr r)) := by
  simp only [within_eq, Option.bind_some, decide_eq_true_eq]
  by_cases hr : Wr r
  · rw [decide_eq_true hr]
    unfold Wr at hr
    repeat' split
    all_goals first | rfl | (exfalso; omega) | (rw [decide_eq_true (by omega)])
  · rw [decide_eq_false hr]
    unfold Wr at hr
    repeat' split
    all_goals first | rfl | (exfalso; omega) | (rw [decide_eq_false (by omega)])
theorem wide_ev (a : ByteArray) (h : a.size = 2) : Ev (fun k => impl_isWideLetter.f k a) (decide (Wd (bt a 0) (bt a 1))) := by
  unfold impl_isWideLetter.f
  have bad : ¬ Wd (bt a 0) (bt a 1) → Ev (fun k => impl_isWideLetter.j0 k a true) (decide (Wd (bt a 0) (bt a 1))) := fun hn => by
    rw [decide_eq_false hn]
    exact ev_succ (fun k => by simp [impl_isWideLetter.j0])
  refine ev_pos (by omega) ?_
  by_cases h1 : bt a 0 < 194
  · exact ev_pos h1 (bad (by unfold Wd; omega))
  · refine ev_neg h1 ?_
    by_cases h2 : bt a 0 > 223
    · exact ev_pos h2 (bad (by unfold Wd; omega))
    · refine ev_neg h2 (ev_pos (by omega) ?_)
      by_cases h3 : bt a 1 < 128
      · exact ev_pos h3 (bad (by unfold Wd; omega))
      · refine ev_neg h3 ?_
        by_cases h4 : bt a 1 > 191
        · rw [decide_eq_true h4]; exact bad (by unfold Wd; omega)
        · rw [decide_eq_false h4]
          have hb := bits_eq (c := bt a 0) (d := bt a 1) (by omega) (by omega)
          refine ev_succ (fun k => ?_)
          simp only [impl_isWideLetter.j0, hb]
          rw [if_neg (by decide), if_pos (by omega), if_pos (by omega)]
          have hw : Wd (bt a 0) (bt a 1) ↔ Wr ((bt a 0 - 192) * 64 + bt a 1 - 128) := ⟨fun h => h.2.2, fun h => ⟨by omega, by omega, h⟩⟩
          rw [decide_eq_decide.2 hw]
          exact wr_chain _
theorem bt_extract {a : ByteArray} {i : Nat} (h : i + 2 ≤ a.size) : (a.extract i (i + 2)).size = 2 ∧ bt (a.extract i (i + 2)) 0 = bt a (i : Int) ∧ bt (a.extract i (i + 2)) 1 = bt a ((i + 1 : Nat) : Int) := by
  have hs : (a.extract i (i + 2)).size = 2 := by rw [ByteArray.size_extract]; omega
  refine ⟨hs, ?_, ?_⟩
  · unfold bt
    rw [dif_pos (by rw [hs]; decide), dif_pos (by rw [Int.toNat_natCast]; omega)]
    simp [ByteArray.getElem_extract]
  · unfold bt
    rw [dif_pos (by rw [hs]; decide), dif_pos (by rw [Int.toNat_natCast]; omega)]
    simp [ByteArray.getElem_extract]
theorem name_ex (a : ByteArray) (hs : a.size ≤ 40) : ∀ n i, a.size ≤ i + n → i ≤ a.size → ∃ (b : Bool), Ev (fun k => impl_NameOK.l0 k a (i : Int)) b := by
  have hend : ∃ (b : Bool), Ev (fun k => impl_NameOK.l0 k a (a.size : Int)) b := by
    refine ⟨true, ev_succ (fun k => ?_)⟩
    simp only [impl_NameOK.l0]; rw [if_neg (by omega)]
  intro n
  induction n with
  | zero => intro i h1 h2; have : i = a.size := by omega
            subst this; exact hend
  | succ n ih =>
    intro i h1 h2
    rcases Nat.lt_or_ge i a.size with hi | hi
    · have hw1 : wrap64 ((i : Int) + 1) = ((i + 1 : Nat) : Int) := wrap_succ hi (by unfold maxLen; omega)
      have hw2 : wrap64 ((i : Int) + 2) = ((i + 2 : Nat) : Int) := by rw [w64 (by omega) (by omega)]; omega
      have hw3 : wrap64 (((i + 1 : Nat) : Int) + 1) = ((i + 2 : Nat) : Int) := by rw [w64 (by omega) (by omega)]; omega
      have hj : ∀ z : Bool, ∃ b, Ev (fun k => impl_NameOK.j1 k a (i : Int) z) b := by
        intro z
        cases z with
        | true =>
          obtain ⟨b, g⟩ := ih (i + 1) (by omega) (by omega)
          refine ⟨b, Ev.step (fun k => ?_) g⟩
          simp only [impl_NameOK.j1, hw1]
          rw [if_pos trivial]
        | false =>
          rcases Nat.lt_or_ge (i + 1) a.size with h3 | h3
          · obtain ⟨x1, _, _⟩ := bt_extract (a := a) (i := i) (by omega)
            have hwe := wide_ev (a.extract i (i + 2)) x1
            have hj1 : ∀ k, impl_NameOK.j1 (k + 1) a (i : Int) false = (impl_isWideLetter.f k (a.extract i (i + 2))).bind fun t => if t = true then impl_NameOK.l0 k a ((i + 2 : Nat) : Int) else some false := fun k => by
              simp only [impl_NameOK.j1, hw1, hw2, hw3]
              rw [if_neg (by decide), if_pos (by omega), if_pos (ige _), if_pos (by omega), if_pos (by omega)]
              simp only [Int.toNat_natCast]
            cases hd : decide (Wd (bt (a.extract i (i + 2)) 0) (bt (a.extract i (i + 2)) 1)) with
            | true =>
              rw [hd] at hwe
              obtain ⟨b, g⟩ := ih (i + 2) (by omega) (by omega)
              exact ⟨b, Ev.step hj1 (ev_bind hwe (ev_pos rfl g))⟩
            | false =>
              rw [hd] at hwe
              exact ⟨false, Ev.step hj1 (ev_bind hwe (ev_neg (by decide) (ev_some _)))⟩
          · refine ⟨false, ev_succ (fun k => ?_)⟩
            simp only [impl_NameOK.j1, hw1]
            rw [if_neg (by decide), if_neg (by omega)]
      obtain ⟨b, g⟩ := hj (decide (Lt (bt a (i : Int))) || (decide (0 < i) && decide (48 ≤ bt a (i : Int) ∧ bt a (i : Int) ≤ 57)))
      refine ⟨b, Ev.step (fun k => ?_) g⟩
      simp only [impl_NameOK.l0, letter_eq, digit_eq, Option.bind_some, decide_eq_true_eq]
      rw [if_pos (ilt hi), if_pos (ige _)]
      by_cases hl : Lt (bt a (i : Int))
      · rw [if_pos hl, decide_eq_true hl, Bool.true_or]
      · rw [if_neg hl, decide_eq_false hl, Bool.false_or]
        by_cases hz : 0 < i
        · rw [if_pos (by omega), decide_eq_true hz, Bool.true_and]
        · rw [if_neg (by omega), decide_eq_false hz, Bool.false_and]
    · have : i = a.size := by omega
      subst this; exact hend
theorem name_ends (a : ByteArray) : ∃ b, Ev (fun k => impl_NameOK.f k a) b := by
  unfold impl_NameOK.f
  simp only [within_eq, Option.bind_some, decide_eq_true_eq]
  by_cases h : 1 ≤ (a.size : Int) ∧ (a.size : Int) ≤ 40
  · obtain ⟨b, g⟩ := name_ex a (by omega) a.size 0 (by omega) (by omega)
    exact ⟨b, ev_pos h g⟩
  · exact ⟨false, ev_neg h (ev_some _)⟩
end Go.Proofs.Ytoibmbkmpadmnaa.ZNamIV
