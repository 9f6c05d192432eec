/- Names: what the program's and the reference's tests of a name come to; names that come twice. -/
import Derived.Test.YtoibmbkmpadmnaaLibs
import Derived.Test.YtoibmbkmpadmnaaSFnExactLedgerOf
namespace Go.Proofs.Ytoibmbkmpadmnaa.ZNamG
open Go.RowKit Go.Proofs.Ytoibmbkmpadmnaa.G Go.Proofs.Ytoibmbkmpadmnaa.Lib Go.Proofs.YtoibmbkmpadmnaaW.PrintWords Go.Proofs.YtoibmbkmpadmnaaW.PrintLast Go.Proofs.YtoibmbkmpadmnaaW.PrintMore

theorem l01In_eq (a b c : Int) : spec_l01In.f a b c = some (decide (b ≤ a ∧ a ≤ c)) := by
  unfold spec_l01In.f
  by_cases h : a ≥ b
  · rw [if_pos h]; simp [h]
  · rw [if_neg h]; simp; omega
theorem within_eq (a b c : Int) : impl_within.f a b c = some (decide (b ≤ a ∧ a ≤ c)) := l01In_eq a b c
def Lt (c : Int) : Prop := (97 ≤ c ∧ c ≤ 122) ∨ (65 ≤ c ∧ c ≤ 90) ∨ c = 95
instance (c : Int) : Decidable (Lt c) := by unfold Lt; infer_instance
def Wr (r : Int) : Prop := (192 ≤ r ∧ r ≤ 591 ∧ r ≠ 215 ∧ r ≠ 247) ∨ (913 ≤ r ∧ r ≤ 969) ∨ (1040 ≤ r ∧ r ≤ 1103)
instance (r : Int) : Decidable (Wr r) := by unfold Wr; infer_instance
def Wd (c d : Int) : Prop := (194 ≤ c ∧ c ≤ 223) ∧ (128 ≤ d ∧ d ≤ 191) ∧ Wr ((c - 192) * 64 + d - 128)
instance (c d : Int) : Decidable (Wd c d) := by unfold Wd; infer_instance
theorem letter_eq (c : Int) : impl_isLetter.f c = some (decide (Lt c)) := by
  unfold impl_isLetter.f
  by_cases h : Lt c
  · rw [decide_eq_true h]
    unfold Lt at h
    repeat' split
    all_goals first | rfl | (exfalso; omega) | (simp; omega)
  · rw [decide_eq_false h]
    unfold Lt at h
    repeat' split
    all_goals first | rfl | (exfalso; omega) | (simp; omega)
theorem digit_eq (c : Int) : impl_isDigit.f c = some (decide (48 ≤ c ∧ c ≤ 57)) := by
  unfold impl_isDigit.f
  by_cases h : c ≥ 48
  · rw [if_pos h]; simp [h]
  · rw [if_neg h]; simp; omega
theorem bits_all : (List.range 30).all (fun c => (List.range 64).all fun d => Go.bits .or .i64 (wrap64 ((wrap64 (Go.bits .and .u8 ((c : Int) + 194) 31)) * 64)) (wrap64 (Go.bits .and .u8 ((d : Int) + 128) 63)) == ((c : Int) + 194 - 192) * 64 + ((d : Int) + 128) - 128) = true := by decide +kernel
theorem bits_eq {c d : Int} (h1 : 194 ≤ c ∧ c ≤ 223) (h2 : 128 ≤ d ∧ d ≤ 191) : Go.bits .or .i64 (wrap64 ((wrap64 (Go.bits .and .u8 c 31)) * 64)) (wrap64 (Go.bits .and .u8 d 63)) = (c - 192) * 64 + d - 128 := by
  obtain ⟨n, hn⟩ := Int.eq_ofNat_of_zero_le (show 0 ≤ c - 194 by omega)
  obtain ⟨m, hm⟩ := Int.eq_ofNat_of_zero_le (show 0 ≤ d - 128 by omega)
  have h := List.all_eq_true.1 bits_all n (List.mem_range.2 (by omega))
  have h' := List.all_eq_true.1 h m (List.mem_range.2 (by omega))
  have hc : c = (n : Int) + 194 := by omega
  have hd : d = (m : Int) + 128 := by omega
  rw [hc, hd]
  simpa using h'
theorem wr_chain (r : Int) : ((impl_within.f r 192 591).bind fun t => if t = true then (if r = 215 then ((impl_within.f r 913 969).bind fun t => if t = true then some true else (impl_within.f r 1040 1103).bind fun t => some t) else (if r = 247 then ((impl_within.f r 913 969).bind fun t => if t = true then some true else (impl_within.f r 1040 1103).bind fun t => some t) else some true)) else ((impl_within.f r 913 969).bind fun t => if t = true then some true else (impl_within.f r 1040 1103).bind fun t => some t)) = some (decide (Wr r)) := by
  simp only [within_eq, Option.bind_some, decide_eq_true_eq]
  by_cases hr : Wr r
  · rw [decide_eq_true hr]
    unfold Wr at hr
    repeat' split
    all_goals first | rfl | (exfalso; omega) | (rw [decide_eq_true (by omega)])
  · rw [decide_eq_false hr]
    unfold Wr at hr
    repeat' split
    all_goals first | rfl | (exfalso; omega) | (rw [decide_eq_false (by omega)])
theorem wide_ev (a : ByteArray) (h : a.size = 2) : Ev (fun k => impl_isWideLetter.f k a) (decide (Wd (bt a 0) (bt a 1))) := by
  unfold impl_isWideLetter.f
  have bad : ¬ Wd (bt a 0) (bt a 1) → Ev (fun k => impl_isWideLetter.j0 k a true) (decide (Wd (bt a 0) (bt a 1))) := fun hn => by
    rw [decide_eq_false hn]
    exact ev_succ (fun k => by simp [impl_isWideLetter.j0])
  refine ev_pos (by omega) ?_
  by_cases h1 : bt a 0 < 194
  · exact ev_pos h1 (bad (by unfold Wd; omega))
  · refine ev_neg h1 ?_
    by_cases h2 : bt a 0 > 223
    · exact ev_pos h2 (bad (by unfold Wd; omega))
    · refine ev_neg h2 (ev_pos (by omega) ?_)
      by_cases h3 : bt a 1 < 128
      · exact ev_pos h3 (bad (by unfold Wd; omega))
      · refine ev_neg h3 ?_
        by_cases h4 : bt a 1 > 191
        · rw [decide_eq_true h4]; exact bad (by unfold Wd; omega)
        · rw [decide_eq_false h4]
          have hb := bits_eq (c := bt a 0) (d := bt a 1) (by omega) (by omega)
          refine ev_succ (fun k => ?_)
          simp only [impl_isWideLetter.j0, hb]
          rw [if_neg (by decide), if_pos (by omega), if_pos (by omega)]
          have hw : Wd (bt a 0) (bt a 1) ↔ Wr ((bt a 0 - 192) * 64 + bt a 1 - 128) := ⟨fun h => h.2.2, fun h => ⟨by omega, by omega, h⟩⟩
          rw [decide_eq_decide.2 hw]
          exact wr_chain _
def ltr (a : ByteArray) (i : Nat) : Int := if Lt (bt a (i : Int)) then 1 else if i + 1 < a.size ∧ Wd (bt a (i : Int)) (bt a ((i + 1 : Nat) : Int)) then 2 else 0
theorem ltr_ev (a : ByteArray) (i : Nat) (hi : i < a.size) (hs : a.size ≤ 40) : Ev (fun k => spec_l00Letter.f k a (i : Int)) (ltr a i) := by
  have hw : wrap64 ((i : Int) + 1) = ((i + 1 : Nat) : Int) := wrap_succ hi (by unfold maxLen; omega)
  have hc := bt_range a (i : Int)
  have hd := bt_range a ((i + 1 : Nat) : Int)
  have h0 : Ev (fun k => spec_l00Letter.j0 k a (i : Int) (bt a (i : Int)) (decide (Lt (bt a (i : Int))))) (ltr a i) := by
    unfold ltr
    by_cases hl : Lt (bt a (i : Int))
    · rw [decide_eq_true hl, if_pos hl]
      exact ev_succ (fun k => by simp [spec_l00Letter.j0])
    · rw [decide_eq_false hl, if_neg hl]
      have bad : ¬ (i + 1 < a.size ∧ Wd (bt a (i : Int)) (bt a ((i + 1 : Nat) : Int))) → Ev (fun k => spec_l00Letter.j1 k a (i : Int) (bt a (i : Int)) true) (if i + 1 < a.size ∧ Wd (bt a (i : Int)) (bt a ((i + 1 : Nat) : Int)) then 2 else 0) := fun hn => by
        rw [if_neg hn]
        exact ev_succ (fun k => by simp [spec_l00Letter.j1])
      refine Ev.step (f := fun k => if bt a (i : Int) < 194 then spec_l00Letter.j1 k a (i : Int) (bt a (i : Int)) true else if bt a (i : Int) > 223 then spec_l00Letter.j1 k a (i : Int) (bt a (i : Int)) true else if ((i + 1 : Nat) : Int) ≥ (a.size : Int) then spec_l00Letter.j1 k a (i : Int) (bt a (i : Int)) true else if 0 ≤ ((i + 1 : Nat) : Int) then (if ((i + 1 : Nat) : Int) < (a.size : Int) then (if bt a ((i + 1 : Nat) : Int) < 128 then spec_l00Letter.j1 k a (i : Int) (bt a (i : Int)) true else spec_l00Letter.j1 k a (i : Int) (bt a (i : Int)) (decide (bt a ((i + 1 : Nat) : Int) > 191))) else none) else none) (fun k => ?_) ?_
      · simp only [spec_l00Letter.j0, hw]
        rw [if_neg (by decide)]
      · by_cases h1 : bt a (i : Int) < 194
        · exact ev_pos h1 (bad (by unfold Wd; omega))
        · refine ev_neg h1 ?_
          by_cases h2 : bt a (i : Int) > 223
          · exact ev_pos h2 (bad (by unfold Wd; omega))
          · refine ev_neg h2 ?_
            by_cases h3 : ((i + 1 : Nat) : Int) ≥ (a.size : Int)
            · exact ev_pos h3 (bad (by omega))
            · refine ev_neg h3 (ev_pos (ige _) (ev_pos (by omega) ?_))
              by_cases h4 : bt a ((i + 1 : Nat) : Int) < 128
              · exact ev_pos h4 (bad (by unfold Wd; omega))
              · refine ev_neg h4 ?_
                by_cases h5 : bt a ((i + 1 : Nat) : Int) > 191
                · rw [decide_eq_true h5]; exact bad (by unfold Wd; omega)
                · rw [decide_eq_false h5]
                  refine ev_succ (fun k => ?_)
                  simp only [spec_l00Letter.j1, hw]
                  rw [if_neg (by decide), if_pos (ige _), if_pos (by omega)]
                  have hr : wrap64 ((wrap64 ((wrap64 ((wrap64 ((wrap64 (bt a (i : Int))) - 192)) * 64)) + (wrap64 (bt a ((i + 1 : Nat) : Int))))) - 128) = (bt a (i : Int) - 192) * 64 + bt a ((i + 1 : Nat) : Int) - 128 := by
                    unfold wrap64; omega
                  rw [hr]
                  have hwd : (i + 1 < a.size ∧ Wd (bt a (i : Int)) (bt a ((i + 1 : Nat) : Int))) ↔ Wr ((bt a (i : Int) - 192) * 64 + bt a ((i + 1 : Nat) : Int) - 128) := ⟨fun h => h.2.2.2, fun h => ⟨by omega, by omega, by omega, h⟩⟩
                  generalize (bt a (i : Int) - 192) * 64 + bt a ((i + 1 : Nat) : Int) - 128 = r at hwd
                  by_cases hrr : Wr r
                  · rw [if_pos (hwd.2 hrr)]
                    unfold Wr at hrr
                    repeat' split
                    all_goals first | rfl | (exfalso; omega)
                  · rw [if_neg (fun h => hrr (hwd.1 h))]
                    unfold Wr at hrr
                    repeat' split
                    all_goals first | rfl | (exfalso; omega)
  unfold spec_l00Letter.f
  refine ev_pos (ige _) (ev_pos (ilt hi) ?_)
  by_cases hl : Lt (bt a (i : Int))
  · rw [decide_eq_true hl] at h0
    unfold Lt at hl
    refine ev_same h0 (fun k => ?_)
    repeat' split
    all_goals first | rfl | (exfalso; omega) | (rw [show (bt a (i : Int) == 95) = true by rw [beq_iff_eq]; omega])
  · rw [decide_eq_false hl] at h0
    unfold Lt at hl
    refine ev_same h0 (fun k => ?_)
    repeat' split
    all_goals first | rfl | (exfalso; omega) | (rw [show (bt a (i : Int) == 95) = false by rw [beq_eq_false_iff_ne]; omega])
theorem bt_extract {a : ByteArray} {i : Nat} (h : i + 2 ≤ a.size) : (a.extract i (i + 2)).size = 2 ∧ bt (a.extract i (i + 2)) 0 = bt a (i : Int) ∧ bt (a.extract i (i + 2)) 1 = bt a ((i + 1 : Nat) : Int) := by
  have hs : (a.extract i (i + 2)).size = 2 := by rw [ByteArray.size_extract]; omega
  refine ⟨hs, ?_, ?_⟩
  · unfold bt
    rw [dif_pos (by rw [hs]; decide), dif_pos (by rw [Int.toNat_natCast]; omega)]
    simp [ByteArray.getElem_extract]
  · unfold bt
    rw [dif_pos (by rw [hs]; decide), dif_pos (by rw [Int.toNat_natCast]; omega)]
    simp [ByteArray.getElem_extract]
theorem name_ex (a : ByteArray) (hs : a.size ≤ 40) : ∀ n i, a.size ≤ i + n → i ≤ a.size → ∃ (w : Int) (b : Bool), Ev (fun k => impl_NameOK.l0 k a (i : Int)) b ∧ Ev (fun k => spec_l00Word.l0 k a 0 (i : Int)) w ∧ (w == (a.size : Int)) = b := by
  have hend : ∃ (w : Int) (b : Bool), Ev (fun k => impl_NameOK.l0 k a (a.size : Int)) b ∧ Ev (fun k => spec_l00Word.l0 k a 0 (a.size : Int)) w ∧ (w == (a.size : Int)) = b := by
    refine ⟨(a.size : Int), true, ev_succ (fun k => ?_), ev_succ (fun k => ?_), by simp⟩
    · simp only [impl_NameOK.l0]; rw [if_neg (by omega)]
    · simp only [spec_l00Word.l0]; rw [if_neg (by omega), w64 (by omega) (by omega)]; simp
  intro n
  induction n with
  | zero => intro i h1 h2; have : i = a.size := by omega
            subst this; exact hend
  | succ n ih =>
    intro i h1 h2
    rcases Nat.lt_or_ge i a.size with hi | hi
    · have hw1 : wrap64 ((i : Int) + 1) = ((i + 1 : Nat) : Int) := wrap_succ hi (by unfold maxLen; omega)
      have hw2 : wrap64 ((i : Int) + 2) = ((i + 2 : Nat) : Int) := by rw [w64 (by omega) (by omega)]; omega
      have hw3 : wrap64 (((i + 1 : Nat) : Int) + 1) = ((i + 2 : Nat) : Int) := by rw [w64 (by omega) (by omega)]; omega
      have hL := ltr_ev a i hi hs
      -- the program's and the reference's first step
      have si : ∀ b, Ev (fun k => impl_NameOK.j1 k a (i : Int) (decide (Lt (bt a (i : Int))) || (decide (0 < i) && decide (48 ≤ bt a (i : Int) ∧ bt a (i : Int) ≤ 57)))) b → Ev (fun k => impl_NameOK.l0 k a (i : Int)) b := by
        intro b hb
        refine Ev.step (fun k => ?_) hb
        simp only [impl_NameOK.l0, letter_eq, digit_eq, Option.bind_some, decide_eq_true_eq]
        rw [if_pos (ilt hi), if_pos (ige _)]
        by_cases hl : Lt (bt a (i : Int))
        · rw [if_pos hl, decide_eq_true hl, Bool.true_or]
        · rw [if_neg hl, decide_eq_false hl, Bool.false_or]
          by_cases hz : 0 < i
          · rw [if_pos (by omega), decide_eq_true hz, Bool.true_and]
          · rw [if_neg (by omega), decide_eq_false hz, Bool.false_and]
      have ss : ∀ w, Ev (fun k => spec_l00Word.j1 k a 0 (i : Int) (ltr a i) (decide (ltr a i = 0) && (decide (0 < i) && decide (48 ≤ bt a (i : Int) ∧ bt a (i : Int) ≤ 57)))) w → Ev (fun k => spec_l00Word.l0 k a 0 (i : Int)) w := by
        intro w hb
        refine Ev.step (f := fun k => (spec_l00Letter.f k a (i : Int)).bind fun t => spec_l00Word.j1 k a 0 (i : Int) t (decide (t = 0) && (decide (0 < i) && decide (48 ≤ bt a (i : Int) ∧ bt a (i : Int) ≤ 57)))) (fun k => ?_) (ev_bind hL hb)
        simp only [spec_l00Word.l0]
        rw [if_pos (ilt hi)]
        congr 1
        funext t
        by_cases ht : t = 0
        · rw [if_pos ht, decide_eq_true ht, Bool.true_and]
          by_cases hz : 0 < i
          · rw [if_pos (by omega), if_pos (ige _), decide_eq_true hz, Bool.true_and]
            by_cases h48 : bt a (i : Int) ≥ 48
            · rw [if_pos h48]; simp [h48]
            · rw [if_neg h48, decide_eq_false (by omega)]
          · rw [if_neg (by omega), decide_eq_false hz, Bool.false_and]
        · rw [if_neg ht, decide_eq_false ht, Bool.false_and]
      by_cases hA : Lt (bt a (i : Int)) ∨ (0 < i ∧ 48 ≤ bt a (i : Int) ∧ bt a (i : Int) ≤ 57)
      · obtain ⟨w, b, g1, g2, g3⟩ := ih (i + 1) (by omega) (by omega)
        refine ⟨w, b, si b ?_, ss w ?_, g3⟩
        · rw [show (decide (Lt (bt a (i : Int))) || (decide (0 < i) && decide (48 ≤ bt a (i : Int) ∧ bt a (i : Int) ≤ 57))) = true by simpa using hA]
          refine Ev.step (fun k => ?_) g1
          simp only [impl_NameOK.j1, hw1, if_true]
        · by_cases hl : Lt (bt a (i : Int))
          · have hl1 : ltr a i = 1 := by unfold ltr; rw [if_pos hl]
            rw [hl1]
            refine Ev.step (fun k => ?_) g2
            simp [spec_l00Word.j1, hw1]
          · have hdg : 0 < i ∧ 48 ≤ bt a (i : Int) ∧ bt a (i : Int) ≤ 57 := by rcases hA with h | h; exact absurd h hl; exact h
            have hl0 : ltr a i = 0 := by unfold ltr; rw [if_neg hl, if_neg (by unfold Wd; omega)]
            rw [hl0, show (decide ((0 : Int) = 0) && (decide (0 < i) && decide (48 ≤ bt a (i : Int) ∧ bt a (i : Int) ≤ 57))) = true by simpa using hdg]
            refine Ev.step (fun k => ?_) g2
            simp [spec_l00Word.j1, hw1]
      · have hl : ¬ Lt (bt a (i : Int)) := fun h => hA (.inl h)
        have hdg : ¬ (0 < i ∧ 48 ≤ bt a (i : Int) ∧ bt a (i : Int) ≤ 57) := fun h => hA (.inr h)
        have hf : (decide (Lt (bt a (i : Int))) || (decide (0 < i) && decide (48 ≤ bt a (i : Int) ∧ bt a (i : Int) ≤ 57))) = false := by
          rw [decide_eq_false hl, Bool.false_or]
          rw [← Bool.decide_and, decide_eq_false hdg]
        have hf2 : (decide (0 < i) && decide (48 ≤ bt a (i : Int) ∧ bt a (i : Int) ≤ 57)) = false := by
          rw [← Bool.decide_and, decide_eq_false hdg]
        rw [hf] at si
        rw [hf2, Bool.and_false] at ss
        by_cases hB : i + 1 < a.size ∧ Wd (bt a (i : Int)) (bt a ((i + 1 : Nat) : Int))
        · obtain ⟨w, b, g1, g2, g3⟩ := ih (i + 2) (by omega) (by omega)
          obtain ⟨x1, x2, x3⟩ := bt_extract (a := a) (i := i) (by omega)
          have hwd := wide_ev _ x1
          rw [x2, x3, decide_eq_true hB.2] at hwd
          refine ⟨w, b, si b ?_, ss w ?_, g3⟩
          · refine Ev.step (f := fun k => (impl_isWideLetter.f k (a.extract i (i + 2))).bind fun t => if t = true then impl_NameOK.l0 k a ((i + 2 : Nat) : Int) else some false) (fun k => ?_) (ev_bind hwd (ev_pos rfl g1))
            simp only [impl_NameOK.j1, hw1, hw2, hw3, Int.toNat_natCast]
            rw [if_neg (by decide), if_pos (by omega), if_pos (ige _), if_pos (by omega), if_pos (by omega)]
          · have hl2 : ltr a i = 2 := by unfold ltr; rw [if_neg hl, if_pos hB]
            rw [hl2]
            refine Ev.step (fun k => ?_) g2
            simp [spec_l00Word.j1, hw2]
        · have hl0 : ltr a i = 0 := by unfold ltr; rw [if_neg hl, if_neg hB]
          refine ⟨(i : Int), false, si false ?_, ss (i : Int) ?_, by rw [beq_eq_false_iff_ne]; omega⟩
          · by_cases hB1 : i + 1 < a.size
            · obtain ⟨x1, x2, x3⟩ := bt_extract (a := a) (i := i) (by omega)
              have hwd := wide_ev _ x1
              rw [x2, x3, decide_eq_false (fun h => hB ⟨hB1, h⟩)] at hwd
              refine Ev.step (f := fun k => (impl_isWideLetter.f k (a.extract i (i + 2))).bind fun t => if t = true then impl_NameOK.l0 k a ((i + 2 : Nat) : Int) else some false) (fun k => ?_) (ev_bind hwd (ev_neg (by decide) (ev_some _)))
              simp only [impl_NameOK.j1, hw1, hw2, hw3, Int.toNat_natCast]
              rw [if_neg (by decide), if_pos (by omega), if_pos (ige _), if_pos (by omega), if_pos (by omega)]
            · refine ev_succ (fun k => ?_)
              simp only [impl_NameOK.j1, hw1]
              rw [if_neg (by decide), if_neg (by omega)]
          · rw [hl0]
            refine ev_succ (fun k => ?_)
            simp only [spec_l00Word.j1]
            rw [if_neg (by decide), if_pos trivial, w64 (by omega) (by omega), Int.sub_zero]
    · have : i = a.size := by omega
      subst this; exact hend
theorem name_both (a : ByteArray) : ∃ b, Ev (fun k => impl_NameOK.f k a) b ∧ Ev (fun k => spec_NameOK.f k a) b := by
  unfold impl_NameOK.f spec_NameOK.f
  simp only [within_eq, Option.bind_some, decide_eq_true_eq]
  by_cases h : 1 ≤ (a.size : Int) ∧ (a.size : Int) ≤ 40
  · obtain ⟨w, b, g1, g2, g3⟩ := name_ex a (by omega) a.size 0 (by omega) (by omega)
    refine ⟨b, ev_pos h g1, ev_pos (by omega) (ev_pos h.2 (ev_bind g2 (ev_eq (ev_some _) g3)))⟩
  · refine ⟨false, ev_neg h (ev_some _), ?_⟩
    by_cases h1 : (a.size : Int) > 0
    · exact ev_pos h1 (ev_neg (by omega) (ev_some _))
    · exact ev_neg h1 (ev_some _)
noncomputable def nameB (a : ByteArray) : Bool := (name_both a).choose
theorem name_impl (a : ByteArray) : Ev (fun k => impl_NameOK.f k a) (nameB a) := (name_both a).choose_spec.1
theorem name_spec (a : ByteArray) : Ev (fun k => spec_NameOK.f k a) (nameB a) := (name_both a).choose_spec.2
def eqS (a b : ByteArray) : Bool := decide (a.toList = b.toList)
end Go.Proofs.Ytoibmbkmpadmnaa.ZNamG
