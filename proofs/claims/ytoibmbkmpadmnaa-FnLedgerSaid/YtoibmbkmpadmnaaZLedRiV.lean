/- The ledger: what an event does; the program's and the reference's run. -/
import Derived.Test.YtoibmbkmpadmnaaZLedEiV
namespace Go.Proofs.Ytoibmbkmpadmnaa.ZLedRiV
open Go.RowKit Go.Proofs.Ytoibmbkmpadmnaa.V Go.Proofs.Ytoibmbkmpadmnaa.Lib Go.Proofs.Ytoibmbkmpadmnaa.ZNamIV Go.Proofs.Ytoibmbkmpadmnaa.ZLedEiV Go.Proofs.YtoibmbkmpadmnaaW.PrintWords Go.Proofs.YtoibmbkmpadmnaaW.PrintLast Go.Proofs.YtoibmbkmpadmnaaW.PrintMore
abbrev Cd := S39
theorem fidx_in {α : Type} (q : α → Bool) : ∀ (l : List α) (i : Int), 0 ≤ i → fidx q l i = -1 ∨ (i ≤ fidx q l i ∧ fidx q l i < i + l.length)
  | [], i, _ => .inl rfl
  | x :: l, i, h => by
    unfold fidx
    by_cases hq : q x = true
    · rw [if_pos hq]; right; rw [List.length_cons]; omega
    · rw [if_neg hq]
      rcases fidx_in q l (i + 1) (by omega) with h1 | ⟨h1, h2⟩
      · exact .inl h1
      · right; rw [List.length_cons]; omega
def isN (nm : ByteArray) (c : Cd) : Bool := decide (c.f0.toList = nm.toList)
def ixB (lC : List Cd) (nm : ByteArray) : Int := fidx (isN nm) lC 0
def cardB (lC : List Cd) (nm : ByteArray) : List Cd × Nat := if ixB lC nm < 0 then (lC ++ [⟨nm, 0, 0, 0⟩], lC.length) else (lC, (ixB lC nm).toNat)
theorem ixB_in (lC : List Cd) (nm : ByteArray) : ixB lC nm = -1 ∨ (0 ≤ ixB lC nm ∧ ixB lC nm < lC.length) := by
  have := fidx_in (isN nm) lC 0 (Int.le_refl _)
  unfold ixB
  omega
theorem cardB_in (lC : List Cd) (nm : ByteArray) : (cardB lC nm).2 < (cardB lC nm).1.length := by
  unfold cardB
  have := ixB_in lC nm
  split
  · simp
  · dsimp only; omega
theorem index_card (lC : List Cd) (nm : ByteArray) (hl : lC.length ≤ maxLen) : Ev (fun k => slices_IndexFunc_at_impl_Ledger_card_1.f k lC nm) (ixB lC nm) := by
  unfold slices_IndexFunc_at_impl_Ledger_card_1.f ixB
  refine index_ev' lC _ (fun k i => slices_IndexFunc_at_impl_Ledger_card_1.l0 k lC (lC.length : Int) i nm) hl (fun k i x hx => ?_) (fun k => ?_)
  · have := some_lt hx
    have hr : rd_T39 lC (i : Int) = x := getD_some hx
    simp only [slices_IndexFunc_at_impl_Ledger_card_1.l0, hr, impl_Ledger_card_1.f, Option.bind_some, isN, beq_iff_eq, decide_eq_true_eq]
    rw [if_pos (ilt this), if_pos (ige _), if_pos (ilt this)]
  · simp only [slices_IndexFunc_at_impl_Ledger_card_1.l0]
    rw [if_neg (by omega)]
def doB (lC : List Cd) (lS : List ByteArray) (e : Ew) : Bool × List Cd × List ByteArray :=
  if e.f3 = 3 then (if lS.any (eqS e.f4) = true then (false, lC, lS) else (true, lC, lS ++ [e.f4]))
  else if e.f3 = 1 then (true, (cardB lC e.f4).1.set (cardB lC e.f4).2 ⟨(rd_T39 (cardB lC e.f4).1 ((cardB lC e.f4).2 : Int)).f0, wrap64 ((rd_T39 (cardB lC e.f4).1 ((cardB lC e.f4).2 : Int)).f1 + e.f5), wrap64 ((rd_T39 (cardB lC e.f4).1 ((cardB lC e.f4).2 : Int)).f2 + e.f5), (rd_T39 (cardB lC e.f4).1 ((cardB lC e.f4).2 : Int)).f3⟩, lS)
    else if e.f5 > (rd_T39 (cardB lC e.f4).1 ((cardB lC e.f4).2 : Int)).f1 then (false, (cardB lC e.f4).1, lS)
    else (true, (cardB lC e.f4).1.set (cardB lC e.f4).2 ⟨(rd_T39 (cardB lC e.f4).1 ((cardB lC e.f4).2 : Int)).f0, wrap64 ((rd_T39 (cardB lC e.f4).1 ((cardB lC e.f4).2 : Int)).f1 - e.f5), (rd_T39 (cardB lC e.f4).1 ((cardB lC e.f4).2 : Int)).f2, wrap64 ((rd_T39 (cardB lC e.f4).1 ((cardB lC e.f4).2 : Int)).f3 + e.f5)⟩, lS)
theorem cardA_B (lC : List Cd) (nm : ByteArray) : cardA lC nm (ixB lC nm) = some (cardB lC nm) := by
  unfold cardA cardB
  have := ixB_in lC nm
  by_cases h : ixB lC nm < 0
  · rw [if_pos h, if_pos h]
  · rw [if_neg h, if_neg h, if_pos (by omega)]
theorem do_ev (lC : List Cd) (lS : List ByteArray) (e : Ew) (hC : lC.length ≤ maxLen) (hS : lS.length ≤ maxLen) : Ev (fun k => doF k lC lS e) (doB lC lS e) := by
  unfold doF doB
  by_cases h3 : e.f3 = 3
  · simp only [if_pos h3]
    refine ev_bind (contains_str lS e.f4 hS) ?_
    by_cases h : lS.any (eqS e.f4) = true
    · simp only [if_pos h]; exact ev_some _
    · simp only [if_neg h]; exact ev_some _
  · simp only [if_neg h3]
    refine ev_bind (index_card lC e.f4 hC) ?_
    simp only [cardA_B, Option.bind_some]
    by_cases h1 : e.f3 = 1
    · simp only [if_pos h1]; exact ev_some _
    · simp only [if_neg h1]
      split <;> exact ev_some _
abbrev Led := List Cd × List ByteArray × List Int
def stB (i : Nat) (e : Ew) (s : Led) : Led := ((doB s.1 s.2.1 e).2.1, (doB s.1 s.2.1 e).2.2, if (doB s.1 s.2.1 e).1 = true then s.2.2 else s.2.2 ++ [(i : Int)])
def runB (l : List Ew) : Nat → Led → Led
  | 0, s => s
  | d + 1, s => runB l d (stB (l.length - (d + 1)) (rd_T35 l ((l.length - (d + 1) : Nat) : Int)) s)
theorem cardB_len (lC : List Cd) (nm : ByteArray) : (cardB lC nm).1.length ≤ lC.length + 1 := by
  unfold cardB
  split <;> simp
theorem doB_len (lC : List Cd) (lS : List ByteArray) (e : Ew) : (doB lC lS e).2.1.length ≤ lC.length + 1 ∧ (doB lC lS e).2.2.length ≤ lS.length + 1 := by
  have := cardB_len lC e.f4
  unfold doB
  repeat' split
  all_goals simp
  all_goals omega
def lenOK (s : Led) (i : Nat) : Prop := s.1.length ≤ i ∧ s.2.1.length ≤ i ∧ s.2.2.length ≤ i
theorem lenOK_next {s : Led} {i : Nat} (h : lenOK s i) (e : Ew) : lenOK (stB i e s) (i + 1) := by
  have hd := doB_len s.1 s.2.1 e
  unfold lenOK stB at *
  refine ⟨by dsimp only; omega, by dsimp only; omega, ?_⟩
  dsimp only
  split
  · omega
  · rw [List.length_append, List.length_singleton]; omega
theorem run_impl {l : List Ew} (hl : l.length ≤ 120) : ∀ d, d ≤ l.length → ∀ s : Led, lenOK s (l.length - d) → Ev (fun k => impl_LedgerOf.l0 k l s.1 s.2.1 s.2.2 (l.length - d)) (runB l d s)
  | 0, _, s, _ => by
    refine ev_succ (fun k => ?_)
    simp only [impl_LedgerOf.l0, Nat.sub_zero]
    rw [if_neg (by omega)]
    rfl
  | d + 1, hd, s, hs => by
    obtain ⟨i, hi⟩ : ∃ i, i = l.length - (d + 1) := ⟨_, rfl⟩
    have hi1 : l.length - d = i + 1 := by omega
    have hq := lenOK_next (s := s) (by rw [← hi] at hs; exact hs) (rd_T35 l (i : Int))
    have ih := run_impl hl d (by omega) (stB i (rd_T35 l (i : Int)) s) (by rw [hi1]; exact hq)
    rw [runB, ← hi]
    rw [hi1] at ih
    rw [← hi] at hs
    unfold lenOK at hs
    refine Ev.step (f := fun k => (doF k s.1 s.2.1 (rd_T35 l (i : Int))).bind fun q => impl_LedgerOf.l0 k l q.2.1 q.2.2 (if q.1 = true then s.2.2 else s.2.2 ++ [(i : Int)]) (i + 1)) (fun k => ?_) (ev_bind (do_ev s.1 s.2.1 _ (by unfold maxLen; omega) (by unfold maxLen; omega)) ih)
    simp only [impl_LedgerOf.l0]
    rw [if_pos (by omega)]
noncomputable def ledB (l : List Ew) : List Cd × List ByteArray × List Int × Int := if l.length > 4096 then ([], [], [], 2) else if okB l = true then ((runB l l.length ([], [], [])).1, (runB l l.length ([], [], [])).2.1, (runB l l.length ([], [], [])).2.2, 0) else ([], [], [], 1)
theorem led_impl (l : List Ew) : Ev (fun k => impl_LedgerOf.f k l) (ledB l) := by
  unfold impl_LedgerOf.f ledB
  simp only [impl_Event_24.f, Option.bind_some, decide_eq_true_eq]
  by_cases h : l.length > 4096
  · simp only [if_pos h, if_neg (show ¬ (l.length : Int) ≤ 4096 by omega)]; exact ev_some _
  · simp only [if_neg h, if_pos (show (l.length : Int) ≤ 4096 by omega)]
    refine ev_bind (ok_impl l) ?_
    by_cases ho : okB l = true
    · simp only [if_pos ho]
      have := run_impl (okB_len ho) l.length (Nat.le_refl _) ([], [], []) (by unfold lenOK; simp)
      rw [Nat.sub_self] at this
      exact ev_bind this (ev_some _)
    · simp only [if_neg ho]; exact ev_some _
/-! ### the reference -/
def InvC (lC : List Cd) : Prop := ∀ c ∈ lC, c.f1 = wrap64 (c.f2 - c.f3)
theorem cardB_inv {lC : List Cd} (h : InvC lC) (nm : ByteArray) : InvC (cardB lC nm).1 := by
  unfold cardB
  split
  · intro c hc
    rcases List.mem_append.1 hc with hc | hc
    · exact h c hc
    · rw [List.mem_singleton.1 hc]
      show (0 : Int) = wrap64 (0 - 0)
      unfold wrap64
      omega
  · exact h
theorem rc_mem {lC : List Cd} {j : Nat} (h : j < lC.length) : rd_T39 lC (j : Int) ∈ lC := by
  have : rd_T39 lC (j : Int) = lC[j] := getD_some (List.getElem?_eq_getElem h)
  rw [this]; exact List.getElem_mem h
theorem set_inv {lC : List Cd} (h : InvC lC) {j : Nat} {x : Cd} (hx : x.f1 = wrap64 (x.f2 - x.f3)) : InvC (lC.set j x) := by
  intro c hc
  rcases List.mem_or_eq_of_mem_set hc with hc | rfl
  · exact h c hc
  · exact hx
theorem wr1 (a b x : Int) : wrap64 (wrap64 (a - b) + x) = wrap64 (wrap64 (a + x) - b) := by unfold wrap64; omega
theorem wr2 (a b x : Int) : wrap64 (wrap64 (a - b) - x) = wrap64 (a - wrap64 (b + x)) := by unfold wrap64; omega
theorem doB_inv {lC : List Cd} (h : InvC lC) (lS : List ByteArray) (e : Ew) : InvC (doB lC lS e).2.1 := by
  have hc := cardB_inv h e.f4
  have hm := hc _ (rc_mem (cardB_in lC e.f4))
  unfold doB
  by_cases h3 : e.f3 = 3
  · rw [if_pos h3]; split <;> exact h
  · rw [if_neg h3]
    by_cases h1 : e.f3 = 1
    · rw [if_pos h1]
      exact set_inv hc (by dsimp only; rw [hm]; exact wr1 _ _ _)
    · rw [if_neg h1]
      split
      · exact hc
      · exact set_inv hc (by dsimp only; rw [hm]; exact wr2 _ _ _)
end Go.Proofs.Ytoibmbkmpadmnaa.ZLedRiV
