/- The run of the ledger, step by step: which card a name has, which places are refused. -/
import Derived.Test.YtoibmbkmpadmnaaZLedRiV
namespace Go.Proofs.Ytoibmbkmpadmnaa.ZLedWV
open Go.RowKit Go.Proofs.Ytoibmbkmpadmnaa.V Go.Proofs.Ytoibmbkmpadmnaa.Lib Go.Proofs.Ytoibmbkmpadmnaa.ZNamIV Go.Proofs.Ytoibmbkmpadmnaa.ZLedEiV Go.Proofs.Ytoibmbkmpadmnaa.ZLedRiV Go.Proofs.YtoibmbkmpadmnaaW.PrintWords Go.Proofs.YtoibmbkmpadmnaaW.PrintLast Go.Proofs.YtoibmbkmpadmnaaW.PrintMore
def fnd : List Cd → ByteArray → Cd
  | [], nm => ⟨nm, 0, 0, 0⟩
  | c :: l, nm => if isN nm c = true then c else fnd l nm
def upd : List Cd → ByteArray → (Cd → Cd) → List Cd
  | [], nm, g => [g ⟨nm, 0, 0, 0⟩]
  | c :: l, nm, g => if isN nm c = true then g c :: l else c :: upd l nm g
def cardR : List Cd → ByteArray → List Cd × Nat
  | [], nm => ([⟨nm, 0, 0, 0⟩], 0)
  | c :: l, nm => if isN nm c = true then (c :: l, 0) else (c :: (cardR l nm).1, (cardR l nm).2 + 1)
theorem fidx_shift {α : Type} (q : α → Bool) : ∀ (l : List α) (i : Int), 0 ≤ i → fidx q l (i + 1) = if fidx q l i < 0 then -1 else fidx q l i + 1
  | [], i, _ => rfl
  | x :: l, i, h => by
    unfold fidx
    by_cases hq : q x = true
    · rw [if_pos hq, if_pos hq, if_neg (by omega)]
    · rw [if_neg hq, if_neg hq]
      exact fidx_shift q l (i + 1) (by omega)
theorem cardB_R (nm : ByteArray) : ∀ l : List Cd, cardB l nm = cardR l nm
  | [] => rfl
  | c :: l => by
    have ih := cardB_R nm l
    unfold cardB ixB at ih ⊢
    rw [cardR, ← ih]
    rw [fidx]
    by_cases hq : isN nm c = true
    · rw [if_pos hq, if_pos hq, if_neg (by omega)]
      rfl
    · rw [if_neg hq, if_neg hq, fidx_shift _ _ _ (Int.le_refl _)]
      by_cases h : fidx (isN nm) l 0 < 0
      · rw [if_pos h, if_pos h, if_pos (by omega)]
        rfl
      · rw [if_neg h, if_neg h, if_neg (by omega)]
        refine Prod.ext rfl ?_
        dsimp only
        omega
theorem cardR_rd (nm : ByteArray) : ∀ l : List Cd, (cardR l nm).1[(cardR l nm).2]? = some (fnd l nm)
  | [] => rfl
  | c :: l => by
    rw [cardR, fnd]
    by_cases hq : isN nm c = true
    · rw [if_pos hq, if_pos hq]; rfl
    · rw [if_neg hq, if_neg hq]
      exact cardR_rd nm l
theorem cardR_set (nm : ByteArray) (g : Cd → Cd) : ∀ l : List Cd, (cardR l nm).1.set (cardR l nm).2 (g (fnd l nm)) = upd l nm g
  | [] => rfl
  | c :: l => by
    rw [cardR, upd, fnd]
    by_cases hq : isN nm c = true
    · rw [if_pos hq, if_pos hq, if_pos hq]; rfl
    · rw [if_neg hq, if_neg hq, if_neg hq]
      show c :: (cardR l nm).1.set (cardR l nm).2 (g (fnd l nm)) = _
      rw [cardR_set nm g l]
theorem cardR_id (nm : ByteArray) : ∀ l : List Cd, (cardR l nm).1 = upd l nm id
  | [] => rfl
  | c :: l => by
    rw [cardR, upd]
    by_cases hq : isN nm c = true
    · rw [if_pos hq, if_pos hq]; rfl
    · rw [if_neg hq, if_neg hq]
      show c :: (cardR l nm).1 = _
      rw [cardR_id nm l]
def gL (a : Int) (c : Cd) : Cd := ⟨c.f0, wrap64 (c.f1 + a), wrap64 (c.f2 + a), c.f3⟩
def gS (a : Int) (c : Cd) : Cd := ⟨c.f0, wrap64 (c.f1 - a), c.f2, wrap64 (c.f3 + a)⟩
theorem do_new (lC : List Cd) (lS : List ByteArray) {e : Ew} (h3 : ¬ e.f3 = 3) : doB lC lS e = if e.f3 = 1 then (true, upd lC e.f4 (gL e.f5), lS) else if e.f5 > (fnd lC e.f4).f1 then (false, upd lC e.f4 id, lS) else (true, upd lC e.f4 (gS e.f5), lS) := by
  have hr : rd_T39 (cardR lC e.f4).1 ((cardR lC e.f4).2 : Int) = fnd lC e.f4 := getD_some (cardR_rd _ _)
  unfold doB
  rw [if_neg h3, cardB_R, hr]
  by_cases h1 : e.f3 = 1
  · rw [if_pos h1, if_pos h1]
    exact congrArg (fun y => (true, y, lS)) (cardR_set e.f4 (gL e.f5) lC)
  · rw [if_neg h1, if_neg h1]
    by_cases h : e.f5 > (fnd lC e.f4).f1
    · rw [if_pos h, if_pos h, cardR_id]
    · rw [if_neg h, if_neg h]
      exact congrArg (fun y => (true, y, lS)) (cardR_set e.f4 (gS e.f5) lC)
theorem isN_iff {nm : ByteArray} {c : Cd} : isN nm c = true ↔ c.f0.toList = nm.toList := by unfold isN; exact decide_eq_true_iff
theorem fnd_upd {nm nm' : ByteArray} {g : Cd → Cd} (hg : ∀ c, (g c).f0 = c.f0) (hne : ¬ nm.toList = nm'.toList) : ∀ l : List Cd, fnd (upd l nm g) nm' = fnd l nm'
  | [] => by
    simp only [upd, fnd]
    rw [if_neg (by rw [isN_iff, hg]; exact hne)]
  | c :: l => by
    rw [upd]
    by_cases hq : isN nm c = true
    · have e := isN_iff.1 hq
      rw [if_pos hq, fnd, fnd, if_neg (by rw [isN_iff, hg, e]; exact hne), if_neg (by rw [isN_iff, e]; exact hne)]
    · rw [if_neg hq, fnd, fnd, fnd_upd hg hne l]
theorem isN_g {nm : ByteArray} {g : Cd → Cd} (hg : ∀ c, (g c).f0 = c.f0) (c : Cd) : isN nm (g c) = isN nm c := by unfold isN; rw [hg]
/- the three numbers of the card with that name -/
def numsC (c : Cd) : Int × Int × Int := (c.f1, c.f2, c.f3)
theorem fnd_same {nm nm' : ByteArray} {g : Cd → Cd} (hg : ∀ c, (g c).f0 = c.f0) (hn : ∀ c d, numsC c = numsC d → numsC (g c) = numsC (g d)) (he : nm.toList = nm'.toList) : ∀ l : List Cd, numsC (fnd (upd l nm g) nm') = numsC (g (fnd l nm'))
  | [] => by
    simp only [upd, fnd]
    rw [if_pos (by rw [isN_iff, hg]; exact he)]
    exact hn _ _ rfl
  | c :: l => by
    rw [upd]
    by_cases hq : isN nm c = true
    · have e := isN_iff.1 hq
      have hq' : isN nm' c = true := isN_iff.2 (by rw [e]; exact he)
      rw [if_pos hq, fnd, fnd, if_pos (by rw [isN_g hg]; exact hq'), if_pos hq']
    · have hq' : ¬ isN nm' c = true := fun h => hq (isN_iff.2 (by rw [isN_iff.1 h]; exact he.symm))
      rw [if_neg hq, fnd, fnd, if_neg hq', if_neg hq']
      exact fnd_same hg hn he l
theorem fnd_eq {nm nm' : ByteArray} (he : nm.toList = nm'.toList) : ∀ l : List Cd, numsC (fnd l nm) = numsC (fnd l nm')
  | [] => rfl
  | c :: l => by
    rw [fnd, fnd]
    by_cases hq : isN nm c = true
    · rw [if_pos hq, if_pos (isN_iff.2 (by rw [isN_iff.1 hq]; exact he))]
    · rw [if_neg hq, if_neg (fun h => hq (isN_iff.2 (by rw [isN_iff.1 h]; exact he.symm)))]
      exact fnd_eq he l
theorem gL_nums (a : Int) (c d : Cd) (h : numsC c = numsC d) : numsC (gL a c) = numsC (gL a d) := by
  unfold numsC at *
  have h1 := congrArg (·.1) h
  have h2 := congrArg (·.2.1) h
  have h3 := congrArg (·.2.2) h
  dsimp only at h1 h2 h3
  unfold gL
  dsimp only
  rw [h1, h2, h3]
theorem gS_nums (a : Int) (c d : Cd) (h : numsC c = numsC d) : numsC (gS a c) = numsC (gS a d) := by
  unfold numsC at *
  have h1 := congrArg (·.1) h
  have h2 := congrArg (·.2.1) h
  have h3 := congrArg (·.2.2) h
  dsimp only at h1 h2 h3
  unfold gS
  dsimp only
  rw [h1, h2, h3]
theorem mem_upd {nm : ByteArray} {g : Cd → Cd} : ∀ {l : List Cd} {b : Cd}, b ∈ upd l nm g → b ∈ l ∨ b = g (fnd l nm)
  | [], b, h => by
    rw [upd, List.mem_singleton] at h
    exact .inr h
  | c :: l, b, h => by
    rw [upd] at h
    by_cases hq : isN nm c = true
    · rw [if_pos hq] at h
      rw [fnd, if_pos hq]
      rcases List.mem_cons.1 h with h | h
      · exact .inr h
      · exact .inl (List.mem_cons_of_mem _ h)
    · rw [if_neg hq] at h
      rw [fnd, if_neg hq]
      rcases List.mem_cons.1 h with h | h
      · exact .inl (by rw [h]; exact List.mem_cons_self ..)
      · rcases mem_upd h with h | h
        · exact .inl (List.mem_cons_of_mem _ h)
        · exact .inr h
theorem fnd_mem (nm : ByteArray) : ∀ l : List Cd, fnd l nm ∈ l ∨ fnd l nm = ⟨nm, 0, 0, 0⟩
  | [] => .inr rfl
  | c :: l => by
    rw [fnd]
    by_cases hq : isN nm c = true
    · rw [if_pos hq]; exact .inl (List.mem_cons_self ..)
    · rw [if_neg hq]
      rcases fnd_mem nm l with h | h
      · exact .inl (List.mem_cons_of_mem _ h)
      · exact .inr h
theorem fnd_nm (nm : ByteArray) : ∀ l : List Cd, (fnd l nm).f0.toList = nm.toList
  | [] => rfl
  | c :: l => by
    rw [fnd]
    by_cases hq : isN nm c = true
    · rw [if_pos hq]; exact isN_iff.1 hq
    · rw [if_neg hq]; exact fnd_nm nm l
def Nd (l : List Cd) : Prop := l.Pairwise (fun a b => ¬ a.f0.toList = b.f0.toList)
theorem upd_nd {nm : ByteArray} {g : Cd → Cd} (hg : ∀ c, (g c).f0 = c.f0) : ∀ {l : List Cd}, Nd l → Nd (upd l nm g)
  | [], _ => by rw [upd]; exact List.pairwise_singleton _ _
  | c :: l, h => by
    have h2 := List.pairwise_cons.1 h
    rw [upd]
    by_cases hq : isN nm c = true
    · rw [if_pos hq]
      exact List.pairwise_cons.2 ⟨fun b hb => by rw [hg]; exact h2.1 b hb, h2.2⟩
    · rw [if_neg hq]
      refine List.pairwise_cons.2 ⟨fun b hb => ?_, upd_nd hg h2.2⟩
      rcases mem_upd hb with hb | hb
      · exact h2.1 b hb
      · rw [hb, hg, fnd_nm]
        exact fun e => hq (isN_iff.2 e)
theorem nd_fnd : ∀ {l : List Cd}, Nd l → ∀ x ∈ l, fnd l x.f0 = x
  | [], _, x, hx => by cases hx
  | c :: l, h, x, hx => by
    have h2 := List.pairwise_cons.1 h
    rw [fnd]
    rcases List.mem_cons.1 hx with rfl | hx
    · rw [if_pos (isN_iff.2 rfl)]
    · rw [if_neg (fun e => h2.1 x hx (isN_iff.1 e))]
      exact nd_fnd h2.2 x hx
/-! ### the run, forward -/
def stA (l : List Ew) : Nat → Led
  | 0 => ([], [], [])
  | i + 1 => stB i (rd_T35 l (i : Int)) (stA l i)
theorem runA (l : List Ew) : ∀ d, d ≤ l.length → runB l d (stA l (l.length - d)) = stA l l.length
  | 0, _ => by rw [runB, Nat.sub_zero]
  | d + 1, hd => by
    have ih := runA l d (by omega)
    rw [runB]
    rw [show l.length - d = l.length - (d + 1) + 1 by omega, stA] at ih
    exact ih
theorem run_eq (l : List Ew) : runB l l.length ([], [], []) = stA l l.length := by
  have := runA l l.length (Nat.le_refl _)
  rw [Nat.sub_self] at this
  exact this
def okA (l : List Ew) (i : Nat) : Bool := (doB (stA l i).1 (stA l i).2.1 (rd_T35 l (i : Int))).1
theorem stA_ref (l : List Ew) (i : Nat) : (stA l (i + 1)).2.2 = if okA l i = true then (stA l i).2.2 else (stA l i).2.2 ++ [(i : Int)] := rfl
theorem rest (l : List Ew) {n : Nat} : ∀ d i, i + d = n → ∃ R, (stA l n).2.2 = (stA l i).2.2 ++ R ∧ ∀ y ∈ R, (i : Int) ≤ y
  | 0, i, h => ⟨[], by rw [List.append_nil, ← h, Nat.add_zero], fun y hy => by cases hy⟩
  | d + 1, i, h => by
    obtain ⟨R, h1, h2⟩ := rest l (n := n) d (i + 1) (by omega)
    rw [stA_ref] at h1
    by_cases ho : okA l i = true
    · rw [if_pos ho] at h1
      exact ⟨R, h1, fun y hy => by have := h2 y hy; omega⟩
    · rw [if_neg ho, List.append_assoc] at h1
      refine ⟨[(i : Int)] ++ R, h1, fun y hy => ?_⟩
      rcases List.mem_append.1 hy with hy | hy
      · rw [List.mem_singleton.1 hy]; exact Int.le_refl _
      · have := h2 y hy; omega
/- where the list of refused places stands at the i-th event -/
theorem head_ok (l : List Ew) {n i : Nat} (hi : i < n) : (¬ (stA l i).2.2.length < (stA l n).2.2.length → okA l i = true) ∧ ((stA l i).2.2.length < (stA l n).2.2.length → (rd (stA l n).2.2 ((stA l i).2.2.length : Int) == (i : Int)) = !okA l i) := by
  obtain ⟨R, h1, h2⟩ := rest l (n := n) (n - (i + 1)) (i + 1) (by omega)
  rw [stA_ref] at h1
  by_cases ho : okA l i = true
  · rw [if_pos ho] at h1
    refine ⟨fun _ => ho, fun h => ?_⟩
    rw [ho]
    cases R with
    | nil => rw [h1] at h; simp at h
    | cons y R =>
      have := h2 y (List.mem_cons_self ..)
      have hr : rd (stA l n).2.2 ((stA l i).2.2.length : Int) = y := getD_some (by rw [h1]; simp)
      rw [hr]
      exact beq_eq_false_iff_ne.2 (by omega)
  · rw [if_neg ho, List.append_assoc] at h1
    refine ⟨fun h => absurd ?_ h, fun h => ?_⟩
    · rw [h1]; simp
    · have hr : rd (stA l n).2.2 ((stA l i).2.2.length : Int) = (i : Int) := getD_some (by rw [h1]; simp)
      rw [hr, Bool.eq_false_iff.2 ho]
      simp
theorem end_len (l : List Ew) (i : Nat) : (stA l (i + 1)).2.2.length = if okA l i = true then (stA l i).2.2.length else (stA l i).2.2.length + 1 := by
  rw [stA_ref]
  split
  · rfl
  · simp
/-! ### what holds of the cards -/
structure GoodC (lC : List Cd) (m : Int) : Prop where
  inv : InvC lC
  nd : Nd lC
  bd : ∀ c ∈ lC, 0 ≤ c.f1 ∧ c.f1 ≤ m
theorem ev_f5 {e : Ew} (h : evB e = true) : (e.f3 = 1 ∨ e.f3 = 2) ∧ 1 ≤ e.f5 ∧ e.f5 ≤ 1000000 ∨ e.f3 = 3 := by
  unfold evB at h
  rw [if_pos (evB_in h)] at h
  rw [Bool.and_eq_true] at h
  have h2 := h.2
  unfold amB at h2
  split at h2
  · left; exact ⟨by assumption, of_decide_eq_true h2⟩
  · split at h2
    · right; assumption
    · cases h2
theorem good_next {lC : List Cd} {m : Int} (h : GoodC lC m) (hm : 0 ≤ m ∧ m ≤ 1000000000) (lS : List ByteArray) {e : Ew} (he : evB e = true) : GoodC (doB lC lS e).2.1 (m + 1000000) := by
  have hinv := doB_inv h.inv lS e
  have hf := ev_f5 he
  have hb : 0 ≤ (fnd lC e.f4).f1 ∧ (fnd lC e.f4).f1 ≤ m := by
    rcases fnd_mem e.f4 lC with h1 | h1
    · exact h.bd _ h1
    · rw [h1]; exact ⟨Int.le_refl _, hm.1⟩
  have bup : ∀ g : Cd → Cd, (0 ≤ (g (fnd lC e.f4)).f1 ∧ (g (fnd lC e.f4)).f1 ≤ m + 1000000) → ∀ c ∈ upd lC e.f4 g, 0 ≤ c.f1 ∧ c.f1 ≤ m + 1000000 := by
    intro g hg c hc
    rcases mem_upd hc with hc | rfl
    · have := h.bd c hc; omega
    · exact hg
  by_cases h3 : e.f3 = 3
  · have e2 : (doB lC lS e).2.1 = lC := by unfold doB; rw [if_pos h3]; split <;> rfl
    rw [e2]
    exact ⟨h.inv, h.nd, fun c hc => by have := h.bd c hc; omega⟩
  · refine ⟨hinv, ?_, ?_⟩
    · rw [do_new lC lS h3]
      repeat' split
      all_goals exact upd_nd (by intro c; rfl) h.nd
    · rw [do_new lC lS h3]
      have h5 : 1 ≤ e.f5 ∧ e.f5 ≤ 1000000 := by
        rcases hf with hf | hf
        · exact hf.2
        · exact absurd hf h3
      split
      · refine bup _ ?_
        show 0 ≤ wrap64 ((fnd lC e.f4).f1 + e.f5) ∧ wrap64 ((fnd lC e.f4).f1 + e.f5) ≤ _
        unfold wrap64; omega
      · split
        · refine bup _ ?_
          show 0 ≤ (fnd lC e.f4).f1 ∧ (fnd lC e.f4).f1 ≤ _
          omega
        · refine bup _ ?_
          show 0 ≤ wrap64 ((fnd lC e.f4).f1 - e.f5) ∧ wrap64 ((fnd lC e.f4).f1 - e.f5) ≤ _
          unfold wrap64; omega
theorem good_at {l : List Ew} (hl : l.length ≤ 100) (he : ∀ e ∈ l, evB e = true) : ∀ i, i ≤ l.length → GoodC (stA l i).1 (1000000 * (i : Int))
  | 0, _ => ⟨fun c hc => (by cases hc), List.Pairwise.nil, fun c hc => (by cases hc)⟩
  | i + 1, hi => by
    have ih := good_at hl he i (by omega)
    have hm : rd_T35 l (i : Int) ∈ l := by
      have : rd_T35 l (i : Int) = l[i] := getD_some (List.getElem?_eq_getElem (by omega))
      rw [this]; exact List.getElem_mem _
    have := good_next ih (by omega) (stA l i).2.1 (he _ hm)
    rw [show 1000000 * (i : Int) + 1000000 = 1000000 * ((i + 1 : Nat) : Int) by push_cast; omega] at this
    exact this
theorem len_at {l : List Ew} : ∀ i, lenOK (stA l i) i
  | 0 => by unfold lenOK; simp [stA]
  | i + 1 => lenOK_next (len_at i) _
end Go.Proofs.Ytoibmbkmpadmnaa.ZLedWV
