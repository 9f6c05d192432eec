/- Events: which are right, and which lists of them are. -/
import Derived.Test.YtoibmbkmpadmnaaZNamIV
namespace Go.Proofs.Ytoibmbkmpadmnaa.ZLedEiV
open Go.RowKit Go.Proofs.Ytoibmbkmpadmnaa.V Go.Proofs.Ytoibmbkmpadmnaa.Lib Go.Proofs.Ytoibmbkmpadmnaa.ZNamIV Go.Proofs.YtoibmbkmpadmnaaW.PrintWords Go.Proofs.YtoibmbkmpadmnaaW.PrintLast Go.Proofs.YtoibmbkmpadmnaaW.PrintMore
abbrev Ew := S35
def eqS (a b : ByteArray) : Bool := decide (a.toList = b.toList)
noncomputable def nameB (a : ByteArray) : Bool := (name_ends a).choose
theorem name_impl (a : ByteArray) : Ev (fun k => impl_NameOK.f k a) (nameB a) := (name_ends a).choose_spec
theorem index_str (l : List ByteArray) (a : ByteArray) (hl : l.length ≤ maxLen) : Ev (fun k => slices_Index_string_string.f k l a) (fidx (eqS a) l 0) := by
  unfold slices_Index_string_string.f
  refine index_ev' l _ (fun k i => slices_Index_string_string.l0 k l a (l.length : Int) i) hl (fun k i x hx => ?_) (fun k => ?_)
  · have := some_lt hx
    have hr : rdOf ByteArray.empty l (i : Int) = x := getD_some hx
    simp only [slices_Index_string_string.l0, hr, eqS, decide_eq_true_eq]
    rw [if_pos (ilt this), if_pos (ige _), if_pos (ilt this)]
  · simp only [slices_Index_string_string.l0]
    rw [if_neg (by omega)]
theorem contains_str (l : List ByteArray) (a : ByteArray) (hl : l.length ≤ maxLen) : Ev (fun k => slices_Contains_string_string.f k l a) (l.any (eqS a)) := any_of_index (index_str l a hl)
def inB (e : Ew) : Prop := (1 ≤ e.f0 ∧ e.f0 ≤ 9) ∧ (1 ≤ e.f1 ∧ e.f1 ≤ 120) ∧ (0 ≤ e.f2 ∧ e.f2 ≤ 1000000000)
instance (e : Ew) : Decidable (inB e) := by unfold inB; infer_instance
def amB (e : Ew) : Bool := if e.f3 = 1 ∨ e.f3 = 2 then decide (1 ≤ e.f5 ∧ e.f5 ≤ 1000000) else if e.f3 = 3 then decide (e.f5 = 0) else false
noncomputable def evB (e : Ew) : Bool := if inB e then nameB e.f4 && amB e else false
theorem am_impl (e : Ew) : Ev (fun k => impl_isEvent.j0 k false e.f0 e.f1 e.f2 e.f3 e.f4 e.f5) (amB e) := by
  unfold amB
  by_cases h1 : e.f3 = 1
  · refine ⟨2, fun k hk => ?_⟩
    obtain ⟨m, rfl⟩ : ∃ m, k = m + 1 + 1 := ⟨k - 2, by omega⟩
    simp [impl_isEvent.j0, impl_isEvent.j1, h1, within_eq]
  · by_cases h2 : e.f3 = 2
    · refine ⟨2, fun k hk => ?_⟩
      obtain ⟨m, rfl⟩ : ∃ m, k = m + 1 + 1 := ⟨k - 2, by omega⟩
      simp [impl_isEvent.j0, impl_isEvent.j1, h2, within_eq]
    · refine ⟨2, fun k hk => ?_⟩
      obtain ⟨m, rfl⟩ : ∃ m, k = m + 1 + 1 := ⟨k - 2, by omega⟩
      have b2 : (e.f3 == 2) = false := beq_eq_false_iff_ne.mpr h2
      simp only [impl_isEvent.j0, impl_isEvent.j1, b2, if_neg h1, if_neg (show ¬ (e.f3 = 1 ∨ e.f3 = 2) from fun h => h.elim h1 h2), Bool.false_eq_true, if_false]
      by_cases h3 : e.f3 = 3
      · rw [if_pos h3, if_pos h3]
        by_cases h5 : e.f5 = 0 <;> simp [h5]
      · rw [if_neg h3, if_neg h3]
theorem ev_impl (e : Ew) : Ev (fun k => impl_isEvent.f k e.f0 e.f1 e.f2 e.f3 e.f4 e.f5) (evB e) := by
  have bad : Ev (fun k => impl_isEvent.j0 k true e.f0 e.f1 e.f2 e.f3 e.f4 e.f5) false := ev_succ (fun k => by simp [impl_isEvent.j0])
  unfold impl_isEvent.f evB
  simp only [within_eq, Option.bind_some, decide_eq_true_eq]
  by_cases h : inB e
  · rw [if_pos h]
    refine ev_pos h.1 (ev_pos h.2.1 (ev_pos h.2.2 (ev_bind (name_impl e.f4) ?_)))
    cases nameB e.f4 with
    | true => exact am_impl e
    | false => exact bad
  · rw [if_neg h]
    unfold inB at h
    by_cases h1 : 1 ≤ e.f0 ∧ e.f0 ≤ 9
    · refine ev_pos h1 ?_
      by_cases h2 : 1 ≤ e.f1 ∧ e.f1 ≤ 120
      · exact ev_pos h2 (ev_neg (fun h3 => h ⟨h1, h2, h3⟩) bad)
      · exact ev_neg h2 bad
    · exact ev_neg h1 bad
theorem evB_in {e : Ew} (h : evB e = true) : inB e := by
  unfold evB at h
  split at h
  · assumption
  · cases h
def ahB (a b : Ew) : Bool := if a.f2 = b.f2 then (if a.f0 = b.f0 then decide (a.f1 < b.f1) else decide (a.f0 < b.f0)) else decide (a.f2 < b.f2)
theorem ahead_eq (a b : Ew) : spec_l12Ahead.f a.f0 a.f1 a.f2 a.f3 a.f4 a.f5 b.f0 b.f1 b.f2 b.f3 b.f4 b.f5 = some (ahB a b) := by
  unfold spec_l12Ahead.f ahB
  repeat' split
  all_goals rfl
def cm (x y : Int) : Int := if x < y then -1 else if x > y then 1 else 0
theorem cm_eq (x y : Int) : cmp_Compare_int.f x y = some (cm x y) := by
  unfold cmp_Compare_int.f cmp_isNaN_int.f cm
  simp only [bne_self_eq_false, Option.bind_some, Bool.false_eq_true, if_false]
  repeat' split
  all_goals rfl
def or3 (a b c : Int) : Int := if a = 0 then (if b = 0 then c else b) else a
theorem or3_ev (a b c : Int) : Ev (fun k => cmp_Or_int.f k [a, b, c]) (or3 a b c) := by
  refine ⟨4, fun k hk => ?_⟩
  obtain ⟨m, rfl⟩ : ∃ m, k = m + 1 + 1 + 1 + 1 := ⟨k - 4, by omega⟩
  have w1 : wrap64 (0 + 1) = 1 := by unfold wrap64; omega
  have w2 : wrap64 (1 + 1) = 2 := by unfold wrap64; omega
  have w3 : wrap64 (2 + 1) = 3 := by unfold wrap64; omega
  have r0 : rd [a, b, c] 0 = a := rfl
  have r1 : rd [a, b, c] 1 = b := rfl
  have r2 : rd [a, b, c] 2 = c := rfl
  unfold cmp_Or_int.f or3
  simp only [cmp_Or_int.l0, List.length_cons, List.length_nil, w1, w2, w3, r0, r1, r2]
  by_cases h0 : a = 0
  · by_cases h1 : b = 0
    · by_cases h2 : c = 0 <;> simp [h0, h1, h2]
    · simp [h0, h1]
  · simp [h0]
def cmB (a b : Ew) : Int := or3 (cm a.f2 b.f2) (cm a.f0 b.f0) (cm a.f1 b.f1)
theorem cmp_ev (a b : Ew) : Ev (fun k => impl_compareEvents.f k a.f0 a.f1 a.f2 a.f3 a.f4 a.f5 b.f0 b.f1 b.f2 b.f3 b.f4 b.f5) (cmB a b) := by
  unfold impl_compareEvents.f
  simp only [cm_eq, Option.bind_some]
  exact ev_bind (or3_ev _ _ _) (ev_some _)
theorem cmB_ah (a b : Ew) : (cmB a b ≥ 0) ↔ ahB a b = false := by
  unfold cmB ahB or3 cm
  by_cases h2 : a.f2 = b.f2
  · rw [if_pos h2]
    by_cases h0 : a.f0 = b.f0
    · rw [if_pos h0]
      by_cases h1 : a.f1 < b.f1
      · simp [h2, h0, h1]
      · by_cases h1' : a.f1 > b.f1 <;> simp [h2, h0, h1, h1']
    · rw [if_neg h0]
      by_cases h1 : a.f0 < b.f0
      · simp [h2, h1]
      · have h1' : a.f0 > b.f0 := by omega
        simp [h2, h1, h1']
  · rw [if_neg h2]
    by_cases h1 : a.f2 < b.f2
    · simp [h1]
    · have h1' : a.f2 > b.f2 := by omega
      simp [h1, h1']
/-! ### lists of events -/
def clB (e y : Ew) : Bool := decide (y.f0 = e.f0 ∧ y.f1 ≥ e.f1)
noncomputable def okI (l : List Ew) (i : Nat) : Bool := evB (rd_T35 l (i : Int)) && ((decide (i = 0) || ahB (rd_T35 l ((i : Int) - 1)) (rd_T35 l (i : Int))) && !(l.take i).any (clB (rd_T35 l (i : Int))))
noncomputable def okR (l : List Ew) : Nat → Bool
  | 0 => true
  | d + 1 => okI l (l.length - (d + 1)) && okR l d
noncomputable def okB (l : List Ew) : Bool := decide (l.length ≤ 120) && okR l l.length
def InvF (l : List Ew) (i : Nat) (F : Int → Int) : Prop := ∀ x, (∀ y ∈ l.take i, y.f0 = x → y.f1 ≤ F x) ∧ (F x = 0 ∨ ∃ y ∈ l.take i, y.f0 = x ∧ y.f1 = F x)
theorem inv_clash {l : List Ew} {i : Nat} {F : Int → Int} {e : Ew} (h : InvF l i F) (he : 1 ≤ e.f1) : (F e.f0 ≥ e.f1) ↔ (l.take i).any (clB e) = true := by
  obtain ⟨h1, h2⟩ := h e.f0
  rw [List.any_eq_true]
  unfold clB
  constructor
  · intro h
    rcases h2 with h2 | ⟨y, hy, h3, h4⟩
    · omega
    · exact ⟨y, hy, decide_eq_true ⟨h3, by omega⟩⟩
  · rintro ⟨y, hy, h3⟩
    have h4 := of_decide_eq_true h3
    have := h1 y hy h4.1
    omega
theorem inv_next {l : List Ew} {i : Nat} {F : Int → Int} (hil : i < l.length) (h : InvF l i F) (hn : ¬ F l[i].f0 ≥ l[i].f1) : InvF l (i + 1) (upI F l[i].f0 l[i].f1) := by
  intro x
  obtain ⟨h1, h2⟩ := h x
  rw [List.take_succ_eq_append_getElem hil]
  unfold upI
  by_cases e : x = l[i].f0
  · rw [if_pos e]
    refine ⟨fun y hy hx => ?_, .inr ⟨l[i], List.mem_append_right _ (List.mem_singleton_self _), e.symm, rfl⟩⟩
    rcases List.mem_append.1 hy with hy | hy
    · have := h1 y hy hx
      rw [e] at this
      omega
    · rw [List.mem_singleton.1 hy]; exact Int.le_refl _
  · rw [if_neg e]
    refine ⟨fun y hy hx => ?_, ?_⟩
    · rcases List.mem_append.1 hy with hy | hy
      · exact h1 y hy hx
      · rw [List.mem_singleton.1 hy] at hx
        exact absurd hx.symm e
    · rcases h2 with h2 | ⟨y, hy, h3⟩
      · exact .inl h2
      · exact .inr ⟨y, List.mem_append_left _ hy, h3⟩
theorem rest_impl {l : List Ew} (hl : l.length ≤ 120) : ∀ d, d ≤ l.length → ∀ F, InvF l (l.length - d) F → Ev (fun k => impl_EventsOK.l0 k l F (l.length - d)) (okR l d)
  | 0, _, F, _ => by
    refine ev_succ (fun k => ?_)
    simp only [impl_EventsOK.l0, Nat.sub_zero]
    rw [if_neg (by omega)]
    rfl
  | d + 1, hd, F, hF => by
    have ih := rest_impl hl d (by omega)
    rw [okR]
    obtain ⟨i, hi⟩ : ∃ i, i = l.length - (d + 1) := ⟨_, rfl⟩
    have hi1 : l.length - d = i + 1 := by omega
    rw [hi1] at ih
    rw [← hi] at hF ⊢
    have hil : i < l.length := by omega
    have hr : rd_T35 l (i : Int) = l[i] := getD_some (List.getElem?_eq_getElem hil)
    unfold okI
    rw [hr]
    refine Ev.step (f := fun k => (impl_isEvent.f k l[i].f0 l[i].f1 l[i].f2 l[i].f3 l[i].f4 l[i].f5).bind fun t => (if t = true then ((if 0 < i then impl_compareEvents.f k (rd_T35 l ((i : Int) - 1)).f0 (rd_T35 l ((i : Int) - 1)).f1 (rd_T35 l ((i : Int) - 1)).f2 (rd_T35 l ((i : Int) - 1)).f3 (rd_T35 l ((i : Int) - 1)).f4 (rd_T35 l ((i : Int) - 1)).f5 l[i].f0 l[i].f1 l[i].f2 l[i].f3 l[i].f4 l[i].f5 else some (-1)).bind fun c => (if c ≥ 0 then some false else (if F l[i].f0 ≥ l[i].f1 then some false else impl_EventsOK.l0 k l (upI F l[i].f0 l[i].f1) (i + 1)))) else some false)) (fun k => ?_) (ev_bind (ev_impl l[i]) ?_)
    · simp only [impl_EventsOK.l0, hr]
      rw [if_pos hil]
    · cases hv : evB l[i] with
      | false => exact ev_some _
      | true =>
        rw [Bool.true_and]
        have hin := evB_in hv
        have hcl := inv_clash hF hin.2.1.1
        have tail : Ev (fun k => if F l[i].f0 ≥ l[i].f1 then some false else impl_EventsOK.l0 k l (upI F l[i].f0 l[i].f1) (i + 1)) (!(l.take i).any (clB l[i]) && okR l d) := by
          by_cases h : F l[i].f0 ≥ l[i].f1
          · rw [hcl.1 h]
            exact ev_pos h (ev_some _)
          · rw [show (l.take i).any (clB l[i]) = false from Bool.eq_false_iff.2 (fun e => h (hcl.2 e))]
            exact ev_neg h (ev_eq (ih _ (inv_next hil hF h)) (by simp))
        by_cases h0 : i = 0
        · subst h0
          refine ev_pos rfl (ev_bind (ev_neg (by omega) (ev_some (-1))) (ev_neg (by omega) (ev_eq tail ?_)))
          simp
        · refine ev_pos rfl (ev_bind (ev_pos (by omega) (cmp_ev (rd_T35 l ((i : Int) - 1)) l[i])) ?_)
          rw [decide_eq_false h0, Bool.false_or]
          have hc := cmB_ah (rd_T35 l ((i : Int) - 1)) l[i]
          cases ha : ahB (rd_T35 l ((i : Int) - 1)) l[i] with
          | true => exact ev_neg (fun h => by rw [hc.1 h] at ha; cases ha) (ev_eq tail (by simp))
          | false => exact ev_pos (hc.2 ha) (ev_eq (ev_some false) (by simp))
theorem ok_impl (l : List Ew) : Ev (fun k => impl_EventsOK.f k l) (okB l) := by
  unfold impl_EventsOK.f okB
  by_cases h : l.length ≤ 120
  · have := rest_impl h l.length (Nat.le_refl _) (fun _ => 0) (by rw [Nat.sub_self]; exact fun x => ⟨fun y hy => by simp at hy, .inl rfl⟩)
    rw [Nat.sub_self] at this
    exact ev_neg (by omega) (ev_eq this (by rw [decide_eq_true h, Bool.true_and]))
  · exact ev_pos (by omega) (ev_eq (ev_some false) (by rw [decide_eq_false h, Bool.false_and]))
theorem okB_len {l : List Ew} (h : okB l = true) : l.length ≤ 120 := by
  unfold okB at h
  rw [Bool.and_eq_true] at h
  exact of_decide_eq_true h.1
end Go.Proofs.Ytoibmbkmpadmnaa.ZLedEiV
