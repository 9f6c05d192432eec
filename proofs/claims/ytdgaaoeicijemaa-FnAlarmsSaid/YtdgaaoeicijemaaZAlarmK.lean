/- Alarms: what the program's and the reference's come to. -/
import Derived.Test.YtdgaaoeicijemaaZTracK
namespace Go.Proofs.Ytdgaaoeicijemaa.ZAlarmK
open Go.RowKit Go.Proofs.Ytdgaaoeicijemaa.K Go.Proofs.Ytdgaaoeicijemaa.Lib Go.Proofs.Ytdgaaoeicijemaa.Flo Go.Proofs.Ytdgaaoeicijemaa.ZTracK Go.Proofs.YtdgaaoeicijemaaW.PrintWords Go.Proofs.YtdgaaoeicijemaaW.PrintLast Go.Proofs.YtdgaaoeicijemaaW.PrintMore

theorem l01In_eq (a b c : Int) : spec_l01In.f a b c = some (decide (b ≤ a ∧ a ≤ c)) := by
  unfold spec_l01In.f
  by_cases h : a ≥ b
  · rw [if_pos h]; simp [h]
  · rw [if_neg h]; simp; omega
theorem within_int (a b c : Int) : impl_within.f a b c = some (decide (b ≤ a ∧ a ≤ c)) := l01In_eq a b c
abbrev Al := S42
abbrev St := List Al × Bool × Int × Int
def run1 (hi : Nat) (x : Nat) (r : Int) : Int := if fGt .f64 x hi = true then wrap64 (r + 1) else 0
def nxt (hi lo : Nat) (hold : Int) (i : Int) (x : Nat) (s : St) : St :=
  if fEq .f64 x x = true then
    if s.2.1 = true then
      if fLe .f64 x lo = true then (s.1 ++ [⟨s.2.2.1, i⟩], false, s.2.2.1, 0) else (s.1, true, s.2.2.1, run1 hi x s.2.2.2)
    else if run1 hi x s.2.2.2 = hold then (s.1, true, i, run1 hi x s.2.2.2) else (s.1, false, s.2.2.1, run1 hi x s.2.2.2)
  else s
def step (hi lo : Nat) (hold : Int) (i : Int) (x : Nat) (s : St) : St ⊕ (List Al × Int) := .inl (nxt hi lo hold i x s)
def outI (n : Int) (s : St) : List Al := if s.2.1 = true then s.1 ++ [⟨s.2.2.1, n⟩] else s.1
def fin (n : Int) (s : St) : List Al × Int := (outI n s, 0)
def s0 : St := ([], false, 0, 0)
def okA (l : List Nat) (hi lo : Nat) (hold : Int) : Bool := traceB l && (inR hi && (inR lo && (!fGt .f64 lo hi && decide (1 ≤ hold ∧ hold ≤ 200))))
def alB (l : List Nat) (hi lo : Nat) (hold : Int) : List Al × Int :=
  if l.length > 4096 then ([], 2) else if okA l hi lo hold = true then run (step hi lo hold) (fin (l.length : Int)) l 0 s0 else ([], 1)
/-- What is above high isn't at most low. -/
theorem not_low {x hi lo : Nat} (hx : B Ieee.double 1084 x) (hh : B Ieee.double 1084 hi) (hl : B Ieee.double 1084 lo) (h1 : fGt .f64 lo hi = false) (h2 : fGt .f64 x hi = true) : fLe .f64 x lo = false := by
  have o1 := order_val hl hh
  have o2 := order_val hx hh
  have o3 := order_val hx hl
  have e1 : fGt .f64 lo hi = (Ieee.double.order lo hi == some .gt) := rfl
  have e2 : fGt .f64 x hi = (Ieee.double.order x hi == some .gt) := rfl
  have e3 : fLe .f64 x lo = (Ieee.double.order x lo == some .lt || Ieee.double.order x lo == some .eq) := rfl
  rw [e1, o1] at h1
  rw [e2, o2] at h2
  rw [e3, o3]
  generalize val Ieee.double x = a at h2 ⊢
  generalize val Ieee.double hi = b at h1 h2
  generalize val Ieee.double lo = c at h1 ⊢
  have hd : ∀ a b : Int, compare a b = if a < b then Ordering.lt else if a = b then .eq else .gt := fun a b => rfl
  rw [hd] at h1 h2 ⊢
  have g2 : b < a := by
    rcases Int.lt_or_le b a with h | h
    · exact h
    · exfalso
      rcases Int.lt_or_le a b with h3 | h3
      · rw [if_pos h3] at h2; cases h2
      · rw [if_neg (by omega), if_pos (by omega)] at h2; cases h2
  have g1 : c ≤ b := by
    rcases Int.lt_or_le b c with h | h
    · rw [if_neg (by omega), if_neg (by omega)] at h1; cases h1
    · exact h
  rw [if_neg (by omega), if_neg (by omega)]
  rfl
def Inv (i : Nat) (s : St) : Prop := s.1.length ≤ i
theorem inv_nxt {hi lo x : Nat} {hold j : Int} {i : Nat} {s : St} (h : Inv i s) : Inv (i + 1) (nxt hi lo hold j x s) := by
  unfold Inv at h ⊢
  unfold nxt
  split
  · split
    · split
      · rw [List.length_append]; simp only [List.length_cons, List.length_nil]; omega
      · show s.1.length ≤ i + 1; omega
    · split
      · show s.1.length ≤ i + 1; omega
      · show s.1.length ≤ i + 1; omega
  · omega
theorem al_spec (l : List Nat) (hi lo : Nat) (hold : Int) (hl : l.length ≤ maxLen) : Ev (fun k => spec_Alarms.f k l hi lo hold) (alB l hi lo hold) := by
  unfold spec_Alarms.f alB
  by_cases h0 : l.length > 4096
  · rw [if_pos h0]; exact ev_pos (by omega) (ev_some _)
  · rw [if_neg h0]
    refine ev_neg (by omega) (ev_bind (trace_spec l hl) ?_)
    have bad : ∀ b, b = true → Ev (fun k => spec_Alarms.j0 k l hi lo hold b) ([], 1) := fun b hb => ev_succ (fun k => by rw [hb]; simp [spec_Alarms.j0])
    unfold okA
    by_cases h1 : traceB l = true
    · rw [h1, Bool.true_and]
      refine ev_pos rfl ?_
      simp only [within_eq, Option.bind_some]
      by_cases h2 : inR hi = true
      · rw [h2, Bool.true_and]
        refine ev_pos h2 ?_
        by_cases h3 : inR lo = true
        · rw [h3, Bool.true_and]
          refine ev_pos h3 ?_
          by_cases h4 : fGt .f64 lo hi = true
          · rw [h4, Bool.not_true, Bool.false_and, if_neg (by decide)]
            exact ev_pos rfl (bad true rfl)
          · have h4' := Bool.eq_false_iff.2 h4
            rw [h4', Bool.not_false, Bool.true_and]
            refine ev_neg (by decide) ?_
            simp only [l01In_eq, Option.bind_some]
            by_cases h5 : 1 ≤ hold ∧ hold ≤ 200
            · rw [decide_eq_true h5, if_pos rfl]
              refine Ev.step (f := fun k => spec_Alarms.l0 k l hi lo hold [] false 0 0 0) (fun k => by simp [spec_Alarms.j0]) ?_
              have h200 := trace_len h1
              refine run_ev l (step hi lo hold) (fin (l.length : Int)) (fun k i s => spec_Alarms.l0 k l hi lo hold s.1 s.2.1 s.2.2.1 s.2.2.2 i) Inv (fun i x s hx hs => ⟨fun s' hst => ?_, fun r hr => by cases hr⟩) (fun s hs => ?_) s0 (Nat.le_refl _)
              · have hi' := some_lt hx
                have hr : rdOf (0 : Nat) l (i : Int) = x := getD_some hx
                have hb := trace_mem h1 x (List.mem_of_getElem? hx)
                have hsl : s.1.length < 8796093022208 := by unfold Inv at hs; omega
                cases hst
                refine ⟨inv_nxt hs, fun r hE => ?_⟩
                by_cases h6 : fEq .f64 x x = true
                · have hx1 := hb h6
                  refine Ev.step (f := fun k => spec_Alarms.j2 k l hi lo hold s.1 s.2.1 s.2.2.1 (run1 hi x s.2.2.2) (i : Int) x) (fun k => ?_) ?_
                  · simp only [spec_Alarms.l0, hr, spec_l22There.f, Option.bind_some]
                    rw [if_pos (ilt hi'), if_pos (ige _), if_pos h6]
                    unfold run1
                    by_cases h7 : fGt .f64 x hi = true
                    · rw [if_pos h7, if_pos h7]
                    · rw [if_neg h7, if_neg h7]
                  · by_cases h7 : s.2.1 = true
                    · refine Ev.step (f := fun k => spec_Alarms.j3 k l hi lo hold s.1 s.2.1 s.2.2.1 (run1 hi x s.2.2.2) (i : Int) x false) (fun k => by simp [spec_Alarms.j2, h7]) ?_
                      by_cases h8 : fLe .f64 x lo = true
                      · have hn : nxt hi lo hold (i : Int) x s = (s.1 ++ [⟨s.2.2.1, (i : Int)⟩], false, s.2.2.1, 0) := by unfold nxt; rw [if_pos h6, if_pos h7, if_pos h8]
                        rw [hn] at hE
                        refine Ev.step (fun k => ?_) hE
                        simp only [spec_Alarms.j3]
                        rw [if_neg (by decide), if_pos h7, if_pos h8, if_pos hsl, wrap_succ hi' hl]
                        rfl
                      · have hn : nxt hi lo hold (i : Int) x s = (s.1, true, s.2.2.1, run1 hi x s.2.2.2) := by unfold nxt; rw [if_pos h6, if_pos h7, if_neg h8]
                        rw [hn] at hE
                        refine Ev.step (fun k => ?_) hE
                        simp only [spec_Alarms.j3]
                        rw [if_neg (by decide), if_pos h7, if_neg h8, wrap_succ hi' hl, h7]
                        rfl
                    · refine Ev.step (f := fun k => spec_Alarms.j3 k l hi lo hold s.1 s.2.1 s.2.2.1 (run1 hi x s.2.2.2) (i : Int) x (run1 hi x s.2.2.2 == hold)) (fun k => by simp [spec_Alarms.j2, h7]) ?_
                      by_cases h8 : run1 hi x s.2.2.2 = hold
                      · have h9 : fGt .f64 x hi = true := by
                          by_cases hc : fGt .f64 x hi = true
                          · exact hc
                          · unfold run1 at h8; rw [if_neg hc] at h8; omega
                        have h10 := not_low hx1 (inR_bd h2) (inR_bd h3) h4' h9
                        have hn : nxt hi lo hold (i : Int) x s = (s.1, true, (i : Int), run1 hi x s.2.2.2) := by unfold nxt; rw [if_pos h6, if_neg h7, if_pos h8]
                        rw [hn] at hE
                        refine Ev.step (fun k => ?_) hE
                        simp only [spec_Alarms.j3, h8, beq_self_eq_true, h10]
                        rw [if_pos trivial, if_neg (by decide), wrap_succ hi' hl]
                        rfl
                      · have hn : nxt hi lo hold (i : Int) x s = (s.1, false, s.2.2.1, run1 hi x s.2.2.2) := by unfold nxt; rw [if_pos h6, if_neg h7, if_neg h8]
                        rw [hn] at hE
                        refine Ev.step (fun k => ?_) hE
                        simp only [spec_Alarms.j3]
                        rw [if_neg (by simpa using h8), if_neg h7, wrap_succ hi' hl, Bool.eq_false_iff.2 h7]
                        rfl
                · have hn : nxt hi lo hold (i : Int) x s = s := by unfold nxt; rw [if_neg h6]
                  rw [hn] at hE
                  refine Ev.step (fun k => ?_) hE
                  simp only [spec_Alarms.l0, hr, spec_l22There.f, Option.bind_some]
                  rw [if_pos (ilt hi'), if_pos (ige _), if_neg h6, wrap_succ hi' hl]
                  rfl
              · have hsl : s.1.length < 8796093022208 := by unfold Inv at hs; omega
                refine ev_succ (fun k => ?_)
                simp only [spec_Alarms.l0]
                rw [if_neg (by omega)]
                unfold fin outI
                by_cases h7 : s.2.1 = true
                · rw [if_pos h7, if_pos hsl, if_pos h7]
                · rw [if_neg h7, if_neg h7]
            · rw [decide_eq_false h5, if_neg (by decide)]
              exact bad _ rfl
        · rw [Bool.eq_false_iff.2 h3, Bool.false_and, if_neg (by decide)]
          exact ev_neg h3 (bad true rfl)
      · rw [Bool.eq_false_iff.2 h2, Bool.false_and, if_neg (by decide)]
        exact ev_neg h2 (bad true rfl)
    · rw [Bool.eq_false_iff.2 h1, Bool.false_and, if_neg (by decide)]
      exact ev_neg (by decide) (bad true rfl)
theorem al_impl (l : List Nat) (hi lo : Nat) (hold : Int) (hl : l.length ≤ maxLen) : Ev (fun k => impl_Alarms.f k l hi lo hold) (alB l hi lo hold) := by
  unfold impl_Alarms.f alB
  simp only [impl_isList_float64.f, Option.bind_some, decide_eq_true_eq]
  by_cases h0 : l.length > 4096
  · rw [if_pos h0]; exact ev_neg (by omega) (ev_some _)
  · rw [if_neg h0]
    refine ev_pos (by omega) (ev_bind (trace_impl l hl) ?_)
    unfold okA
    by_cases h1 : traceB l = true
    · rw [h1, Bool.true_and]
      refine ev_pos rfl ?_
      simp only [reading_eq, Option.bind_some]
      by_cases h2 : inR hi = true
      · rw [h2, Bool.true_and]
        refine ev_pos rfl ?_
        by_cases h3 : inR lo = true
        · rw [h3, Bool.true_and]
          refine ev_pos rfl ?_
          by_cases h4 : fGt .f64 lo hi = true
          · rw [h4, Bool.not_true, Bool.false_and, if_neg (by decide)]
            exact ev_pos rfl (ev_some _)
          · have h4' := Bool.eq_false_iff.2 h4
            rw [h4', Bool.not_false, Bool.true_and]
            refine ev_neg (by decide) ?_
            simp only [within_int, Option.bind_some]
            by_cases h5 : 1 ≤ hold ∧ hold ≤ 200
            · rw [decide_eq_true h5, if_pos rfl]
              refine ev_pos rfl ?_
              have h200 := trace_len h1
              have key : ∀ (s : St) (r' : Int), Inv 0 s → (s.2.1 = false → r' = s.2.2.2) → Ev (fun k => impl_Alarms.l0 k l hi lo hold (outI (l.length : Int) s) r' s.2.1 l (l.length : Int) ((0 : Nat) : Int)) (run (step hi lo hold) (fin (l.length : Int)) (l.drop 0) ((0 : Nat) : Int) s) := by
                refine down_list l (P := fun i => ∀ (s : St) (r' : Int), Inv i s → (s.2.1 = false → r' = s.2.2.2) → Ev (fun k => impl_Alarms.l0 k l hi lo hold (outI (l.length : Int) s) r' s.2.1 l (l.length : Int) (i : Int)) (run (step hi lo hold) (fin (l.length : Int)) (l.drop i) (i : Int) s)) ?_ ?_
                · intro s r' _ _
                  rw [List.drop_length]
                  refine ev_succ (fun k => ?_)
                  simp only [impl_Alarms.l0, run]
                  rw [if_neg (by omega)]; rfl
                · intro i x hx hd ih s r' hs hrel
                  have hi' := some_lt hx
                  have hr : rdOf (0 : Nat) l (i : Int) = x := getD_some hx
                  have hb := trace_mem h1 x (List.mem_of_getElem? hx)
                  have hsl : s.1.length < 8796093022208 := by unfold Inv at hs; omega
                  rw [hd]
                  simp only [run, step]
                  rw [show ((i : Int) + 1) = ((i + 1 : Nat) : Int) by omega]
                  have ih' := ih (nxt hi lo hold (i : Int) x s)
                  by_cases h6 : fEq .f64 x x = true
                  · by_cases h7 : s.2.1 = true
                    · by_cases h8 : fLe .f64 x lo = true
                      · have hn : nxt hi lo hold (i : Int) x s = (s.1 ++ [⟨s.2.2.1, (i : Int)⟩], false, s.2.2.1, 0) := by unfold nxt; rw [if_pos h6, if_pos h7, if_pos h8]
                        refine Ev.step (fun k => ?_) (ih' 0 (inv_nxt hs) (fun _ => by rw [hn]))
                        rw [hn]
                        have ho : outI (l.length : Int) s = s.1 ++ [⟨s.2.2.1, (l.length : Int)⟩] := by unfold outI; rw [if_pos h7]
                        have hlen : (outI (l.length : Int) s).length = s.1.length + 1 := by rw [ho]; simp
                        have hw : wrap64 (((outI (l.length : Int) s).length : Int) - 1) = (s.1.length : Int) := by rw [hlen, w64 (by omega) (by omega)]; omega
                        have hrd : rd_T42 (outI (l.length : Int) s) (s.1.length : Int) = ⟨s.2.2.1, (l.length : Int)⟩ := getD_some (by rw [ho]; simp)
                        simp only [impl_Alarms.l0, hr, impl_isMissing.f, ne_not_eq, h6, Option.bind_some, hw, hrd]
                        rw [if_pos (ilt hi'), if_pos (ige _), if_pos (ilt hi'), if_neg (by decide), if_pos h7, if_pos h8, if_pos (ige _), if_pos (by omega), wrap_succ hi' hl, ho, Int.toNat_natCast]
                        have hset : (s.1 ++ [(⟨s.2.2.1, (l.length : Int)⟩ : Al)]).set s.1.length ⟨s.2.2.1, (i : Int)⟩ = s.1 ++ [⟨s.2.2.1, (i : Int)⟩] := by simp
                        rw [hset]
                        rfl
                      · have hn : nxt hi lo hold (i : Int) x s = (s.1, true, s.2.2.1, run1 hi x s.2.2.2) := by unfold nxt; rw [if_pos h6, if_pos h7, if_neg h8]
                        refine Ev.step (fun k => ?_) (ih' r' (inv_nxt hs) (fun h => by rw [hn] at h; cases h))
                        rw [hn]
                        simp only [impl_Alarms.l0, hr, impl_isMissing.f, ne_not_eq, h6, Option.bind_some]
                        rw [if_pos (ilt hi'), if_pos (ige _), if_pos (ilt hi'), if_neg (by decide), if_pos h7, if_neg h8, wrap_succ hi' hl, h7]
                        unfold outI
                        rw [if_pos h7]
                        rfl
                    · have h7' := Bool.eq_false_iff.2 h7
                      have hrr := hrel h7'
                      subst hrr
                      have ho : outI (l.length : Int) s = s.1 := by unfold outI; rw [if_neg h7]
                      by_cases h9 : fGt .f64 x hi = true
                      · have hr1 : run1 hi x s.2.2.2 = wrap64 (s.2.2.2 + 1) := by unfold run1; rw [if_pos h9]
                        by_cases h8 : wrap64 (s.2.2.2 + 1) = hold
                        · have hn : nxt hi lo hold (i : Int) x s = (s.1, true, (i : Int), run1 hi x s.2.2.2) := by unfold nxt; rw [if_pos h6, if_neg h7, if_pos (by rw [hr1]; exact h8)]
                          refine Ev.step (fun k => ?_) (ih' (wrap64 (s.2.2.2 + 1)) (inv_nxt hs) (fun h => by rw [hn] at h; cases h))
                          rw [hn, ho]
                          simp only [impl_Alarms.l0, hr, impl_isMissing.f, ne_not_eq, h6, Option.bind_some]
                          rw [if_pos (ilt hi'), if_pos (ige _), if_pos (ilt hi'), if_neg (by decide), if_neg h7, if_pos h9, if_pos h8, if_pos hsl, wrap_succ hi' hl]
                          unfold outI
                          rw [if_pos rfl]
                        · have hn : nxt hi lo hold (i : Int) x s = (s.1, false, s.2.2.1, run1 hi x s.2.2.2) := by unfold nxt; rw [if_pos h6, if_neg h7, if_neg (by rw [hr1]; exact h8)]
                          refine Ev.step (fun k => ?_) (ih' (wrap64 (s.2.2.2 + 1)) (inv_nxt hs) (fun _ => by rw [hn, hr1]))
                          rw [hn, ho]
                          simp only [impl_Alarms.l0, hr, impl_isMissing.f, ne_not_eq, h6, Option.bind_some]
                          rw [if_pos (ilt hi'), if_pos (ige _), if_pos (ilt hi'), if_neg (by decide), if_neg h7, if_pos h9, if_neg h8, wrap_succ hi' hl, h7']
                          rfl
                      · have hr1 : run1 hi x s.2.2.2 = 0 := by unfold run1; rw [if_neg h9]
                        have hn : nxt hi lo hold (i : Int) x s = (s.1, false, s.2.2.1, run1 hi x s.2.2.2) := by unfold nxt; rw [if_pos h6, if_neg h7, if_neg (by rw [hr1]; omega)]
                        refine Ev.step (fun k => ?_) (ih' 0 (inv_nxt hs) (fun _ => by rw [hn, hr1]))
                        rw [hn, ho]
                        simp only [impl_Alarms.l0, hr, impl_isMissing.f, ne_not_eq, h6, Option.bind_some]
                        rw [if_pos (ilt hi'), if_pos (ige _), if_pos (ilt hi'), if_neg (by decide), if_neg h7, if_neg h9, wrap_succ hi' hl, h7']
                        rfl
                  · have hn : nxt hi lo hold (i : Int) x s = s := by unfold nxt; rw [if_neg h6]
                    refine Ev.step (fun k => ?_) (ih' r' (inv_nxt hs) (fun h => by rw [hn] at h ⊢; exact hrel h))
                    rw [hn]
                    simp only [impl_Alarms.l0, hr, impl_isMissing.f, ne_not_eq, Bool.eq_false_iff.2 h6, Option.bind_some]
                    rw [if_pos (ilt hi'), if_pos (ige _), if_pos (ilt hi'), if_pos (by decide), wrap_succ hi' hl]
              have := key s0 0 (Nat.le_refl _) (fun _ => rfl)
              rw [List.drop_zero] at this
              exact this
            · rw [decide_eq_false h5, if_neg (by decide)]
              exact ev_neg (by decide) (ev_some _)
        · rw [Bool.eq_false_iff.2 h3, Bool.false_and, if_neg (by decide)]
          exact ev_neg (by decide) (ev_some _)
      · rw [Bool.eq_false_iff.2 h2, Bool.false_and, if_neg (by decide)]
        exact ev_neg (by decide) (ev_some _)
    · rw [Bool.eq_false_iff.2 h1, Bool.false_and, if_neg (by decide)]
      exact ev_neg (by decide) (ev_some _)
end Go.Proofs.Ytdgaaoeicijemaa.ZAlarmK
