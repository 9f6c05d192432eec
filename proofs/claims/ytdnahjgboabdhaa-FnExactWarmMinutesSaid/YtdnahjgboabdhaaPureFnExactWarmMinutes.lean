/- The statement of FnExactWarmMinutes as plain Lean. -/
import Derived.Test.YtdnahjgboabdhaaZTraceM
namespace Go.Proofs.Ytdnahjgboabdhaa.Pure
open Go.RowKit Go.Proofs.Ytdnahjgboabdhaa.M Go.Proofs.Ytdnahjgboabdhaa.Lib Go.Proofs.Ytdnahjgboabdhaa.Flo Go.Proofs.Ytdnahjgboabdhaa.ZSameM Go.Proofs.Ytdnahjgboabdhaa.ZTraceM Go.Proofs.YtdnahjgboabdhaaW.PrintWords Go.Proofs.YtdnahjgboabdhaaW.PrintLast Go.Proofs.YtdnahjgboabdhaaW.PrintMore

theorem read_one : Ieee.single.read 1065353216 = .number false 8388608 (Ieee.single.leastPlace + ((126 : Nat) : Int)) := by decide
theorem read_four : Ieee.single.read 1082130432 = .number false 8388608 (Ieee.single.leastPlace + ((128 : Nat) : Int)) := by decide
def okS (x : Nat) : Bool := fGe .f32 x 1065353216 && fLe .f32 x 1082130432
theorem okS_bd {x : Nat} (h : okS x = true) : B Ieee.single 151 x := by
  unfold okS at h
  rw [Bool.and_eq_true] at h
  exact B.range read_one read_four (c := 23) (by decide) (by decide) (by decide) (by decide) (ge_or h.1) (le_or h.2)
/-- What one reading adds. -/
def part (lim stp x : Nat) : Nat := (((floatBits .sub .f64 x lim).bind fun a => (floatToFloatBits .f64 a .f32).bind fun b => floatBits .mul .f32 b stp)).getD 0
theorem part_eq {lim stp x : Nat} (hl : B Ieee.double 1084 lim) (hs : B Ieee.single 151 stp) (hx : B Ieee.double 1084 x) :
    ∃ a b, floatBits .sub .f64 x lim = some a ∧ floatToFloatBits .f64 a .f32 = some b ∧ floatBits .mul .f32 b stp = some (part lim stp x) ∧ B Ieee.single 162 (part lim stp x) := by
  obtain ⟨a, ha, hab⟩ := B.sub hx hl (by decide) (by decide)
  obtain ⟨b, hb, hbb⟩ := B.narrow (p := 160) hab (by decide) (by decide)
  obtain ⟨c, hc, hcb⟩ := B.mul (t := 162) hbb hs (by decide) (by decide) (by decide) (by decide)
  have ha' : floatBits .sub .f64 x lim = some a := ha
  have hc' : floatBits .mul .f32 b stp = some c := hc
  have hp : part lim stp x = c := by unfold part; rw [ha']; simp only [Option.bind_some]; rw [hb]; simp only [Option.bind_some]; rw [hc']; rfl
  exact ⟨a, b, ha', hb, by rw [hp]; exact hc', by rw [hp]; exact hcb⟩
def step (lim stp : Nat) (_ : Int) (x : Nat) (s : Nat) : Nat ⊕ (Nat × Int) :=
  .inl (if fEq .f64 x x = true then (if fLe .f64 x lim = true then s else (floatBits .add .f32 s (part lim stp x)).getD 0) else s)
def fin (s : Nat) : Nat × Int := (s, 0)
def warmB (l : List Nat) (lim stp : Nat) : Nat × Int :=
  if l.length > 4096 then (0, 2) else if (traceB l && (inR lim && okS stp)) = true then run (step lim stp) fin l 0 0 else (0, 1)
theorem zero_nn : NN Ieee.single 0 := by
  have h : Ieee.single.read 0 = .number false 0 (Ieee.single.leastPlace + ((0 : Nat) : Int)) := by decide
  intro s t hc; rw [h] at hc; cases hc
theorem warm_spec (l : List Nat) (lim stp : Nat) (hl : l.length ≤ maxLen) : Ev (fun k => spec_WarmMinutes.f k l lim stp) (warmB l lim stp) := by
  unfold spec_WarmMinutes.f warmB
  by_cases h0 : l.length > 4096
  · simp only [if_pos h0]; exact ev_pos (by omega) (ev_some _)
  · simp only [if_neg h0]
    refine ev_neg (by omega) (ev_bind (trace_spec l hl) ?_)
    by_cases h1 : traceB l = true
    · rw [h1, Bool.true_and]
      refine ev_pos rfl ?_
      simp only [within_eq, Option.bind_some]
      by_cases h2 : inR lim = true
      · have h2' : (fGe .f64 lim 13875379345695965184 && fLe .f64 lim 4652007308841189376) = true := h2
        rw [h2, Bool.true_and]
        refine ev_pos h2' ?_
        by_cases h3 : okS stp = true
        · have h3' : fGe .f32 stp 1065353216 = true ∧ fLe .f32 stp 1082130432 = true := by unfold okS at h3; simpa using h3
          rw [h3, if_pos rfl]
          refine ev_pos h3'.1 (Ev.step (f := fun k => spec_WarmMinutes.l0 k l lim stp 0 0) (fun k => by simp [spec_WarmMinutes.j0, h3'.2]) ?_)
          refine run_ev l (step lim stp) fin (fun k i s => spec_WarmMinutes.l0 k l lim stp s i) (fun _ s => NN Ieee.single s) (fun i x s hx hs => ⟨fun s' hst => ?_, fun r hr => by cases hr⟩) (fun s _ => ?_) 0 zero_nn
          · have hi := some_lt hx
            have hr : rdOf (0 : Nat) l (i : Int) = x := getD_some hx
            have hmem := List.mem_of_getElem? hx
            cases hst
            by_cases h4 : fEq .f64 x x = true
            · have hxb := trace_mem h1 x hmem h4
              by_cases h5 : fLe .f64 x lim = true
              · refine ⟨by rw [if_pos h4, if_pos h5]; exact hs, fun r hE => Ev.step (fun k => ?_) hE⟩
                simp only [spec_WarmMinutes.l0, hr, spec_l22There.f, Option.bind_some]
                rw [if_pos (ilt hi), if_pos (ige _), if_pos h4, if_pos h5, if_pos h4, if_pos h5, wrap_succ hi hl]
                rfl
              · obtain ⟨a, b, e1, e2, e3, e4⟩ := part_eq (inR_bd h2) (okS_bd h3) hxb
                obtain ⟨c, e5, e6⟩ := B.addNN hs e4
                have e5' : floatBits .add .f32 s (part lim stp x) = some c := e5
                refine ⟨by rw [if_pos h4, if_neg h5, e5']; exact e6, fun r hE => Ev.step (fun k => ?_) hE⟩
                simp only [spec_WarmMinutes.l0, hr, spec_l22There.f, Option.bind_some, e1, e2, e3, e5']
                rw [if_pos (ilt hi), if_pos (ige _), if_pos h4, if_neg h5, if_pos h4, if_neg h5, wrap_succ hi hl]
                rfl
            · refine ⟨by rw [if_neg h4]; exact hs, fun r hE => Ev.step (fun k => ?_) hE⟩
              simp only [spec_WarmMinutes.l0, hr, spec_l22There.f, Option.bind_some]
              rw [if_pos (ilt hi), if_pos (ige _), if_neg h4, if_neg h4, wrap_succ hi hl]
              rfl
          · refine ev_succ (fun k => ?_)
            simp only [spec_WarmMinutes.l0]
            rw [if_neg (by omega)]; rfl
        · rw [if_neg h3]
          by_cases h4 : fGe .f32 stp 1065353216 = true
          · refine ev_pos h4 (ev_succ (fun k => ?_))
            have h5 : fLe .f32 stp 1082130432 = false := by
              unfold okS at h3; rw [h4, Bool.true_and] at h3; simpa using h3
            simp [spec_WarmMinutes.j0, h5]
          · refine ev_neg h4 (ev_succ (fun k => ?_))
            simp [spec_WarmMinutes.j0]
      · have h2' : ¬ (fGe .f64 lim 13875379345695965184 && fLe .f64 lim 4652007308841189376) = true := h2
        rw [Bool.eq_false_iff.2 h2, Bool.false_and]
        refine ev_neg h2' (ev_succ (fun k => ?_))
        simp [spec_WarmMinutes.j0]
    · rw [Bool.eq_false_iff.2 h1, Bool.false_and]
      refine ev_neg (by decide) (ev_succ (fun k => ?_))
      simp [spec_WarmMinutes.j0]
theorem warm_impl (l : List Nat) (lim stp : Nat) (hl : l.length ≤ maxLen) : Ev (fun k => impl_WarmMinutes.f k l lim stp) (warmB l lim stp) := by
  unfold impl_WarmMinutes.f warmB
  simp only [impl_isList_float64.f, Option.bind_some, decide_eq_true_eq]
  by_cases h0 : l.length > 4096
  · simp only [if_pos h0]; exact ev_neg (by omega) (ev_some _)
  · simp only [if_neg h0]
    refine ev_pos (by omega) (ev_bind (trace_impl l hl) ?_)
    by_cases h1 : traceB l = true
    · rw [h1, Bool.true_and]
      refine ev_pos rfl ?_
      simp only [reading_eq, Option.bind_some]
      by_cases h2 : inR lim = true
      · rw [h2, Bool.true_and]
        refine ev_pos rfl ?_
        by_cases h3 : okS stp = true
        · have h3' : fGe .f32 stp 1065353216 = true ∧ fLe .f32 stp 1082130432 = true := by unfold okS at h3; simpa using h3
          rw [h3, if_pos rfl]
          refine ev_pos h3'.1 (ev_pos h3'.2 ?_)
          refine run_ev l (step lim stp) fin (fun k i s => impl_WarmMinutes.l0 k lim stp s l (l.length : Int) i) (fun _ s => NN Ieee.single s) (fun i x s hx hs => ⟨fun s' hst => ?_, fun r hr => by cases hr⟩) (fun s _ => ?_) 0 zero_nn
          · have hi := some_lt hx
            have hr : rdOf (0 : Nat) l (i : Int) = x := getD_some hx
            have hmem := List.mem_of_getElem? hx
            cases hst
            by_cases h4 : fEq .f64 x x = true
            · have hxb := trace_mem h1 x hmem h4
              have hg : fGt .f64 x lim = !fLe .f64 x lim := gt_not_le hxb.nn (inR_bd h2).nn
              by_cases h5 : fLe .f64 x lim = true
              · refine ⟨by rw [if_pos h4, if_pos h5]; exact hs, fun r hE => Ev.step (fun k => ?_) hE⟩
                simp only [impl_WarmMinutes.l0, hr, hg]
                rw [if_pos (ilt hi), if_pos (ige _), if_pos (ilt hi), if_neg (by rw [h5]; decide), if_pos h4, if_pos h5, wrap_succ hi hl]
                rfl
              · obtain ⟨a, b, e1, e2, e3, e4⟩ := part_eq (inR_bd h2) (okS_bd h3) hxb
                obtain ⟨c, e5, e6⟩ := B.addNN hs e4
                have e5' : floatBits .add .f32 s (part lim stp x) = some c := e5
                refine ⟨by rw [if_pos h4, if_neg h5, e5']; exact e6, fun r hE => Ev.step (fun k => ?_) hE⟩
                simp only [impl_WarmMinutes.l0, hr, hg, Option.bind_some, e1, e2, e3, e5']
                rw [if_pos (ilt hi), if_pos (ige _), if_pos (ilt hi), if_pos (by simpa using h5), if_pos h4, if_neg h5, wrap_succ hi hl]
                rfl
            · refine ⟨by rw [if_neg h4]; exact hs, fun r hE => Ev.step (fun k => ?_) hE⟩
              have hg : fGt .f64 x lim = false := nan_gt h4
              simp only [impl_WarmMinutes.l0, hr, hg]
              rw [if_pos (ilt hi), if_pos (ige _), if_pos (ilt hi), if_neg (by decide), if_neg h4, wrap_succ hi hl]
              rfl
          · refine ev_succ (fun k => ?_)
            simp only [impl_WarmMinutes.l0]
            rw [if_neg (by omega)]; rfl
        · rw [if_neg h3]
          by_cases h4 : fGe .f32 stp 1065353216 = true
          · refine ev_pos h4 (ev_neg ?_ (ev_some _))
            unfold okS at h3; rw [h4, Bool.true_and] at h3; exact h3
          · exact ev_neg h4 (ev_some _)
      · rw [Bool.eq_false_iff.2 h2, Bool.false_and]
        exact ev_neg (by decide) (ev_some _)
    · rw [Bool.eq_false_iff.2 h1, Bool.false_and]
      exact ev_neg (by decide) (ev_some _)
theorem run_nn {lim stp : Nat} (hs : B Ieee.single 151 stp) (hl : B Ieee.double 1084 lim) : ∀ (l : List Nat) (i : Int) (s : Nat), (∀ x ∈ l, fEq .f64 x x = true → B Ieee.double 1084 x) → NN Ieee.single s → NN Ieee.single (run (step lim stp) fin l i s).1
  | [], _, s, _, h => h
  | x :: l, i, s, hx, h => by
    unfold run
    simp only [step]
    refine run_nn hs hl l _ _ (fun y hy => hx y (List.mem_cons_of_mem _ hy)) ?_
    by_cases h4 : fEq .f64 x x = true
    · rw [if_pos h4]
      by_cases h5 : fLe .f64 x lim = true
      · rw [if_pos h5]; exact h
      · rw [if_neg h5]
        obtain ⟨a, b, e1, e2, e3, e4⟩ := part_eq hl hs (hx x (List.mem_cons_self ..) h4)
        obtain ⟨c, e5, e6⟩ := B.addNN h e4
        have e5' : floatBits .add .f32 s (part lim stp x) = some c := e5
        rw [e5']; exact e6
    · rw [if_neg h4]; exact h
theorem warm_nn (l : List Nat) (lim stp : Nat) : NN Ieee.single (warmB l lim stp).1 := by
  unfold warmB
  split
  · exact zero_nn
  · split
    · rename_i h
      rw [Bool.and_eq_true, Bool.and_eq_true] at h
      exact run_nn (okS_bd h.2.2) (inR_bd h.2.1) l 0 0 (trace_mem h.1) zero_nn
    · exact zero_nn
theorem FnExactWarmMinutes : laws_FnExactWarmMinutes.Pure := by
  intro l0 a1 a2 ⟨hl, _⟩ _ _
  refine Ev.rounds ?_
  unfold laws_FnExactWarmMinutes.f
  by_cases h0 : (l0.length : Int) > 1048576
  · exact ev_pos h0 (ev_some _)
  · refine ev_neg h0 ?_
    have ht := to_floats l0 (by omega)
    obtain ⟨r, hr⟩ := widen (warm_nn l0 a1 a2)
    refine ev_bind ht (ev_bind (warm_spec l0 a1 a2 hl) (ev_bind ht (ev_bind (warm_impl l0 a1 a2 hl) ?_)))
    simp only [hr, Option.bind_some]
    refine ev_bind (same_ev r) (ev_pos rfl ?_)
    refine Ev.step (f := fun k => (laws_toFloat64S.f k l0).bind fun t => (laws_eqFloat64S.f k l0 t).bind fun t => if t = true then some true else some false) (fun k => ?_) (ev_bind ht (ev_bind (eq_floats l0 hl) (ev_eq (ev_some true) rfl)))
    simp [laws_FnExactWarmMinutes.j0]
end Go.Proofs.Ytdnahjgboabdhaa.Pure
