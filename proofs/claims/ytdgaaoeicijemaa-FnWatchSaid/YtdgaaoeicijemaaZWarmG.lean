/- Warm minutes: what the program's come to. -/
import Derived.Test.YtdgaaoeicijemaaZTracG
namespace Go.Proofs.Ytdgaaoeicijemaa.ZWarmG
open Go.RowKit Go.Proofs.Ytdgaaoeicijemaa.G Go.Proofs.Ytdgaaoeicijemaa.Lib Go.Proofs.Ytdgaaoeicijemaa.Flo Go.Proofs.Ytdgaaoeicijemaa.ZTracG Go.Proofs.YtdgaaoeicijemaaW.PrintWords Go.Proofs.YtdgaaoeicijemaaW.PrintLast Go.Proofs.YtdgaaoeicijemaaW.PrintMore

theorem read_one : Ieee.single.read 1065353216 = .number false 8388608 (Ieee.single.leastPlace + ((126 : Nat) : Int)) := by decide
theorem read_four : Ieee.single.read 1082130432 = .number false 8388608 (Ieee.single.leastPlace + ((128 : Nat) : Int)) := by decide
def okS (x : Nat) : Bool := fGe .f32 x 1065353216 && fLe .f32 x 1082130432
theorem okS_bd {x : Nat} (h : okS x = true) : B Ieee.single 151 x := by
  unfold okS at h
  rw [Bool.and_eq_true] at h
  exact B.range read_one read_four (c := 23) (by decide) (by decide) (by decide) (by decide) (ge_or h.1) (le_or h.2)
/-- What one reading adds. -/
def part (lim stp x : Nat) : Nat := (((floatBits .sub .f64 x lim).bind fun a => (floatToFloatBits .f64 a .f32).bind fun b => floatBits .mul .f32 b stp)).getD 0
theorem part_eq {lim stp x : Nat} (hl : B Ieee.double 1084 lim) (hs : B Ieee.single 151 stp) (hx : B Ieee.double 1084 x) :
    ∃ a b, floatBits .sub .f64 x lim = some a ∧ floatToFloatBits .f64 a .f32 = some b ∧ floatBits .mul .f32 b stp = some (part lim stp x) ∧ B Ieee.single 162 (part lim stp x) := by
  obtain ⟨a, ha, hab⟩ := B.sub hx hl (by decide) (by decide)
  obtain ⟨b, hb, hbb⟩ := B.narrow (p := 160) hab (by decide) (by decide)
  obtain ⟨c, hc, hcb⟩ := B.mul (t := 162) hbb hs (by decide) (by decide) (by decide) (by decide)
  have ha' : floatBits .sub .f64 x lim = some a := ha
  have hc' : floatBits .mul .f32 b stp = some c := hc
  have hp : part lim stp x = c := by unfold part; rw [ha']; simp only [Option.bind_some]; rw [hb]; simp only [Option.bind_some]; rw [hc']; rfl
  exact ⟨a, b, ha', hb, by rw [hp]; exact hc', by rw [hp]; exact hcb⟩
def step (lim stp : Nat) (_ : Int) (x : Nat) (s : Nat) : Nat ⊕ (Nat × Int) :=
  .inl (if fEq .f64 x x = true then (if fLe .f64 x lim = true then s else (floatBits .add .f32 s (part lim stp x)).getD 0) else s)
def fin (s : Nat) : Nat × Int := (s, 0)
def warmB (l : List Nat) (lim stp : Nat) : Nat × Int :=
  if l.length > 4096 then (0, 2) else if (traceB l && (inR lim && okS stp)) = true then run (step lim stp) fin l 0 0 else (0, 1)
theorem zero_nn : NN Ieee.single 0 := by
  have h : Ieee.single.read 0 = .number false 0 (Ieee.single.leastPlace + ((0 : Nat) : Int)) := by decide
  intro s t hc; rw [h] at hc; cases hc
theorem warm_impl (l : List Nat) (lim stp : Nat) (hl : l.length ≤ maxLen) : Ev (fun k => impl_WarmMinutes.f k l lim stp) (warmB l lim stp) := by
  unfold impl_WarmMinutes.f warmB
  simp only [impl_isList_float64.f, Option.bind_some, decide_eq_true_eq]
  by_cases h0 : l.length > 4096
  · simp only [if_pos h0]; exact ev_neg (by omega) (ev_some _)
  · simp only [if_neg h0]
    refine ev_pos (by omega) (ev_bind (trace_impl l hl) ?_)
    by_cases h1 : traceB l = true
    · rw [h1, Bool.true_and]
      refine ev_pos rfl ?_
      simp only [reading_eq, Option.bind_some]
      by_cases h2 : inR lim = true
      · rw [h2, Bool.true_and]
        refine ev_pos rfl ?_
        by_cases h3 : okS stp = true
        · have h3' : fGe .f32 stp 1065353216 = true ∧ fLe .f32 stp 1082130432 = true := by unfold okS at h3; simpa using h3
          rw [h3, if_pos rfl]
          refine ev_pos h3'.1 (ev_pos h3'.2 ?_)
          refine run_ev l (step lim stp) fin (fun k i s => impl_WarmMinutes.l0 k lim stp s l (l.length : Int) i) (fun _ s => NN Ieee.single s) (fun i x s hx hs => ⟨fun s' hst => ?_, fun r hr => by cases hr⟩) (fun s _ => ?_) 0 zero_nn
          · have hi := some_lt hx
            have hr : rdOf (0 : Nat) l (i : Int) = x := getD_some hx
            have hmem := List.mem_of_getElem? hx
            cases hst
            by_cases h4 : fEq .f64 x x = true
            · have hxb := trace_mem h1 x hmem h4
              have hg : fGt .f64 x lim = !fLe .f64 x lim := gt_not_le hxb.nn (inR_bd h2).nn
              by_cases h5 : fLe .f64 x lim = true
              · refine ⟨by rw [if_pos h4, if_pos h5]; exact hs, fun r hE => Ev.step (fun k => ?_) hE⟩
                simp only [impl_WarmMinutes.l0, hr, hg]
                rw [if_pos (ilt hi), if_pos (ige _), if_pos (ilt hi), if_neg (by rw [h5]; decide), if_pos h4, if_pos h5, wrap_succ hi hl]
                rfl
              · obtain ⟨a, b, e1, e2, e3, e4⟩ := part_eq (inR_bd h2) (okS_bd h3) hxb
                obtain ⟨c, e5, e6⟩ := B.addNN hs e4
                have e5' : floatBits .add .f32 s (part lim stp x) = some c := e5
                refine ⟨by rw [if_pos h4, if_neg h5, e5']; exact e6, fun r hE => Ev.step (fun k => ?_) hE⟩
                simp only [impl_WarmMinutes.l0, hr, hg, Option.bind_some, e1, e2, e3, e5']
                rw [if_pos (ilt hi), if_pos (ige _), if_pos (ilt hi), if_pos (by simpa using h5), if_pos h4, if_neg h5, wrap_succ hi hl]
                rfl
            · refine ⟨by rw [if_neg h4]; exact hs, fun r hE => Ev.step (fun k => ?_) hE⟩
              have hg : fGt .f64 x lim = false := nan_gt h4
              simp only [impl_WarmMinutes.l0, hr, hg]
              rw [if_pos (ilt hi), if_pos (ige _), if_pos (ilt hi), if_neg (by decide), if_neg h4, wrap_succ hi hl]
              rfl
          · refine ev_succ (fun k => ?_)
            simp only [impl_WarmMinutes.l0]
            rw [if_neg (by omega)]; rfl
        · rw [if_neg h3]
          by_cases h4 : fGe .f32 stp 1065353216 = true
          · refine ev_pos h4 (ev_neg ?_ (ev_some _))
            unfold okS at h3; rw [h4, Bool.true_and] at h3; exact h3
          · exact ev_neg h4 (ev_some _)
      · rw [Bool.eq_false_iff.2 h2, Bool.false_and]
        exact ev_neg (by decide) (ev_some _)
    · rw [Bool.eq_false_iff.2 h1, Bool.false_and]
      exact ev_neg (by decide) (ev_some _)
end Go.Proofs.Ytdgaaoeicijemaa.ZWarmG
