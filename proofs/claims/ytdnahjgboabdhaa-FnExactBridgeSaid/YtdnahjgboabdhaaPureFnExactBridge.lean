/- The statement of FnExactBridge as plain Lean. -/
import Derived.Test.YtdnahjgboabdhaaZPowerB
import Derived.Test.YtdnahjgboabdhaaFlor
namespace Go.Proofs.Ytdnahjgboabdhaa.Pure
open Go.RowKit Go.Proofs.Ytdnahjgboabdhaa.B Go.Proofs.Ytdnahjgboabdhaa.Lib Go.Proofs.Ytdnahjgboabdhaa.Flo Go.Proofs.Ytdnahjgboabdhaa.ZSameB Go.Proofs.Ytdnahjgboabdhaa.ZPowerB Go.Proofs.YtdnahjgboabdhaaW.PrintWords Go.Proofs.YtdnahjgboabdhaaW.PrintLast Go.Proofs.YtdnahjgboabdhaaW.PrintMore

abbrev Pw := S52
def sq (p : Pw) : Nat := (((floatBits .mul .f64 p.f0 p.f0).bind fun a => (floatBits .mul .f64 p.f1 p.f1).bind fun b => floatBits .add .f64 a b)).getD 0
def dRe (p : Pw) : Nat := (floatBits .quo .f64 p.f0 (sq p)).getD 0
def dIm (p : Pw) : Nat := (floatBits .quo .f64 (Op.negFloat .f64 p.f1) (sq p)).getD 0
theorem sq_eq {p : Pw} (h0 : B Ieee.double 1094 p.f0) (h1 : B Ieee.double 1094 p.f1) : ∃ a b, floatBits .mul .f64 p.f0 p.f0 = some a ∧ floatBits .mul .f64 p.f1 p.f1 = some b ∧ floatBits .add .f64 a b = some (sq p) ∧
    (¬ fEq .f64 (sq p) 0 = true → floatBits .quo .f64 p.f0 (sq p) = some (dRe p) ∧ floatBits .quo .f64 (Op.negFloat .f64 p.f1) (sq p) = some (dIm p) ∧ B Ieee.double 1674 (dRe p) ∧ B Ieee.double 1674 (dIm p)) := by
  obtain ⟨a, ha, ba, sa, la⟩ := B.sq h0
  obtain ⟨b, hb, bb, sb, lb⟩ := B.sq h1
  obtain ⟨c, hc, bc, lc⟩ := B.addPos ba bb sa sb (by decide) (by decide)
  have ha' : floatBits .mul .f64 p.f0 p.f0 = some a := ha
  have hb' : floatBits .mul .f64 p.f1 p.f1 = some b := hb
  have hc' : floatBits .add .f64 a b = some c := hc
  have hs : sq p = c := by unfold sq; rw [ha']; simp only [Option.bind_some]; rw [hb']; simp only [Option.bind_some]; rw [hc']; rfl
  refine ⟨a, b, ha', hb', by rw [hs]; exact hc', fun hz => ?_⟩
  rw [hs] at hz
  have h2 := not_zero bc hz
  obtain ⟨d, hd, bd⟩ := part_div (x := p.f0) (y := p.f0) bc h2 rfl h0 (fun k j hk hj => lc j (.inl (la k j hk hj)))
  obtain ⟨e, he, be⟩ := part_div (x := p.f1) (y := Op.negFloat .f64 p.f1) bc h2 (mg_neg _) (B.neg h1) (fun k j hk hj => lc j (.inr (lb k j hk hj)))
  have hd' : floatBits .quo .f64 p.f0 (sq p) = some d := by rw [hs]; exact hd
  have he' : floatBits .quo .f64 (Op.negFloat .f64 p.f1) (sq p) = some e := by rw [hs]; exact he
  have h3 : dRe p = d := by unfold dRe; rw [hd']; rfl
  have h4 : dIm p = e := by unfold dIm; rw [he']; rfl
  rw [h3, h4]
  exact ⟨hd', he', bd, be⟩
def step (_ : Int) (p : Pw) (s : Nat × Nat) : (Nat × Nat) ⊕ (Nat × Nat × Int) :=
  if fEq .f64 (sq p) 0 = true then .inr (0, 0, 10) else .inl ((floatBits .add .f64 s.1 (dRe p)).getD 0, (floatBits .add .f64 s.2 (dIm p)).getD 0)
def fin (s : Nat × Nat) : Nat × Nat × Int := (s.1, s.2, 0)
def briB (l : List Pw) : Nat × Nat × Int := if l.length > 4096 then (0, 0, 2) else if powersB l = true then run step fin l 0 (0, 0) else (0, 0, 1)
def Inv (_ : Nat) (s : Nat × Nat) : Prop := NN Ieee.double s.1 ∧ NN Ieee.double s.2
theorem bri_spec (l : List Pw) (hl : l.length ≤ maxLen) : Ev (fun k => spec_Bridge.f k l) (briB l) := by
  unfold spec_Bridge.f briB
  by_cases h0 : l.length > 4096
  · rw [if_pos h0]; exact ev_pos (by omega) (ev_some _)
  · rw [if_neg h0]
    refine ev_neg (by omega) (ev_bind (powers_spec l hl) ?_)
    by_cases h1 : powersB l = true
    · rw [if_pos h1]
      refine ev_pos h1 ?_
      refine run_ev l step fin (fun k i s => spec_Bridge.l0 k l i s.1 s.2) Inv (fun i x s hx hs => ?_) (fun s hs => ?_) (0, 0) ⟨zero_nn, zero_nn⟩
      · have hi := some_lt hx
        have hr : rd_T52 l (i : Int) = x := getD_some hx
        obtain ⟨b0, b1⟩ := (powers_mem h1).2 x (List.mem_of_getElem? hx)
        obtain ⟨a, b, e1, e2, e3, e4⟩ := sq_eq b0 b1
        by_cases hz : fEq .f64 (sq x) 0 = true
        · refine ⟨fun s' hst => ?_, fun r hst => ?_⟩
          · unfold step at hst; rw [if_pos hz] at hst; cases hst
          · unfold step at hst; rw [if_pos hz] at hst; cases hst
            refine ev_succ (fun k => ?_)
            simp only [spec_Bridge.l0, hr, e1, e2, e3, Option.bind_some]
            rw [if_pos (ilt hi), if_pos (ige _), if_pos hz]
        · obtain ⟨e5, e6, b5, b6⟩ := e4 hz
          obtain ⟨c, hc, nc⟩ := B.addNN hs.1 b5
          obtain ⟨d, hd, nd⟩ := B.addNN hs.2 b6
          have hc' : floatBits .add .f64 s.1 (dRe x) = some c := hc
          have hd' : floatBits .add .f64 s.2 (dIm x) = some d := hd
          refine ⟨fun s' hst => ?_, fun r hst => ?_⟩
          · unfold step at hst; rw [if_neg hz, hc', hd'] at hst
            cases hst
            refine ⟨⟨nc, nd⟩, fun r hE => Ev.step (fun k => ?_) hE⟩
            simp only [spec_Bridge.l0, hr, e1, e2, e3, e5, e6, hc', hd', Option.bind_some]
            rw [if_pos (ilt hi), if_pos (ige _), if_neg hz, wrap_succ hi hl]
            rfl
          · unfold step at hst; rw [if_neg hz] at hst; cases hst
      · refine ev_succ (fun k => ?_)
        simp only [spec_Bridge.l0]
        rw [if_neg (by omega)]; rfl
    · rw [if_neg h1]
      exact ev_neg h1 (ev_some _)
theorem bri_impl (l : List Pw) (hl : l.length ≤ maxLen) : Ev (fun k => impl_Bridge.f k l) (briB l) := by
  unfold impl_Bridge.f briB
  simp only [impl_Power_72.f, Option.bind_some, decide_eq_true_eq]
  by_cases h0 : l.length > 4096
  · rw [if_pos h0]; exact ev_neg (by omega) (ev_some _)
  · rw [if_neg h0]
    refine ev_pos (by omega) (ev_bind (powers_impl l hl) ?_)
    by_cases h1 : powersB l = true
    · rw [if_pos h1]
      refine ev_pos h1 ?_
      refine run_ev l step fin (fun k i s => impl_Bridge.l0 k l (l.length : Int) i s.1 s.2) Inv (fun i x s hx hs => ?_) (fun s hs => ?_) (0, 0) ⟨zero_nn, zero_nn⟩
      · have hi := some_lt hx
        have hr : rd_T52 l (i : Int) = x := getD_some hx
        obtain ⟨b0, b1⟩ := (powers_mem h1).2 x (List.mem_of_getElem? hx)
        obtain ⟨a, b, e1, e2, e3, e4⟩ := sq_eq b0 b1
        by_cases hz : fEq .f64 (sq x) 0 = true
        · refine ⟨fun s' hst => ?_, fun r hst => ?_⟩
          · unfold step at hst; rw [if_pos hz] at hst; cases hst
          · unfold step at hst; rw [if_pos hz] at hst; cases hst
            refine ev_succ (fun k => ?_)
            simp only [impl_Bridge.l0, hr, e1, e2, e3, Option.bind_some]
            rw [if_pos (ilt hi), if_pos (ige _), if_pos (ilt hi), if_pos hz]
        · obtain ⟨e5, e6, b5, b6⟩ := e4 hz
          obtain ⟨c, hc, nc⟩ := B.addNN hs.1 b5
          obtain ⟨d, hd, nd⟩ := B.addNN hs.2 b6
          have hc' : floatBits .add .f64 s.1 (dRe x) = some c := hc
          have hd' : floatBits .add .f64 s.2 (dIm x) = some d := hd
          refine ⟨fun s' hst => ?_, fun r hst => ?_⟩
          · unfold step at hst; rw [if_neg hz, hc', hd'] at hst
            cases hst
            refine ⟨⟨nc, nd⟩, fun r hE => Ev.step (fun k => ?_) hE⟩
            simp only [impl_Bridge.l0, hr, e1, e2, e3, e5, e6, hc', hd', Option.bind_some]
            rw [if_pos (ilt hi), if_pos (ige _), if_pos (ilt hi), if_neg hz, wrap_succ hi hl]
            rfl
          · unfold step at hst; rw [if_neg hz] at hst; cases hst
      · refine ev_succ (fun k => ?_)
        simp only [impl_Bridge.l0]
        rw [if_neg (by omega)]; rfl
    · rw [if_neg h1]
      exact ev_neg h1 (ev_some _)
theorem FnExactBridge : laws_FnExactBridge.Pure := by
  intro l0 ⟨hl, _⟩
  refine Ev.rounds ?_
  unfold laws_FnExactBridge.f
  rcases sz_powers l0 1048576 hl (by omega) (by omega) with ⟨hs, e⟩ | ⟨n, hn, e⟩
  · simp only [e, Option.bind_some]
    refine ev_neg (by omega) ?_
    have hl' : (l0.map conv).length ≤ maxLen := by rw [List.length_map]; exact hl
    have t0 := to_powers l0 (by omega)
    refine ev_bind t0 (ev_bind (bri_spec _ hl') (ev_bind t0 (ev_bind (bri_impl _ hl') (ev_bind (eq_power _ _) (ev_pos rfl ?_)))))
    refine Ev.step (f := fun k => (laws_toPowerS.f k l0).bind fun t => (laws_eqPowerS.f k (l0.map conv) t).bind fun t => if t = true then some true else some false) (fun k => ?_) (ev_bind t0 (ev_bind (eq_powers _ hl') (ev_eq (ev_some true) rfl)))
    simp [laws_FnExactBridge.j0]
  · simp only [e, Option.bind_some]
    exact ev_pos hn (ev_some _)
end Go.Proofs.Ytdnahjgboabdhaa.Pure
