/- Powers: lists of them, what the tests come to, the law's copies. -/
import Derived.Test.YtdgaaoeicijemaaLib
import Derived.Test.YtdgaaoeicijemaaFlip
import Derived.Test.YtdgaaoeicijemaaSFnPower
namespace Go.Proofs.Ytdgaaoeicijemaa.ZPowsV
open Go.RowKit Go.Proofs.Ytdgaaoeicijemaa.V Go.Proofs.Ytdgaaoeicijemaa.Lib Go.Proofs.Ytdgaaoeicijemaa.Flo Go.Proofs.YtdgaaoeicijemaaW.PrintWords Go.Proofs.YtdgaaoeicijemaaW.PrintLast Go.Proofs.YtdgaaoeicijemaaW.PrintMore

/-- A part of a power. -/
def inP (x : Nat) : Bool := fGe .f64 x 13920209183539462144 && fLe .f64 x 4696837146684686336
theorem read_lo : Ieee.double.read 13920209183539462144 = .number true 8589934592000000 (Ieee.double.leastPlace + ((1041 : Nat) : Int)) := by decide
theorem read_hi : Ieee.double.read 4696837146684686336 = .number false 8589934592000000 (Ieee.double.leastPlace + ((1041 : Nat) : Int)) := by decide
theorem inP_bd {x : Nat} (h : inP x = true) : B Ieee.double 1094 x := by
  unfold inP at h
  rw [Bool.and_eq_true] at h
  exact B.range read_lo read_hi (c := 53) (by decide) (by decide) (by decide) (by decide) (ge_or h.1) (le_or h.2)
theorem within_eq (x lo hi : Nat) : spec_l22Within.f x lo hi = some (fGe .f64 x lo && fLe .f64 x hi) := by
  unfold spec_l22Within.f
  by_cases h : fGe .f64 x lo = true
  · rw [if_pos h, h, Bool.true_and]
  · rw [if_neg h, Bool.eq_false_iff.2 h, Bool.false_and]
theorem within_inP (x : Nat) : spec_l22Within.f x 13920209183539462144 4696837146684686336 = some (inP x) := within_eq x _ _
theorem powers1_eq (x : Nat) : impl_arePowers_1.f x = some (inP x) := within_eq x _ _
def okP (p : S61) : Bool := inP p.f0 && inP p.f1
def powersB (l : List S61) : Bool := decide (l.length ≤ 12) && l.all okP
theorem powers_spec (l : List S61) (hl : l.length ≤ maxLen) : Ev (fun k => spec_l22Power.f k l) (powersB l) := by
  unfold spec_l22Power.f powersB
  by_cases h : l.length > 12
  · rw [decide_eq_false (by omega), Bool.false_and]
    exact ev_pos (by omega) (ev_some _)
  · rw [decide_eq_true (by omega), Bool.true_and]
    refine ev_neg (by omega) (all_ev' l okP (fun k i => spec_l22Power.l0 k l i) hl (fun k i x hx => ?_) (fun k => ?_))
    · have := some_lt hx
      have hr : rd_T61 l (i : Int) = x := getD_some hx
      simp only [spec_l22Power.l0, hr, within_inP, Option.bind_some]
      rw [if_pos (ilt this), if_pos (ige _)]
      unfold okP
      cases inP x.f0 <;> cases inP x.f1 <;> simp
    · simp only [spec_l22Power.l0]
      rw [if_neg (by omega)]
theorem powers_impl (l : List S61) (hl : l.length ≤ maxLen) : Ev (fun k => impl_arePowers.f k l) (powersB l) := by
  unfold impl_arePowers.f powersB
  by_cases h : l.length > 12
  · rw [decide_eq_false (by omega), Bool.false_and]
    exact ev_neg (by omega) (ev_some _)
  · rw [decide_eq_true (by omega), Bool.true_and]
    have he : ∀ p : S61, impl_arePowers_2.f p.f0 p.f1 = some (!okP p) := by
      intro p
      unfold impl_arePowers_2.f okP
      simp only [powers1_eq, Option.bind_some]
      cases inP p.f0 <;> cases inP p.f1 <;> simp
    have hx : Ev (fun k => slices_IndexFunc_at_impl_arePowers_2.f k l) (fidx (fun p => !okP p) l 0) := by
      unfold slices_IndexFunc_at_impl_arePowers_2.f
      refine index_ev' l _ (fun k i => slices_IndexFunc_at_impl_arePowers_2.l0 k l (l.length : Int) i) hl (fun k i x hx => ?_) (fun k => ?_)
      · have := some_lt hx
        have hr : rd_T61 l (i : Int) = x := getD_some hx
        simp only [slices_IndexFunc_at_impl_arePowers_2.l0, hr, he, Option.bind_some]
        rw [if_pos (ilt this), if_pos (ige _), if_pos (ilt this)]
      · simp only [slices_IndexFunc_at_impl_arePowers_2.l0]
        rw [if_neg (by omega)]
    have hc : Ev (fun k => slices_ContainsFunc_at_impl_arePowers_2.f k l) (l.any fun p => !okP p) := any_of_index hx
    refine ev_pos (by omega) (ev_bind hc (ev_eq (ev_some _) ?_))
    rw [List.all_eq_not_any_not]
theorem powers_mem {l : List S61} (h : powersB l = true) : l.length ≤ 12 ∧ ∀ p ∈ l, B Ieee.double 1094 p.f0 ∧ B Ieee.double 1094 p.f1 := by
  unfold powersB at h
  rw [Bool.and_eq_true, List.all_eq_true] at h
  refine ⟨of_decide_eq_true h.1, fun p hp => ?_⟩
  have := h.2 p hp
  unfold okP at this
  rw [Bool.and_eq_true] at this
  exact ⟨inP_bd this.1, inP_bd this.2⟩
theorem zero_nn : NN Ieee.double 0 := by
  have h : Ieee.double.read 0 = .number false 0 (Ieee.double.leastPlace + ((0 : Nat) : Int)) := by decide
  intro s t hc
  have hc' : Ieee.double.read 0 = .nan s t := hc
  rw [h] at hc'; cases hc'
/-- Two powers' product. -/
def times (p q : S61) : Nat × Nat := (impl_Power_times.f p.f0 p.f1 q.f0 (Op.negFloat .f64 q.f1)).getD (0, 0)
theorem times_eq {p q : S61} (h0 : B Ieee.double 1094 p.f0) (h1 : B Ieee.double 1094 p.f1) (g0 : B Ieee.double 1094 q.f0) (g1 : B Ieee.double 1094 q.f1) :
    impl_Power_times.f p.f0 p.f1 q.f0 (Op.negFloat .f64 q.f1) = some (times p q) ∧ spec_l22Mul.f p.f0 p.f1 q.f0 (Op.negFloat .f64 q.f1) = some (times p q) ∧ B Ieee.double 1115 (times p q).1 ∧ B Ieee.double 1115 (times p q).2 := by
  have g2 : B Ieee.double 1094 (Op.negFloat .f64 q.f1) := B.neg g1
  obtain ⟨a, ha, ba⟩ := B.mul (t := 1114) h0 g0 (by decide) (by decide) (by decide) (by decide)
  obtain ⟨b, hb, bb⟩ := B.mul (t := 1114) h1 g2 (by decide) (by decide) (by decide) (by decide)
  obtain ⟨c, hc, bc⟩ := B.mul (t := 1114) h0 g2 (by decide) (by decide) (by decide) (by decide)
  obtain ⟨d, hd, bd⟩ := B.mul (t := 1114) h1 g0 (by decide) (by decide) (by decide) (by decide)
  obtain ⟨e, he, be⟩ := B.sub ba bb (by decide) (by decide)
  obtain ⟨f, hf, bf⟩ := B.add bc bd (by decide) (by decide)
  have ha' : floatBits .mul .f64 p.f0 q.f0 = some a := ha
  have hb' : floatBits .mul .f64 p.f1 (Op.negFloat .f64 q.f1) = some b := hb
  have hc' : floatBits .mul .f64 p.f0 (Op.negFloat .f64 q.f1) = some c := hc
  have hd' : floatBits .mul .f64 p.f1 q.f0 = some d := hd
  have he' : floatBits .sub .f64 a b = some e := he
  have hf' : floatBits .add .f64 c d = some f := hf
  have e1 : impl_Power_times.f p.f0 p.f1 q.f0 (Op.negFloat .f64 q.f1) = some (e, f) := by
    unfold impl_Power_times.f
    simp only [ha', hb', hc', hd', he', hf', Option.bind_some]
  have e2 : spec_l22Mul.f p.f0 p.f1 q.f0 (Op.negFloat .f64 q.f1) = some (e, f) := by
    unfold spec_l22Mul.f
    simp only [ha', hb', hc', hd', he', hf', Option.bind_some]
  have e3 : times p q = (e, f) := by unfold times; rw [e1]; rfl
  rw [e3]
  exact ⟨e1, e2, be, bf⟩
def step (m : List S61) (i : Int) (p : S61) (s : Nat × Nat) : (Nat × Nat) ⊕ (Nat × Nat × Int) :=
  .inl ((floatBits .add .f64 s.1 (times p (rd_T61 m i)).1).getD 0, (floatBits .add .f64 s.2 (times p (rd_T61 m i)).2).getD 0)
def fin (s : Nat × Nat) : Nat × Nat × Int := (s.1, s.2, 0)
def powB (l m : List S61) : Nat × Nat × Int :=
  if l.length > 4096 ∨ m.length > 4096 then (0, 0, 2) else if (powersB l && powersB m) = true then (if l.length = m.length then run (step m) fin l 0 (0, 0) else (0, 0, 3)) else (0, 0, 1)
def Inv (_ : Nat) (s : Nat × Nat) : Prop := NN Ieee.double s.1 ∧ NN Ieee.double s.2
theorem adds {l m : List S61} (h1 : powersB l = true) (h2 : powersB m = true) (h3 : l.length = m.length) {i : Nat} {p : S61} {s : Nat × Nat} (hx : l[i]? = some p) (hs : Inv i s) :
    ∃ q a b, rd_T61 m (i : Int) = q ∧ impl_Power_times.f p.f0 p.f1 q.f0 (Op.negFloat .f64 q.f1) = some (times p q) ∧ spec_l22Mul.f p.f0 p.f1 q.f0 (Op.negFloat .f64 q.f1) = some (times p q) ∧
      floatBits .add .f64 s.1 (times p q).1 = some a ∧ floatBits .add .f64 s.2 (times p q).2 = some b ∧ NN Ieee.double a ∧ NN Ieee.double b := by
  have hi := some_lt hx
  obtain ⟨_, hl⟩ := powers_mem h1
  obtain ⟨_, hm⟩ := powers_mem h2
  obtain ⟨b0, b1⟩ := hl p (List.mem_of_getElem? hx)
  have hy : m[i]? = some m[i] := List.getElem?_eq_getElem (by omega)
  obtain ⟨c0, c1⟩ := hm m[i] (List.mem_of_getElem? hy)
  obtain ⟨e1, e2, e3, e4⟩ := times_eq b0 b1 c0 c1
  obtain ⟨a, ha, na⟩ := B.addNN hs.1 e3
  obtain ⟨b, hb, nb⟩ := B.addNN hs.2 e4
  exact ⟨m[i], a, b, getD_some hy, e1, e2, ha, hb, na, nb⟩
theorem pow_spec (l m : List S61) (hl : l.length ≤ maxLen) (hm : m.length ≤ maxLen) : Ev (fun k => spec_PowerOf.f k l m) (powB l m) := by
  unfold spec_PowerOf.f powB
  by_cases h0 : l.length > 4096 ∨ m.length > 4096
  · rw [if_pos h0]
    by_cases h1 : l.length > 4096
    · exact ev_pos (by omega) (ev_succ (fun k => by simp [spec_PowerOf.j0]))
    · refine ev_neg (by omega) (ev_succ (fun k => ?_))
      rw [decide_eq_true (show (m.length : Int) > 4096 by omega)]
      simp [spec_PowerOf.j0]
  · rw [if_neg h0]
    refine ev_neg (by omega) ?_
    rw [decide_eq_false (show ¬ (m.length : Int) > 4096 by omega)]
    refine Ev.step (f := fun k => (spec_l22Power.f k l).bind fun t => if t = true then ((spec_l22Power.f k m).bind fun t => spec_PowerOf.j1 k l m (!t)) else spec_PowerOf.j1 k l m true) (fun k => by simp [spec_PowerOf.j0]) ?_
    refine ev_bind (powers_spec l hl) ?_
    by_cases h1 : powersB l = true
    · rw [h1, Bool.true_and]
      refine ev_pos rfl (ev_bind (powers_spec m hm) ?_)
      by_cases h2 : powersB m = true
      · rw [h2]
        rw [if_pos rfl]
        refine Ev.step (f := fun k => if (l.length : Int) = (m.length : Int) then spec_PowerOf.l0 k l m 0 0 0 else some (0, 0, 3)) (fun k => by simp [spec_PowerOf.j1]) ?_
        by_cases h3 : l.length = m.length
        · rw [if_pos h3]
          refine ev_pos (by omega) ?_
          refine run_ev l (step m) fin (fun k i s => spec_PowerOf.l0 k l m i s.1 s.2) Inv (fun i x s hx hs => ⟨fun s' hst => ?_, fun r hr => by cases hr⟩) (fun s hs => ?_) (0, 0) ⟨zero_nn, zero_nn⟩
          · have hi := some_lt hx
            have hr : rd_T61 l (i : Int) = x := getD_some hx
            obtain ⟨q, a, b, hq, e1, e2, ea, eb, na, nb⟩ := adds h1 h2 h3 hx hs
            simp only [step, hq, ea, eb, Sum.inl.injEq] at hst
            subst hst
            refine ⟨⟨na, nb⟩, fun r hE => Ev.step (fun k => ?_) hE⟩
            simp only [spec_PowerOf.l0, hr, hq, e2, ea, eb, Option.bind_some]
            rw [if_pos (ilt hi), if_pos (ige _), if_pos (by omega), wrap_succ hi hl]
            rfl
          · refine ev_succ (fun k => ?_)
            simp only [spec_PowerOf.l0]
            rw [if_neg (by omega)]; rfl
        · rw [if_neg h3]
          exact ev_neg (by omega) (ev_some _)
      · rw [Bool.eq_false_iff.2 h2]
        exact ev_succ (fun k => by simp [spec_PowerOf.j1])
    · rw [Bool.eq_false_iff.2 h1, Bool.false_and]
      exact ev_neg (by decide) (ev_succ (fun k => by simp [spec_PowerOf.j1]))
theorem pow_impl (l m : List S61) (hl : l.length ≤ maxLen) (hm : m.length ≤ maxLen) : Ev (fun k => impl_PowerOf.f k l m) (powB l m) := by
  unfold impl_PowerOf.f powB
  simp only [impl_Power_93.f, Option.bind_some, decide_eq_true_eq]
  by_cases h0 : l.length > 4096 ∨ m.length > 4096
  · rw [if_pos h0]
    by_cases h1 : l.length > 4096
    · exact ev_neg (by omega) (ev_succ (fun k => by simp [impl_PowerOf.j0]))
    · refine ev_pos (by omega) (ev_succ (fun k => ?_))
      rw [decide_eq_false (show ¬ (m.length : Int) ≤ 4096 by omega)]
      simp [impl_PowerOf.j0]
  · rw [if_neg h0]
    refine ev_pos (by omega) ?_
    rw [decide_eq_true (show (m.length : Int) ≤ 4096 by omega)]
    refine Ev.step (f := fun k => (impl_arePowers.f k l).bind fun t => if t = true then ((impl_arePowers.f k m).bind fun t => impl_PowerOf.j1 k l m (!t)) else impl_PowerOf.j1 k l m true) (fun k => by simp [impl_PowerOf.j0]) ?_
    refine ev_bind (powers_impl l hl) ?_
    by_cases h1 : powersB l = true
    · rw [h1, Bool.true_and]
      refine ev_pos rfl (ev_bind (powers_impl m hm) ?_)
      by_cases h2 : powersB m = true
      · rw [h2]
        rw [if_pos rfl]
        refine Ev.step (f := fun k => if (l.length : Int) = (m.length : Int) then impl_PowerOf.l0 k m l (l.length : Int) 0 0 0 else some (0, 0, 3)) (fun k => by simp [impl_PowerOf.j1]) ?_
        by_cases h3 : l.length = m.length
        · rw [if_pos h3]
          refine ev_pos (by omega) ?_
          refine run_ev l (step m) fin (fun k i s => impl_PowerOf.l0 k m l (l.length : Int) i s.1 s.2) Inv (fun i x s hx hs => ⟨fun s' hst => ?_, fun r hr => by cases hr⟩) (fun s hs => ?_) (0, 0) ⟨zero_nn, zero_nn⟩
          · have hi := some_lt hx
            have hr : rd_T61 l (i : Int) = x := getD_some hx
            obtain ⟨q, a, b, hq, e1, e2, ea, eb, na, nb⟩ := adds h1 h2 h3 hx hs
            simp only [step, hq, ea, eb, Sum.inl.injEq] at hst
            subst hst
            refine ⟨⟨na, nb⟩, fun r hE => Ev.step (fun k => ?_) hE⟩
            simp only [impl_PowerOf.l0, hr, hq, e1, ea, eb, Option.bind_some]
            rw [if_pos (ilt hi), if_pos (ige _), if_pos (ilt hi), if_pos (by omega), wrap_succ hi hl]
            rfl
          · refine ev_succ (fun k => ?_)
            simp only [impl_PowerOf.l0]
            rw [if_neg (by omega)]; rfl
        · rw [if_neg h3]
          exact ev_neg (by omega) (ev_some _)
      · rw [Bool.eq_false_iff.2 h2]
        exact ev_succ (fun k => by simp [impl_PowerOf.j1])
    · rw [Bool.eq_false_iff.2 h1, Bool.false_and]
      exact ev_neg (by decide) (ev_succ (fun k => by simp [impl_PowerOf.j1]))
abbrev Pw := S61
def sq (p : Pw) : Nat := (((floatBits .mul .f64 p.f0 p.f0).bind fun a => (floatBits .mul .f64 p.f1 p.f1).bind fun b => floatBits .add .f64 a b)).getD 0
def dRe (p : Pw) : Nat := (floatBits .quo .f64 p.f0 (sq p)).getD 0
def dIm (p : Pw) : Nat := (floatBits .quo .f64 (Op.negFloat .f64 p.f1) (sq p)).getD 0
theorem sq_eq {p : Pw} (h0 : B Ieee.double 1094 p.f0) (h1 : B Ieee.double 1094 p.f1) : ∃ a b, floatBits .mul .f64 p.f0 p.f0 = some a ∧ floatBits .mul .f64 p.f1 p.f1 = some b ∧ floatBits .add .f64 a b = some (sq p) ∧
    (¬ fEq .f64 (sq p) 0 = true → floatBits .quo .f64 p.f0 (sq p) = some (dRe p) ∧ floatBits .quo .f64 (Op.negFloat .f64 p.f1) (sq p) = some (dIm p) ∧ B Ieee.double 1674 (dRe p) ∧ B Ieee.double 1674 (dIm p)) := by
  obtain ⟨a, ha, ba, sa, la⟩ := B.sq h0
  obtain ⟨b, hb, bb, sb, lb⟩ := B.sq h1
  obtain ⟨c, hc, bc, lc⟩ := B.addPos ba bb sa sb (by decide) (by decide)
  have ha' : floatBits .mul .f64 p.f0 p.f0 = some a := ha
  have hb' : floatBits .mul .f64 p.f1 p.f1 = some b := hb
  have hc' : floatBits .add .f64 a b = some c := hc
  have hs : sq p = c := by unfold sq; rw [ha']; simp only [Option.bind_some]; rw [hb']; simp only [Option.bind_some]; rw [hc']; rfl
  refine ⟨a, b, ha', hb', by rw [hs]; exact hc', fun hz => ?_⟩
  rw [hs] at hz
  have h2 := not_zero bc hz
  obtain ⟨d, hd, bd⟩ := part_div (x := p.f0) (y := p.f0) bc h2 rfl h0 (fun k j hk hj => lc j (.inl (la k j hk hj)))
  obtain ⟨e, he, be⟩ := part_div (x := p.f1) (y := Op.negFloat .f64 p.f1) bc h2 (mg_neg _) (B.neg h1) (fun k j hk hj => lc j (.inr (lb k j hk hj)))
  have hd' : floatBits .quo .f64 p.f0 (sq p) = some d := by rw [hs]; exact hd
  have he' : floatBits .quo .f64 (Op.negFloat .f64 p.f1) (sq p) = some e := by rw [hs]; exact he
  have h3 : dRe p = d := by unfold dRe; rw [hd']; rfl
  have h4 : dIm p = e := by unfold dIm; rw [he']; rfl
  rw [h3, h4]
  exact ⟨hd', he', bd, be⟩
def bstep (_ : Int) (p : Pw) (s : Nat × Nat) : (Nat × Nat) ⊕ (Nat × Nat × Int) :=
  if fEq .f64 (sq p) 0 = true then .inr (0, 0, 10) else .inl ((floatBits .add .f64 s.1 (dRe p)).getD 0, (floatBits .add .f64 s.2 (dIm p)).getD 0)
def bfin (s : Nat × Nat) : Nat × Nat × Int := (s.1, s.2, 0)
def briB (l : List Pw) : Nat × Nat × Int := if l.length > 4096 then (0, 0, 2) else if powersB l = true then run bstep bfin l 0 (0, 0) else (0, 0, 1)
def BInv (_ : Nat) (s : Nat × Nat) : Prop := NN Ieee.double s.1 ∧ NN Ieee.double s.2
theorem bri_spec (l : List Pw) (hl : l.length ≤ maxLen) : Ev (fun k => spec_Bridge.f k l) (briB l) := by
  unfold spec_Bridge.f briB
  by_cases h0 : l.length > 4096
  · rw [if_pos h0]; exact ev_pos (by omega) (ev_some _)
  · rw [if_neg h0]
    refine ev_neg (by omega) (ev_bind (powers_spec l hl) ?_)
    by_cases h1 : powersB l = true
    · rw [if_pos h1]
      refine ev_pos h1 ?_
      refine run_ev l bstep bfin (fun k i s => spec_Bridge.l0 k l i s.1 s.2) BInv (fun i x s hx hs => ?_) (fun s hs => ?_) (0, 0) ⟨zero_nn, zero_nn⟩
      · have hi := some_lt hx
        have hr : rd_T61 l (i : Int) = x := getD_some hx
        obtain ⟨b0, b1⟩ := (powers_mem h1).2 x (List.mem_of_getElem? hx)
        obtain ⟨a, b, e1, e2, e3, e4⟩ := sq_eq b0 b1
        by_cases hz : fEq .f64 (sq x) 0 = true
        · refine ⟨fun s' hst => ?_, fun r hst => ?_⟩
          · unfold bstep at hst; rw [if_pos hz] at hst; cases hst
          · unfold bstep at hst; rw [if_pos hz] at hst; cases hst
            refine ev_succ (fun k => ?_)
            simp only [spec_Bridge.l0, hr, e1, e2, e3, Option.bind_some]
            rw [if_pos (ilt hi), if_pos (ige _), if_pos hz]
        · obtain ⟨e5, e6, b5, b6⟩ := e4 hz
          obtain ⟨c, hc, nc⟩ := B.addNN hs.1 b5
          obtain ⟨d, hd, nd⟩ := B.addNN hs.2 b6
          have hc' : floatBits .add .f64 s.1 (dRe x) = some c := hc
          have hd' : floatBits .add .f64 s.2 (dIm x) = some d := hd
          refine ⟨fun s' hst => ?_, fun r hst => ?_⟩
          · unfold bstep at hst; rw [if_neg hz, hc', hd'] at hst
            cases hst
            refine ⟨⟨nc, nd⟩, fun r hE => Ev.step (fun k => ?_) hE⟩
            simp only [spec_Bridge.l0, hr, e1, e2, e3, e5, e6, hc', hd', Option.bind_some]
            rw [if_pos (ilt hi), if_pos (ige _), if_neg hz, wrap_succ hi hl]
            rfl
          · unfold bstep at hst; rw [if_neg hz] at hst; cases hst
      · refine ev_succ (fun k => ?_)
        simp only [spec_Bridge.l0]
        rw [if_neg (by omega)]; rfl
    · rw [if_neg h1]
      exact ev_neg h1 (ev_some _)
theorem bri_impl (l : List Pw) (hl : l.length ≤ maxLen) : Ev (fun k => impl_Bridge.f k l) (briB l) := by
  unfold impl_Bridge.f briB
  simp only [impl_Power_93.f, Option.bind_some, decide_eq_true_eq]
  by_cases h0 : l.length > 4096
  · rw [if_pos h0]; exact ev_neg (by omega) (ev_some _)
  · rw [if_neg h0]
    refine ev_pos (by omega) (ev_bind (powers_impl l hl) ?_)
    by_cases h1 : powersB l = true
    · rw [if_pos h1]
      refine ev_pos h1 ?_
      refine run_ev l bstep bfin (fun k i s => impl_Bridge.l0 k l (l.length : Int) i s.1 s.2) BInv (fun i x s hx hs => ?_) (fun s hs => ?_) (0, 0) ⟨zero_nn, zero_nn⟩
      · have hi := some_lt hx
        have hr : rd_T61 l (i : Int) = x := getD_some hx
        obtain ⟨b0, b1⟩ := (powers_mem h1).2 x (List.mem_of_getElem? hx)
        obtain ⟨a, b, e1, e2, e3, e4⟩ := sq_eq b0 b1
        by_cases hz : fEq .f64 (sq x) 0 = true
        · refine ⟨fun s' hst => ?_, fun r hst => ?_⟩
          · unfold bstep at hst; rw [if_pos hz] at hst; cases hst
          · unfold bstep at hst; rw [if_pos hz] at hst; cases hst
            refine ev_succ (fun k => ?_)
            simp only [impl_Bridge.l0, hr, e1, e2, e3, Option.bind_some]
            rw [if_pos (ilt hi), if_pos (ige _), if_pos (ilt hi), if_pos hz]
        · obtain ⟨e5, e6, b5, b6⟩ := e4 hz
          obtain ⟨c, hc, nc⟩ := B.addNN hs.1 b5
          obtain ⟨d, hd, nd⟩ := B.addNN hs.2 b6
          have hc' : floatBits .add .f64 s.1 (dRe x) = some c := hc
          have hd' : floatBits .add .f64 s.2 (dIm x) = some d := hd
          refine ⟨fun s' hst => ?_, fun r hst => ?_⟩
          · unfold bstep at hst; rw [if_neg hz, hc', hd'] at hst
            cases hst
            refine ⟨⟨nc, nd⟩, fun r hE => Ev.step (fun k => ?_) hE⟩
            simp only [impl_Bridge.l0, hr, e1, e2, e3, e5, e6, hc', hd', Option.bind_some]
            rw [if_pos (ilt hi), if_pos (ige _), if_pos (ilt hi), if_neg hz, wrap_succ hi hl]
            rfl
          · unfold bstep at hst; rw [if_neg hz] at hst; cases hst
      · refine ev_succ (fun k => ?_)
        simp only [impl_Bridge.l0]
        rw [if_neg (by omega)]; rfl
    · rw [if_neg h1]
      exact ev_neg h1 (ev_some _)
end Go.Proofs.Ytdgaaoeicijemaa.ZPowsV
