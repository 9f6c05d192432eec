/- The statement of FnExactPowerOf as plain Lean. -/
import Derived.Test.YtdnahjgboabdhaaZPowerP
namespace Go.Proofs.Ytdnahjgboabdhaa.Pure
open Go.RowKit Go.Proofs.Ytdnahjgboabdhaa.P Go.Proofs.Ytdnahjgboabdhaa.Lib Go.Proofs.Ytdnahjgboabdhaa.Flo Go.Proofs.Ytdnahjgboabdhaa.ZSameP Go.Proofs.Ytdnahjgboabdhaa.ZPowerP Go.Proofs.YtdnahjgboabdhaaW.PrintWords Go.Proofs.YtdnahjgboabdhaaW.PrintLast Go.Proofs.YtdnahjgboabdhaaW.PrintMore

/-- Two powers' product. -/
def times (p q : S52) : Nat × Nat := (impl_Power_times.f p.f0 p.f1 q.f0 (Op.negFloat .f64 q.f1)).getD (0, 0)
theorem times_eq {p q : S52} (h0 : B Ieee.double 1094 p.f0) (h1 : B Ieee.double 1094 p.f1) (g0 : B Ieee.double 1094 q.f0) (g1 : B Ieee.double 1094 q.f1) :
    impl_Power_times.f p.f0 p.f1 q.f0 (Op.negFloat .f64 q.f1) = some (times p q) ∧ spec_l22Mul.f p.f0 p.f1 q.f0 (Op.negFloat .f64 q.f1) = some (times p q) ∧ B Ieee.double 1115 (times p q).1 ∧ B Ieee.double 1115 (times p q).2 := by
  have g2 : B Ieee.double 1094 (Op.negFloat .f64 q.f1) := B.neg g1
  obtain ⟨a, ha, ba⟩ := B.mul (t := 1114) h0 g0 (by decide) (by decide) (by decide) (by decide)
  obtain ⟨b, hb, bb⟩ := B.mul (t := 1114) h1 g2 (by decide) (by decide) (by decide) (by decide)
  obtain ⟨c, hc, bc⟩ := B.mul (t := 1114) h0 g2 (by decide) (by decide) (by decide) (by decide)
  obtain ⟨d, hd, bd⟩ := B.mul (t := 1114) h1 g0 (by decide) (by decide) (by decide) (by decide)
  obtain ⟨e, he, be⟩ := B.sub ba bb (by decide) (by decide)
  obtain ⟨f, hf, bf⟩ := B.add bc bd (by decide) (by decide)
  have ha' : floatBits .mul .f64 p.f0 q.f0 = some a := ha
  have hb' : floatBits .mul .f64 p.f1 (Op.negFloat .f64 q.f1) = some b := hb
  have hc' : floatBits .mul .f64 p.f0 (Op.negFloat .f64 q.f1) = some c := hc
  have hd' : floatBits .mul .f64 p.f1 q.f0 = some d := hd
  have he' : floatBits .sub .f64 a b = some e := he
  have hf' : floatBits .add .f64 c d = some f := hf
  have e1 : impl_Power_times.f p.f0 p.f1 q.f0 (Op.negFloat .f64 q.f1) = some (e, f) := by
    unfold impl_Power_times.f
    simp only [ha', hb', hc', hd', he', hf', Option.bind_some]
  have e2 : spec_l22Mul.f p.f0 p.f1 q.f0 (Op.negFloat .f64 q.f1) = some (e, f) := by
    unfold spec_l22Mul.f
    simp only [ha', hb', hc', hd', he', hf', Option.bind_some]
  have e3 : times p q = (e, f) := by unfold times; rw [e1]; rfl
  rw [e3]
  exact ⟨e1, e2, be, bf⟩
def step (m : List S52) (i : Int) (p : S52) (s : Nat × Nat) : (Nat × Nat) ⊕ (Nat × Nat × Int) :=
  .inl ((floatBits .add .f64 s.1 (times p (rd_T52 m i)).1).getD 0, (floatBits .add .f64 s.2 (times p (rd_T52 m i)).2).getD 0)
def fin (s : Nat × Nat) : Nat × Nat × Int := (s.1, s.2, 0)
def powB (l m : List S52) : Nat × Nat × Int :=
  if l.length > 4096 ∨ m.length > 4096 then (0, 0, 2) else if (powersB l && powersB m) = true then (if l.length = m.length then run (step m) fin l 0 (0, 0) else (0, 0, 3)) else (0, 0, 1)
def Inv (_ : Nat) (s : Nat × Nat) : Prop := NN Ieee.double s.1 ∧ NN Ieee.double s.2
theorem adds {l m : List S52} (h1 : powersB l = true) (h2 : powersB m = true) (h3 : l.length = m.length) {i : Nat} {p : S52} {s : Nat × Nat} (hx : l[i]? = some p) (hs : Inv i s) :
    ∃ q a b, rd_T52 m (i : Int) = q ∧ impl_Power_times.f p.f0 p.f1 q.f0 (Op.negFloat .f64 q.f1) = some (times p q) ∧ spec_l22Mul.f p.f0 p.f1 q.f0 (Op.negFloat .f64 q.f1) = some (times p q) ∧
      floatBits .add .f64 s.1 (times p q).1 = some a ∧ floatBits .add .f64 s.2 (times p q).2 = some b ∧ NN Ieee.double a ∧ NN Ieee.double b := by
  have hi := some_lt hx
  obtain ⟨_, hl⟩ := powers_mem h1
  obtain ⟨_, hm⟩ := powers_mem h2
  obtain ⟨b0, b1⟩ := hl p (List.mem_of_getElem? hx)
  have hy : m[i]? = some m[i] := List.getElem?_eq_getElem (by omega)
  obtain ⟨c0, c1⟩ := hm m[i] (List.mem_of_getElem? hy)
  obtain ⟨e1, e2, e3, e4⟩ := times_eq b0 b1 c0 c1
  obtain ⟨a, ha, na⟩ := B.addNN hs.1 e3
  obtain ⟨b, hb, nb⟩ := B.addNN hs.2 e4
  exact ⟨m[i], a, b, getD_some hy, e1, e2, ha, hb, na, nb⟩
theorem pow_spec (l m : List S52) (hl : l.length ≤ maxLen) (hm : m.length ≤ maxLen) : Ev (fun k => spec_PowerOf.f k l m) (powB l m) := by
  unfold spec_PowerOf.f powB
  by_cases h0 : l.length > 4096 ∨ m.length > 4096
  · rw [if_pos h0]
    by_cases h1 : l.length > 4096
    · exact ev_pos (by omega) (ev_succ (fun k => by simp [spec_PowerOf.j0]))
    · refine ev_neg (by omega) (ev_succ (fun k => ?_))
      rw [decide_eq_true (show (m.length : Int) > 4096 by omega)]
      simp [spec_PowerOf.j0]
  · rw [if_neg h0]
    refine ev_neg (by omega) ?_
    rw [decide_eq_false (show ¬ (m.length : Int) > 4096 by omega)]
    refine Ev.step (f := fun k => (spec_l22Power.f k l).bind fun t => if t = true then ((spec_l22Power.f k m).bind fun t => spec_PowerOf.j1 k l m (!t)) else spec_PowerOf.j1 k l m true) (fun k => by simp [spec_PowerOf.j0]) ?_
    refine ev_bind (powers_spec l hl) ?_
    by_cases h1 : powersB l = true
    · rw [h1, Bool.true_and]
      refine ev_pos rfl (ev_bind (powers_spec m hm) ?_)
      by_cases h2 : powersB m = true
      · rw [h2]
        rw [if_pos rfl]
        refine Ev.step (f := fun k => if (l.length : Int) = (m.length : Int) then spec_PowerOf.l0 k l m 0 0 0 else some (0, 0, 3)) (fun k => by simp [spec_PowerOf.j1]) ?_
        by_cases h3 : l.length = m.length
        · rw [if_pos h3]
          refine ev_pos (by omega) ?_
          refine run_ev l (step m) fin (fun k i s => spec_PowerOf.l0 k l m i s.1 s.2) Inv (fun i x s hx hs => ⟨fun s' hst => ?_, fun r hr => by cases hr⟩) (fun s hs => ?_) (0, 0) ⟨zero_nn, zero_nn⟩
          · have hi := some_lt hx
            have hr : rd_T52 l (i : Int) = x := getD_some hx
            obtain ⟨q, a, b, hq, e1, e2, ea, eb, na, nb⟩ := adds h1 h2 h3 hx hs
            simp only [step, hq, ea, eb, Sum.inl.injEq] at hst
            subst hst
            refine ⟨⟨na, nb⟩, fun r hE => Ev.step (fun k => ?_) hE⟩
            simp only [spec_PowerOf.l0, hr, hq, e2, ea, eb, Option.bind_some]
            rw [if_pos (ilt hi), if_pos (ige _), if_pos (by omega), wrap_succ hi hl]
            rfl
          · refine ev_succ (fun k => ?_)
            simp only [spec_PowerOf.l0]
            rw [if_neg (by omega)]; rfl
        · rw [if_neg h3]
          exact ev_neg (by omega) (ev_some _)
      · rw [Bool.eq_false_iff.2 h2]
        exact ev_succ (fun k => by simp [spec_PowerOf.j1])
    · rw [Bool.eq_false_iff.2 h1, Bool.false_and]
      exact ev_neg (by decide) (ev_succ (fun k => by simp [spec_PowerOf.j1]))
theorem pow_impl (l m : List S52) (hl : l.length ≤ maxLen) (hm : m.length ≤ maxLen) : Ev (fun k => impl_PowerOf.f k l m) (powB l m) := by
  unfold impl_PowerOf.f powB
  simp only [impl_Power_72.f, Option.bind_some, decide_eq_true_eq]
  by_cases h0 : l.length > 4096 ∨ m.length > 4096
  · rw [if_pos h0]
    by_cases h1 : l.length > 4096
    · exact ev_neg (by omega) (ev_succ (fun k => by simp [impl_PowerOf.j0]))
    · refine ev_pos (by omega) (ev_succ (fun k => ?_))
      rw [decide_eq_false (show ¬ (m.length : Int) ≤ 4096 by omega)]
      simp [impl_PowerOf.j0]
  · rw [if_neg h0]
    refine ev_pos (by omega) ?_
    rw [decide_eq_true (show (m.length : Int) ≤ 4096 by omega)]
    refine Ev.step (f := fun k => (impl_arePowers.f k l).bind fun t => if t = true then ((impl_arePowers.f k m).bind fun t => impl_PowerOf.j1 k l m (!t)) else impl_PowerOf.j1 k l m true) (fun k => by simp [impl_PowerOf.j0]) ?_
    refine ev_bind (powers_impl l hl) ?_
    by_cases h1 : powersB l = true
    · rw [h1, Bool.true_and]
      refine ev_pos rfl (ev_bind (powers_impl m hm) ?_)
      by_cases h2 : powersB m = true
      · rw [h2]
        rw [if_pos rfl]
        refine Ev.step (f := fun k => if (l.length : Int) = (m.length : Int) then impl_PowerOf.l0 k m l (l.length : Int) 0 0 0 else some (0, 0, 3)) (fun k => by simp [impl_PowerOf.j1]) ?_
        by_cases h3 : l.length = m.length
        · rw [if_pos h3]
          refine ev_pos (by omega) ?_
          refine run_ev l (step m) fin (fun k i s => impl_PowerOf.l0 k m l (l.length : Int) i s.1 s.2) Inv (fun i x s hx hs => ⟨fun s' hst => ?_, fun r hr => by cases hr⟩) (fun s hs => ?_) (0, 0) ⟨zero_nn, zero_nn⟩
          · have hi := some_lt hx
            have hr : rd_T52 l (i : Int) = x := getD_some hx
            obtain ⟨q, a, b, hq, e1, e2, ea, eb, na, nb⟩ := adds h1 h2 h3 hx hs
            simp only [step, hq, ea, eb, Sum.inl.injEq] at hst
            subst hst
            refine ⟨⟨na, nb⟩, fun r hE => Ev.step (fun k => ?_) hE⟩
            simp only [impl_PowerOf.l0, hr, hq, e1, ea, eb, Option.bind_some]
            rw [if_pos (ilt hi), if_pos (ige _), if_pos (ilt hi), if_pos (by omega), wrap_succ hi hl]
            rfl
          · refine ev_succ (fun k => ?_)
            simp only [impl_PowerOf.l0]
            rw [if_neg (by omega)]; rfl
        · rw [if_neg h3]
          exact ev_neg (by omega) (ev_some _)
      · rw [Bool.eq_false_iff.2 h2]
        exact ev_succ (fun k => by simp [impl_PowerOf.j1])
    · rw [Bool.eq_false_iff.2 h1, Bool.false_and]
      exact ev_neg (by decide) (ev_succ (fun k => by simp [impl_PowerOf.j1]))
theorem FnExactPowerOf : laws_FnExactPowerOf.Pure := by
  intro l0 l1 ⟨hl, _⟩ ⟨hm, _⟩
  refine Ev.rounds ?_
  unfold laws_FnExactPowerOf.f
  rcases sz_powers l0 1048576 hl (by omega) (by omega) with ⟨hs, e⟩ | ⟨n, hn, e⟩
  · simp only [e, Option.bind_some]
    refine ev_neg (by omega) ?_
    rcases sz_powers l1 (1048576 - l0.length) hm (by omega) (by omega) with ⟨ht, e'⟩ | ⟨n, hn, e'⟩
    · simp only [e', Option.bind_some]
      refine ev_neg (by omega) ?_
      have hl' : (l0.map conv).length ≤ maxLen := by rw [List.length_map]; exact hl
      have hm' : (l1.map conv).length ≤ maxLen := by rw [List.length_map]; exact hm
      have t0 := to_powers l0 (by omega)
      have t1 := to_powers l1 (by omega)
      refine ev_bind t0 (ev_bind t1 (ev_bind (pow_spec _ _ hl' hm') (ev_bind t0 (ev_bind t1 (ev_bind (pow_impl _ _ hl' hm') (ev_bind (eq_power _ _) (ev_pos rfl ?_)))))))
      refine Ev.step (f := fun k => (laws_toPowerS.f k l0).bind fun t => (laws_eqPowerS.f k (l0.map conv) t).bind fun t => if t = true then ((laws_toPowerS.f k l1).bind fun t => (laws_eqPowerS.f k (l1.map conv) t).bind fun t => if t = true then some true else some false) else some false) (fun k => ?_) (ev_bind t0 (ev_bind (eq_powers _ hl') (ev_pos rfl (ev_bind t1 (ev_bind (eq_powers _ hm') (ev_eq (ev_some true) rfl))))))
      simp [laws_FnExactPowerOf.j0]
    · simp only [e', Option.bind_some]
      exact ev_pos hn (ev_some _)
  · simp only [e, Option.bind_some]
    exact ev_pos hn (ev_some _)
end Go.Proofs.Ytdnahjgboabdhaa.Pure
