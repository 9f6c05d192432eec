/- Traces: lists of readings that may be missing: what the program's and the reference's tests come to. -/
import Derived.Test.YtdgaaoeicijemaaLib
import Derived.Test.YtdgaaoeicijemaaFlo
import Derived.Test.YtdgaaoeicijemaaSFnWatch
namespace Go.Proofs.Ytdgaaoeicijemaa.ZTracG
open Go.RowKit Go.Proofs.Ytdgaaoeicijemaa.G Go.Proofs.Ytdgaaoeicijemaa.Lib Go.Proofs.Ytdgaaoeicijemaa.Flo Go.Proofs.YtdgaaoeicijemaaW.PrintWords Go.Proofs.YtdgaaoeicijemaaW.PrintLast Go.Proofs.YtdgaaoeicijemaaW.PrintMore

/-- A reading. -/
def inR (x : Nat) : Bool := fGe .f64 x 13875379345695965184 && fLe .f64 x 4652007308841189376
theorem within_eq (x lo hi : Nat) : spec_l22Within.f x lo hi = some (fGe .f64 x lo && fLe .f64 x hi) := by
  unfold spec_l22Within.f
  by_cases h : fGe .f64 x lo = true
  · rw [if_pos h, h, Bool.true_and]
  · rw [if_neg h, Bool.eq_false_iff.2 h, Bool.false_and]
theorem reading_eq (x : Nat) : impl_isReading.f x = some (inR x) := within_eq x _ _
theorem read_lo : Ieee.double.read 13875379345695965184 = .number true 8796093022208000 (Ieee.double.leastPlace + ((1031 : Nat) : Int)) := by decide
theorem read_hi : Ieee.double.read 4652007308841189376 = .number false 8796093022208000 (Ieee.double.leastPlace + ((1031 : Nat) : Int)) := by decide
theorem inR_bd {x : Nat} (h : inR x = true) : B Ieee.double 1084 x := by
  unfold inR at h
  rw [Bool.and_eq_true] at h
  exact B.range read_lo read_hi (c := 53) (by decide) (by decide) (by decide) (by decide) (ge_or h.1) (le_or h.2)
/-- A reading, or missing. -/
def okT (x : Nat) : Bool := !fEq .f64 x x || inR x
def traceB (l : List Nat) : Bool := decide (l.length ≤ 200) && l.all okT
theorem trace_spec (l : List Nat) (hl : l.length ≤ maxLen) : Ev (fun k => spec_l22Trace.f k l) (traceB l) := by
  unfold spec_l22Trace.f traceB
  by_cases h : l.length > 200
  · rw [decide_eq_false (by omega), Bool.false_and]
    exact ev_pos (by omega) (ev_some _)
  · rw [decide_eq_true (by omega), Bool.true_and]
    refine ev_neg (by omega) (all_ev' l okT (fun k i => spec_l22Trace.l0 k l i) hl (fun k i x hx => ?_) (fun k => ?_))
    · have := some_lt hx
      have hr : rdOf (0 : Nat) l (i : Int) = x := getD_some hx
      simp only [spec_l22Trace.l0, hr, spec_l22There.f, within_eq, Option.bind_some]
      rw [if_pos (ilt this), if_pos (ige _)]
      show _ = if (!fEq .f64 x x || inR x) = true then _ else _
      by_cases h1 : fEq .f64 x x = true
      · rw [if_pos h1, h1]; rfl
      · rw [if_neg h1, Bool.eq_false_iff.2 h1]; rfl
    · simp only [spec_l22Trace.l0]
      rw [if_neg (by omega)]
theorem trace_impl (l : List Nat) (hl : l.length ≤ maxLen) : Ev (fun k => impl_isTrace.f k l) (traceB l) := by
  unfold impl_isTrace.f traceB
  by_cases h : l.length > 200
  · rw [decide_eq_false (by omega), Bool.false_and]
    exact ev_neg (by omega) (ev_some _)
  · rw [decide_eq_true (by omega), Bool.true_and]
    have he : ∀ x, impl_isTrace_1.f x = some (!okT x) := by
      intro x
      unfold impl_isTrace_1.f okT
      rw [reading_eq]
      simp only [Option.bind_some, impl_isMissing.f, ne_not_eq]
      by_cases h1 : inR x = true
      · rw [if_pos h1, h1]; simp
      · rw [if_neg h1, Bool.eq_false_iff.2 h1]; simp
    have hx : Ev (fun k => slices_IndexFunc_at_impl_isTrace_1.f k l) (fidx (fun x => !okT x) l 0) := by
      unfold slices_IndexFunc_at_impl_isTrace_1.f
      refine index_ev' l _ (fun k i => slices_IndexFunc_at_impl_isTrace_1.l0 k l (l.length : Int) i) hl (fun k i x hx => ?_) (fun k => ?_)
      · have := some_lt hx
        have hr : rdOf (0 : Nat) l (i : Int) = x := getD_some hx
        simp only [slices_IndexFunc_at_impl_isTrace_1.l0, hr, he, Option.bind_some]
        rw [if_pos (ilt this), if_pos (ige _), if_pos (ilt this)]
      · simp only [slices_IndexFunc_at_impl_isTrace_1.l0]
        rw [if_neg (by omega)]
    have hc : Ev (fun k => slices_ContainsFunc_at_impl_isTrace_1.f k l) (l.any fun x => !okT x) := any_of_index hx
    refine ev_pos (by omega) (ev_bind hc (ev_eq (ev_some _) ?_))
    rw [List.all_eq_not_any_not]
theorem trace_mem {l : List Nat} (h : traceB l = true) : ∀ x ∈ l, fEq .f64 x x = true → B Ieee.double 1084 x := by
  unfold traceB at h
  rw [Bool.and_eq_true, List.all_eq_true] at h
  intro x hx he
  have := h.2 x hx
  unfold okT at this
  rw [he] at this
  exact inR_bd (by simpa using this)
theorem trace_len {l : List Nat} (h : traceB l = true) : l.length ≤ 200 := by
  unfold traceB at h
  rw [Bool.and_eq_true] at h
  exact of_decide_eq_true h.1
end Go.Proofs.Ytdgaaoeicijemaa.ZTracG
