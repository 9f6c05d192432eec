/- Watches: what the program's and the reference's come to. -/
import Derived.Test.YtdgaaoeicijemaaZTracG
namespace Go.Proofs.Ytdgaaoeicijemaa.ZWatchG
open Go.RowKit Go.Proofs.Ytdgaaoeicijemaa.G Go.Proofs.Ytdgaaoeicijemaa.Lib Go.Proofs.Ytdgaaoeicijemaa.Flo Go.Proofs.Ytdgaaoeicijemaa.ZTracG Go.Proofs.YtdgaaoeicijemaaW.PrintWords Go.Proofs.YtdgaaoeicijemaaW.PrintLast Go.Proofs.YtdgaaoeicijemaaW.PrintMore

def isNum (d : Ieee.Datum) : Bool := match d with | .number _ m _ => m != 0 | _ => false
theorem small_nums : (List.range 201).all (fun n => n == 0 || isNum (Ieee.double.read (floatOfInt .f64 (n : Int)))) = true := by decide +kernel
theorem of_int {n : Int} (h1 : 1 ≤ n) (h2 : n ≤ 200) : ∃ t m j, Ieee.double.read (floatOfInt .f64 n) = .number t m j ∧ m ≠ 0 := by
  obtain ⟨v, rfl⟩ := Int.eq_ofNat_of_zero_le (show 0 ≤ n by omega)
  have := List.all_eq_true.1 small_nums v (List.mem_range.2 (by omega))
  rw [Bool.or_eq_true] at this
  rcases this with h | h
  · have : v = 0 := by simpa using h
    omega
  · cases hr : Ieee.double.read (floatOfInt .f64 (v : Int)) with
    | nan a b => rw [hr] at h; cases h
    | infinity s => rw [hr] at h; cases h
    | number t m j => rw [hr] at h; exact ⟨t, m, j, rfl, by simpa [isNum] using h⟩
abbrev St := Nat × Int × Int × Nat × Nat × Nat
def nxt (x : Nat) (s : St) : St :=
  if fEq .f64 x x = true then
    ((floatBits .add .f64 s.1 x).getD 0, wrap64 (s.2.1 + 1), s.2.2.1, s.2.2.2.1,
      if (decide (s.2.1 = 0) || fLt .f64 x s.2.2.2.2.1) = true then x else s.2.2.2.2.1,
      if (decide (s.2.1 = 0) || fGt .f64 x s.2.2.2.2.2) = true then x else s.2.2.2.2.2)
  else (s.1, s.2.1, wrap64 (s.2.2.1 + 1), s.2.2.2)
def step (_ : Int) (x : Nat) (s : St) : St ⊕ (Int × Int × Nat × Nat × Nat × Int) := .inl (nxt x s)
def fin (s : St) : Int × Int × Nat × Nat × Nat × Int :=
  if s.2.1 = 0 then (0, 0, 0, 0, 0, 8) else (s.2.1, s.2.2.1, (floatBits .quo .f64 s.1 (floatOfInt .f64 s.2.1)).getD 0, s.2.2.2.2.1, s.2.2.2.2.2, 0)
def s0 : St := (0, 0, 0, 0, 0, 0)
def watchB (l : List Nat) : Int × Int × Nat × Nat × Nat × Int :=
  if l.length > 4096 then (0, 0, 0, 0, 0, 2) else if traceB l = true then run step fin l 0 s0 else (0, 0, 0, 0, 0, 1)
def Inv (i : Nat) (s : St) : Prop := NN Ieee.double s.1 ∧ 0 ≤ s.2.1 ∧ s.2.1 ≤ i
theorem inv0 : Inv 0 s0 := by
  refine ⟨?_, by decide, by decide⟩
  have h : Ieee.double.read 0 = .number false 0 (Ieee.double.leastPlace + ((0 : Nat) : Int)) := by decide
  intro s t hc
  have hc' : Ieee.double.read 0 = .nan s t := hc
  rw [h] at hc'; cases hc'
theorem inv_nxt {i x : Nat} {s : St} (h : Inv i s) (hi : i < 200) (hx : fEq .f64 x x = true → B Ieee.double 1084 x) : Inv (i + 1) (nxt x s) := by
  obtain ⟨h1, h2, h3⟩ := h
  unfold nxt
  by_cases he : fEq .f64 x x = true
  · rw [if_pos he]
    obtain ⟨c, e5, e6⟩ := B.addNN h1 (hx he)
    have e5' : floatBits .add .f64 s.1 x = some c := e5
    refine ⟨?_, ?_, ?_⟩
    · show NN Ieee.double ((floatBits .add .f64 s.1 x).getD 0)
      rw [e5']; exact e6
    · show 0 ≤ wrap64 (s.2.1 + 1)
      rw [w64 (by omega) (by omega)]; omega
    · show wrap64 (s.2.1 + 1) ≤ ((i + 1 : Nat) : Int)
      rw [w64 (by omega) (by omega)]; omega
  · rw [if_neg he]
    exact ⟨h1, h2, by show s.2.1 ≤ ((i + 1 : Nat) : Int); omega⟩
theorem fin_eq {n : Nat} {s : St} (h : Inv n s) (hn : n ≤ 200) (h0 : ¬ s.2.1 = 0) : floatBits .quo .f64 s.1 (floatOfInt .f64 s.2.1) = some ((floatBits .quo .f64 s.1 (floatOfInt .f64 s.2.1)).getD 0) := by
  obtain ⟨t, m, j, hr, hm⟩ := of_int (n := s.2.1) (by have := h.2.1; omega) (by have := h.2.2; omega)
  obtain ⟨r, hr', _⟩ := div_nn Ieee.double h.1 hr hm
  have hr'' : floatBits .quo .f64 s.1 (floatOfInt .f64 s.2.1) = some r := hr'
  rw [hr'']; rfl
theorem watch_spec (l : List Nat) (hl : l.length ≤ maxLen) : Ev (fun k => spec_WatchOf.f k l) (watchB l) := by
  unfold spec_WatchOf.f watchB
  by_cases h0 : l.length > 4096
  · simp only [if_pos h0]; exact ev_pos (by omega) (ev_some _)
  · simp only [if_neg h0]
    refine ev_neg (by omega) (ev_bind (trace_spec l hl) ?_)
    by_cases h1 : traceB l = true
    · rw [if_pos h1]
      have h200 := trace_len h1
      refine ev_pos h1 ?_
      refine run_ev l step fin (fun k i s => spec_WatchOf.l0 k l s.1 i s.2.1 s.2.2.1 s.2.2.2.1 s.2.2.2.2.1 s.2.2.2.2.2) Inv (fun i x s hx hs => ⟨fun s' hst => ?_, fun r hr => by cases hr⟩) (fun s hs => ?_) s0 inv0
      · have hi := some_lt hx
        have hr : rdOf (0 : Nat) l (i : Int) = x := getD_some hx
        have hb := trace_mem h1 x (List.mem_of_getElem? hx)
        cases hst
        refine ⟨inv_nxt hs (by omega) hb, fun r hE => ?_⟩
        by_cases h4 : fEq .f64 x x = true
        · obtain ⟨c, e5, e6⟩ := B.addNN hs.1 (hb h4)
          have e5' : floatBits .add .f64 s.1 x = some c := e5
          have hn : nxt x s = (c, wrap64 (s.2.1 + 1), s.2.2.1, s.2.2.2.1,
      if (decide (s.2.1 = 0) || fLt .f64 x s.2.2.2.2.1) = true then x else s.2.2.2.2.1,
      if (decide (s.2.1 = 0) || fGt .f64 x s.2.2.2.2.2) = true then x else s.2.2.2.2.2) := by unfold nxt; rw [if_pos h4, e5']; rfl
          rw [hn] at hE
          refine Ev.step (f := fun k => spec_WatchOf.j1 k l s.1 (i : Int) x (decide (s.2.1 = 0) || fLt .f64 x s.2.2.2.2.1) s.2.1 s.2.2.1 s.2.2.2.1 s.2.2.2.2.1 s.2.2.2.2.2) (fun k => ?_) (Ev.step (fun k => ?_) hE)
          · simp only [spec_WatchOf.l0, hr, spec_l22There.f, Option.bind_some]
            rw [if_pos (ilt hi), if_pos (ige _), if_pos h4]
            by_cases hz : s.2.1 = 0
            · rw [if_pos hz]; simp [hz]
            · rw [if_neg hz]; simp [hz]
          · simp only [spec_WatchOf.j1, e5', Option.bind_some, wrap_succ hi hl]
            by_cases hz : s.2.1 = 0
            · simp [hz]
            · cases hlt : fLt .f64 x s.2.2.2.2.1 <;> cases hgt : fGt .f64 x s.2.2.2.2.2 <;> simp [hz]
        · have hn : nxt x s = (s.1, s.2.1, wrap64 (s.2.2.1 + 1), s.2.2.2) := by unfold nxt; rw [if_neg h4]
          rw [hn] at hE
          refine Ev.step (fun k => ?_) hE
          simp only [spec_WatchOf.l0, hr, spec_l22There.f, Option.bind_some]
          rw [if_pos (ilt hi), if_pos (ige _), if_neg h4, wrap_succ hi hl]
          rfl
      · refine ev_succ (fun k => ?_)
        simp only [spec_WatchOf.l0]
        rw [if_neg (by omega)]
        unfold fin
        by_cases hz : s.2.1 = 0
        · rw [if_pos hz, if_pos hz]
        · rw [if_neg hz, if_neg hz, fin_eq hs h200 hz]; rfl
    · rw [if_neg h1]
      exact ev_neg h1 (ev_some _)
theorem watch_impl (l : List Nat) (hl : l.length ≤ maxLen) : Ev (fun k => impl_WatchOf.f k l) (watchB l) := by
  unfold impl_WatchOf.f watchB
  simp only [impl_isList_float64.f, Option.bind_some, decide_eq_true_eq]
  by_cases h0 : l.length > 4096
  · simp only [if_pos h0]; exact ev_neg (by omega) (ev_some _)
  · simp only [if_neg h0]
    refine ev_pos (by omega) (ev_bind (trace_impl l hl) ?_)
    by_cases h1 : traceB l = true
    · rw [if_pos h1]
      have h200 := trace_len h1
      refine ev_pos h1 ?_
      refine run_ev l step fin (fun k i s => impl_WatchOf.l0 k s.1 l (l.length : Int) i s.2.1 s.2.2.1 s.2.2.2.1 s.2.2.2.2.1 s.2.2.2.2.2) Inv (fun i x s hx hs => ⟨fun s' hst => ?_, fun r hr => by cases hr⟩) (fun s hs => ?_) s0 inv0
      · have hi := some_lt hx
        have hr : rdOf (0 : Nat) l (i : Int) = x := getD_some hx
        have hb := trace_mem h1 x (List.mem_of_getElem? hx)
        cases hst
        refine ⟨inv_nxt hs (by omega) hb, fun r hE => ?_⟩
        by_cases h4 : fEq .f64 x x = true
        · obtain ⟨c, e5, e6⟩ := B.addNN hs.1 (hb h4)
          have e5' : floatBits .add .f64 s.1 x = some c := e5
          have hn : nxt x s = (c, wrap64 (s.2.1 + 1), s.2.2.1, s.2.2.2.1,
      if (decide (s.2.1 = 0) || fLt .f64 x s.2.2.2.2.1) = true then x else s.2.2.2.2.1,
      if (decide (s.2.1 = 0) || fGt .f64 x s.2.2.2.2.2) = true then x else s.2.2.2.2.2) := by unfold nxt; rw [if_pos h4, e5']; rfl
          rw [hn] at hE
          refine Ev.step (f := fun k => impl_WatchOf.j1 k s.1 x l (l.length : Int) (i : Int) (decide (s.2.1 = 0) || fLt .f64 x s.2.2.2.2.1) s.2.1 s.2.2.1 s.2.2.2.1 s.2.2.2.2.1 s.2.2.2.2.2) (fun k => ?_) (Ev.step (fun k => ?_) hE)
          · simp only [impl_WatchOf.l0, hr, impl_isMissing.f, ne_not_eq, h4, Option.bind_some]
            rw [if_pos (ilt hi), if_pos (ige _), if_pos (ilt hi), if_neg (by decide)]
            by_cases hz : s.2.1 = 0
            · rw [if_pos hz]; simp [hz]
            · rw [if_neg hz]; simp [hz]
          · simp only [impl_WatchOf.j1, e5', Option.bind_some, wrap_succ hi hl]
            by_cases hz : s.2.1 = 0
            · simp [hz]
            · cases hlt : fLt .f64 x s.2.2.2.2.1 <;> cases hgt : fGt .f64 x s.2.2.2.2.2 <;> simp [hz]
        · have hn : nxt x s = (s.1, s.2.1, wrap64 (s.2.2.1 + 1), s.2.2.2) := by unfold nxt; rw [if_neg h4]
          rw [hn] at hE
          refine Ev.step (fun k => ?_) hE
          simp only [impl_WatchOf.l0, hr, impl_isMissing.f, ne_not_eq, Bool.eq_false_iff.2 h4, Option.bind_some]
          rw [if_pos (ilt hi), if_pos (ige _), if_pos (ilt hi), if_pos (by decide), wrap_succ hi hl]
          rfl
      · refine ev_succ (fun k => ?_)
        simp only [impl_WatchOf.l0]
        rw [if_neg (by omega)]
        unfold fin
        by_cases hz : s.2.1 = 0
        · rw [if_pos hz, if_pos hz]
        · rw [if_neg hz, if_neg hz, fin_eq hs h200 hz]; rfl
    · rw [if_neg h1]
      exact ev_neg h1 (ev_some _)
end Go.Proofs.Ytdgaaoeicijemaa.ZWatchG
