/- The statement of FnExactLeastEnd as plain Lean: at every list of stops and every minute the program's LeastEnd answers as the reference's and leaves the list as it was: no condition beyond what the row's reading gives. -/
import Derived.Test.YtdnahjgboabdhaaSFnExactLeastEnd
import Derived.Test.YtdnahjgboabdhaaStops
namespace Go.Proofs.Ytdnahjgboabdhaa.Pure
open Go.RowKit Go.Proofs.Ytdnahjgboabdhaa.Q Go.Proofs.Ytdnahjgboabdhaa.Lib Go.Proofs.Ytdnahjgboabdhaa.Stops Go.Proofs.YtdnahjgboabdhaaW.PrintWords Go.Proofs.YtdnahjgboabdhaaW.PrintLast Go.Proofs.YtdnahjgboabdhaaW.PrintMore

/-- The code of stops and a minute. -/
def codeB (l : List S93) (a : Int) : Int := if l.length > 4096 then 2 else if stopsB l = true then (if 0 ≤ a ∧ a ≤ 100000 then 0 else 5) else 1
theorem code_spec (l : List S93) (a : Int) (hl : l.length ≤ maxLen) : Ev (fun k => spec_l20Begin.f k l a) (codeB l a) := by
  unfold spec_l20Begin.f codeB
  by_cases h : l.length > 4096
  · simp only [if_pos h, if_pos (show (l.length : Int) > 4096 by omega)]; exact ev_some _
  · simp only [if_neg h, if_neg (show ¬ (l.length : Int) > 4096 by omega)]
    refine ev_bind (spec_ev l hl) ?_
    by_cases hb : stopsB l = true
    · simp only [if_pos hb, l01In_eq, Option.bind_some, decide_eq_true_eq]
      by_cases ha : 0 ≤ a ∧ a ≤ 100000
      · simp only [if_pos ha]; exact ev_some _
      · simp only [if_neg ha]; exact ev_some _
    · simp only [if_neg hb]; exact ev_some _
theorem code_impl (l : List S93) (a : Int) (hl : l.length ≤ maxLen) : Ev (fun k => impl_stopsCode.f k l a) (codeB l a) := by
  unfold impl_stopsCode.f codeB
  by_cases h : l.length > 4096
  · simp only [if_pos h, impl_Stop_98.f, Option.bind_some, decide_eq_true_eq, if_neg (show ¬ (l.length : Int) ≤ 4096 by omega)]; exact ev_some _
  · simp only [if_neg h, impl_Stop_98.f, Option.bind_some, decide_eq_true_eq, if_pos (show (l.length : Int) ≤ 4096 by omega)]
    refine ev_bind (impl_ev l hl) ?_
    by_cases hb : stopsB l = true
    · simp only [if_pos hb, within_eq, Option.bind_some, decide_eq_true_eq]
      by_cases ha : 0 ≤ a ∧ a ≤ 100000
      · simp only [if_pos ha]; exact ev_some _
      · simp only [if_neg ha]; exact ev_some _
    · simp only [if_neg hb]; exact ev_some _
theorem code_zero {l : List S93} {a : Int} (h : codeB l a = 0) : ∀ p ∈ l, Right p := by
  unfold codeB at h
  split at h
  · omega
  · split at h
    · rename_i hb
      intro p hp
      unfold stopsB at hb
      simp only [Bool.and_eq_true, List.all_eq_true, decide_eq_true_eq] at hb
      exact hb.2 p hp
    · omega
/-- How far a stop is from where the route begins. -/
def far (p : S93) : Int := mx p.f0 (-p.f0) + mx p.f1 (-p.f1)
theorem mx_comm (a b : Int) : mx a b = mx b a := by unfold mx; split <;> split <;> omega
theorem mx_le {a b c : Int} (h1 : a ≤ c) (h2 : b ≤ c) : mx a b ≤ c := by unfold mx; split <;> omega
theorem le_mx (a b : Int) : a ≤ mx a b ∧ b ≤ mx a b := by unfold mx; split <;> omega
theorem far_spec {p : S93} (h : Right p) : spec_l20Far.f p.f0 p.f1 p.f2 p.f3 p.f4 0 0 0 0 0 = some (far p) := by
  unfold Right at h
  have h0 := mx_le (show p.f0 ≤ 1000 by omega) (show -p.f0 ≤ 1000 by omega)
  have h1 := mx_le (show p.f1 ≤ 1000 by omega) (show -p.f1 ≤ 1000 by omega)
  have g0 := le_mx p.f0 (-p.f0)
  have g1 := le_mx p.f1 (-p.f1)
  unfold spec_l20Far.f far
  rw [w64 (x := p.f0 - 0) (by omega) (by omega), w64 (x := 0 - p.f0) (by omega) (by omega), w64 (x := p.f1 - 0) (by omega) (by omega), w64 (x := 0 - p.f1) (by omega) (by omega), Int.sub_zero, Int.sub_zero, Int.zero_sub, Int.zero_sub, w64 (by omega) (by omega)]
theorem far_impl {p : S93} (h : Right p) : impl_away.f 0 0 0 0 0 p.f0 p.f1 p.f2 p.f3 p.f4 = some (far p) := by
  unfold Right at h
  have h0 := mx_le (show p.f0 ≤ 1000 by omega) (show -p.f0 ≤ 1000 by omega)
  have h1 := mx_le (show p.f1 ≤ 1000 by omega) (show -p.f1 ≤ 1000 by omega)
  have g0 := le_mx p.f0 (-p.f0)
  have g1 := le_mx p.f1 (-p.f1)
  unfold impl_away.f impl_sizeOf.f far
  simp only [Option.bind_some]
  rw [w64 (x := 0 - p.f0) (by omega) (by omega), w64 (x := 0 - p.f1) (by omega) (by omega), Int.zero_sub, Int.zero_sub, w64 (x := - -p.f0) (by omega) (by omega), w64 (x := - -p.f1) (by omega) (by omega), Int.neg_neg, Int.neg_neg, mx_comm (-p.f0), mx_comm (-p.f1), w64 (by omega) (by omega)]
def step (a : Int) (_ : Int) (p : S93) (s : Int × Int × Int) : (Int × Int × Int) ⊕ (Int × Int) :=
  .inl (mx s.1 (wrap64 ((wrap64 ((mx (wrap64 (a + far p)) p.f2) + p.f4)) + far p)), wrap64 (s.2.1 + p.f4), mx s.2.2 (far p))
def fin (a : Int) (s : Int × Int × Int) : Int × Int := (mx s.1 (wrap64 ((wrap64 (a + s.2.1)) + (wrap64 (2 * s.2.2)))), 0)
/-- What LeastEnd answers. -/
def leastB (l : List S93) (a : Int) : Int × Int := if codeB l a = 0 then run (step a) (fin a) l 0 (a, 0, 0) else (0, codeB l a)
theorem least_spec (l : List S93) (a : Int) (hl : l.length ≤ maxLen) : Ev (fun k => spec_LeastEnd.f k l a) (leastB l a) := by
  unfold spec_LeastEnd.f leastB
  refine ev_bind (code_spec l a hl) ?_
  by_cases h : codeB l a = 0
  · simp only [if_pos h]
    refine run_ev l (step a) (fin a) (fun k i s => spec_LeastEnd.l0 k l a s.1 s.2.1 s.2.2 i) (fun _ _ => True) (fun i p s hx _ => ⟨fun s' hs => ⟨trivial, fun r hr => ?_⟩, fun r hr => by cases hr⟩) (fun s _ => ?_) (a, 0, 0) trivial
    · cases hs
      have hi := some_lt hx
      refine Ev.step (fun k => ?_) hr
      simp only [spec_LeastEnd.l0, rd_T93]
      rw [if_pos (ilt hi), if_pos (ige _), getD_some hx, far_spec (code_zero h p (List.mem_of_getElem? hx))]
      simp only [Option.bind_some]
      rw [wrap_succ hi hl]
      rfl
    · refine ev_succ (fun k => ?_)
      simp only [spec_LeastEnd.l0]
      rw [if_neg (by omega)]; rfl
  · simp only [if_neg h]; exact ev_some _
theorem least_impl (l : List S93) (a : Int) (hl : l.length ≤ maxLen) : Ev (fun k => impl_LeastEnd.f k l a) (leastB l a) := by
  unfold impl_LeastEnd.f leastB
  refine ev_bind (code_impl l a hl) ?_
  by_cases h : codeB l a = 0
  · simp only [if_pos h]
    refine run_ev l (step a) (fin a) (fun k i s => impl_LeastEnd.l0 k a s.1 s.2.1 s.2.2 l (l.length : Int) i) (fun _ _ => True) (fun i p s hx _ => ⟨fun s' hs => ⟨trivial, fun r hr => ?_⟩, fun r hr => by cases hr⟩) (fun s _ => ?_) (a, 0, 0) trivial
    · cases hs
      have hi := some_lt hx
      refine Ev.step (fun k => ?_) hr
      simp only [impl_LeastEnd.l0, rd_T93]
      rw [if_pos (ilt hi), if_pos (ige _), if_pos (ilt hi), getD_some hx, far_impl (code_zero h p (List.mem_of_getElem? hx))]
      simp only [Option.bind_some]
      rw [wrap_succ hi hl]
      rfl
    · refine ev_succ (fun k => ?_)
      simp only [impl_LeastEnd.l0]
      rw [if_neg (by omega)]; rfl
  · simp only [if_neg h]; exact ev_some _
theorem FnExactLeastEnd : laws_FnExactLeastEnd.Pure := by
  intro l0 a1 ⟨hl, _⟩ _
  refine Ev.rounds ?_
  unfold laws_FnExactLeastEnd.f
  rcases sz_stops l0 hl with ⟨hs, n, hn, e⟩ | ⟨n, hn, e⟩
  · simp only [e, Option.bind_some]
    refine ev_neg (by omega) ?_
    have hm : (l0.map conv).length ≤ maxLen := by rw [List.length_map]; exact hl
    refine ev_bind (to_stops l0 hs) (ev_bind (least_spec _ a1 hm) (ev_bind (to_stops l0 hs) (ev_bind (least_impl _ a1 hm) ?_)))
    simp only [if_true, bne_self_eq_false]
    refine Ev.step (fun k => ?_) (ev_bind (f := fun k (t : List S93) => (laws_eqStopS.f k (l0.map conv) t).bind fun t => if t = true then some true else some false) (to_stops l0 hs) (ev_bind (eq_stops _ hm) (ev_eq (ev_some true) rfl)))
    simp [laws_FnExactLeastEnd.j0]
  · simp only [e, Option.bind_some]
    exact ev_pos hn (ev_some _)
end Go.Proofs.Ytdnahjgboabdhaa.Pure
