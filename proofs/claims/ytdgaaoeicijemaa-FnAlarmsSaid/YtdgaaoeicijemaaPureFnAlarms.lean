/- FnAlarms: of a trace and bounds that are drawn, each alarm of the program's goes on at a number above high, off at one at most low or at the end, they do not overlap, a longer hold makes no more of them, and the reference has as many; on condition that the code is a list of bytes. -/
import Derived.Test.YtdgaaoeicijemaaZAlarxK
import Derived.Test.YtdgaaoeicijemaaZTrK
namespace Go.Proofs.Ytdgaaoeicijemaa.Pure
open Go.RowKit Go.Proofs.Ytdgaaoeicijemaa.K Go.Proofs.Ytdgaaoeicijemaa.Lib Go.Proofs.Ytdgaaoeicijemaa.Flo Go.Proofs.Ytdgaaoeicijemaa.ZTracK Go.Proofs.Ytdgaaoeicijemaa.ZTrK Go.Proofs.Ytdgaaoeicijemaa.ZAlarmK Go.Proofs.Ytdgaaoeicijemaa.ZAlarxK Go.Proofs.YtdgaaoeicijemaaW.PrintWords Go.Proofs.YtdgaaoeicijemaaW.PrintLast Go.Proofs.YtdgaaoeicijemaaW.PrintMore

theorem inner {l : List Nat} {hi lo : Nat} {out : List Al} {i : Int} {f0 f1 : Int} (hl : l.length ≤ 24) (h1 : f1 ≤ (l.length : Int)) (hq : ∀ k : Int, f0 ≤ k → k < f1 → fLe .f64 (rdOf (0 : Nat) l k) lo = false)
    (hE : Ev (fun k => laws_FnAlarms.l0 k l hi lo out (wrap64 (i + 1))) true) : ∀ (d : Nat) (j : Int), 0 ≤ j → f0 ≤ j → f1 - j ≤ (d : Int) → Ev (fun k => laws_FnAlarms.l1 k l hi lo out i j f0 f1) true := by
  intro d
  induction d with
  | zero =>
    intro j h0 h2 h3
    refine Ev.step (fun k => ?_) hE
    simp only [laws_FnAlarms.l1]
    rw [if_neg (by omega)]
  | succ d ih =>
    intro j h0 h2 h3
    by_cases hj : j < f1
    · refine Ev.step (fun k => ?_) (ih (j + 1) (by omega) (by omega) (by omega))
      simp only [laws_FnAlarms.l1]
      rw [if_pos hj, if_pos h0, if_pos (by omega), if_neg (by rw [hq j h2 hj]; decide), w64 (by omega) (by omega)]
    · refine Ev.step (fun k => ?_) hE
      simp only [laws_FnAlarms.l1]
      rw [if_neg hj]
theorem outer {l : List Nat} {hi lo : Nat} {out : List Al} (hl : l.length ≤ 24) (ho : out.length ≤ l.length + 1) (h : AllQ l hi lo out) : Ev (fun k => laws_FnAlarms.l0 k l hi lo out 0) true := by
  have key : Ev (fun k => laws_FnAlarms.l0 k l hi lo out ((0 : Nat) : Int)) true := by
    refine down_list out (P := fun i => Ev (fun k => laws_FnAlarms.l0 k l hi lo out (i : Int)) true) ?_ ?_
    · refine ev_succ (fun k => ?_)
      simp only [laws_FnAlarms.l0]
      rw [if_neg (by omega)]
    · intro i a hx hd ih
      have hi' := some_lt hx
      have hr : rd_T42 out (i : Int) = a := getD_some hx
      obtain ⟨⟨q1, q2, q3, q4⟩, q5, q6⟩ := h.1 a (List.mem_of_getElem? hx)
      have ih' : Ev (fun k => laws_FnAlarms.l0 k l hi lo out (wrap64 ((i : Int) + 1))) true := by
        rw [wrap_succ hi' (by unfold maxLen; omega)]; exact ih
      have e1 := inner (i := (i : Int)) (f0 := a.f0) hl q5 q4 ih' (a.f1 - a.f0).toNat a.f0 q1 (Int.le_refl _) (by omega)
      have e2 : Ev (fun k => laws_FnAlarms.j3 k l hi lo out (i : Int) false a.f0 a.f1) true := Ev.step (fun k => by rw [laws_FnAlarms.j3, if_neg (by decide)]) e1
      have e3 : Ev (fun k => laws_FnAlarms.j2 k l hi lo out (i : Int) false a.f0 a.f1) true := by
        by_cases h1 : a.f1 < (l.length : Int)
        · refine Ev.step (fun k => ?_) e2
          rw [laws_FnAlarms.j2, if_neg (by decide), if_pos h1, if_pos (by omega), q6 h1]; rfl
        · refine Ev.step (fun k => ?_) e2
          rw [laws_FnAlarms.j2, if_neg (by decide), if_neg h1]
      refine Ev.step (fun k => ?_) e3
      rw [laws_FnAlarms.l0, hr, if_pos (by omega), if_pos (ige _), if_neg (by omega), if_neg (by omega), if_neg (by omega), if_pos q1, if_pos (by omega), if_pos q3]
      by_cases hz : (i : Int) > 0
      · have hw : wrap64 ((i : Int) - 1) = ((i - 1 : Nat) : Int) := by rw [w64 (by omega) (by omega)]; omega
        have hy : out[i - 1]? = some out[i - 1] := List.getElem?_eq_getElem (by omega)
        have hr2 : rd_T42 out ((i - 1 : Nat) : Int) = out[i - 1] := getD_some hy
        have hlt : (out[i - 1]'(by omega)).f1 < a.f0 := by
          have := List.pairwise_iff_getElem.1 h.2 (i - 1) i (by omega) hi' (by omega)
          have hxe : out[i] = a := by rw [List.getElem?_eq_getElem hi'] at hx; exact Option.some.inj hx
          rw [hxe] at this; exact this
        rw [if_pos hz, hw, if_pos (ige _), if_pos (by omega), hr2, decide_eq_false (by omega)]
      · rw [if_neg hz]
  simpa using key
theorem FnAlarms : laws_FnAlarms.Pure := by
  intro r1 r2 r3 r4 hT
  refine Ev.rounds ?_
  have ht := tr_trace hT
  obtain ⟨b1, b2, b3⟩ := high_in hT.2.2.1
  have h4 := hT.2.2.2.1
  have h5 := hT.2.2.2.2
  have hl : r1.length ≤ maxLen := by have := hT.1; unfold maxLen; omega
  obtain ⟨out, more, e1, e2, e3, e4, e5⟩ := al_ok (hold := r4) ht b1 b2 b3 h4 (by omega)
  have g1 := al_impl r1 r2 r3 r4 hl
  have g2 := al_impl r1 r2 r3 (r4 + 1) hl
  have g3 := al_spec r1 r2 r3 r4 hl
  rw [e1] at g1 g3
  rw [e2] at g2
  have hw : wrap64 (r4 + 1) = r4 + 1 := w64 (by omega) (by omega)
  unfold laws_FnAlarms.g
  rw [hw]
  refine ev_bind g1 (ev_bind g2 (ev_bind g3 (ev_pos rfl (ev_pos rfl (ev_neg (by dsimp only; omega) ?_)))))
  have hn : ((out.length : Int) != (out.length : Int)) = false := by simp
  show Ev (fun k => laws_FnAlarms.j0 k r1 r2 r3 out ((out.length : Int) != (out.length : Int))) true
  rw [hn]
  exact Ev.step (fun k => by rw [laws_FnAlarms.j0, if_neg (by decide)]) (outer hT.1 e4 e5)
end Go.Proofs.Ytdgaaoeicijemaa.Pure
