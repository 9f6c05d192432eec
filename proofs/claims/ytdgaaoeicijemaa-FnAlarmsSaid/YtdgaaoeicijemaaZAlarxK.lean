/- Alarms: what holds of each, and that a longer hold makes no more of them. -/
import Derived.Test.YtdgaaoeicijemaaZAlarmK
import Derived.Test.YtdgaaoeicijemaaRuns
namespace Go.Proofs.Ytdgaaoeicijemaa.ZAlarxK
open Go.RowKit Go.Proofs.Ytdgaaoeicijemaa.K Go.Proofs.Ytdgaaoeicijemaa.Lib Go.Proofs.Ytdgaaoeicijemaa.Flo Go.Proofs.Ytdgaaoeicijemaa.ZTracK Go.Proofs.Ytdgaaoeicijemaa.ZAlarmK Go.Proofs.YtdgaaoeicijemaaW.PrintWords Go.Proofs.YtdgaaoeicijemaaW.PrintLast Go.Proofs.YtdgaaoeicijemaaW.PrintMore

/-- What holds of an alarm. -/
def Q (l : List Nat) (hi lo : Nat) (a : Al) : Prop :=
  0 ≤ a.f0 ∧ a.f0 < a.f1 ∧ fGt .f64 (rdOf (0 : Nat) l a.f0) hi = true ∧ ∀ k : Int, a.f0 ≤ k → k < a.f1 → fLe .f64 (rdOf (0 : Nat) l k) lo = false
def good (l : List Nat) (hi lo : Nat) (i : Nat) (s : ZAlarmK.St) : Prop :=
  (∀ a ∈ s.1, Q l hi lo a ∧ a.f1 < (i : Int) ∧ fLe .f64 (rdOf (0 : Nat) l a.f1) lo = true) ∧ s.1.Pairwise (fun a b => a.f1 < b.f0) ∧
    (s.2.1 = true → 0 ≤ s.2.2.1 ∧ s.2.2.1 < (i : Int) ∧ fGt .f64 (rdOf (0 : Nat) l s.2.2.1) hi = true ∧ (∀ k : Int, s.2.2.1 ≤ k → k < (i : Int) → fLe .f64 (rdOf (0 : Nat) l k) lo = false) ∧ ∀ a ∈ s.1, a.f1 < s.2.2.1)
theorem good_up {l : List Nat} {hi lo i : Nat} {c : List Al} (h : ∀ a ∈ c, Q l hi lo a ∧ a.f1 < (i : Int) ∧ fLe .f64 (rdOf (0 : Nat) l a.f1) lo = true) :
    ∀ a ∈ c, Q l hi lo a ∧ a.f1 < ((i + 1 : Nat) : Int) ∧ fLe .f64 (rdOf (0 : Nat) l a.f1) lo = true := fun a ha => ⟨(h a ha).1, by have := (h a ha).2.1; omega, (h a ha).2.2⟩
theorem ext {l : List Nat} {lo i : Nat} {x : Nat} {f : Int} (hx : rdOf (0 : Nat) l (i : Int) = x) (hl : fLe .f64 x lo = false) (h : ∀ k : Int, f ≤ k → k < (i : Int) → fLe .f64 (rdOf (0 : Nat) l k) lo = false) :
    ∀ k : Int, f ≤ k → k < ((i + 1 : Nat) : Int) → fLe .f64 (rdOf (0 : Nat) l k) lo = false := by
  intro k h1 h2
  by_cases hk : k = (i : Int)
  · rw [hk, hx]; exact hl
  · exact h k h1 (by omega)
theorem good_nxt {l : List Nat} {hi lo : Nat} {hold : Int} {i x : Nat} {s : ZAlarmK.St} (hh : 1 ≤ hold) (hx : rdOf (0 : Nat) l (i : Int) = x) (hb : fEq .f64 x x = true → B Ieee.double 1084 x)
    (bh : B Ieee.double 1084 hi) (bl : B Ieee.double 1084 lo) (hg : fGt .f64 lo hi = false) (h : good l hi lo i s) : good l hi lo (i + 1) (nxt hi lo hold (i : Int) x s) := by
  obtain ⟨c, on, from_, r⟩ := s
  obtain ⟨h1, h2, h3⟩ := h
  by_cases h6 : fEq .f64 x x = true
  · have hx1 := hb h6
    by_cases h7 : on = true
    · subst h7
      obtain ⟨g1, g2, g3, g4, g5⟩ := h3 rfl
      by_cases h8 : fLe .f64 x lo = true
      · have hn : nxt hi lo hold (i : Int) x (c, true, from_, r) = (c ++ [⟨from_, (i : Int)⟩], false, from_, 0) := by unfold nxt; rw [if_pos h6, if_pos rfl, if_pos h8]
        rw [hn]
        refine ⟨?_, ?_, fun h => by cases h⟩
        · intro a ha
          rcases List.mem_append.1 ha with h | h
          · exact good_up h1 a h
          · rw [List.mem_singleton.1 h]
            exact ⟨⟨g1, g2, g3, g4⟩, by show (i : Int) < _; omega, by show fLe .f64 (rdOf (0 : Nat) l (i : Int)) lo = true; rw [hx]; exact h8⟩
        · refine List.pairwise_append.2 ⟨h2, List.pairwise_singleton _ _, fun a ha b hb' => ?_⟩
          rw [List.mem_singleton.1 hb']
          exact g5 a ha
      · have h8' := Bool.eq_false_iff.2 h8
        have hn : nxt hi lo hold (i : Int) x (c, true, from_, r) = (c, true, from_, run1 hi x r) := by unfold nxt; rw [if_pos h6, if_pos rfl, if_neg h8]
        rw [hn]
        exact ⟨good_up h1, h2, fun _ => ⟨g1, by show from_ < _; have : from_ < (i : Int) := g2; omega, g3, ext hx h8' g4, g5⟩⟩
    · have h7' : on = false := Bool.eq_false_iff.2 h7
      subst h7'
      by_cases h8 : run1 hi x r = hold
      · have h9 : fGt .f64 x hi = true := by
          by_cases hc : fGt .f64 x hi = true
          · exact hc
          · unfold run1 at h8; rw [if_neg hc] at h8; omega
        have h10 := not_low hx1 bh bl hg h9
        have hn : nxt hi lo hold (i : Int) x (c, false, from_, r) = (c, true, (i : Int), run1 hi x r) := by unfold nxt; rw [if_pos h6, if_neg (by simp), if_pos h8]
        rw [hn]
        refine ⟨good_up h1, h2, fun _ => ⟨ige _, by show (i : Int) < _; omega, by show fGt .f64 (rdOf (0 : Nat) l (i : Int)) hi = true; rw [hx]; exact h9, ext hx h10 (fun k a b => by exfalso; have a' : (i : Int) ≤ k := a; omega), fun a ha => (h1 a ha).2.1⟩⟩
      · have hn : nxt hi lo hold (i : Int) x (c, false, from_, r) = (c, false, from_, run1 hi x r) := by unfold nxt; rw [if_pos h6, if_neg (by simp), if_neg h8]
        rw [hn]
        exact ⟨good_up h1, h2, fun h => by cases h⟩
  · have hn : nxt hi lo hold (i : Int) x (c, on, from_, r) = (c, on, from_, r) := by unfold nxt; rw [if_neg h6]
    rw [hn]
    refine ⟨good_up h1, h2, fun h => ?_⟩
    obtain ⟨g1, g2, g3, g4, g5⟩ := h3 h
    exact ⟨g1, by show from_ < _; have : from_ < (i : Int) := g2; omega, g3, ext hx (nan_le h6) g4, g5⟩
/-- Two holds, the second one longer by one. -/
def pairI (hold : Int) (a b : ZAlarmK.St) : Prop := b.1.length ≤ a.1.length ∧ (b.2.1 = true → a.2.1 = true) ∧ (a.2.1 = false → b.2.2.2 = a.2.2.2 ∧ 0 ≤ a.2.2.2 ∧ a.2.2.2 < hold)
theorem pair_nxt {hi lo : Nat} {hold : Int} {i : Int} {x : Nat} {a b : ZAlarmK.St} (hh : 1 ≤ hold) (hh2 : hold ≤ 100) (hb : fEq .f64 x x = true → B Ieee.double 1084 x)
    (bh : B Ieee.double 1084 hi) (bl : B Ieee.double 1084 lo) (hg : fGt .f64 lo hi = false) (h : pairI hold a b) : pairI hold (nxt hi lo hold i x a) (nxt hi lo (hold + 1) i x b) := by
  obtain ⟨c, on, f, r⟩ := a
  obtain ⟨c', on', f', r'⟩ := b
  obtain ⟨h1, h2, h3⟩ := h
  dsimp only at h1 h2 h3
  by_cases h6 : fEq .f64 x x = true
  · have hx1 := hb h6
    by_cases h7 : on = true
    · subst h7
      by_cases h8 : fLe .f64 x lo = true
      · have h9 : fGt .f64 x hi = false := by
          by_cases hc : fGt .f64 x hi = true
          · have := not_low hx1 bh bl hg hc
            rw [h8] at this; cases this
          · exact Bool.eq_false_iff.2 hc
        have hn : nxt hi lo hold i x (c, true, f, r) = (c ++ [⟨f, i⟩], false, f, 0) := by unfold nxt; rw [if_pos h6, if_pos rfl, if_pos h8]
        rw [hn]
        by_cases h10 : on' = true
        · subst h10
          have hn' : nxt hi lo (hold + 1) i x (c', true, f', r') = (c' ++ [⟨f', i⟩], false, f', 0) := by unfold nxt; rw [if_pos h6, if_pos rfl, if_pos h8]
          rw [hn']
          exact ⟨by simp only [List.length_append, List.length_cons, List.length_nil]; omega, fun h => (by cases h), fun _ => ⟨rfl, by show (0 : Int) ≤ 0; omega, by show (0 : Int) < hold; omega⟩⟩
        · have hr : run1 hi x r' = 0 := by unfold run1; rw [if_neg (by rw [h9]; decide)]
          have hn' : nxt hi lo (hold + 1) i x (c', on', f', r') = (c', false, f', 0) := by unfold nxt; rw [if_pos h6, if_neg h10, hr, if_neg (by omega)]
          rw [hn']
          exact ⟨by simp only [List.length_append, List.length_cons, List.length_nil]; omega, fun h => (by cases h), fun _ => ⟨rfl, by show (0 : Int) ≤ 0; omega, by show (0 : Int) < hold; omega⟩⟩
      · have hn : nxt hi lo hold i x (c, true, f, r) = (c, true, f, run1 hi x r) := by unfold nxt; rw [if_pos h6, if_pos rfl, if_neg h8]
        rw [hn]
        have hl : (nxt hi lo (hold + 1) i x (c', on', f', r')).1.length ≤ c.length := by
          by_cases h10 : on' = true
          · have hn' : nxt hi lo (hold + 1) i x (c', on', f', r') = (c', true, f', run1 hi x r') := by unfold nxt; rw [if_pos h6, if_pos h10, if_neg h8]
            rw [hn']; exact h1
          · by_cases h11 : run1 hi x r' = hold + 1
            · have hn' : nxt hi lo (hold + 1) i x (c', on', f', r') = (c', true, i, run1 hi x r') := by unfold nxt; rw [if_pos h6, if_neg h10, if_pos h11]
              rw [hn']; exact h1
            · have hn' : nxt hi lo (hold + 1) i x (c', on', f', r') = (c', false, f', run1 hi x r') := by unfold nxt; rw [if_pos h6, if_neg h10, if_neg h11]
              rw [hn']; exact h1
        exact ⟨hl, fun _ => rfl, fun h => by cases h⟩
    · have h7' : on = false := Bool.eq_false_iff.2 h7
      subst h7'
      obtain ⟨h4, h5, h5'⟩ := h3 rfl
      have ho : on' = false := by
        by_cases hc : on' = true
        · have := h2 hc; cases this
        · exact Bool.eq_false_iff.2 hc
      subst ho
      subst h4
      have hr : 0 ≤ run1 hi x r' ∧ run1 hi x r' ≤ hold := by
        unfold run1
        split
        · rw [w64 (by omega) (by omega)]; omega
        · omega
      have hn' : nxt hi lo (hold + 1) i x (c', false, f', r') = (c', false, f', run1 hi x r') := by unfold nxt; rw [if_pos h6, if_neg (by simp), if_neg (by dsimp only; omega)]
      rw [hn']
      by_cases h8 : run1 hi x r' = hold
      · have hn : nxt hi lo hold i x (c, false, f, r') = (c, true, i, run1 hi x r') := by unfold nxt; rw [if_pos h6, if_neg (by simp), if_pos h8]
        rw [hn]
        exact ⟨h1, fun _ => rfl, fun h => by cases h⟩
      · have hn : nxt hi lo hold i x (c, false, f, r') = (c, false, f, run1 hi x r') := by unfold nxt; rw [if_pos h6, if_neg (by simp), if_neg h8]
        rw [hn]
        exact ⟨h1, fun h => (by cases h), fun _ => ⟨rfl, hr.1, by show run1 hi x r' < hold; omega⟩⟩
  · have hn : nxt hi lo hold i x (c, on, f, r) = (c, on, f, r) := by unfold nxt; rw [if_neg h6]
    have hn' : nxt hi lo (hold + 1) i x (c', on', f', r') = (c', on', f', r') := by unfold nxt; rw [if_neg h6]
    rw [hn, hn']
    exact ⟨h1, h2, h3⟩
/-- What holds of a list of alarms. -/
def AllQ (l : List Nat) (hi lo : Nat) (out : List Al) : Prop :=
  (∀ a ∈ out, Q l hi lo a ∧ a.f1 ≤ (l.length : Int) ∧ (a.f1 < (l.length : Int) → fLe .f64 (rdOf (0 : Nat) l a.f1) lo = true)) ∧ out.Pairwise (fun a b => a.f1 < b.f0)
theorem al_ok {l : List Nat} {hi lo : Nat} {hold : Int} (ht : traceB l = true) (h1 : inR hi = true) (h2 : inR lo = true) (h3 : fGt .f64 lo hi = false) (h4 : 1 ≤ hold) (h5 : hold ≤ 100) :
    ∃ out more, alB l hi lo hold = (out, 0) ∧ alB l hi lo (hold + 1) = (more, 0) ∧ more.length ≤ out.length ∧ out.length ≤ l.length + 1 ∧ AllQ l hi lo out := by
  have hlen := trace_len ht
  obtain ⟨s, t, e1, e2, i1, i2, i3⟩ := run_two (ZAlarmK.step hi lo hold) (ZAlarmK.step hi lo (hold + 1)) (fin (l.length : Int)) (fin (l.length : Int)) (fun i s t => good l hi lo i s ∧ pairI hold s t ∧ Inv i s) l l 0 s0 s0 rfl
    (fun j x y s t hx hy hs => by
      have hxy : y = x := by rw [hx] at hy; exact (Option.some.inj hy).symm
      subst hxy
      have hr : rdOf (0 : Nat) l (j : Int) = y := getD_some hx
      have hb := trace_mem ht y (List.mem_of_getElem? hx)
      rw [Nat.zero_add] at hs ⊢
      exact ⟨_, _, rfl, rfl, good_nxt h4 hr hb (inR_bd h1) (inR_bd h2) h3 hs.1, pair_nxt h4 h5 hb (inR_bd h1) (inR_bd h2) h3 hs.2.1, inv_nxt hs.2.2⟩)
    ⟨⟨fun a h => (by cases h), List.Pairwise.nil, fun h => (by cases h)⟩, ⟨Nat.le_refl _, fun h => (by cases h), fun _ => ⟨rfl, by show (0 : Int) ≤ 0; omega, by show (0 : Int) < hold; omega⟩⟩, Nat.zero_le _⟩
  rw [Nat.zero_add] at i1 i3
  have ok : ∀ hd : Int, 1 ≤ hd → hd ≤ 101 → alB l hi lo hd = run (ZAlarmK.step hi lo hd) (fin (l.length : Int)) l 0 s0 := by
    intro hd g1 g2
    have ho : okA l hi lo hd = true := by
      unfold okA
      rw [ht, h1, h2, h3, decide_eq_true (by omega)]; rfl
    unfold alB
    rw [if_neg (by omega), if_pos ho]
  refine ⟨outI (l.length : Int) s, outI (l.length : Int) t, (ok hold h4 (by omega)).trans e1, (ok (hold + 1) (by omega) (by omega)).trans e2, ?_, ?_, ?_, ?_⟩
  · obtain ⟨p1, p2, _⟩ := i2
    unfold outI
    by_cases hb : t.2.1 = true
    · rw [if_pos hb, if_pos (p2 hb)]; simp only [List.length_append, List.length_cons, List.length_nil]; omega
    · rw [if_neg hb]
      split
      · simp only [List.length_append, List.length_cons, List.length_nil]; omega
      · exact p1
  · unfold ZAlarmK.Inv at i3
    unfold outI
    split
    · simp only [List.length_append, List.length_cons, List.length_nil]; omega
    · omega
  · obtain ⟨q1, q2, q3⟩ := i1
    intro a ha
    have hin : ∀ a ∈ s.1, Q l hi lo a ∧ a.f1 ≤ (l.length : Int) ∧ (a.f1 < (l.length : Int) → fLe .f64 (rdOf (0 : Nat) l a.f1) lo = true) := fun a h => ⟨(q1 a h).1, by have := (q1 a h).2.1; omega, fun _ => (q1 a h).2.2⟩
    unfold outI at ha
    by_cases hb : s.2.1 = true
    · rw [if_pos hb] at ha
      rcases List.mem_append.1 ha with h | h
      · exact hin a h
      · obtain ⟨g1, g2, g3, g4, g5⟩ := q3 hb
        rw [List.mem_singleton.1 h]
        exact ⟨⟨g1, g2, g3, g4⟩, by show (l.length : Int) ≤ _; omega, fun h => by exfalso; have h' : (l.length : Int) < (l.length : Int) := h; omega⟩
    · rw [if_neg hb] at ha; exact hin a ha
  · obtain ⟨q1, q2, q3⟩ := i1
    unfold outI
    by_cases hb : s.2.1 = true
    · rw [if_pos hb]
      obtain ⟨g1, g2, g3, g4, g5⟩ := q3 hb
      refine List.pairwise_append.2 ⟨q2, List.pairwise_singleton _ _, fun a ha b hb' => ?_⟩
      rw [List.mem_singleton.1 hb']
      exact g5 a ha
    · rw [if_neg hb]; exact q2
end Go.Proofs.Ytdgaaoeicijemaa.ZAlarxK
