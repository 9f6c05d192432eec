/- Watches: what holds of least, most and the count. -/
import Derived.Test.YtdgaaoeicijemaaZWatchG
import Derived.Test.YtdgaaoeicijemaaZTrG
import Derived.Test.YtdgaaoeicijemaaSums
import Derived.Test.YtdgaaoeicijemaaRuns
namespace Go.Proofs.Ytdgaaoeicijemaa.ZWatxG
open Go.RowKit Go.Proofs.Ytdgaaoeicijemaa.G Go.Proofs.Ytdgaaoeicijemaa.Lib Go.Proofs.Ytdgaaoeicijemaa.Flo Go.Proofs.Ytdgaaoeicijemaa.ZTracG Go.Proofs.Ytdgaaoeicijemaa.ZTrG Go.Proofs.Ytdgaaoeicijemaa.ZWatchG Go.Proofs.YtdgaaoeicijemaaW.PrintWords Go.Proofs.YtdgaaoeicijemaaW.PrintLast Go.Proofs.YtdgaaoeicijemaaW.PrintMore

/-- Is a number there? -/
def there (x : Nat) : Bool := fEq .f64 x x
def v (x : Nat) : Int := val Ieee.double x
def Low (l : List Nat) (a : Nat) : Prop := a ∈ l ∧ there a = true ∧ ∀ x ∈ l, there x = true → v a ≤ v x
def Top (l : List Nat) (a : Nat) : Prop := a ∈ l ∧ there a = true ∧ ∀ x ∈ l, there x = true → v x ≤ v a
def Wt (l : List Nat) (s : ZWatchG.St) : Prop :=
  NN Ieee.double s.1 ∧ s.2.1 = ((l.countP there : Nat) : Int) ∧ s.2.1 + s.2.2.1 = (l.length : Int) ∧ (s.2.1 ≠ 0 → Low l s.2.2.2.2.1 ∧ Top l s.2.2.2.2.2)
theorem hI : Ieee.double.binade ≤ Ieee.double.infRung := by decide
theorem lt_v {x y : Nat} (hx : B Ieee.double 1084 x) (hy : B Ieee.double 1084 y) : fLt .f64 x y = decide (v x < v y) := lt_val (k := .f64) hI hx hy
theorem gt_v {x y : Nat} (hx : B Ieee.double 1084 x) (hy : B Ieee.double 1084 y) : fGt .f64 x y = decide (v y < v x) := gt_val (k := .f64) hI hx hy
theorem eq_v {x y : Nat} (hx : B Ieee.double 1084 x) (hy : B Ieee.double 1084 y) : fEq .f64 x y = decide (v x = v y) := eq_val (k := .f64) hI hx hy
theorem le_v {x y : Nat} (hx : B Ieee.double 1084 x) (hy : B Ieee.double 1084 y) : fLe .f64 x y = decide (v x ≤ v y) := le_val (k := .f64) hI hx hy
theorem wt_nxt {l : List Nat} {x : Nat} {s : ZWatchG.St} (hl : l.length ≤ 200) (hB : ∀ y ∈ l ++ [x], there y = true → B Ieee.double 1084 y) (h : Wt l s) : Wt (l ++ [x]) (nxt x s) := by
  obtain ⟨sum, c, g, z, lo, hi⟩ := s
  obtain ⟨h1, h2, h3, h4⟩ := h
  dsimp only at h1 h2 h3 h4
  have hc := List.countP_le_length (p := there) (l := l)
  have hx1 : x ∈ l ++ [x] := List.mem_append_right _ (List.mem_singleton.2 rfl)
  by_cases he : there x = true
  · have he' : fEq .f64 x x = true := he
    have hxB := hB x hx1 he
    obtain ⟨r, hr, nr⟩ := B.addNN h1 hxB
    have hr' : floatBits .add .f64 sum x = some r := hr
    have hn : nxt x (sum, c, g, z, lo, hi) = (r, wrap64 (c + 1), g, z, if (decide (c = 0) || fLt .f64 x lo) = true then x else lo, if (decide (c = 0) || fGt .f64 x hi) = true then x else hi) := by
      unfold nxt
      rw [if_pos he']
      dsimp only
      rw [hr']; rfl
    rw [hn]
    have hw : wrap64 (c + 1) = c + 1 := w64 (by omega) (by omega)
    have hcnt : (l ++ [x]).countP there = l.countP there + 1 := by
      rw [List.countP_append, List.countP_singleton, if_pos he]
    refine ⟨nr, ?_, ?_, fun _ => ⟨?_, ?_⟩⟩
    · show wrap64 (c + 1) = _
      rw [hw, hcnt]; omega
    · show wrap64 (c + 1) + g = _
      rw [hw, List.length_append]; simp only [List.length_cons, List.length_nil]; omega
    · show Low (l ++ [x]) (if (decide (c = 0) || fLt .f64 x lo) = true then x else lo)
      by_cases hz : c = 0
      · rw [if_pos (by rw [decide_eq_true hz]; rfl)]
        have h0 := List.countP_eq_zero.1 (show l.countP there = 0 by omega)
        refine ⟨hx1, he, fun y hy hty => ?_⟩
        rcases List.mem_append.1 hy with h | h
        · exact absurd hty (h0 y h)
        · rw [List.mem_singleton.1 h]; exact Int.le_refl _
      · obtain ⟨⟨q1, q2, q3⟩, _⟩ := h4 hz
        have hloB := hB lo (List.mem_append_left _ q1) q2
        rw [decide_eq_false hz, Bool.false_or, lt_v hxB hloB]
        by_cases hlt : v x < v lo
        · rw [if_pos (decide_eq_true hlt)]
          refine ⟨hx1, he, fun y hy hty => ?_⟩
          rcases List.mem_append.1 hy with h | h
          · have := q3 y h hty; omega
          · rw [List.mem_singleton.1 h]; exact Int.le_refl _
        · rw [if_neg (by rw [decide_eq_false hlt]; decide)]
          refine ⟨List.mem_append_left _ q1, q2, fun y hy hty => ?_⟩
          rcases List.mem_append.1 hy with h | h
          · exact q3 y h hty
          · rw [List.mem_singleton.1 h]; omega
    · show Top (l ++ [x]) (if (decide (c = 0) || fGt .f64 x hi) = true then x else hi)
      by_cases hz : c = 0
      · rw [if_pos (by rw [decide_eq_true hz]; rfl)]
        have h0 := List.countP_eq_zero.1 (show l.countP there = 0 by omega)
        refine ⟨hx1, he, fun y hy hty => ?_⟩
        rcases List.mem_append.1 hy with h | h
        · exact absurd hty (h0 y h)
        · rw [List.mem_singleton.1 h]; exact Int.le_refl _
      · obtain ⟨_, q1, q2, q3⟩ := h4 hz
        have hhiB := hB hi (List.mem_append_left _ q1) q2
        rw [decide_eq_false hz, Bool.false_or, gt_v hxB hhiB]
        by_cases hlt : v hi < v x
        · rw [if_pos (decide_eq_true hlt)]
          refine ⟨hx1, he, fun y hy hty => ?_⟩
          rcases List.mem_append.1 hy with h | h
          · have := q3 y h hty; omega
          · rw [List.mem_singleton.1 h]; exact Int.le_refl _
        · rw [if_neg (by rw [decide_eq_false hlt]; decide)]
          refine ⟨List.mem_append_left _ q1, q2, fun y hy hty => ?_⟩
          rcases List.mem_append.1 hy with h | h
          · exact q3 y h hty
          · rw [List.mem_singleton.1 h]; omega
  · have he' : ¬ fEq .f64 x x = true := he
    have hn : nxt x (sum, c, g, z, lo, hi) = (sum, c, wrap64 (g + 1), z, lo, hi) := by unfold nxt; rw [if_neg he']
    rw [hn]
    have hw : wrap64 (g + 1) = g + 1 := w64 (by omega) (by omega)
    have hcnt : (l ++ [x]).countP there = l.countP there := by
      rw [List.countP_append, List.countP_singleton, if_neg he]; rfl
    have hin : ∀ y ∈ l ++ [x], there y = true → y ∈ l := fun y hy hty => by
      rcases List.mem_append.1 hy with h | h
      · exact h
      · rw [List.mem_singleton.1 h] at hty; exact absurd hty he
    refine ⟨h1, ?_, ?_, fun hz => ?_⟩
    · rw [hcnt]; exact h2
    · show c + wrap64 (g + 1) = _
      rw [hw, List.length_append]; simp only [List.length_cons, List.length_nil]; omega
    · obtain ⟨⟨q1, q2, q3⟩, p1, p2, p3⟩ := h4 hz
      exact ⟨⟨List.mem_append_left _ q1, q2, fun y hy hty => q3 y (hin y hy hty) hty⟩, List.mem_append_left _ p1, p2, fun y hy hty => p3 y (hin y hy hty) hty⟩
theorem watch_of {l : List Nat} (ht : traceB l = true) : ∃ s, watchB l = fin s ∧ Wt l s := by
  have hlen := trace_len ht
  obtain ⟨s, t, e1, _, i1⟩ := run_two ZWatchG.step ZWatchG.step fin fin (fun i s t => Wt (l.take i) s ∧ t = s) l l 0 s0 s0 rfl
    (fun j x y s t hx hy hs => by
      have hxy : y = x := by rw [hx] at hy; exact (Option.some.inj hy).symm
      subst hxy
      rw [Nat.zero_add] at hs ⊢
      obtain ⟨h1, rfl⟩ := hs
      have hj := some_lt hx
      have htk : l.take (j + 1) = l.take j ++ [y] := by
        rw [List.take_add_one, hx]; rfl
      refine ⟨_, _, rfl, rfl, ?_, rfl⟩
      rw [htk]
      refine wt_nxt (by rw [List.length_take]; omega) (fun z hz hzt => trace_mem ht z ?_ hzt) h1
      rw [← htk] at hz
      exact List.mem_of_mem_take hz)
    ⟨by rw [List.take_zero]; exact ⟨inv0.1, rfl, rfl, fun h => absurd rfl h⟩, rfl⟩
  rw [Nat.zero_add, List.take_length] at i1
  refine ⟨s, ?_, i1.1⟩
  unfold watchB
  rw [if_neg (by omega), if_pos ht]
  exact e1
theorem fin_ok {l : List Nat} {s : ZWatchG.St} (hl : l.length ≤ 200) (h : Wt l s) (h0 : s.2.1 ≠ 0) : ∃ mean, fin s = (s.2.1, s.2.2.1, mean, s.2.2.2.2.1, s.2.2.2.2.2, 0) ∧ NN Ieee.double mean := by
  have hc := List.countP_le_length (p := there) (l := l)
  obtain ⟨t, m, j, hr, hm⟩ := of_int (n := s.2.1) (by have := h.2.1; omega) (by have := h.2.1; omega)
  obtain ⟨r, hr', nr⟩ := div_nn Ieee.double h.1 hr hm
  have hr'' : floatBits .quo .f64 s.1 (floatOfInt .f64 s.2.1) = some r := hr'
  refine ⟨r, ?_, nr⟩
  unfold fin
  rw [if_neg h0, hr'']; rfl
theorem fin_none {s : ZWatchG.St} (h0 : s.2.1 = 0) : fin s = (0, 0, 0, 0, 0, 8) := by
  unfold fin
  rw [if_pos h0]
theorem trace_rev {l : List Nat} (ht : traceB l = true) : traceB l.reverse = true := by
  unfold traceB at ht ⊢
  rw [List.length_reverse, List.all_reverse]
  exact ht
end Go.Proofs.Ytdgaaoeicijemaa.ZWatxG
