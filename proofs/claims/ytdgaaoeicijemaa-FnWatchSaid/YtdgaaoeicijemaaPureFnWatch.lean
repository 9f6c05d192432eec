/- FnWatch: of a trace that is drawn, by the program what is there and what is missing is all; least and most are the same of the trace turned round and are of the trace; warm minutes are above nothing exactly where the most is above the bound, and nothing of a trace that is never above it; on condition that the code is a list of bytes. -/
import Derived.Test.YtdgaaoeicijemaaZWarxG
namespace Go.Proofs.Ytdgaaoeicijemaa.Pure
open Go.RowKit Go.Proofs.Ytdgaaoeicijemaa.G Go.Proofs.Ytdgaaoeicijemaa.Lib Go.Proofs.Ytdgaaoeicijemaa.Flo Go.Proofs.Ytdgaaoeicijemaa.ZTracG Go.Proofs.Ytdgaaoeicijemaa.ZTrG Go.Proofs.Ytdgaaoeicijemaa.ZWatchG Go.Proofs.Ytdgaaoeicijemaa.ZWarmG Go.Proofs.Ytdgaaoeicijemaa.ZPartG Go.Proofs.Ytdgaaoeicijemaa.ZWatxG Go.Proofs.Ytdgaaoeicijemaa.ZWarxG Go.Proofs.YtdgaaoeicijemaaW.PrintWords Go.Proofs.YtdgaaoeicijemaaW.PrintLast Go.Proofs.YtdgaaoeicijemaaW.PrintMore

def cnt (a : Nat) (l : List Nat) : Int := ((l.countP (fun x => fEq .f64 x a) : Nat) : Int)
theorem low_bd {l : List Nat} {a : Nat} (ht : traceB l = true) (h : Low l a) : B Ieee.double 1084 a := trace_mem ht a h.1 h.2.1
theorem top_bd {l : List Nat} {a : Nat} (ht : traceB l = true) (h : Top l a) : B Ieee.double 1084 a := trace_mem ht a h.1 h.2.1
theorem not_lt {l : List Nat} {a x : Nat} (ht : traceB l = true) (h : Low l a) (hx : x ∈ l) : fLt .f64 x a = false := by
  by_cases he : there x = true
  · rw [lt_v (trace_mem ht x hx he) (low_bd ht h)]
    exact decide_eq_false (by have := h.2.2 x hx he; omega)
  · by_cases hc : fLt .f64 x a = true
    · have : (Ieee.double.order x a) = some .lt := by
        have h' : (Ieee.double.order x a == some .lt) = true := hc
        simpa using h'
      exact absurd (eq_self (k := .f64) (nn_left this)) he
    · exact Bool.eq_false_iff.2 hc
theorem not_gt {l : List Nat} {a x : Nat} (ht : traceB l = true) (h : Top l a) (hx : x ∈ l) : fGt .f64 x a = false := by
  by_cases he : there x = true
  · rw [gt_v (trace_mem ht x hx he) (top_bd ht h)]
    exact decide_eq_false (by have := h.2.2 x hx he; omega)
  · exact nan_gt he
theorem FnWatch : laws_FnWatch.Pure := by
  intro r1 r2 r3 r4 hT
  refine Ev.rounds ?_
  have ht := tr_trace hT
  obtain ⟨b1, b2, b3⟩ := high_in hT.2.2.1
  have hh := high_his hT.2.2.1
  have hlen := hT.1
  have hl : r1.length ≤ maxLen := by unfold maxLen; omega
  obtain ⟨s, e1, W1⟩ := watch_of ht
  have g1 := watch_impl r1 hl
  have g3 := watch_spec r1 hl
  rw [e1] at g1 g3
  unfold laws_FnWatch.g
  have hcl := List.countP_le_length (p := there) (l := r1)
  by_cases c0 : s.2.1 = 0
  · rw [fin_none c0] at g1 g3
    refine ev_bind g1 (ev_bind g3 (ev_pos rfl (ev_pos rfl ?_)))
    exact ev_succ (fun k => by simp [laws_FnWatch.j0])
  obtain ⟨mean, e2, nm⟩ := fin_ok (by omega) W1 c0
  obtain ⟨_, w2, w3, w4⟩ := W1
  obtain ⟨hlo, hto⟩ := w4 c0
  rw [e2] at g1 g3
  refine ev_bind g1 (ev_bind g3 (ev_pos rfl (ev_pos rfl ?_)))
  generalize s.2.1 = c at *
  generalize s.2.2.1 = g at *
  generalize s.2.2.2.2.1 = lo at *
  generalize s.2.2.2.2.2 = hi at *
  have hg : (g != g) = false := by simp
  show Ev (fun k => laws_FnWatch.j0 k r1 r2 0 (g != g) c g mean lo hi c g mean lo hi) true
  rw [hg]
  -- the warm minutes
  have e9 : Ev (fun k => laws_FnWatch.j3 k r1 r2 false c g mean lo hi) true := by
    obtain ⟨sw, f1, f2, f3⟩ := warm_ok hlen hT.2.1 ht hh b1
    have k1 := warm_impl r1 r2 1065353216 hl
    rw [f1] at k1
    have hiR : inR hi = true := by
      have h1 : okT hi = true := by
        unfold traceB at ht
        rw [Bool.and_eq_true, List.all_eq_true] at ht
        exact ht.2 hi hto.1
      unfold okT at h1
      have h2 : fEq .f64 hi hi = true := hto.2.1
      rw [h2] at h1
      simpa using h1
    have f4 : warmB r1 hi 1073741824 = (0, 0) := warm_none hlen ht hiR (fun x hx hxt => by
      rw [le_v (trace_mem ht x hx hxt) (top_bd ht hto)]
      exact decide_eq_true (hto.2.2 x hx hxt))
    have k2 := warm_impl r1 hi 1073741824 hl
    rw [f4] at k2
    have f5 : fGt .f32 sw 0 = fGt .f64 hi r2 := by
      rw [f3, gt_v (top_bd ht hto) (inR_bd b1)]
      by_cases hc : v r2 < v hi
      · rw [decide_eq_true hc]
        refine List.any_eq_true.2 ⟨hi, hto.1, ?_⟩
        unfold above
        rw [hto.2.1, le_v (top_bd ht hto) (inR_bd b1), decide_eq_false (by omega)]; rfl
      · rw [decide_eq_false hc]
        refine List.any_eq_false.2 (fun x hx hxa => ?_)
        unfold above at hxa
        rw [Bool.and_eq_true] at hxa
        have hxb := trace_mem ht x hx hxa.1
        rw [le_v hxb (inR_bd b1)] at hxa
        have h1 := hto.2.2 x hx hxa.1
        have h2 : ¬ v x ≤ v r2 := by simpa using hxa.2
        omega
    have hne : (fGt .f32 sw 0 != fGt .f64 hi r2) = false := by rw [f5]; simp
    refine Ev.step (f := fun k => ((impl_WarmMinutes.f k r1 r2 1065353216).bind fun bt198 => (if bt198.2 = 0 then (if (fLt .f32 bt198.1 0) = true then (some false) else (if ((fGt .f32 bt198.1 0) != (fGt .f64 hi r2)) = true then (some false) else ((impl_WarmMinutes.f k r1 hi 1073741824).bind fun bt200 => (if bt200.2 = 0 then (some (fEq .f32 bt200.1 0)) else (some false))))) else (some false)))) (fun k => by rw [laws_FnWatch.j3, if_neg (by decide)]) ?_
    refine ev_bind k1 (ev_pos rfl (ev_neg (by dsimp only; rw [f2]; decide) (ev_neg (by dsimp only; rw [hne]; decide) (ev_bind k2 (ev_pos rfl (ev_eq (ev_some _) ?_))))))
    show fEq .f32 0 0 = true
    decide
  -- the trace turned round
  have rl : r1.reverse.length ≤ maxLen := by rw [List.length_reverse]; exact hl
  obtain ⟨s', e1', W1'⟩ := watch_of (trace_rev ht)
  have g1' := watch_impl r1.reverse rl
  rw [e1'] at g1'
  have hc' : s'.2.1 = c := by rw [W1'.2.1, List.countP_reverse, ← w2]
  obtain ⟨mean', e2', _⟩ := fin_ok (by rw [List.length_reverse]; omega) W1' (by rw [hc']; exact c0)
  obtain ⟨hlo', hto'⟩ := W1'.2.2.2 (by rw [hc']; exact c0)
  rw [e2', hc'] at g1'
  generalize s'.2.2.1 = g' at *
  generalize s'.2.2.2.2.1 = lo' at *
  generalize s'.2.2.2.2.2 = hi' at *
  have htr := trace_rev ht
  have m1 : fNe .f64 lo' lo = false := by
    rw [ne_not_eq, eq_v (low_bd htr hlo') (low_bd ht hlo), decide_eq_true]; rfl
    have q1 := hlo.2.2 lo' (List.mem_reverse.1 hlo'.1) hlo'.2.1
    have q2 := hlo'.2.2 lo (List.mem_reverse.2 hlo.1) hlo.2.1
    omega
  have m2 : fNe .f64 hi' hi = false := by
    rw [ne_not_eq, eq_v (top_bd htr hto') (top_bd ht hto), decide_eq_true]; rfl
    have q1 := hto.2.2 hi' (List.mem_reverse.1 hto'.1) hto'.2.1
    have q2 := hto'.2.2 hi (List.mem_reverse.2 hto.1) hto.2.1
    omega
  have p1 : cnt lo r1 ≠ 0 := by
    unfold cnt
    have : 0 < r1.countP (fun x => fEq .f64 x lo) := List.countP_pos_iff.2 ⟨lo, hlo.1, hlo.2.1⟩
    omega
  have p2 : cnt hi r1 ≠ 0 := by
    unfold cnt
    have : 0 < r1.countP (fun x => fEq .f64 x hi) := List.countP_pos_iff.2 ⟨hi, hto.1, hto.2.1⟩
    omega
  have m3 : fNe .f64 mean mean = false := by rw [ne_not_eq, eq_self (k := .f64) nm]; rfl
  have hsum : wrap64 (c + g) = (r1.length : Int) := by rw [w3]; exact w64 (by omega) (by omega)
  have key : ∀ n : Nat, n ≤ r1.length → Ev (fun k => laws_FnWatch.l0 k r1 r2 (r1.drop n).reverse (cnt lo (r1.drop n)) (cnt hi (r1.drop n)) ((n : Int) - 1) c g mean lo hi c g mean lo hi) true := by
    intro n
    induction n with
    | zero =>
      intro _
      rw [List.drop_zero]
      refine Ev.step (f := fun k => ((impl_WatchOf.f k r1.reverse).bind fun bt191 => (if bt191.2.2.2.2.2 = 0 then (if (fNe .f64 bt191.2.2.2.1 lo) = true then (laws_FnWatch.j3 k r1 r2 true c g mean lo hi) else (if (fNe .f64 bt191.2.2.2.2.1 hi) = true then (laws_FnWatch.j3 k r1 r2 true c g mean lo hi) else (if bt191.1 = c then (if (wrap64 (c + g)) = (r1.length : Int) then (if cnt lo r1 = 0 then (laws_FnWatch.j3 k r1 r2 true c g mean lo hi) else (if cnt hi r1 = 0 then (laws_FnWatch.j3 k r1 r2 true c g mean lo hi) else (laws_FnWatch.j3 k r1 r2 (fNe .f64 mean mean) c g mean lo hi))) else (laws_FnWatch.j3 k r1 r2 true c g mean lo hi)) else (laws_FnWatch.j3 k r1 r2 true c g mean lo hi)))) else (laws_FnWatch.j3 k r1 r2 true c g mean lo hi)))) (fun k => by rw [laws_FnWatch.l0, if_neg (by omega)]) ?_
      refine ev_bind g1' (ev_pos rfl (ev_neg (by dsimp only; rw [m1]; decide) (ev_neg (by dsimp only; rw [m2]; decide) (ev_pos rfl (ev_pos hsum (ev_neg p1 (ev_neg p2 ?_)))))))
      rw [m3]
      exact e9
    | succ n ih =>
      intro hn
      have hx : r1[n]? = some r1[n] := List.getElem?_eq_getElem (by omega)
      have hr : rdOf (0 : Nat) r1 (n : Int) = r1[n] := getD_some hx
      have hmem : r1[n] ∈ r1 := List.getElem_mem _
      have hd : r1.drop n = r1[n] :: r1.drop (n + 1) := List.drop_eq_getElem_cons (by omega)
      have ih' := ih (by omega)
      rw [hd] at ih'
      have hb : (r1[n] :: r1.drop (n + 1)).reverse = (r1.drop (n + 1)).reverse ++ [r1[n]] := List.reverse_cons
      rw [hb] at ih'
      have hi1 : (((n + 1 : Nat) : Int) - 1) = (n : Int) := by omega
      have hw : wrap64 ((n : Int) - 1) = (n : Int) - 1 := w64 (by omega) (by omega)
      have hcp : ∀ a, cnt a (r1[n] :: r1.drop (n + 1)) = if fEq .f64 r1[n] a = true then wrap64 (cnt a (r1.drop (n + 1)) + 1) else cnt a (r1.drop (n + 1)) := by
        intro a
        have hle := List.countP_le_length (p := fun x => fEq .f64 x a) (l := r1.drop (n + 1))
        rw [List.length_drop] at hle
        unfold cnt
        rw [List.countP_cons]
        by_cases hq : fEq .f64 r1[n] a = true
        · rw [if_pos hq, if_pos hq, w64 (by omega) (by omega)]; omega
        · rw [if_neg hq, if_neg hq]; omega
      have e3 : Ev (fun k => laws_FnWatch.j2 k r1 r2 ((r1.drop (n + 1)).reverse ++ [r1[n]]) (cnt lo (r1.drop (n + 1))) (cnt hi (r1.drop (n + 1))) (n : Int) false c g mean lo hi c g mean lo hi) true := by
        refine Ev.step (fun k => ?_) ih'
        rw [laws_FnWatch.j2, if_neg (by decide), if_pos (ige _), if_pos (by omega), hr, hcp lo, hcp hi, hw]
        by_cases q1 : fEq .f64 r1[n] lo = true
        · rw [if_pos q1, if_pos q1]
          by_cases q2 : fEq .f64 r1[n] hi = true
          · rw [if_pos q2, if_pos q2]
          · rw [if_neg q2, if_neg q2]
        · rw [if_neg q1, if_neg q1]
          by_cases q2 : fEq .f64 r1[n] hi = true
          · rw [if_pos q2, if_pos q2]
          · rw [if_neg q2, if_neg q2]
      refine Ev.step (fun k => ?_) e3
      rw [hi1, laws_FnWatch.l0, if_pos (ige _), if_pos (ige _), if_pos (by omega), if_pos (by rw [List.length_reverse, List.length_drop]; omega), hr, Option.bind_some, not_lt ht hlo hmem, if_neg (by decide), not_gt ht hto hmem]
  have e8 := key r1.length (Nat.le_refl _)
  rw [List.drop_length] at e8
  refine Ev.step (fun k => ?_) e8
  rw [laws_FnWatch.j0, if_neg (by decide), if_pos rfl, w64 (by omega) (by omega)]
  rfl
end Go.Proofs.Ytdgaaoeicijemaa.Pure
