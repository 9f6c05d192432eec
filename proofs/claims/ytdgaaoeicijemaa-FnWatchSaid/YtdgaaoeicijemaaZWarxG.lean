/- Warm minutes: of a trace that is drawn they are above nothing exactly where a reading is above the bound, and nothing where none is. -/
import Derived.Test.YtdgaaoeicijemaaZPartG
import Derived.Test.YtdgaaoeicijemaaZWatxG
namespace Go.Proofs.Ytdgaaoeicijemaa.ZWarxG
open Go.RowKit Go.Proofs.Ytdgaaoeicijemaa.G Go.Proofs.Ytdgaaoeicijemaa.Lib Go.Proofs.Ytdgaaoeicijemaa.Flo Go.Proofs.Ytdgaaoeicijemaa.ZTracG Go.Proofs.Ytdgaaoeicijemaa.ZTrG Go.Proofs.Ytdgaaoeicijemaa.ZWarmG Go.Proofs.Ytdgaaoeicijemaa.ZPartG Go.Proofs.Ytdgaaoeicijemaa.ZWatxG Go.Proofs.YtdgaaoeicijemaaW.PrintWords Go.Proofs.YtdgaaoeicijemaaW.PrintLast Go.Proofs.YtdgaaoeicijemaaW.PrintMore

theorem hIs : Ieee.single.binade ≤ Ieee.single.infRung := by decide
theorem read0s : Ieee.single.read 0 = .number false 0 (Ieee.single.leastPlace + ((0 : Nat) : Int)) := by decide
def w (x : Nat) : Int := val Ieee.single x
theorem w0 : w 0 = 0 := val_zero _
/-- A reading above the bound. -/
def above (hi x : Nat) : Bool := there x && !fLe .f64 x hi
def Iw (hi : Nat) (l : List Nat) (i : Nat) (s : Nat) : Prop := B Ieee.single (163 + i) s ∧ 0 ≤ w s ∧ (0 < w s ↔ (l.take i).any (above hi) = true)
theorem add_s {i x y : Nat} (hi : i < 60) (hx : B Ieee.single (163 + i) x) (hy : B Ieee.single 162 y) : ∃ r, Ieee.single.add x y = some r ∧ B Ieee.single (163 + (i + 1)) r :=
  B.add (p := 163 + i) hx (hy.mono (by omega)) (show 23 ≤ 163 + i + 1 by omega) (show 163 + i + 1 - 23 + 1 < 2 ^ 8 - 1 by omega)
theorem gt_w {p x : Nat} (hx : B Ieee.single p x) : fGt .f32 x 0 = decide (0 < w x) := by
  have := gt_val (k := .f32) hIs hx (b_zeroG (p := 162) read0s)
  rw [this]
  show decide (val Ieee.single 0 < val Ieee.single x) = _
  rw [val_zero]; rfl
theorem lt_w {p x : Nat} (hx : B Ieee.single p x) : fLt .f32 x 0 = decide (w x < 0) := by
  have := lt_val (k := .f32) hIs hx (b_zeroG (p := 162) read0s)
  rw [this]
  show decide (val Ieee.single x < val Ieee.single 0) = _
  rw [val_zero]; rfl
theorem warm_ok {l : List Nat} {hi : Nat} (hl : l.length ≤ 24) (he : ∀ x ∈ l, elOK x) (ht : traceB l = true) (hh : hi ∈ his) (hr : inR hi = true) :
    ∃ s, warmB l hi 1065353216 = (s, 0) ∧ fLt .f32 s 0 = false ∧ fGt .f32 s 0 = l.any (above hi) := by
  have oks : okS 1065353216 = true := by decide
  obtain ⟨s, t, e1, _, ⟨i1, i2, i3⟩, _⟩ := run_two (ZWarmG.step hi 1065353216) (ZWarmG.step hi 1065353216) fin fin (fun i s t => Iw hi l i s ∧ t = s) l l 0 0 0 rfl
    (fun j x y s t hx hy hs => by
      have hxy : y = x := by rw [hx] at hy; exact (Option.some.inj hy).symm
      subst hxy
      rw [Nat.zero_add] at hs ⊢
      obtain ⟨⟨h1, h2, h3⟩, rfl⟩ := hs
      have hj := some_lt hx
      have htk : l.take (j + 1) = l.take j ++ [y] := by
        rw [List.take_add_one, hx]; rfl
      have hany : (l.take (j + 1)).any (above hi) = ((l.take j).any (above hi) || above hi y) := by
        rw [htk, List.any_append]; simp
      refine ⟨_, _, rfl, rfl, ?_, rfl⟩
      have stay : above hi y = false → Iw hi l (j + 1) t := fun ha => ⟨h1.mono (by omega), h2, by rw [hany, ha, Bool.or_false]; exact h3⟩
      by_cases h4 : fEq .f64 y y = true
      · rw [if_pos h4]
        by_cases h5 : fLe .f64 y hi = true
        · rw [if_pos h5]
          exact stay (by unfold above; rw [h5]; simp)
        · rw [if_neg h5]
          have hyd : y ∈ degs := by
            rcases he y (List.mem_of_getElem? hx) with h | h
            · rw [nan_ne h] at h4; cases h4
            · exact h
          obtain ⟨a, b, e1, e2, e3, e4⟩ := part_eq (inR_bd hr) (okS_bd oks) (trace_mem ht y (List.mem_of_getElem? hx) h4)
          have hp := part_pos hh hyd h5
          rw [gt_w e4] at hp
          have hp' := of_decide_eq_true hp
          obtain ⟨r, e5, b5⟩ := add_s (by omega) h1 e4
          have e5' : floatBits .add .f32 t (ZWarmG.part hi 1065353216 y) = some r := e5
          rw [e5']
          have hv := add_val hIs h1 e4 e5 b5 h2 (Int.le_of_lt hp')
          have ha : above hi y = true := by
            unfold above there
            rw [h4, Bool.eq_false_iff.2 h5]; rfl
          exact ⟨b5, hv.1, by rw [hany, ha, Bool.or_true]; exact ⟨fun _ => rfl, fun _ => hv.2.2 hp'⟩⟩
      · rw [if_neg h4]
        exact stay (by unfold above there; rw [Bool.eq_false_iff.2 h4]; rfl))
    ⟨⟨b_zeroG _ read0s, by rw [w0]; omega, by rw [w0, List.take_zero]; exact ⟨fun h => absurd h (by omega), fun h => by cases h⟩⟩, rfl⟩
  rw [Nat.zero_add] at i1 i3
  rw [List.take_length] at i3
  refine ⟨s, ?_, ?_, ?_⟩
  · unfold warmB
    rw [if_neg (by omega), ht, hr, oks, if_pos (by decide)]
    exact e1
  · rw [lt_w i1]
    exact decide_eq_false (by omega)
  · rw [gt_w i1]
    by_cases h : 0 < w s
    · rw [decide_eq_true h, i3.1 h]
    · rw [decide_eq_false h]
      exact (Bool.eq_false_iff.2 (fun hc => h (i3.2 hc))).symm
theorem run_none {lim stp : Nat} : ∀ (l : List Nat) (i : Int), (∀ x ∈ l, there x = true → fLe .f64 x lim = true) → run (ZWarmG.step lim stp) fin l i 0 = (0, 0)
  | [], _, _ => rfl
  | x :: l, i, h => by
    rw [run]
    have hs : ZWarmG.step lim stp i x 0 = .inl 0 := by
      unfold ZWarmG.step
      by_cases h4 : fEq .f64 x x = true
      · rw [if_pos h4, if_pos (h x (List.mem_cons_self ..) h4)]
      · rw [if_neg h4]
    rw [hs]
    exact run_none l _ (fun y hy => h y (List.mem_cons_of_mem _ hy))
theorem warm_none {l : List Nat} {lim : Nat} (hl : l.length ≤ 24) (ht : traceB l = true) (hr : inR lim = true) (h : ∀ x ∈ l, there x = true → fLe .f64 x lim = true) : warmB l lim 1073741824 = (0, 0) := by
  have oks : okS 1073741824 = true := by decide
  unfold warmB
  rw [if_neg (by omega), ht, hr, oks, if_pos (by decide)]
  exact run_none l 0 h
end Go.Proofs.Ytdgaaoeicijemaa.ZWarxG
