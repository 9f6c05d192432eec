/- Two loops side by side. -/
import Derived.Test.YtdgaaoeicijemaaLib
namespace Go.Proofs.Ytdgaaoeicijemaa.Lib

theorem run_two {α S T R R' : Type} (step : Int → α → S → S ⊕ R) (step' : Int → α → T → T ⊕ R') (fin : S → R) (fin' : T → R') (Inv : Nat → S → T → Prop) :
    ∀ (l m : List α) (i : Nat) (s : S) (t : T), l.length = m.length →
      (∀ (j : Nat) x y s t, l[j]? = some x → m[j]? = some y → Inv (i + j) s t → ∃ s' t', step ((i + j : Nat) : Int) x s = .inl s' ∧ step' ((i + j : Nat) : Int) y t = .inl t' ∧ Inv (i + j + 1) s' t') →
      Inv i s t → ∃ s' t', run step fin l (i : Int) s = fin s' ∧ run step' fin' m (i : Int) t = fin' t' ∧ Inv (i + l.length) s' t'
  | [], m, i, s, t, hl, _, hi => by
    have : m = [] := List.length_eq_zero_iff.1 (by simpa using hl.symm)
    subst this
    exact ⟨s, t, rfl, rfl, hi⟩
  | x :: l, [], i, s, t, hl, _, _ => by simp at hl
  | x :: l, y :: m, i, s, t, hl, h, hi => by
    obtain ⟨s1, t1, h1, h2, h3⟩ := h 0 x y s t rfl rfl hi
    obtain ⟨s2, t2, g1, g2, g3⟩ := run_two step step' fin fin' Inv l m (i + 1) s1 t1 (by simpa using hl) (fun j x' y' s' t' hx hy hj => by
      have := h (j + 1) x' y' s' t' (by simpa using hx) (by simpa using hy) (by rw [show i + (j + 1) = i + 1 + j by omega]; exact hj)
      rw [show i + (j + 1) = i + 1 + j by omega] at this
      exact this) h3
    refine ⟨s2, t2, ?_, ?_, ?_⟩
    · rw [← g1]
      rw [Nat.add_zero] at h1
      rw [run, h1]
      push_cast; rfl
    · rw [← g2]
      rw [Nat.add_zero] at h2
      rw [run, h2]
      push_cast; rfl
    · rw [List.length_cons, show i + (l.length + 1) = i + 1 + l.length by omega]; exact g3
end Go.Proofs.Ytdgaaoeicijemaa.Lib
