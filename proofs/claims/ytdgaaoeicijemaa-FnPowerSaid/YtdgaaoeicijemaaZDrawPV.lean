/- The powers that are drawn are right. -/
import Derived.Test.YtdgaaoeicijemaaZDrawV
import Derived.Test.YtdgaaoeicijemaaZVoltsV
namespace Go.Proofs.Ytdgaaoeicijemaa.ZDrawPV
open Go.RowKit Go.Proofs.Ytdgaaoeicijemaa.V Go.Proofs.Ytdgaaoeicijemaa.Lib Go.Proofs.Ytdgaaoeicijemaa.ZDrawV Go.Proofs.Ytdgaaoeicijemaa.ZPowsV Go.Proofs.Ytdgaaoeicijemaa.ZVoltsV Go.Proofs.YtdgaaoeicijemaaW.PrintWords Go.Proofs.YtdgaaoeicijemaaW.PrintLast Go.Proofs.YtdgaaoeicijemaaW.PrintMore

theorem okQ_some {x y : Nat} (h : okQ x y = true) : ∃ r, floatBits .quo .f64 x y = some r ∧ inP r = true := by
  unfold okQ at h
  cases hr : floatBits .quo .f64 x y with
  | none => rw [hr] at h; cases h
  | some r => rw [hr] at h; exact ⟨r, rfl, h⟩
theorem volt_some {m : Nat} (h : m < 480) : ∃ r, floatBits .quo .f64 (floatOfInt .f64 ((m : Int) + 1)) 4616189618054758400 = some r ∧ inP r = true :=
  okQ_some (List.all_eq_true.1 volts_all m (List.mem_range.2 h))
theorem amp_some {m : Nat} (h : m < 160) : ∃ r, floatBits .quo .f64 (floatOfInt .f64 ((m : Int) - 80)) 4620693217682128896 = some r ∧ inP r = true :=
  okQ_some (List.all_eq_true.1 amps_all m (List.mem_range.2 h))
set_option maxHeartbeats 4000000 in
theorem powers_ok {l : List Int} (hl : Byt l) : ∀ (n : Nat) (out : List S61) (c a s : Int), n ≤ 5 → out.length + n ≤ 5 → (∀ p ∈ out, okP p = true) → c + 6 * (n : Int) ≤ 1000 → St c a s →
    ∃ P, Ev (fun k => spec_PowersOf.l0 k out (n : Int) l a s) P ∧ P.length ≤ 5 ∧ ∀ p ∈ P, okP p = true := by
  intro n
  induction n with
  | zero =>
    intro out c a s _ ho hp _ _
    exact ⟨out, ev_succ (fun k => by simp only [spec_PowersOf.l0]; rw [if_neg (by omega)]), by omega, hp⟩
  | succ n ih =>
    intro out c a s hn ho hp hc hs
    obtain ⟨v, a1, s1, e1, p1, q1, i1⟩ := next_ok (n := 480) hl hs (by omega) (by omega)
    obtain ⟨v', a2, s2, e2, p2, q2, i2⟩ := next_ok (n := 160) hl i1 (by omega) (by omega)
    obtain ⟨m, rfl⟩ := Int.eq_ofNat_of_zero_le p1
    obtain ⟨m', rfl⟩ := Int.eq_ofNat_of_zero_le p2
    obtain ⟨r, hr, br⟩ := volt_some (m := m) (by omega)
    obtain ⟨r', hr', br'⟩ := amp_some (m := m') (by omega)
    have w1 : wrap64 (1 + (m : Int)) = (m : Int) + 1 := by rw [w64 (by omega) (by omega)]; omega
    have w2 : wrap64 ((m' : Int) - 80) = (m' : Int) - 80 := w64 (by omega) (by omega)
    have w3 : wrap64 (((n + 1 : Nat) : Int) - 1) = (n : Int) := by rw [w64 (by omega) (by omega)]; omega
    obtain ⟨P, hE, hL, hP⟩ := ih (out ++ [⟨r, r'⟩]) (c + 3 + 3) a2 s2 (by omega) (by simp; omega) (fun p hp' => by
      rcases List.mem_append.1 hp' with h | h
      · exact hp p h
      · rw [List.mem_singleton.1 h]; unfold okP; rw [br, br']; rfl) (by omega) i2
    refine ⟨P, Ev.step (fun k => ?_) hE, hL, hP⟩
    rw [spec_PowersOf.l0, if_pos (by omega), e1, Option.bind_some, w1, hr, Option.bind_some, e2, Option.bind_some, w2, hr', Option.bind_some, if_pos (by omega), w3]
theorem powersOf_ok {l : List Int} (hl : Byt l) : ∃ P, Ev (fun k => spec_PowersOf.f k l) P ∧ P.length ≤ 5 ∧ ∀ p ∈ P, okP p = true := by
  obtain ⟨s, e0, i0⟩ := source_ok (l := l)
  obtain ⟨z, ez, hz, hz2⟩ := size_ok l 0 s 5
  obtain ⟨v, a, s', e1, p1, q1, i1⟩ := next_ok (n := wrap64 (z + 1)) hl i0 (by omega) (by unfold wrap64; omega)
  have hv : v ≤ 5 := by
    unfold spec_l00Src_size.f at ez
    rcases q1 with h | h
    · have : wrap64 (z + 1) ≤ 6 := by
        have h0 : 0 ≤ z + 1 ∨ z + 1 < 0 := by omega
        unfold wrap64 at h ⊢
        omega
      omega
    · omega
  obtain ⟨n, rfl⟩ := Int.eq_ofNat_of_zero_le p1
  obtain ⟨P, hE, hL, hP⟩ := powers_ok hl n [] 3 a s' (by omega) (by simp; omega) (fun _ h => by cases h) (by omega) i1
  refine ⟨P, ?_, hL, hP⟩
  exact ev_same hE (fun k => by rw [spec_PowersOf.f, e0, Option.bind_some, ez, Option.bind_some, e1, Option.bind_some])
end Go.Proofs.Ytdgaaoeicijemaa.ZDrawPV
