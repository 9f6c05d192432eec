/- The carts that are drawn. -/
import Derived.Test.YtdohpbhljifodaaZDrawD
namespace Go.Proofs.Ytdohpbhljifodaa.ZCaDrD
open Go.RowKit Go.Proofs.Ytdohpbhljifodaa.D Go.Proofs.Ytdohpbhljifodaa.Lib Go.Proofs.Ytdohpbhljifodaa.ZDrawD Go.Proofs.YtdohpbhljifodaaW.PrintWords Go.Proofs.YtdohpbhljifodaaW.PrintLast Go.Proofs.YtdohpbhljifodaaW.PrintMore

theorem st_mono {c c' a s : Int} (h : St c a s) (k : c ≤ c') : St c' a s := ⟨h.1, by have := h.2.1; omega, h.2.2⟩
theorem chance_ok {l : List Int} {c a s n : Int} (hl : Byt l) (h : St c a s) (hc : c ≤ 100000) (hn : n ≤ 256) : ∃ b a' s', spec_l00Src_chance.f l a s n = some (b, a', s') ∧ St (c + 3) a' s' := by
  obtain ⟨v, a', s', e, p, q, i⟩ := next_ok (n := n) hl h hc (by omega)
  refine ⟨v == wrap64 (n - 1), a', s', ?_, i⟩
  unfold spec_l00Src_chance.f
  rw [e, Option.bind_some]
theorem acts_loop {l : List Int} (hl : Byt l) : ∀ (n : Nat) (out : List S54) (c a s : Int), out.length + n ≤ 40 → c + 30 * (n : Int) ≤ 3000 → St c a s →
    ∃ A a' s', Ev (fun k => spec_l00Src_cartActs.l0 k out (n : Int) l a s) (A, a', s') ∧ A.length ≤ 40 := by
  intro n
  induction n with
  | zero =>
    intro out c a s ho _ _
    refine ⟨out, a, s, ev_succ (fun k => ?_), by omega⟩
    rw [spec_l00Src_cartActs.l0, if_neg (by omega)]
  | succ n ih =>
    intro out c a s ho hc hs
    obtain ⟨v1, a1, s1, e1, p1, q1, i1⟩ := next_ok (n := 4) hl hs (by omega) (by omega)
    obtain ⟨v2, a2, s2, e2, p2, q2, i2⟩ := next_ok (n := 4) hl i1 (by omega) (by omega)
    obtain ⟨v3, a3, s3, e3, p3, q3, i3⟩ := next_ok (n := 9) hl i2 (by omega) (by omega)
    obtain ⟨v4, a4, s4, e4, p4, q4, i4⟩ := next_ok (n := 20) hl i3 (by omega) (by omega)
    obtain ⟨b, a5, s5, e5, i5⟩ := chance_ok (n := 12) hl i4 (by omega) (by omega)
    have w3 : wrap64 (((n + 1 : Nat) : Int) - 1) = (n : Int) := by rw [w64 (by omega) (by omega)]; omega
    by_cases hb : b = true
    · obtain ⟨u1, b1, t1, f1, g1, h1, j1⟩ := next_ok (n := 6) hl i5 (by omega) (by omega)
      obtain ⟨u2, b2, t2, f2, g2, h2, j2⟩ := next_ok (n := 3) hl j1 (by omega) (by omega)
      obtain ⟨u3, b3, t3, f3, g3, h3, j3⟩ := next_ok (n := 3) hl j2 (by omega) (by omega)
      obtain ⟨u4, b4, t4, f4, g4, h4, j4⟩ := next_ok (n := 4) hl j3 (by omega) (by omega)
      obtain ⟨A, a', s', hE, hA⟩ := ih (out ++ [⟨u1, rd [0, 1000000, 1000001] u2, rd [0, 100000, 1] u3, rd [0, (-1), 10000, 10001] u4⟩]) (c + 30) b4 t4 (by simp; omega) (by omega) (st_mono j4 (by omega))
      refine ⟨A, a', s', Ev.step (fun k => ?_) hE, hA⟩
      have k2 : u2 < (([0, 1000000, 1000001] : List Int).length : Int) := by
        show u2 < 3
        rcases h2 with q | q <;> omega
      have k3 : u3 < (([0, 100000, 1] : List Int).length : Int) := by
        show u3 < 3
        rcases h3 with q | q <;> omega
      have k4 : u4 < (([0, (-1), 10000, 10001] : List Int).length : Int) := by
        show u4 < 4
        rcases h4 with q | q <;> omega
      rw [spec_l00Src_cartActs.l0, if_pos (by omega), e1, Option.bind_some, e2, Option.bind_some, e3, Option.bind_some, e4, Option.bind_some, e5, Option.bind_some, if_pos hb, f1, Option.bind_some, Option.bind_some, f2, Option.bind_some, if_pos g2, if_pos k2, Option.bind_some, f3, Option.bind_some, if_pos g3, if_pos k3, Option.bind_some, f4, Option.bind_some, if_pos g4, if_pos k4, if_pos (by omega), w3]
    · obtain ⟨A, a', s', hE, hA⟩ := ih (out ++ [⟨wrap64 (1 + v1), wrap64 (1 + v2), wrap64 (1 + v3), wrap64 (1 + v4)⟩]) (c + 30) a5 s5 (by simp; omega) (by omega) (st_mono i5 (by omega))
      refine ⟨A, a', s', Ev.step (fun k => ?_) hE, hA⟩
      rw [spec_l00Src_cartActs.l0, if_pos (by omega), e1, Option.bind_some, e2, Option.bind_some, e3, Option.bind_some, e4, Option.bind_some, e5, Option.bind_some, if_neg hb, if_pos (by omega), w3]
theorem carts_ok {l : List Int} (hl : Byt l) : ∃ n A, Ev (fun k => spec_CartsOf.f k l) (n, A) ∧ A.length ≤ 40 ∧ 0 ≤ n ∧ n ≤ 40 := by
  obtain ⟨s, e0, i0⟩ := source_ok (l := l)
  obtain ⟨u, a1, s1, e1, p1, q1, i1⟩ := next_ok (n := 40) hl i0 (by omega) (by omega)
  obtain ⟨z, ez, hz, hz2⟩ := size_ok l a1 s1 20
  obtain ⟨v, a, s', e2, p2, q2, i2⟩ := next_ok (n := wrap64 (z + 2)) hl i1 (by omega) (by unfold wrap64; omega)
  have hv : v ≤ 21 := by
    rcases q2 with h | h
    · have : wrap64 (z + 2) ≤ 22 := by
        unfold wrap64 at h ⊢
        omega
      omega
    · omega
  obtain ⟨n, rfl⟩ := Int.eq_ofNat_of_zero_le p2
  obtain ⟨A, a', s2, hE, hA⟩ := acts_loop hl n [] 6 a s' (by simp; omega) (by omega) (st_mono i2 (by omega))
  have h1 : Ev (fun k => spec_l00Src_cartActs.f k l a1 s1) (A, a', s2) := ev_same hE (fun k => by rw [spec_l00Src_cartActs.f, ez, Option.bind_some, e2, Option.bind_some])
  refine ⟨u, A, ev_same (f := fun k => (spec_l00Src_cartActs.f k l a1 s1).bind fun bt179 => (some (u, bt179.1))) (ev_bind h1 (ev_some _)) (fun k => ?_), hA, p1, by rcases q1 with q | q <;> omega⟩
  rw [spec_CartsOf.f, e0, Option.bind_some, e1, Option.bind_some]
theorem at_ok {l : List Int} (hl : Byt l) (hn : l.length ≤ 1048576) (m : Int) (hm : m ≤ 1000) : ∃ t, laws_at.f l 0 m = some t ∧ 0 ≤ t ∧ (t < m ∨ t = 0) := by
  unfold laws_at.f
  by_cases h1 : m ≤ 1
  · exact ⟨0, by rw [if_pos h1], by omega, .inr rfl⟩
  rw [if_neg h1]
  by_cases h0 : (l.length : Int) = 0
  · refine ⟨0, ?_, by omega, .inr rfl⟩
    rw [if_pos h0, if_neg (by omega), w64 (by omega) (by omega)]
    simp
  rw [if_neg h0]
  obtain ⟨a1, a2⟩ := tmod_bd (x := 0) (n := (l.length : Int)) (by omega) (by omega)
  obtain ⟨b1, b2⟩ := tmod_bd (x := wrap64 (0 + 1)) (n := (l.length : Int)) (by rw [w64 (by omega) (by omega)]; omega) (by omega)
  rw [if_pos a1, if_pos a2, if_pos b1, if_pos b2, if_neg (by omega)]
  obtain ⟨c1, c2⟩ := rd_code hl a1 a2
  obtain ⟨d1, d2⟩ := rd_code hl b1 b2
  generalize rd l (Int.tmod 0 (l.length : Int)) = x at c1 c2
  generalize rd l (Int.tmod (wrap64 (0 + 1)) (l.length : Int)) = y at d1 d2
  have e0 : Int.tdiv 0 (l.length : Int) = 0 := by simp
  rw [e0]
  have hw : wrap64 (wrap64 (wrap64 (wrap64 x * 31) + wrap64 y) + wrap64 0) = x * 31 + y := by
    rw [w64 (x := x) (by omega) (by omega), w64 (x := y) (by omega) (by omega), w64 (x := 0) (by omega) (by omega), w64 (x := x * 31) (by omega) (by omega), w64 (x := x * 31 + y) (by omega) (by omega), w64 (by omega) (by omega)]
    omega
  rw [hw]
  obtain ⟨f1, f2⟩ := tmod_bd (x := x * 31 + y) (n := m) (by omega) (by omega)
  exact ⟨_, rfl, f1, .inl f2⟩
end Go.Proofs.Ytdohpbhljifodaa.ZCaDrD
