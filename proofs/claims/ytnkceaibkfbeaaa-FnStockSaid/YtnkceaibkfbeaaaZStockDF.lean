/- The drawn acts on stock: there are no more than a hundred. -/
import Derived.Test.YtnkceaibkfbeaaaZDrawF
namespace Go.Proofs.Ytnkceaibkfbeaaa.ZStockDF
open Go.RowKit Go.Proofs.Ytnkceaibkfbeaaa.F Go.Proofs.Ytnkceaibkfbeaaa.Lib Go.Proofs.Ytnkceaibkfbeaaa.ZDrawF Go.Proofs.YtnkceaibkfbeaaaW.PrintWords Go.Proofs.YtnkceaibkfbeaaaW.PrintLast Go.Proofs.YtnkceaibkfbeaaaW.PrintMore

theorem byt_of {l : List Int} (h : ∀ y0 ∈ l, (Lit.int .u8 y0).wf = true) : Byt l := by
  intro y hy
  have := h y hy
  unfold Lit.wf at this
  rw [Bool.and_eq_true] at this
  exact ⟨of_decide_eq_true this.1, of_decide_eq_true this.2⟩
theorem at_ok {l : List Int} (hl : Byt l) (hn : l.length ≤ 1048576) (m : Int) (hm : m ≤ 1000) : ∃ t, laws_at.f l 0 m = some t ∧ 0 ≤ t ∧ (t < m ∨ t = 0) := by
  unfold laws_at.f
  by_cases h1 : m ≤ 1
  · exact ⟨0, by rw [if_pos h1], by omega, .inr rfl⟩
  rw [if_neg h1]
  by_cases h0 : (l.length : Int) = 0
  · refine ⟨0, ?_, by omega, .inr rfl⟩
    rw [if_pos h0, if_neg (by omega), w64 (by omega) (by omega)]
    simp
  rw [if_neg h0]
  obtain ⟨a1, a2⟩ := tmod_bd (x := 0) (n := (l.length : Int)) (by omega) (by omega)
  obtain ⟨b1, b2⟩ := tmod_bd (x := wrap64 (0 + 1)) (n := (l.length : Int)) (by rw [w64 (by omega) (by omega)]; omega) (by omega)
  rw [if_pos a1, if_pos a2, if_pos b1, if_pos b2, if_neg (by omega)]
  obtain ⟨c1, c2⟩ := rd_code hl a1 a2
  obtain ⟨d1, d2⟩ := rd_code hl b1 b2
  generalize rd l (Int.tmod 0 (l.length : Int)) = x at c1 c2
  generalize rd l (Int.tmod (wrap64 (0 + 1)) (l.length : Int)) = y at d1 d2
  have e0 : Int.tdiv 0 (l.length : Int) = 0 := by simp
  rw [e0]
  have hw : wrap64 (wrap64 (wrap64 (wrap64 x * 31) + wrap64 y) + wrap64 0) = x * 31 + y := by
    rw [w64 (x := x) (by omega) (by omega), w64 (x := y) (by omega) (by omega), w64 (x := 0) (by omega) (by omega), w64 (x := x * 31) (by omega) (by omega), w64 (x := x * 31 + y) (by omega) (by omega), w64 (by omega) (by omega)]
    omega
  rw [hw]
  obtain ⟨f1, f2⟩ := tmod_bd (x := x * 31 + y) (n := m) (by omega) (by omega)
  exact ⟨_, rfl, f1, .inl f2⟩
theorem pick_ok {l : List Int} {c a s : Int} (P : List ByteArray) (hl : Byt l) (h : St c a s) (hc : c ≤ 100000) (hP : P.length ≤ 100) : ∃ x a' s', spec_l00Src_pick.f l a s P = some (x, a', s') ∧ St (c + 3) a' s' := by
  unfold spec_l00Src_pick.f
  by_cases h0 : (P.length : Int) = 0
  · rw [if_pos h0]
    exact ⟨_, _, _, rfl, h.1, by have := h.2.1; omega, h.2.2⟩
  · rw [if_neg h0]
    obtain ⟨v, a1, s1, e1, p1, q1, i1⟩ := next_ok (n := (P.length : Int)) hl h hc (by omega)
    rw [e1, Option.bind_some]
    dsimp only
    rw [if_pos p1, if_pos (by omega)]
    exact ⟨_, _, _, rfl, i1⟩
theorem acts_ok {l : List Int} (hl : Byt l) : ∀ (n : Nat) (L : List S34) (x4 c a s : Int), L.length + n ≤ 100 → c + 100 * (n : Int) ≤ 20000 → St c a s → ∃ R, Ev (fun k => spec_l00Src_stockActs.l0 k L x4 (n : Int) l a s) R ∧ R.1.length ≤ 100 := by
  intro n
  induction n with
  | zero =>
    intro L x4 c a s hn _ _
    exact ⟨(L, a, s), ev_succ (fun k => by simp only [spec_l00Src_stockActs.l0]; rw [if_neg (by omega)]), by dsimp only; omega⟩
  | succ n ih =>
    intro L x4 c a s hn hc hs
    have w : wrap64 (((n + 1 : Nat) : Int) - 1) = (n : Int) := by rw [w64 (by omega) (by omega)]; omega
    have hL : L.length < 2932031007402 := by omega
    have nx : ∀ (A : S34) (x4' c' a' s' : Int), St c' a' s' → c' ≤ c + 100 → ∃ R, Ev (fun k => spec_l00Src_stockActs.l0 k (L ++ [A]) x4' (n : Int) l a' s') R ∧ R.1.length ≤ 100 := fun A x4' c' a' s' h1 h2 => ih _ x4' c' a' s' (by rw [List.length_append, List.length_singleton]; omega) (by push_cast at hc; omega) h1
    obtain ⟨nm, a1, s1, e1, i1⟩ := pick_ok [(⟨#[109, 105, 108, 107]⟩ : ByteArray), (⟨#[98, 114, 111, 116]⟩ : ByteArray)] hl hs (by omega) (by decide)
    obtain ⟨v2, a2, s2, e2, p2, q2, i2⟩ := next_ok (n := 6) hl i1 (by omega) (by omega)
    obtain ⟨v3, a3, s3, e3, p3, q3, i3⟩ := next_ok (n := 20) hl i2 (by omega) (by omega)
    obtain ⟨v4, a4, s4, e4, p4, q4, i4⟩ := next_ok (n := 12) hl i3 (by omega) (by omega)
    obtain ⟨v5, a5, s5, e5, p5, q5, i5⟩ := next_ok (n := 11) hl i4 (by omega) (by omega)
    have j2 : ∀ (b : Bool), ∃ R, Ev (fun k => spec_l00Src_stockActs.j2 k L x4 ((n + 1 : Nat) : Int) v5 b l a5 s5 1 nm (wrap64 (1 + v2)) (wrap64 (1 + v3)) (wrap64 (x4 + v4))) R ∧ R.1.length ≤ 100 := by
      intro b
      cases b with
      | true =>
        obtain ⟨v6, a6, s6, e6, p6, q6, i6⟩ := next_ok (n := 4) hl i5 (by omega) (by omega)
        obtain ⟨v7, a7, s7, e7, p7, q7, i7⟩ := next_ok (n := 14) hl i6 (by omega) (by omega)
        obtain ⟨R, r1, r2⟩ := nx ⟨wrap64 (4 + v6), nm, wrap64 (1 + v2), v7, wrap64 (x4 + v4)⟩ x4 _ a7 s7 i7 (by omega)
        refine ⟨R, Ev.step (fun k => ?_) r1, r2⟩
        simp only [spec_l00Src_stockActs.j2, e6, e7, Option.bind_some, w]
        rw [if_pos trivial, if_pos hL]
      | false =>
        by_cases h7 : v5 = 7
        · obtain ⟨v6, a6, s6, e6, p6, q6, i6⟩ := next_ok (n := 10) hl i5 (by omega) (by omega)
          obtain ⟨nm2, a7, s7, e7, i7⟩ := pick_ok [(⟨#[]⟩ : ByteArray), (⟨#[57]⟩ : ByteArray), (⟨#[109, 105, 108, 107]⟩ : ByteArray)] hl i6 (by omega) (by decide)
          obtain ⟨v8, a8, s8, e8, p8, q8, i8⟩ := next_ok (n := 4) hl i7 (by omega) (by omega)
          obtain ⟨v9, a9, s9, e9, p9, q9, i9⟩ := next_ok (n := 6) hl i8 (by omega) (by omega)
          obtain ⟨v10, a10, s10, e10, p10, q10, i10⟩ := next_ok (n := 4) hl i9 (by omega) (by omega)
          obtain ⟨R, r1, r2⟩ := nx ⟨wrap64 (v6 - 1), nm2, rd [0, 1, 1000000, 1000001] v8, rd [0, 1, 100000, 100001, (-1), 100000] v9, rd [(-1), 100000, 100001, x4] v10⟩ x4 _ a10 s10 i10 (by omega)
          refine ⟨R, Ev.step (fun k => ?_) r1, r2⟩
          simp only [spec_l00Src_stockActs.j2, e6, e7, e8, e9, e10, Option.bind_some, w, List.length_cons, List.length_nil]
          rw [if_neg (by decide), if_pos h7, if_pos p8, if_pos (by omega), if_pos p9, if_pos (by omega), if_pos p10, if_pos (by omega), if_pos hL]
        · obtain ⟨R, r1, r2⟩ := nx ⟨1, nm, wrap64 (1 + v2), wrap64 (1 + v3), wrap64 (x4 + v4)⟩ x4 _ a5 s5 i5 (by omega)
          refine ⟨R, Ev.step (fun k => ?_) r1, r2⟩
          simp only [spec_l00Src_stockActs.j2, w]
          rw [if_neg (by decide), if_neg h7, if_pos hL]
    have j1 : ∀ (b : Bool), ∃ R, Ev (fun k => spec_l00Src_stockActs.j1 k L x4 ((n + 1 : Nat) : Int) v5 b l a5 s5 1 nm (wrap64 (1 + v2)) (wrap64 (1 + v3)) (wrap64 (x4 + v4))) R ∧ R.1.length ≤ 100 := by
      intro b
      cases b with
      | true =>
        obtain ⟨v6, a6, s6, e6, p6, q6, i6⟩ := next_ok (n := 16) hl i5 (by omega) (by omega)
        obtain ⟨R, r1, r2⟩ := nx ⟨2, nm, 0, wrap64 (1 + v6), 0⟩ x4 _ a6 s6 i6 (by omega)
        refine ⟨R, Ev.step (fun k => ?_) r1, r2⟩
        simp only [spec_l00Src_stockActs.j1, e6, Option.bind_some, w]
        rw [if_pos trivial, if_pos hL]
      | false =>
        by_cases h4 : v5 = 4
        · obtain ⟨v6, a6, s6, e6, p6, q6, i6⟩ := next_ok (n := 5) hl i5 (by omega) (by omega)
          obtain ⟨R, r1, r2⟩ := nx ⟨3, (⟨#[]⟩ : ByteArray), 0, wrap64 (x4 + v6), 0⟩ (wrap64 (x4 + v6)) _ a6 s6 i6 (by omega)
          refine ⟨R, Ev.step (fun k => ?_) r1, r2⟩
          simp only [spec_l00Src_stockActs.j1, e6, Option.bind_some, w]
          rw [if_neg (by decide), if_pos h4, if_pos hL]
        · by_cases h5 : v5 = 5
          · obtain ⟨R, r1, r2⟩ := j2 (v5 == 5)
            refine ⟨R, Ev.step (fun k => ?_) r1, r2⟩
            simp only [spec_l00Src_stockActs.j1]
            rw [if_neg (by decide), if_neg h4, if_pos h5]
          · obtain ⟨R, r1, r2⟩ := j2 (v5 == 6)
            refine ⟨R, Ev.step (fun k => ?_) r1, r2⟩
            simp only [spec_l00Src_stockActs.j1]
            rw [if_neg (by decide), if_neg h4, if_neg h5]
    have go : ∀ b, (∀ k, spec_l00Src_stockActs.l0 (k + 1) L x4 ((n + 1 : Nat) : Int) l a s = spec_l00Src_stockActs.j1 k L x4 ((n + 1 : Nat) : Int) v5 b l a5 s5 1 nm (wrap64 (1 + v2)) (wrap64 (1 + v3)) (wrap64 (x4 + v4))) → ∃ R, Ev (fun k => spec_l00Src_stockActs.l0 k L x4 ((n + 1 : Nat) : Int) l a s) R ∧ R.1.length ≤ 100 := by
      intro b hb
      obtain ⟨R, r1, r2⟩ := j1 b
      exact ⟨R, Ev.step hb r1, r2⟩
    by_cases c0 : v5 = 0
    · refine go (v5 == 0) (fun k => ?_)
      simp only [spec_l00Src_stockActs.l0, e1, e2, e3, e4, e5, Option.bind_some]
      rw [if_pos (by omega), if_pos c0]
    · by_cases c1 : v5 = 1
      · refine go (v5 == 1) (fun k => ?_)
        simp only [spec_l00Src_stockActs.l0, e1, e2, e3, e4, e5, Option.bind_some]
        rw [if_pos (by omega), if_neg c0, if_pos c1]
      · by_cases c2 : v5 = 2
        · refine go (v5 == 2) (fun k => ?_)
          simp only [spec_l00Src_stockActs.l0, e1, e2, e3, e4, e5, Option.bind_some]
          rw [if_pos (by omega), if_neg c0, if_neg c1, if_pos c2]
        · refine go (v5 == 3) (fun k => ?_)
          simp only [spec_l00Src_stockActs.l0, e1, e2, e3, e4, e5, Option.bind_some]
          rw [if_pos (by omega), if_neg c0, if_neg c1, if_neg c2]
theorem stockOf_ok {l : List Int} (hl : Byt l) : ∃ A, Ev (fun k => spec_StockOf.f k l) A ∧ A.length ≤ 100 := by
  obtain ⟨s0, e0, i0⟩ := source_ok (l := l)
  obtain ⟨z, ez, hz, hz2⟩ := size_ok l 0 s0 26
  have hw : wrap64 (z + 3) = z + 3 := w64 (by omega) (by omega)
  obtain ⟨v, a1, s1, e1, p1, q1, i1⟩ := next_ok (n := z + 3) hl i0 (by omega) (by omega)
  obtain ⟨m, rfl⟩ := Int.eq_ofNat_of_zero_le p1
  obtain ⟨R, r1, r2⟩ := acts_ok hl m [] 0 (0 + 3) a1 s1 (by simp; omega) (by omega) i1
  have h1 : ∀ k, spec_l00Src_stockActs.f k l 0 s0 = spec_l00Src_stockActs.l0 k [] 0 (m : Int) l a1 s1 := fun k => by
    rw [spec_l00Src_stockActs.f, ez, Option.bind_some, hw, e1, Option.bind_some]
  have h2 : Ev (fun k => (spec_l00Src_stockActs.f k l 0 s0).bind fun bt => some bt.1) R.1 := ev_bind (ev_same r1 h1) (ev_some _)
  exact ⟨R.1, ev_same h2 (fun k => by rw [spec_StockOf.f, e0, Option.bind_some]), r2⟩
end Go.Proofs.Ytnkceaibkfbeaaa.ZStockDF
