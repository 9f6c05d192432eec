/- The acts that are drawn. -/
import Derived.Test.YthljgekhknfllaaZDrawJ
namespace Go.Proofs.Ythljgekhknfllaa.ZActsJ
open Go.RowKit Go.Proofs.Ythljgekhknfllaa.J Go.Proofs.Ythljgekhknfllaa.Lib Go.Proofs.Ythljgekhknfllaa.ZDrawJ Go.Proofs.YthljgekhknfllaaW.PrintWords Go.Proofs.YthljgekhknfllaaW.PrintLast Go.Proofs.YthljgekhknfllaaW.PrintMore

theorem st_mono {c c' a s : Int} (h : St c a s) (k : c ≤ c') : St c' a s := ⟨h.1, by have := h.2.1; omega, h.2.2⟩
theorem pick_ok {l : List Int} {c a s : Int} (hl : Byt l) (h : St c a s) (hc : c ≤ 100000) (L : List ByteArray) (h0 : 0 < L.length) (h1 : L.length ≤ 256) : ∃ x a' s', spec_l00Src_pick.f l a s L = some (x, a', s') ∧ St (c + 3) a' s' := by
  obtain ⟨v, a', s', e, p, q, i⟩ := next_ok (n := (L.length : Int)) hl h hc (by omega)
  have hv : v < (L.length : Int) := by rcases q with q | q <;> omega
  refine ⟨rdOf ByteArray.empty L v, a', s', ?_, i⟩
  unfold spec_l00Src_pick.f
  rw [if_neg (by omega), e, Option.bind_some, if_pos p, if_pos hv]
theorem name_ok {l : List Int} {c a s : Int} (hl : Byt l) (h : St c a s) (hc : c ≤ 100000) : ∃ x a' s', spec_l00Src_name.f l a s = some (x, a', s') ∧ St (c + 3) a' s' := by
  obtain ⟨x, a', s', e, i⟩ := pick_ok hl h hc [(⟨#[97]⟩ : ByteArray), (⟨#[98]⟩ : ByteArray), (⟨#[99]⟩ : ByteArray), (⟨#[109, 105, 108, 107]⟩ : ByteArray), (⟨#[98, 114, 111, 116]⟩ : ByteArray), (⟨#[107, 195, 164, 115, 101]⟩ : ByteArray), (⟨#[209, 133, 208, 187, 208, 181, 208, 177]⟩ : ByteArray), (⟨#[206, 187, 49]⟩ : ByteArray), (⟨#[99, 104, 101, 101, 115, 101]⟩ : ByteArray), (⟨#[120]⟩ : ByteArray), (⟨#[121, 95, 50]⟩ : ByteArray), (⟨#[110, 111, 114, 116, 104]⟩ : ByteArray)] (by simp) (by simp)
  refine ⟨x, a', s', ?_, i⟩
  unfold spec_l00Src_name.f
  rw [e, Option.bind_some]
theorem chance_ok {l : List Int} {c a s n : Int} (hl : Byt l) (h : St c a s) (hc : c ≤ 100000) (hn : n ≤ 256) : ∃ b a' s', spec_l00Src_chance.f l a s n = some (b, a', s') ∧ St (c + 3) a' s' := by
  obtain ⟨v, a', s', e, p, q, i⟩ := next_ok (n := n) hl h hc (by omega)
  refine ⟨v == wrap64 (n - 1), a', s', ?_, i⟩
  unfold spec_l00Src_chance.f
  rw [e, Option.bind_some]
theorem acts_loop {l : List Int} (hl : Byt l) : ∀ (n : Nat) (out : List S33) (c a s : Int), out.length + n ≤ 40 → c + 24 * (n : Int) ≤ 2000 → St c a s →
    ∃ A a' s', Ev (fun k => spec_l00Src_payActs.l0 k out (n : Int) l a s) (A, a', s') ∧ A.length ≤ 40 := by
  intro n
  induction n with
  | zero =>
    intro out c a s ho _ _
    refine ⟨out, a, s, ev_succ (fun k => ?_), by omega⟩
    rw [spec_l00Src_payActs.l0, if_neg (by omega)]
  | succ n ih =>
    intro out c a s ho hc hs
    obtain ⟨v1, a1, s1, e1, p1, q1, i1⟩ := next_ok (n := 4) hl hs (by omega) (by omega)
    obtain ⟨v2, a2, s2, e2, i2⟩ := name_ok hl i1 (by omega)
    obtain ⟨v3, a3, s3, e3, p3, q3, i3⟩ := next_ok (n := 90) hl i2 (by omega) (by omega)
    obtain ⟨b, a4, s4, e4, i4⟩ := chance_ok (n := 12) hl i3 (by omega) (by omega)
    have w3 : wrap64 (((n + 1 : Nat) : Int) - 1) = (n : Int) := by rw [w64 (by omega) (by omega)]; omega
    by_cases hb : b = true
    · obtain ⟨v5, a5, s5, e5, p5, q5, i5⟩ := next_ok (n := 6) hl i4 (by omega) (by omega)
      obtain ⟨v6, a6, s6, e6, i6⟩ := pick_ok hl i5 (by omega) [(⟨#[]⟩ : ByteArray), (⟨#[57]⟩ : ByteArray), (⟨#[97]⟩ : ByteArray), (⟨#[98]⟩ : ByteArray)] (by simp) (by simp)
      obtain ⟨v7, a7, s7, e7, p7, q7, i7⟩ := next_ok (n := 4) hl i6 (by omega) (by omega)
      obtain ⟨A, a', s', hE, hA⟩ := ih (out ++ [⟨v5, v6, rd [0, (-1), 1000000000, 1000000001] v7⟩]) (c + 24) a7 s7 (by simp; omega) (by omega) (st_mono i7 (by omega))
      refine ⟨A, a', s', Ev.step (fun k => ?_) hE, hA⟩
      have hv7 : v7 < (([0, (-1), 1000000000, 1000000001] : List Int).length : Int) := by
        show v7 < 4
        rcases q7 with q | q <;> omega
      rw [spec_l00Src_payActs.l0, if_pos (by omega), e1, Option.bind_some, e2, Option.bind_some, e3, Option.bind_some, e4, Option.bind_some, if_pos hb, e5, Option.bind_some, e6, Option.bind_some, Option.bind_some, e7, Option.bind_some, if_pos p7, if_pos hv7, if_pos (by omega), w3]
    · obtain ⟨A, a', s', hE, hA⟩ := ih (out ++ [⟨wrap64 (1 + v1), v2, wrap64 (1 + v3)⟩]) (c + 24) a4 s4 (by simp; omega) (by omega) (st_mono i4 (by omega))
      refine ⟨A, a', s', Ev.step (fun k => ?_) hE, hA⟩
      rw [spec_l00Src_payActs.l0, if_pos (by omega), e1, Option.bind_some, e2, Option.bind_some, e3, Option.bind_some, e4, Option.bind_some, if_neg hb, if_pos (by omega), w3]
theorem payActs_ok {l : List Int} (hl : Byt l) : ∃ A, Ev (fun k => spec_PayActsOf.f k l) A ∧ A.length ≤ 40 := by
  obtain ⟨s, e0, i0⟩ := source_ok (l := l)
  obtain ⟨z, ez, hz, hz2⟩ := size_ok l 0 s 20
  obtain ⟨v, a, s', e1, p1, q1, i1⟩ := next_ok (n := wrap64 (z + 2)) hl i0 (by omega) (by unfold wrap64; omega)
  have hv : v ≤ 21 := by
    rcases q1 with h | h
    · have : wrap64 (z + 2) ≤ 22 := by
        unfold wrap64 at h ⊢
        omega
      omega
    · omega
  obtain ⟨n, rfl⟩ := Int.eq_ofNat_of_zero_le p1
  obtain ⟨A, a', s2, hE, hA⟩ := acts_loop hl n [] 3 a s' (by simp; omega) (by omega) i1
  have h1 : Ev (fun k => spec_l00Src_payActs.f k l 0 s) (A, a', s2) := ev_same hE (fun k => by rw [spec_l00Src_payActs.f, ez, Option.bind_some, e1, Option.bind_some])
  refine ⟨A, ev_same (f := fun k => (spec_l00Src_payActs.f k l 0 s).bind fun bt175 => (some bt175.1)) (ev_bind h1 (ev_some _)) (fun k => ?_), hA⟩
  rw [spec_PayActsOf.f, e0, Option.bind_some]
end Go.Proofs.Ythljgekhknfllaa.ZActsJ
