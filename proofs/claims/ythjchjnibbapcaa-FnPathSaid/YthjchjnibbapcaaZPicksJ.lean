/- The drawn hall is a right one, the drawn spots lie in it, the drawn order is an order. -/
import Derived.Test.YthjchjnibbapcaaZHalJ
import Derived.Test.YthjchjnibbapcaaZOrStJ
namespace Go.Proofs.Ythjchjnibbapcaa.ZPicksJ
open Go.RowKit Go.Proofs.Ythjchjnibbapcaa.J Go.Proofs.Ythjchjnibbapcaa.Lib Go.Proofs.Ythjchjnibbapcaa.ZHalJ Go.Proofs.Ythjchjnibbapcaa.ZDrawJ Go.Proofs.Ythjchjnibbapcaa.ZOrdJ Go.Proofs.Ythjchjnibbapcaa.ZOrStJ Go.Proofs.YthjchjnibbapcaaW.PrintWords Go.Proofs.YthjchjnibbapcaaW.PrintLast Go.Proofs.YthjchjnibbapcaaW.PrintMore
structure Drawn (a b c : Int) (L : List S45) (F : List Int) : Prop where
  hall : Hl a b c
  len : L.length ≤ 6
  right : ∀ p ∈ L, Sp a b p
  ord : Ord L.length F
theorem spot_ok {l : List Int} {c a s h0 h1 h2 : Int} (hl : Byt l) (h : St c a s) (hc : c ≤ 90000) (hh : Hl h0 h1 h2) : ∃ x y a' s', spec_l00Src_spot.f l a s h0 h1 h2 = some (x, y, a', s') ∧ Sp h0 h1 ⟨x, y⟩ ∧ St (c + 6) a' s' := by
  have e0 : mx 1 h0 = h0 := by unfold Hl at hh; unfold mx; split <;> omega
  have e1 : wrap64 (h1 + 2) = h1 + 2 := by unfold Hl at hh; exact w64 (by omega) (by omega)
  have e2 : mx 1 (h1 + 2) = h1 + 2 := by unfold Hl at hh; unfold mx; split <;> omega
  have hq := hh
  unfold Hl at hq
  obtain ⟨x, a1, s1, f1, p1, q1, i1⟩ := next_ok (n := h0) hl h (by omega) (by omega)
  obtain ⟨y, a2, s2, f2, p2, q2, i2⟩ := next_ok (n := h1 + 2) hl i1 (by omega) (by omega)
  unfold spec_l00Src_spot.f
  rw [e0, e1, e2, f1, Option.bind_some, f2, Option.bind_some]
  refine ⟨x, y, a2, s2, rfl, ?_, ⟨i2.1, by have := i2.2.1; omega, i2.2.2⟩⟩
  unfold Sp
  rw [w64 (by omega) (by omega), w64 (by omega) (by omega)]
  dsimp only
  omega
theorem list_ok {l : List Int} (hl : Byt l) {h0 h1 h2 : Int} (hh : Hl h0 h1 h2) : ∀ (m : Nat) (L : List S45) (c a s : Int), L.length + m ≤ 6 → (∀ p ∈ L, Sp h0 h1 p) → c ≤ 100 + 6 * (L.length : Int) → St c a s →
    ∃ L' F, Ev (fun k => spec_PicksOf.l0 k L (m : Int) l a s h0 h1 h2) (h0, h1, h2, L', F) ∧ Drawn h0 h1 h2 L' F := by
  intro m
  induction m with
  | zero =>
    intro L c a s h6 hR hc hs
    obtain ⟨F, a', s', hE, hO⟩ := order_step (n := L.length) hl (by omega) L.length [] c a s (by simp) (by simp) (by simp) (by simp; omega) hs
    refine ⟨L, F, Ev.step (f := fun k => (spec_l00Src_order.f k l a s (L.length : Int)).bind fun bt200 => (some (h0, h1, h2, L, bt200.1))) (fun k => ?_) (ev_bind hE (ev_some _)), ⟨hh, by omega, hR, hO⟩⟩
    simp only [spec_PicksOf.l0]
    rw [if_neg (by omega)]
  | succ m ih =>
    intro L c a s h6 hR hc hs
    obtain ⟨x, y, a1, s1, e1, p1, i1⟩ := spot_ok hl hs (by omega) hh
    have w5 : wrap64 (((m + 1 : Nat) : Int) - 1) = (m : Int) := by rw [w64 (by omega) (by omega)]; omega
    obtain ⟨L', F, hE, hD⟩ := ih (L ++ [(⟨x, y⟩ : S45)]) (c + 6) a1 s1 (by rw [List.length_append, List.length_singleton]; omega) (fun p hp => by
      rcases List.mem_append.1 hp with h | h
      · exact hR p h
      · obtain rfl := List.mem_singleton.1 h
        exact p1) (by rw [List.length_append, List.length_singleton]; omega) i1
    refine ⟨L', F, Ev.step (fun k => ?_) hE, hD⟩
    simp only [spec_PicksOf.l0, e1, Option.bind_some, w5]
    rw [if_pos (by omega), if_pos (by omega)]
theorem picks_ok {l : List Int} (hl : Byt l) : ∃ h0 h1 h2 L F, Ev (fun k => spec_PicksOf.f k l) (h0, h1, h2, L, F) ∧ Drawn h0 h1 h2 L F := by
  obtain ⟨s0, e0, i0⟩ := source_ok (l := l)
  obtain ⟨v1, a1, s1, e1, p1, q1, i1⟩ := next_ok (n := 6) hl i0 (by omega) (by omega)
  obtain ⟨v2, a2, s2, e2, p2, q2, i2⟩ := next_ok (n := 12) hl i1 (by omega) (by omega)
  obtain ⟨v3, a3, s3, e3, p3, q3, i3⟩ := next_ok (n := 4) hl i2 (by omega) (by omega)
  obtain ⟨z, ez, hz, hz2⟩ := size_ok l a3 s3 6
  have hw : wrap64 (z + 1) = z + 1 := w64 (by omega) (by omega)
  obtain ⟨v, a4, s4, e4, p4, q4, i4⟩ := next_ok (n := z + 1) hl i3 (by omega) (by omega)
  obtain ⟨m, rfl⟩ := Int.eq_ofNat_of_zero_le p4
  have w1 : wrap64 (1 + v1) = 1 + v1 := w64 (by omega) (by omega)
  have w2 : wrap64 (1 + v2) = 1 + v2 := w64 (by omega) (by omega)
  have w3 : wrap64 (1 + v3) = 1 + v3 := w64 (by omega) (by omega)
  have hh : Hl (1 + v1) (1 + v2) (1 + v3) := by unfold Hl; omega
  obtain ⟨L, F, hE, hD⟩ := list_ok hl hh m [] (0 + 3 + 3 + 3 + 3) a4 s4 (by show 0 + m ≤ 6; omega) (fun p hp => by cases hp) (by show (0 : Int) + 3 + 3 + 3 + 3 ≤ 100 + 6 * ((0 : Nat) : Int); omega) i4
  have e : ∀ k, spec_PicksOf.f k l = spec_PicksOf.l0 k ([] : List S45) (m : Int) l a4 s4 (1 + v1) (1 + v2) (1 + v3) := fun k => by
    rw [spec_PicksOf.f, e0, Option.bind_some, e1, Option.bind_some, e2, Option.bind_some, e3, Option.bind_some, ez, Option.bind_some, hw, e4, Option.bind_some, w1, w2, w3]
  exact ⟨_, _, _, L, F, ev_same hE e, hD⟩
end Go.Proofs.Ythjchjnibbapcaa.ZPicksJ
