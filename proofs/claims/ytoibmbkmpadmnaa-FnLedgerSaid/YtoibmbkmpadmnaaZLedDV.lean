/- The drawn history is a right one. -/
import Derived.Test.YtoibmbkmpadmnaaZLedDaV
namespace Go.Proofs.Ytoibmbkmpadmnaa.ZLedDV
open Go.RowKit Go.Proofs.Ytoibmbkmpadmnaa.V Go.Proofs.Ytoibmbkmpadmnaa.Lib Go.Proofs.Ytoibmbkmpadmnaa.ZNamIV Go.Proofs.Ytoibmbkmpadmnaa.ZLedEiV Go.Proofs.Ytoibmbkmpadmnaa.ZLedRiV Go.Proofs.Ytoibmbkmpadmnaa.ZDrawV Go.Proofs.Ytoibmbkmpadmnaa.ZLedDaV Go.Proofs.YtoibmbkmpadmnaaW.PrintWords Go.Proofs.YtoibmbkmpadmnaaW.PrintLast Go.Proofs.YtoibmbkmpadmnaaW.PrintMore
theorem shop_step {l : List Int} {s : Int} {L : List Ew} {T a z a1 z1 y a2 z2 m : Int} {R : List Ew × Int × Int} (hs : s ≤ 3) (e1 : spec_l00Src_next.f l a z 9 = some (T, a1, z1)) (ey : spec_l00Src_size.f l a1 z1 7 = some (y, a1, z1)) (e2 : spec_l00Src_next.f l a1 z1 (wrap64 (y + 1)) = some (m, a2, z2)) (hR : Ev (fun k => spec_l00Src_shopEvents.l1 k L s T m l a2 z2) R) : Ev (fun k => spec_l00Src_shopEvents.l0 k L s l a z) R := by
  refine Ev.step (f := fun k => (spec_l00Src_next.f l a z 9).bind fun bt => ((spec_l00Src_size.f l bt.2.1 bt.2.2 7).bind fun bt2 => ((spec_l00Src_next.f l bt2.2.1 bt2.2.2 (wrap64 (bt2.1 + 1))).bind fun bt3 => (spec_l00Src_shopEvents.l1 k L s bt.1 bt3.1 l bt3.2.1 bt3.2.2)))) (fun k => ?_) (ev_bind (a := (T, a1, z1)) (ev_const fun _ => e1) (ev_bind (a := (y, a1, z1)) (ev_const fun _ => ey) (ev_bind (a := (m, a2, z2)) (ev_const fun _ => e2) hR)))
  rw [spec_l00Src_shopEvents.l0, if_pos hs]
theorem shop_ok {l : List Int} (hl : Byt l) {s : Int} (hs : 1 ≤ s ∧ s ≤ 3) {L : List Ew} {T0 a z c : Int} (hg : GoodL L (s - 1) T0) (hL : L.length ≤ 14) (hc : 0 ≤ c ∧ c ≤ 800) (hst : St c a z) :
    ∃ L1 a3 z3 T1, GoodL L1 s T1 ∧ L1.length ≤ L.length + 7 ∧ St (c + 200) a3 z3 ∧ ∀ R, Ev (fun k => spec_l00Src_shopEvents.l0 k L1 (wrap64 (s + 1)) l a3 z3) R → Ev (fun k => spec_l00Src_shopEvents.l0 k L s l a z) R := by
  obtain ⟨T, a1, z1, e1, p1, q1, i1⟩ := next_ok (n := 9) hl hst (by omega) (by omega)
  obtain ⟨y, ey, hy, hy2⟩ := size_ok l a1 z1 7
  have hw : wrap64 (y + 1) = y + 1 := w64 (by omega) (by omega)
  obtain ⟨v, a2, z2, e2, p2, q2, i2⟩ := next_ok (n := y + 1) hl i1 (by omega) (by omega)
  obtain ⟨m, rfl⟩ := Int.eq_ofNat_of_zero_le p2
  have hm : m ≤ 7 := by omega
  have hg' : GoodL L s T := by
    have := hg.next (T' := T)
    rw [Int.sub_add_cancel] at this
    exact this
  obtain ⟨L1, T1, a3, z3, g1, g2, g3, g4⟩ := round_ok hl hs m L T (c + 3 + 3) a2 z2 hg' (by omega) (by omega) (by omega) (by omega) i2
  have e2' : spec_l00Src_next.f l a1 z1 (wrap64 (y + 1)) = some ((m : Int), a2, z2) := by rw [hw]; exact e2
  refine ⟨L1, a3, z3, T1, g1, by omega, ⟨g3.1, by have := g3.2.1; omega, g3.2.2⟩, fun R hE => ?_⟩
  exact shop_step hs.2 e1 ey e2' (g4 R hE)
theorem shops_ok {l : List Int} (hl : Byt l) {a z : Int} (hst : St 0 a z) : ∃ L a' z', Ev (fun k => spec_l00Src_shopEvents.f k l a z) (L, a', z') ∧ okB L = true ∧ L.length ≤ 21 ∧ (∀ e ∈ L, evB e = true) ∧ St 2000 a' z' := by
  have h0 : GoodL [] (1 - 1) 0 := ⟨by simp, by simp, List.Pairwise.nil, by simp⟩
  obtain ⟨L1, a1, z1, T1, p1, p2, p3, p4⟩ := shop_ok hl (s := 1) (by omega) h0 (by simp) (c := 0) (by omega) hst
  obtain ⟨L2, a2, z2, T2, q1, q2, q3, q4⟩ := shop_ok hl (s := 2) (by omega) (L := L1) (T0 := T1) p1 (by rw [List.length_nil] at p2; omega) (c := 0 + 200) (by omega) p3
  obtain ⟨L3, a3, z3, T3, r1, r2, r3, r4⟩ := shop_ok hl (s := 3) (by omega) (L := L2) (T0 := T2) q1 (by rw [List.length_nil] at p2; omega) (c := 0 + 200 + 200) (by omega) q3
  rw [List.length_nil] at p2
  refine ⟨L3, a3, z3, ?_, r1.ok (by omega), by omega, r1.ev, ⟨r3.1, by have := r3.2.1; omega, r3.2.2⟩⟩
  have w1 : wrap64 (1 + 1) = 2 := by unfold wrap64; omega
  have w2 : wrap64 (2 + 1) = 3 := by unfold wrap64; omega
  have w3 : wrap64 (3 + 1) = 4 := by unfold wrap64; omega
  rw [w1] at p4
  rw [w2] at q4
  rw [w3] at r4
  have hE : Ev (fun k => spec_l00Src_shopEvents.l0 k L3 4 l a3 z3) (L3, a3, z3) := by
    refine ev_succ (fun k => ?_)
    simp only [spec_l00Src_shopEvents.l0]
    rw [if_neg (by omega)]
  have hF := p4 _ (q4 _ (r4 _ hE))
  unfold spec_l00Src_shopEvents.f
  exact hF
theorem some_ok {l : List Int} (hl : Byt l) {L : List Ew} (hL : L.length ≤ 21) {c a z : Int} (hst : St c a z) (hc : c ≤ 50000) : ∃ M a' z', Ev (fun k => spec_l00Src_someOf.f k l a z L) (M, a', z') ∧ St (c + 100) a' z' := by
  have key : ∀ (M : List Ew) (a z : Int), M.length ≤ 0 → St (c + 3 * ((0 : Nat) : Int)) a z → ∃ M' a' z', Ev (fun k => spec_l00Src_someOf.l0 k L M ((0 : Nat) : Int) l a z) (M', a', z') ∧ St (c + 100) a' z' := by
    refine down_list L (P := fun i => ∀ (M : List Ew) (a z : Int), M.length ≤ i → St (c + 3 * (i : Int)) a z → ∃ M' a' z', Ev (fun k => spec_l00Src_someOf.l0 k L M (i : Int) l a z) (M', a', z') ∧ St (c + 100) a' z') ?_ ?_
    · intro M a z hM hst
      refine ⟨M, a, z, ev_succ (fun k => ?_), ⟨hst.1, by have := hst.2.1; omega, hst.2.2⟩⟩
      simp only [spec_l00Src_someOf.l0]
      rw [if_neg (by omega)]
    · intro i x hx hd ih M a z hM hst
      have hi := some_lt hx
      have hr : rd_T35 L (i : Int) = x := getD_some hx
      obtain ⟨t, a1, z1, e1, p1, q1, i1⟩ := next_ok (n := 3) hl hst (by omega) (by omega)
      have hwi : wrap64 ((i : Int) + 1) = ((i + 1 : Nat) : Int) := wrap_succ hi (by unfold maxLen; omega)
      have i1' : St (c + 3 * ((i + 1 : Nat) : Int)) a1 z1 := ⟨i1.1, by have := i1.2.1; push_cast; omega, i1.2.2⟩
      by_cases ht : (t == wrap64 (3 - 1)) = true
      · obtain ⟨M', a', z', r1, r2⟩ := ih M a1 z1 (by omega) i1'
        refine ⟨M', a', z', Ev.step (fun k => ?_) r1, r2⟩
        simp only [spec_l00Src_someOf.l0, spec_l00Src_chance.f, e1, Option.bind_some, hwi]
        rw [if_pos (ilt hi), if_pos ht]
      · obtain ⟨M', a', z', r1, r2⟩ := ih (M ++ [x]) a1 z1 (by rw [List.length_append, List.length_singleton]; omega) i1'
        refine ⟨M', a', z', Ev.step (fun k => ?_) r1, r2⟩
        simp only [spec_l00Src_someOf.l0, spec_l00Src_chance.f, e1, Option.bind_some, hwi, hr]
        rw [if_pos (ilt hi), if_neg ht, if_pos (ige _), if_pos (by omega)]
  exact key [] a z (by simp) (by simpa using hst)
theorem history_ok {l : List Int} (hl : Byt l) : ∃ P L, Ev (fun k => spec_HistoryOf.f k l) (P, L) ∧ okB L = true ∧ L.length ≤ 21 ∧ (∀ e ∈ L, evB e = true) := by
  obtain ⟨s0, e0, i0⟩ := source_ok (l := l)
  obtain ⟨L, a1, z1, h1, h2, h3, h4, h5⟩ := shops_ok hl i0
  obtain ⟨M1, a2, z2, g1, i2⟩ := some_ok hl h3 h5 (by omega)
  obtain ⟨M2, a3, z3, g2, i3⟩ := some_ok hl h3 i2 (by omega)
  obtain ⟨M3, a4, z4, g3, i4⟩ := some_ok hl h3 i3 (by omega)
  refine ⟨[M1, M2, M3], L, ?_, h2, h3, h4⟩
  unfold spec_HistoryOf.f
  rw [e0]
  exact ev_bind (ev_some _) (ev_bind h1 (ev_bind g1 (ev_bind g2 (ev_bind g3 (ev_some _)))))
end Go.Proofs.Ytoibmbkmpadmnaa.ZLedDV
