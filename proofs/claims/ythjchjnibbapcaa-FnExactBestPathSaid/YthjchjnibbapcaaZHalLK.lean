/- The law's copies of spots, their marks. -/
import Derived.Test.YthjchjnibbapcaaZHalK
namespace Go.Proofs.Ythjchjnibbapcaa.ZHalLK
open Go.RowKit Go.Proofs.Ythjchjnibbapcaa.K Go.Proofs.Ythjchjnibbapcaa.Lib Go.Proofs.Ythjchjnibbapcaa.ZHalK Go.Proofs.YthjchjnibbapcaaW.PrintWords Go.Proofs.YthjchjnibbapcaaW.PrintLast Go.Proofs.YthjchjnibbapcaaW.PrintMore
/-- The law's copies of spots. -/
def conv (p : S55) : S45 := ⟨p.f0, p.f1⟩
theorem to_spots (l : List S55) (hl : l.length ≤ 1048576) : Ev (fun k => laws_toSpotS.f k l) (l.map conv) := by
  unfold laws_toSpotS.f
  simp only [if_pos (ige _), Int.toNat_natCast, if_pos (show l.length ≤ 17592186044416 by omega)]
  refine to_ev l _ conv (fun k out i => laws_toSpotS.l0 k l out i) (by unfold maxLen; omega) (fun k out i x hx ho => ?_) (fun k out => ?_)
  · have := some_lt hx
    simp only [laws_toSpotS.l0, rd_T55, laws_toSpot.f, Option.bind_some]
    rw [if_pos (ilt this), if_pos (ige _), if_pos (by omega), getD_some hx]; rfl
  · simp only [laws_toSpotS.l0]
    rw [if_neg (by omega)]
theorem eq_spots (l : List S45) (hl : l.length ≤ maxLen) : Ev (fun k => laws_eqSpotS.f k l l) true := by
  unfold laws_eqSpotS.f
  simp only [if_true]
  refine ev_eq (all_ev' l (fun _ => true) (fun k i => laws_eqSpotS.l0 k l l i) hl (fun k i x hx => ?_) (fun k => ?_)) (by simp)
  · have := some_lt hx
    simp only [laws_eqSpotS.l0, rd_T45]
    rw [if_pos (ilt this), if_pos (ige _), if_pos (ilt this), getD_some hx]; simp [laws_eqSpot.f]
  · simp only [laws_eqSpotS.l0]
    rw [if_neg (by omega)]
theorem sz_spots (l : List S55) (hl : l.length ≤ maxLen) : (l.length ≤ 1048576 ∧ ∃ n, 0 ≤ n ∧ laws_szSpotS.f l 1048576 = some n) ∨ ∃ n, n < 0 ∧ laws_szSpotS.f l 1048576 = some n := by
  unfold maxLen at hl
  unfold laws_szSpotS.f
  rw [w64 (by omega) (by omega)]
  by_cases h : (1048576 - (l.length : Int)) < 0
  · exact .inr ⟨-1, by omega, by rw [if_pos h]⟩
  · exact .inl ⟨by omega, 1048576 - l.length, by omega, by rw [if_neg h]⟩
theorem markS_ev (l : List S45) (hl : l.length ≤ 1048576) : ∃ w, Ev (fun k => laws_markSpotS.f k l 1) (1 + 2 * (l.length : Int), w) := by
  unfold laws_markSpotS.f
  have key : ∀ (out : List S45) (n : Int), out.length = l.length → n = 1 + 2 * ((0 : Nat) : Int) → ∃ w, Ev (fun k => laws_markSpotS.l0 k out n ((0 : Nat) : Int)) (1 + 2 * (l.length : Int), w) := by
    refine down (n := l.length) (P := fun i => ∀ (out : List S45) (n : Int), out.length = l.length → n = 1 + 2 * (i : Int) → ∃ w, Ev (fun k => laws_markSpotS.l0 k out n (i : Int)) (1 + 2 * (l.length : Int), w)) ?_ ?_ 0 (Nat.zero_le _)
    · intro out n ho hn
      refine ⟨out, ev_succ (fun k => ?_)⟩
      simp only [laws_markSpotS.l0]
      rw [if_neg (by omega), hn]
    · intro i hi ih out n ho hn
      have hw1 : wrap64 (n + 1) = n + 1 := w64 (by omega) (by omega)
      have hw2 : wrap64 (n + 1 + 1) = n + 1 + 1 := w64 (by omega) (by omega)
      have st : ∃ out', out'.length = l.length ∧ ∀ k, laws_markSpotS.l0 (k + 1) out n (i : Int) = laws_markSpotS.l0 k out' (n + 1 + 1) ((i + 1 : Nat) : Int) := by
        refine ⟨(out.set (i : Int).toNat ⟨n, (rd_T45 out (i : Int)).f1⟩).set (i : Int).toNat ⟨(rd_T45 (out.set (i : Int).toNat ⟨n, (rd_T45 out (i : Int)).f1⟩) (i : Int)).f0, n + 1⟩, ?_, fun k => ?_⟩
        · simp only [List.length_set]; exact ho
        · simp only [laws_markSpotS.l0, Option.bind_some, hw1, hw2]
          rw [if_pos (by omega), if_pos (ige _), wrap_succ (show i < l.length by omega) (by unfold maxLen; omega)]
      obtain ⟨out', ho', hst⟩ := st
      obtain ⟨w, hE⟩ := ih out' (n + 1 + 1) ho' (by omega)
      exact ⟨w, Ev.step hst hE⟩
  exact key l 1 rfl (by omega)
end Go.Proofs.Ythjchjnibbapcaa.ZHalLK
