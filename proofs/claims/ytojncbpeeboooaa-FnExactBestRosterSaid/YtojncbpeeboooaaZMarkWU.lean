/- The law's marks of shifts and workers: their numbers. -/
import Derived.Test.YtojncbpeeboooaaZMarkUU
import Derived.Test.YtojncbpeeboooaaZShiftsU
namespace Go.Proofs.Ytojncbpeeboooaa.ZMarkWU
open Go.RowKit Go.Proofs.Ytojncbpeeboooaa.U Go.Proofs.Ytojncbpeeboooaa.Lib Go.Proofs.Ytojncbpeeboooaa.ZMarkUU Go.Proofs.Ytojncbpeeboooaa.ZShiftsU Go.Proofs.YtojncbpeeboooaaW.PrintWords Go.Proofs.YtojncbpeeboooaaW.PrintLast Go.Proofs.YtojncbpeeboooaaW.PrintMore
theorem rows_ev : ∀ (m : Nat) (a : Int), 0 ≤ a → a + (m : Int) ≤ 4398046511104 → Ev (fun k => hv_rows k m a) (a + (m : Int))
  | 0, a, _, _ => ev_eq (ev_some a) (by omega)
  | m + 1, a, h0, h => by
    obtain ⟨t, ht⟩ := text_big a (by omega)
    have w : wrap64 (a + 1) = a + 1 := w64 (by omega) (by omega)
    refine ev_eq (ev_bind ht (ev_same (rows_ev m (a + 1) (by omega) (by omega)) (fun k => by rw [w]))) (by omega)
theorem marks_ev : ∀ (L : List Wo) (a : Int), (∀ p ∈ L, p.f4.length ≤ 1048576) → 0 ≤ a → a + 1048580 * (L.length : Int) ≤ 4398046511104 → ∃ t, Ev (fun k => laws_markWorkerS.f k L a) t ∧ 0 ≤ t ∧ t ≤ a + 1048580 * (L.length : Int)
  | [], a, _, h0, _ => ⟨a, ev_some a, h0, by simp⟩
  | x :: L, a, hx, h0, h => by
    have hx1 := hx x (by simp)
    simp only [List.length_cons] at h
    obtain ⟨t, ht⟩ := text_big a (by omega)
    have w : wrap64 (wrap64 (wrap64 (wrap64 (a + 1) + 1) + 1) + 1) = a + 4 := by
      rw [w64 (x := a + 1) (by omega) (by omega), w64 (x := a + 1 + 1) (by omega) (by omega), w64 (x := a + 1 + 1 + 1) (by omega) (by omega), w64 (by omega) (by omega)]; omega
    have hr := rows_ev x.f4.length (a + 4) (by omega) (by omega)
    obtain ⟨u, hu, u0, u1⟩ := marks_ev L (a + 4 + (x.f4.length : Int)) (fun p hp => hx p (by simp [hp])) (by omega) (by omega)
    exact ⟨u, ev_bind ht (ev_bind (ev_same hr (fun k => by rw [w])) hu), u0, by simp only [List.length_cons]; omega⟩
theorem mark_shift (l : List Sh) (a : Int) (hl : l.length ≤ 1048576) (h0 : 0 ≤ a) (h1 : a ≤ 4000000000000) : ∃ w, Ev (fun k => laws_markShiftS.f k l a) (a + 3 * (l.length : Int), w) := by
  unfold laws_markShiftS.f
  have key := down (n := l.length) (P := fun i => ∀ (out : List Sh) (n : Int), out.length = l.length → n = a + 3 * (i : Int) → ∃ w, Ev (fun k => laws_markShiftS.l0 k out n (i : Int)) (a + 3 * (l.length : Int), w)) ?_ ?_ 0 (Nat.zero_le _)
  · exact key l a rfl (by omega)
  · intro out n ho hn
    refine ⟨out, ev_succ (fun k => ?_)⟩
    simp only [laws_markShiftS.l0]
    rw [if_neg (by omega), hn]
  · intro i hi ih out n ho hn
    have w1 : wrap64 (n + 1) = n + 1 := w64 (by omega) (by omega)
    have w2 : wrap64 (n + 1 + 1) = n + 1 + 1 := w64 (by omega) (by omega)
    have w3 : wrap64 (n + 1 + 1 + 1) = n + 1 + 1 + 1 := w64 (by omega) (by omega)
    obtain ⟨t, ht⟩ := text_big (n + 1 + 1) (by omega)
    obtain ⟨o1, e1⟩ : ∃ o1, o1 = out.set i (⟨n, (rd_T139 out (i : Int)).f1, (rd_T139 out (i : Int)).f2⟩ : Sh) := ⟨_, rfl⟩
    obtain ⟨o2, e2⟩ : ∃ o2, o2 = o1.set i (⟨(rd_T139 o1 (i : Int)).f0, n + 1, (rd_T139 o1 (i : Int)).f2⟩ : Sh) := ⟨_, rfl⟩
    obtain ⟨w, hw⟩ := ih (o2.set i (⟨(rd_T139 o2 (i : Int)).f0, (rd_T139 o2 (i : Int)).f1, t⟩ : Sh)) (n + 1 + 1 + 1) (by rw [List.length_set, e2, List.length_set, e1, List.length_set]; exact ho) (by omega)
    refine ⟨w, Ev.step (f := fun k => (laws_markText.f k (n + 1 + 1)).bind fun t => laws_markShiftS.l0 k (o2.set i (⟨(rd_T139 o2 (i : Int)).f0, (rd_T139 o2 (i : Int)).f1, t⟩ : Sh)) (n + 1 + 1 + 1) ((i + 1 : Nat) : Int)) (fun k => ?_) (ev_bind ht hw)⟩
    simp only [laws_markShiftS.l0, Option.bind_some, w1, w2, w3, Int.toNat_natCast, if_pos (ige i)]
    rw [if_pos (by omega), wrap_succ hi (by unfold maxLen; omega), ← e1, ← e2]
end Go.Proofs.Ytojncbpeeboooaa.ZMarkWU
