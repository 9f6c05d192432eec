/- The law's marks of sources and of wishes. -/
import Derived.Test.YtojncbpeeboooaaZSourcesV
import Derived.Test.YtojncbpeeboooaaZMarkIV
import Derived.Test.YtojncbpeeboooaaZMarkUV
namespace Go.Proofs.Ytojncbpeeboooaa.ZMarkSV
open Go.RowKit Go.Proofs.Ytojncbpeeboooaa.V Go.Proofs.Ytojncbpeeboooaa.Lib Go.Proofs.Ytojncbpeeboooaa.ZNameV Go.Proofs.Ytojncbpeeboooaa.ZSourcesV Go.Proofs.Ytojncbpeeboooaa.ZMarkIV Go.Proofs.Ytojncbpeeboooaa.ZMarkUV Go.Proofs.YtojncbpeeboooaaW.PrintWords Go.Proofs.YtojncbpeeboooaaW.PrintLast Go.Proofs.YtojncbpeeboooaaW.PrintMore
theorem rows_ev : ∀ (m : Nat) (a : Int), 0 ≤ a → a + 2 * (m : Int) ≤ 4398046511104 → Ev (fun k => hv_rows k m a) (a + 2 * (m : Int))
  | 0, a, _, _ => ev_eq (ev_some a) (by omega)
  | m + 1, a, h0, h => by
    obtain ⟨t, ht⟩ := text_big a (by omega)
    have w : wrap64 (wrap64 (a + 1) + 1) = a + 2 := by rw [w64 (x := a + 1) (by omega) (by omega), w64 (by omega) (by omega)]; omega
    refine ev_eq (ev_bind ht (ev_same (rows_ev m (a + 2) (by omega) (by omega)) (fun k => by rw [w]))) (by omega)
theorem marks_ev : ∀ (L : List Src) (a : Int), (∀ p ∈ L, p.f2.length ≤ 1048576) → 0 ≤ a → a + 2097154 * (L.length : Int) ≤ 4398046511104 → ∃ t, Ev (fun k => laws_markSourceS.f k L a) t ∧ 0 ≤ t ∧ t ≤ a + 2097154 * (L.length : Int)
  | [], a, _, h0, _ => ⟨a, ev_some a, h0, by simp⟩
  | x :: L, a, hx, h0, h => by
    have hx1 := hx x (by simp)
    simp only [List.length_cons] at h
    obtain ⟨t, ht⟩ := text_big a (by omega)
    have w : wrap64 (wrap64 (a + 1) + 1) = a + 2 := by rw [w64 (x := a + 1) (by omega) (by omega), w64 (by omega) (by omega)]; omega
    have hr := rows_ev x.f2.length (a + 2) (by omega) (by omega)
    obtain ⟨u, hu, u0, u1⟩ := marks_ev L (a + 2 + 2 * (x.f2.length : Int)) (fun p hp => hx p (by simp [hp])) (by omega) (by omega)
    exact ⟨u, ev_bind ht (ev_bind (ev_same hr (fun k => by rw [w])) hu), u0, by simp only [List.length_cons]; omega⟩
theorem mark_stock (l : List Stk) (a : Int) (hl : l.length ≤ 1048576) (h0 : 0 ≤ a) (h1 : a ≤ 4000000000000) : ∃ w, Ev (fun k => laws_markStockedS.f k l a) (a + 2 * (l.length : Int), w) := by
  unfold laws_markStockedS.f
  have key := down (n := l.length) (P := fun i => ∀ (out : List Stk) (n : Int), out.length = l.length → n = a + 2 * (i : Int) → ∃ w, Ev (fun k => laws_markStockedS.l0 k out n (i : Int)) (a + 2 * (l.length : Int), w)) ?_ ?_ 0 (Nat.zero_le _)
  · exact key l a rfl (by omega)
  · intro out n ho hn
    refine ⟨out, ev_succ (fun k => ?_)⟩
    simp only [laws_markStockedS.l0]
    rw [if_neg (by omega), hn]
  · intro i hi ih out n ho hn
    have w1 : wrap64 (n + 1) = n + 1 := w64 (by omega) (by omega)
    have w2 : wrap64 (n + 1 + 1) = n + 1 + 1 := w64 (by omega) (by omega)
    obtain ⟨t, ht⟩ := text_big n (by omega)
    obtain ⟨w, hw⟩ := ih ((out.set i (⟨t, (rd_T124 out (i : Int)).f1⟩ : Stk)).set i (⟨(rd_T124 (out.set i (⟨t, (rd_T124 out (i : Int)).f1⟩ : Stk)) (i : Int)).f0, n + 1⟩ : Stk)) (n + 1 + 1) (by rw [List.length_set, List.length_set]; exact ho) (by omega)
    refine ⟨w, Ev.step (f := fun k => (laws_markText.f k n).bind fun t => laws_markStockedS.l0 k ((out.set i (⟨t, (rd_T124 out (i : Int)).f1⟩ : Stk)).set i (⟨(rd_T124 (out.set i (⟨t, (rd_T124 out (i : Int)).f1⟩ : Stk)) (i : Int)).f0, n + 1⟩ : Stk)) (n + 1 + 1) ((i + 1 : Nat) : Int)) (fun k => ?_) (ev_bind ht hw)⟩
    simp only [laws_markStockedS.l0, Option.bind_some, w1, w2, Int.toNat_natCast, if_pos (ige i)]
    rw [if_pos (by omega), wrap_succ hi (by unfold maxLen; omega)]
theorem eq_srcing (o : List Int) (n c : Int) (ho : o.length ≤ maxLen) : Ev (fun k => laws_eqSourcing.f k o n c o n c) true := by
  unfold laws_eqSourcing.f
  exact ev_bind (eq_ints o ho) (ev_pos rfl (ev_pos rfl (ev_pos rfl (ev_some _))))
end Go.Proofs.Ytojncbpeeboooaa.ZMarkSV
