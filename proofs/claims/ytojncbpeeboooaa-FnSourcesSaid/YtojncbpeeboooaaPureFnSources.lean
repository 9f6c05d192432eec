/- FnSources: of sources that are drawn, no drawn way without a code costs less than the program's, which costs what it tells; a source more makes it no dearer.
   For every code of bytes that is no longer than the bound. -/
import Derived.Test.YtojncbpeeboooaaZBestSpX
import Derived.Test.YtojncbpeeboooaaZSrcDrX
namespace Go.Proofs.Ytojncbpeeboooaa.Pure
open Go.RowKit Go.Proofs.Ytojncbpeeboooaa.X Go.Proofs.Ytojncbpeeboooaa.Lib Go.Proofs.Ytojncbpeeboooaa.ZNameX Go.Proofs.Ytojncbpeeboooaa.ZSourcesX Go.Proofs.Ytojncbpeeboooaa.ZSrcOfX Go.Proofs.Ytojncbpeeboooaa.ZSrcCX Go.Proofs.Ytojncbpeeboooaa.ZSrcRunX Go.Proofs.Ytojncbpeeboooaa.ZBestSoX Go.Proofs.Ytojncbpeeboooaa.ZBestSpX Go.Proofs.Ytojncbpeeboooaa.ZDrawNX Go.Proofs.Ytojncbpeeboooaa.ZSrcDrX Go.Proofs.YtojncbpeeboooaaW.PrintWords Go.Proofs.YtojncbpeeboooaaW.PrintLast Go.Proofs.YtojncbpeeboooaaW.PrintMore
theorem byt_of {l : List Int} (h : ∀ y0 ∈ l, (Lit.int .u8 y0).wf = true) : Byt l := by
  intro y hy
  have := h y hy
  unfold Lit.wf at this
  rw [Bool.and_eq_true] at this
  exact ⟨of_decide_eq_true this.1, of_decide_eq_true this.2⟩
theorem FnSources : laws_FnSources.Pure := by
  intro l0 ⟨_, hb⟩
  refine Ev.rounds ?_
  unfold laws_FnSources.f
  by_cases c0 : (l0.length : Int) > 1048576
  · exact ev_pos c0 (ev_some _)
  refine ev_neg c0 ?_
  obtain ⟨L, W, F, hE, hD⟩ := sources_ok (byt_of hb)
  have hB := so_right hD.so hD.st
  have hB' := so_more hD.so hD.st
  have hl4 := hD.so.len
  have hw5 := hD.st.len
  have hs : ∀ p ∈ L, p.f2.length ≤ 1048576 := fun p hp => by have := (hD.so.each p hp).2.2.2.len; omega
  have hs' : ∀ p ∈ L ++ [(⟨more, 90, W⟩ : Src)], p.f2.length ≤ 1048576 := fun p hp => by
    rcases List.mem_append.1 hp with h | h
    · exact hs p h
    · obtain rfl := List.mem_singleton.1 h
      show W.length ≤ 1048576; omega
  have hl5 : (L ++ [(⟨more, 90, W⟩ : Src)]).length ≤ 5 := by rw [List.length_append, List.length_singleton]; omega
  have ei := best_impl L W (by omega) (by omega) hs
  have es := best_spec L W (by omega) (by omega) hs
  have em := best_impl (L ++ [(⟨more, 90, W⟩ : Src)]) W (by omega) (by omega) hs'
  have eo := src_impl L W (by omega) (by omega) (fun p hp => by have := hs p hp; omega)
  rw [hB] at eo
  obtain ⟨h6, htw⟩ := src_facts hB
  obtain ⟨r, w1, w2, w3⟩ := way_ev (L := L) (W := W) (F := F) hD.fl (by omega) hD.fr (fun p hp => ⟨by have := hs p hp; unfold maxLen; omega, htw p hp⟩)
  have hI : Ev (fun k => impl_sourceOf.f k L W F) (rI F r) := by
    unfold impl_sourceOf.f
    simp only [clone_eq (show F.length ≤ 4096 by have := hD.fl; omega), Option.bind_some]
    exact w1
  have hr := of_right hB hs (by omega) hD.fl hD.fr hI
  have hgF : ∀ p, r = some p → Gd L W F ∧ lf L W F = p := fun p e => by
    subst e
    have hg : Gd L W F := fun i x hx => by
      obtain ⟨v, rfl, hv⟩ := hD.fr x (List.mem_of_getElem? hx)
      exact ⟨v, rfl, hv, w3.2 ⟨p, rfl⟩ i v (Nat.zero_le _) hx⟩
    have e := ZBestSoX.ev_one (lf_ev hB hs (by omega) hD.fl hg).1 hI
    obtain ⟨a, b⟩ := p
    simp only [rI, Prod.mk.injEq, true_and, and_true] at e
    exact ⟨hg, Prod.ext e.1 e.2⟩
  refine ev_bind hE (ev_bind ei (ev_bind hr (ev_bind eo (ev_pos rfl ?_))))
  rcases best_cases (by omega) (by omega) hB with ⟨o, n, c, e, g1, g2, g3, g4⟩ | ⟨e, g⟩
  · rw [e]
    have fin : Ev (fun k => laws_FnSources.j0 k L W 0 false o n c) true := by
      have hO := (lf_ev hB hs (by omega) g2 g1).1
      rw [g3] at hO
      have ho := of_right (r := some (n, c)) hB hs (by omega) g2 (gd_mem g1) hO
      obtain ⟨q1, q2⟩ := lf_more hB hs hB' hs' (by omega) g2 g1
      rcases best_cases (by omega) (by omega) hB' with ⟨o', n', c', e', _, _, _, k4⟩ | ⟨_, k⟩
      · rw [e'] at em
        have hle := k4 o q1 g2
        rw [q2, g3] at hle
        refine Ev.step (f := fun k => (impl_SourceOf.f k L W o).bind fun bt409 => (impl_BestSource.f k (L ++ [(⟨more, 90, W⟩ : Src)]) W).bind fun bt425 => (if bt409.2.2.2 = 0 then (if bt409.2.2.1 = c then (if bt409.2.1 = n then (if bt425.2.2.2 = 0 then (some (decide (bt425.2.2.1 ≤ c))) else (some false)) else (some false)) else (some false)) else (some false))) (fun k => ?_) (ev_bind ho (ev_bind em (ev_pos rfl (ev_pos rfl (ev_pos rfl (ev_pos rfl (ev_eq (ev_some _) (decide_eq_true (by unfold le at hle; dsimp only at hle ⊢; omega)))))))))
        simp only [laws_FnSources.j0, Option.bind_some, List.length_nil, Nat.zero_add, List.nil_append]
        rw [if_neg (by simp), if_pos trivial]
        simp only [if_pos (show L.length < 2932031007402 by omega)]
        rfl
      · exact (k o q1 g2).elim
    cases r with
    | none => exact ev_neg (show ¬ (19 : Int) = 0 by decide) (ev_pos rfl fin)
    | some p =>
      obtain ⟨hg, hp⟩ := hgF p rfl
      have hle := g4 F hg hD.fl
      rw [hp] at hle
      obtain ⟨a, b⟩ := p
      unfold le at hle
      dsimp only at hle
      refine ev_pos rfl (ev_pos rfl (ev_neg (show ¬ b < c by omega) ?_))
      by_cases h : b = c
      · refine ev_pos h ?_
        show Ev (fun k => laws_FnSources.j0 k L W 0 (decide (a < n)) o n c) true
        rw [decide_eq_false (show ¬ a < n by omega)]
        exact fin
      · exact ev_neg h fin
  · rw [e]
    rw [e] at es
    have fin : Ev (fun k => laws_FnSources.j0 k L W 8 false [] 0 0) true := by
      refine Ev.step (f := fun k => (spec_BestSource.f k L W).bind fun bt432 => (some ((8 : Int) == bt432.2.2.2))) (fun k => ?_) (ev_bind es (ev_some _))
      simp only [laws_FnSources.j0]
      rw [if_neg (by simp), if_neg (by decide)]
    cases r with
    | none => exact ev_neg (show ¬ (19 : Int) = 0 by decide) (ev_pos rfl fin)
    | some p => exact (g F (hgF p rfl).1 hD.fl).elim
end Go.Proofs.Ytojncbpeeboooaa.Pure
