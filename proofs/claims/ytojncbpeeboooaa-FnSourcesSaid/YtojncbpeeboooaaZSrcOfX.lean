/- SourceOf: whether a source has an article; the program's way and the reference's go side by side. -/
import Derived.Test.YtojncbpeeboooaaZSourcesX
namespace Go.Proofs.Ytojncbpeeboooaa.ZSrcOfX
open Go.RowKit Go.Proofs.Ytojncbpeeboooaa.X Go.Proofs.Ytojncbpeeboooaa.Lib Go.Proofs.Ytojncbpeeboooaa.ZNameX Go.Proofs.Ytojncbpeeboooaa.ZSourcesX Go.Proofs.YtojncbpeeboooaaW.PrintWords Go.Proofs.YtojncbpeeboooaaW.PrintLast Go.Proofs.YtojncbpeeboooaaW.PrintMore

theorem tw_pre {α : Type} (e : α → α → Bool) : ∀ (l pre : List α), twG e pre l = false → ∀ y ∈ pre, ∀ z ∈ l, e z y = false
  | [], _, _, _, _, z, hz => by cases hz
  | x :: l, pre, h, y, hy, z, hz => by
    rw [twG, Bool.or_eq_false_iff] at h
    rcases List.mem_cons.1 hz with rfl | hz
    · exact Bool.eq_false_iff.2 (fun he => by
        have := h.1
        rw [List.any_eq_false] at this
        exact this y hy he)
    · exact tw_pre e l (pre ++ [x]) h.2 y (by simp [hy]) z hz
noncomputable def gB (l : List Stk) (a : ByteArray) (u : Int) : Bool := l.any fun x => eqS x.f0 a && decide (x.f1 ≥ u)
theorem gives_ev (l : List Stk) (nm : ByteArray) (sh : Int) (a : ByteArray) (u : Int) (hl : l.length ≤ maxLen) : Ev (fun k => impl_Source_gives.f k nm sh l a u) (gB l a u) := by
  unfold impl_Source_gives.f
  have hx : Ev (fun k => slices_IndexFunc_at_impl_Source_gives_1.f k l a u) (fidx (fun x => eqS x.f0 a && decide (x.f1 ≥ u)) l 0) := by
    unfold slices_IndexFunc_at_impl_Source_gives_1.f
    refine index_ev' l _ (fun k i => slices_IndexFunc_at_impl_Source_gives_1.l0 k l (l.length : Int) i a u) hl (fun k i x hx => ?_) (fun k => ?_)
    · have := some_lt hx
      have hr : rd_T124 l (i : Int) = x := getD_some hx
      have hg : impl_Source_gives_1.f x.f0 x.f1 a u = some (eqS x.f0 a && decide (x.f1 ≥ u)) := by
        unfold impl_Source_gives_1.f eqS
        by_cases c : x.f0.toList = a.toList
        · rw [if_pos c, decide_eq_true c, Bool.true_and]
        · rw [if_neg c, decide_eq_false c, Bool.false_and]
      simp only [slices_IndexFunc_at_impl_Source_gives_1.l0, hr, hg, Option.bind_some]
      rw [if_pos (ilt this), if_pos (ige _), if_pos (ilt this)]
    · simp only [slices_IndexFunc_at_impl_Source_gives_1.l0]
      rw [if_neg (by omega)]
  exact ev_bind (any_of_index hx) (ev_some _)
theorem has_ev (l : List Stk) (nm : ByteArray) (sh : Int) (a : ByteArray) (u : Int) (hl : l.length ≤ maxLen) (ht : twG (fun x y => eqS x.f0 y.f0) [] l = false) : Ev (fun k => spec_l23Has.f k nm sh l a u) (gB l a u) := by
  unfold spec_l23Has.f
  have key := down_list l (P := fun i => ∀ pre, twG (fun x y => eqS x.f0 y.f0) pre (l.drop i) = false → Ev (fun k => spec_l23Has.l0 k (i : Int) nm sh l a u) (gB (l.drop i) a u)) ?_ ?_
  · exact key [] ht
  · intro pre _
    rw [List.drop_length]
    refine ev_succ (fun k => ?_)
    simp only [spec_l23Has.l0]
    rw [if_neg (by omega)]; rfl
  · intro i x hx hd ih pre hp
    have hi := some_lt hx
    have hr : rd_T124 l (i : Int) = x := getD_some hx
    rw [hd] at hp ⊢
    rw [twG, Bool.or_eq_false_iff] at hp
    by_cases c : x.f0.toList = a.toList
    · have hz : gB (l.drop (i + 1)) a u = false := by
        unfold gB
        rw [List.any_eq_false]
        intro z hz
        have h1 := tw_pre _ _ _ hp.2 x (by simp) z hz
        have h2 : eqS z.f0 a = false := by
          unfold eqS at h1 ⊢
          rw [← c]; exact h1
        rw [h2]; simp
      refine ev_succ (fun k => ?_)
      simp only [spec_l23Has.l0, hr]
      rw [if_pos (ilt hi), if_pos (ige _), if_pos c]
      show _ = some ((eqS x.f0 a && decide (x.f1 ≥ u)) || gB (l.drop (i + 1)) a u)
      rw [hz, Bool.or_false]
      unfold eqS
      rw [decide_eq_true c, Bool.true_and]
    · refine Ev.step (f := fun k => spec_l23Has.l0 k (wrap64 ((i : Int) + 1)) nm sh l a u) (fun k => ?_) ?_
      · simp only [spec_l23Has.l0, hr]
        rw [if_pos (ilt hi), if_pos (ige _), if_neg c]
      · rw [wrap_succ hi hl]
        refine ev_eq (ih _ hp.2) ?_
        show _ = ((eqS x.f0 a && decide (x.f1 ≥ u)) || gB (l.drop (i + 1)) a u)
        unfold eqS
        rw [decide_eq_false c, Bool.false_and, Bool.false_or]
theorem index_int (l : List Int) (a : Int) (hl : l.length ≤ maxLen) : Ev (fun k => slices_Index_int_int.f k l a) (fidx (fun y => decide (a = y)) l 0) := by
  unfold slices_Index_int_int.f
  refine index_ev' l _ (fun k i => slices_Index_int_int.l0 k l a (l.length : Int) i) hl (fun k i x hx => ?_) (fun k => ?_)
  · have := some_lt hx
    have hr : rd l (i : Int) = x := getD_some hx
    simp only [slices_Index_int_int.l0, hr, decide_eq_true_eq]
    rw [if_pos (ilt this), if_pos (ige _), if_pos (ilt this)]
  · simp only [slices_Index_int_int.l0]
    rw [if_neg (by omega)]
theorem contains_int (l : List Int) (a : Int) (hl : l.length ≤ maxLen) : Ev (fun k => slices_Contains_int_int.f k l a) (l.any (fun y => decide (a = y))) := any_of_index (index_int l a hl)
def rI (F : List Int) : Option (Int × Int) → List Int × Int × Int × Bool
  | some (n, c) => (F, n, c, true)
  | none => ([], 0, 0, false)
def rS (F : List Int) : Option (Int × Int) → List Int × Int × Int × Int
  | some (n, c) => (F, n, c, 0)
  | none => ([], 0, 0, 19)
noncomputable def gv (L : List Src) (W : List Stk) (j v : Nat) : Bool := gB (rd_T58 L (v : Int)).f2 (rd_T124 W (j : Int)).f0 (rd_T124 W (j : Int)).f1
theorem way_ev {L : List Src} {W : List Stk} {F : List Int} (hF : F.length = W.length) (hW : W.length ≤ 4096) (hf : ∀ p ∈ F, ∃ v : Nat, p = (v : Int) ∧ v < L.length)
    (hs : ∀ p ∈ L, p.f2.length ≤ maxLen ∧ twG (fun x y : Stk => eqS x.f0 y.f0) [] p.f2 = false) :
    ∃ r, Ev (fun k => impl_sourceOf.l0 k L W F F (F.length : Int) ((0 : Nat) : Int) F 0 0) (rI F r) ∧ Ev (fun k => spec_SourceOf.l1 k L W F (List.replicate L.length false) ((0 : Nat) : Int) [] 0 0) (rS F r) ∧ ((∀ j v : Nat, 0 ≤ j → F[j]? = some (v : Int) → gv L W j v = true) ↔ ∃ p, r = some p) := by
  have key := down_list F (P := fun i => ∀ (used : List Bool) (n c : Int), used.length = L.length → (∀ v : Nat, v < L.length → used.getD v false = (F.take i).any (fun y => decide ((v : Int) = y))) →
    ∃ r, Ev (fun k => impl_sourceOf.l0 k L W F F (F.length : Int) (i : Int) F n c) (rI F r) ∧ Ev (fun k => spec_SourceOf.l1 k L W F used (i : Int) (F.take i) n c) (rS F r) ∧ ((∀ j v : Nat, i ≤ j → F[j]? = some (v : Int) → gv L W j v = true) ↔ ∃ p, r = some p)) ?_ ?_
  · exact key (List.replicate L.length false) 0 0 (by simp) (fun v hv => by simp [hv])
  · intro used n c _ _
    refine ⟨some (n, c), ev_succ (fun k => ?_), ev_succ (fun k => ?_), fun _ => ⟨_, rfl⟩, fun _ j v hj hh => by have := some_lt hh; omega⟩
    · simp only [impl_sourceOf.l0]
      rw [if_neg (by omega)]; rfl
    · simp only [spec_SourceOf.l1]
      rw [if_neg (by omega), List.take_length]; rfl
  · intro i x hx hd ih used n c hu hm
    have hi := some_lt hx
    have hr : rd F (i : Int) = x := getD_some hx
    obtain ⟨v, rfl, hv⟩ := hf x (List.mem_of_getElem? hx)
    have hLv : L[v]? = some L[v] := List.getElem?_eq_getElem hv
    have hmem : L[v] ∈ L := List.getElem_mem hv
    have hrL : rd_T58 L (v : Int) = L[v] := getD_some hLv
    generalize L[v] = s at hrL hmem
    have hwi : i < W.length := by omega
    have hrW : rd_T124 W (i : Int) = W[i] := getD_some (List.getElem?_eq_getElem hwi)
    generalize W[i] = q at hrW
    have g1 := gives_ev s.f2 s.f0 s.f1 q.f0 q.f1 (hs s hmem).1
    have g2 := has_ev s.f2 s.f0 s.f1 q.f0 q.f1 (hs s hmem).1 (hs s hmem).2
    have hc := contains_int (F.take i) (v : Int) (by rw [List.length_take]; unfold maxLen; omega)
    have hmv := hm v hv
    have ws : Aside0 (wrap64 ((i : Int) + 1) = ((i + 1 : Nat) : Int)) := ⟨wrap_succ hi (by unfold maxLen; omega)⟩
    have ht : F.take (i + 1) = F.take i ++ [(v : Int)] := by rw [List.take_succ_eq_append_getElem hi, (List.getElem?_eq_some_iff.1 hx).2]
    have hrd : rdOf false used (v : Int) = (F.take i).any (fun y => decide ((v : Int) = y)) := hmv
    have htl : (F.take i).length < 17592186044416 := by rw [List.length_take]; omega
    have hiF : (i : Int) ≤ (F.length : Int) := by omega
    have hvL : (v : Int) < (L.length : Int) := ilt hv
    have hvu : (v : Int) < (used.length : Int) := by omega
    have hiW : (i : Int) < (W.length : Int) := ilt hwi
    have eI : ∀ k, impl_sourceOf.l0 (k + 1) L W F F (F.length : Int) (i : Int) F n c = (impl_Source_gives.f k s.f0 s.f1 s.f2 q.f0 q.f1).bind fun t => if t = true then (slices_Contains_int_int.f k (F.take i) (v : Int)).bind fun t2 => if t2 = true then impl_sourceOf.l0 k L W F F (F.length : Int) ((i + 1 : Nat) : Int) F n c else impl_sourceOf.l0 k L W F F (F.length : Int) ((i + 1 : Nat) : Int) F (wrap64 (n + 1)) (wrap64 (c + s.f1)) else some (([] : List Int), 0, 0, false) := by
      intro k
      simp only [impl_sourceOf.l0, hr, hrL, hrW, ws.out, Int.toNat_natCast]
      rw [if_pos (ilt hi), if_pos (ige _), if_pos (ilt hi), if_pos (ige _), if_pos hvL, if_pos hiW]
      simp only [if_pos hiF]
    have eS : ∀ k, spec_SourceOf.l1 (k + 1) L W F used (i : Int) (F.take i) n c = (spec_l23Has.f k s.f0 s.f1 s.f2 q.f0 q.f1).bind fun t => if t = true then (if (rdOf false used (v : Int) = true) then spec_SourceOf.l1 k L W F used ((i + 1 : Nat) : Int) (F.take i ++ [(v : Int)]) n c else spec_SourceOf.l1 k L W F (used.set v true) ((i + 1 : Nat) : Int) (F.take i ++ [(v : Int)]) (wrap64 (n + 1)) (wrap64 (c + s.f1))) else some (([] : List Int), 0, 0, 19) := by
      intro k
      simp only [spec_SourceOf.l1, hr, hrL, hrW, ws.out, Int.toNat_natCast, Option.bind_some]
      rw [if_pos (ilt hi), if_pos (ige _), if_pos (ige _), if_pos hvL, if_pos hiW]
      simp only [if_pos htl, if_pos hvu]
    have hgv : gv L W i v = gB s.f2 q.f0 q.f1 := by unfold gv; rw [hrL, hrW]
    cases hg : gB s.f2 q.f0 q.f1 with
    | false =>
      rw [hg] at g1 g2
      refine ⟨none, Ev.step eI (ev_bind g1 (ev_neg (by simp) (ev_some _))), Ev.step eS (ev_bind g2 (ev_neg (by simp) (ev_some _))), fun h => ?_, fun ⟨p, e⟩ => by cases e⟩
      have := h i v (Nat.le_refl _) hx
      unfold gv at this
      rw [hrL, hrW, hg] at this
      cases this
    | true =>
      rw [hg] at g1 g2
      have bk : ∀ {r : Option (Int × Int)}, ((∃ p, r = some p) → ∀ j v : Nat, i + 1 ≤ j → F[j]? = some (v : Int) → gv L W j v = true) → (∃ p, r = some p) → ∀ j v : Nat, i ≤ j → F[j]? = some (v : Int) → gv L W j v = true := by
        intro r h hp j v' hj hh
        by_cases e : j = i
        · subst e
          rw [hx] at hh
          have : v' = v := by have := Option.some.inj hh; omega
          rw [this, hgv, hg]
        · exact h hp j v' (by omega) hh
      cases hb : (F.take i).any (fun y => decide ((v : Int) = y)) with
      | true =>
        rw [hb] at hc hrd
        obtain ⟨r, h1, h2, h3⟩ := ih used n c hu (fun z hz => by
          rw [hm z hz, ht, List.any_append]
          by_cases e : z = v
          · subst e; rw [hb]; rfl
          · have : decide ((z : Int) = (v : Int)) = false := decide_eq_false (by omega)
            simp [this])
        rw [ht] at h2
        exact ⟨r, Ev.step eI (ev_bind g1 (ev_pos rfl (ev_bind hc (ev_pos rfl h1)))), Ev.step eS (ev_bind g2 (ev_pos rfl (ev_pos hrd h2))), fun h => h3.1 (fun j v' hj hh => h j v' (by omega) hh), fun hp j v' hj hh => bk h3.2 hp j v' hj hh⟩
      | false =>
        rw [hb] at hc hrd
        obtain ⟨r, h1, h2, h3⟩ := ih (used.set v true) (wrap64 (n + 1)) (wrap64 (c + s.f1)) (by rw [List.length_set]; exact hu) (fun z hz => by
          rw [ht, List.any_append, ← hm z hz]
          simp only [List.getD_eq_getElem?_getD, List.getElem?_set]
          by_cases e : v = z
          · subst e; simp [hu, hv]
          · simp [e]; omega)
        rw [ht] at h2
        exact ⟨r, Ev.step eI (ev_bind g1 (ev_pos rfl (ev_bind hc (ev_neg (by simp) h1)))), Ev.step eS (ev_bind g2 (ev_pos rfl (ev_neg (by rw [hrd]; simp) h2))), fun h => h3.1 (fun j v' hj hh => h j v' (by omega) hh), fun hp j v' hj hh => bk h3.2 hp j v' hj hh⟩
end Go.Proofs.Ytojncbpeeboooaa.ZSrcOfX
