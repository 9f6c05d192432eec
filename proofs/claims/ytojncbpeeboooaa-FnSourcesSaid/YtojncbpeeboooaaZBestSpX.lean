/- BestSource's answer is the best of all lists; a source more makes it no dearer. -/
import Derived.Test.YtojncbpeeboooaaZBestSoX
import Derived.Test.YtojncbpeeboooaaZSrcRunX
namespace Go.Proofs.Ytojncbpeeboooaa.ZBestSpX
open Go.RowKit Go.Proofs.Ytojncbpeeboooaa.X Go.Proofs.Ytojncbpeeboooaa.Lib Go.Proofs.Ytojncbpeeboooaa.ZNameX Go.Proofs.Ytojncbpeeboooaa.ZSourcesX Go.Proofs.Ytojncbpeeboooaa.ZSrcOfX Go.Proofs.Ytojncbpeeboooaa.ZSrcCX Go.Proofs.Ytojncbpeeboooaa.ZSrcRunX Go.Proofs.Ytojncbpeeboooaa.ZBestSoX Go.Proofs.YtojncbpeeboooaaW.PrintWords Go.Proofs.YtojncbpeeboooaaW.PrintLast Go.Proofs.YtojncbpeeboooaaW.PrintMore
def le (a b : Int × Int) : Prop := a.2 < b.2 ∨ (a.2 = b.2 ∧ a.1 ≤ b.1)
theorem le_refl (a : Int × Int) : le a a := .inr ⟨rfl, Int.le_refl _⟩
theorem le_trans {a b c : Int × Int} (h : le a b) (g : le b c) : le a c := by unfold le at *; omega
def key (s : Bs) : Int × Int := (s.2.2.1, s.2.2.2)
def Val (L : List Src) (W : List Stk) (s : Bs) : Prop := s.1 = true → Gd L W s.2.1 ∧ s.2.1.length = W.length ∧ lf L W s.2.1 = key s
theorem upd_all (o : List Int) (p : Int × Int) (s : Bs) : (upd o p s).1 = true ∧ le (key (upd o p s)) p ∧ (s.1 = true → le (key (upd o p s)) (key s)) ∧ ((upd o p s) = (true, o, p.1, p.2) ∨ (s.1 = true ∧ upd o p s = s)) := by
  by_cases h1 : s.1 = true
  · by_cases h2 : chp p s = true
    · rw [upd_1 h1 h2]
      refine ⟨rfl, le_refl _, fun _ => ?_, .inl rfl⟩
      unfold chp at h2
      simp only [Bool.or_eq_true, Bool.and_eq_true, decide_eq_true_eq] at h2
      unfold le key
      dsimp only
      omega
    · rw [upd_2 h1 h2]
      refine ⟨h1, ?_, fun _ => le_refl _, .inr ⟨h1, rfl⟩⟩
      unfold chp at h2
      simp only [Bool.or_eq_true, Bool.and_eq_true, decide_eq_true_eq] at h2
      unfold le key
      dsimp only
      omega
  · rw [upd_3 h1]
    exact ⟨rfl, le_refl _, fun h => absurd h h1, .inl rfl⟩
section
variable {L : List Src} {W : List Stk} {o : List Int} {g : List Int → Bs → Bs}
theorem lp_A (hg : ∀ v s, s.1 = true → (g (o ++ [v]) s).1 = true ∧ le (key (g (o ++ [v]) s)) (key s)) : ∀ m s, s.1 = true → (lp L W o g m s).1 = true ∧ le (key (lp L W o g m s)) (key s)
  | 0, s, h => ⟨h, le_refl _⟩
  | m + 1, s, h => by
    unfold lp
    split
    · have h1 := hg ((L.length - (m + 1) : Nat) : Int) s h
      have h2 := lp_A hg m _ h1.1
      exact ⟨h2.1, le_trans h2.2 h1.2⟩
    · exact lp_A hg m s h
theorem lp_B {v : Nat} {q : Int × Int} (hv : v < L.length) (hgv : gv L W o.length v = true) (hg : ∀ v s, s.1 = true → (g (o ++ [v]) s).1 = true ∧ le (key (g (o ++ [v]) s)) (key s)) (hq : ∀ s, (g (o ++ [(v : Int)]) s).1 = true ∧ le (key (g (o ++ [(v : Int)]) s)) q) :
    ∀ m s, m ≤ L.length → L.length - m ≤ v → (lp L W o g m s).1 = true ∧ le (key (lp L W o g m s)) q
  | 0, s, h, h2 => by omega
  | m + 1, s, h, h2 => by
    by_cases e : L.length - (m + 1) = v
    · unfold lp
      rw [e, if_pos hgv]
      have h1 := hq s
      have h2 := lp_A hg (L := L) (W := W) m _ h1.1
      exact ⟨h2.1, le_trans h2.2 h1.2⟩
    · unfold lp
      exact lp_B hv hgv hg hq m _ (by omega) (by omega)
theorem lp_C (hg : ∀ (v : Nat) s, v < L.length → gv L W o.length v = true → Val L W s → Val L W (g (o ++ [(v : Int)]) s)) : ∀ m s, m ≤ L.length → Val L W s → Val L W (lp L W o g m s)
  | 0, s, _, h => h
  | m + 1, s, hm, h => by
    unfold lp
    refine lp_C hg m _ (by omega) ?_
    split
    · rename_i hh
      exact hg _ s (by omega) hh h
    · exact h
end
section
variable {L : List Src} {W : List Stk}
theorem srch_A : ∀ (d : Nat) (o : List Int) (s : Bs), s.1 = true → (srch L W d o s).1 = true ∧ le (key (srch L W d o s)) (key s)
  | 0, o, s, h => by
    unfold srch
    have := upd_all o (lf L W o) s
    exact ⟨this.1, this.2.2.1 h⟩
  | d + 1, o, s, h => by
    unfold srch
    exact lp_A (fun v s h => srch_A d (o ++ [v]) s h) _ s h
theorem srch_B : ∀ (d : Nat) (o t : List Int) (s : Bs), t.length = d → Gd L W (o ++ t) → (srch L W d o s).1 = true ∧ le (key (srch L W d o s)) (lf L W (o ++ t))
  | 0, o, t, s, ht, hG => by
    obtain rfl := List.length_eq_zero_iff.1 ht
    rw [List.append_nil]
    unfold srch
    have := upd_all o (lf L W o) s
    exact ⟨this.1, this.2.1⟩
  | d + 1, o, t, s, ht, hG => by
    obtain ⟨x, t', rfl⟩ : ∃ x t', t = x :: t' := by
      cases t with
      | nil => cases ht
      | cons x t' => exact ⟨x, t', rfl⟩
    obtain ⟨v, rfl, hv, hgv⟩ := hG o.length x (by rw [List.getElem?_append_right (Nat.le_refl _), Nat.sub_self]; rfl)
    have e : o ++ (v : Int) :: t' = (o ++ [(v : Int)]) ++ t' := by rw [List.append_assoc]; rfl
    rw [e] at hG ⊢
    unfold srch
    exact lp_B hv hgv (fun v s h => srch_A d (o ++ [v]) s h) (fun s => srch_B d (o ++ [(v : Int)]) t' s (by simpa using ht) hG) _ s (Nat.le_refl _) (by omega)
theorem srch_C : ∀ (d : Nat) (o : List Int) (s : Bs), o.length + d = W.length → Gd L W o → Val L W s → Val L W (srch L W d o s)
  | 0, o, s, hd, hG, hV => by
    unfold srch
    rcases (upd_all o (lf L W o) s).2.2.2 with h | ⟨h1, h⟩
    · rw [h]
      exact fun _ => ⟨hG, hd, rfl⟩
    · rw [h]; exact hV
  | d + 1, o, s, hd, hG, hV => by
    unfold srch
    exact lp_C (fun v s hv hgv h => srch_C d (o ++ [(v : Int)]) s (by rw [List.length_append, List.length_singleton]; omega) (gd_app hG hv hgv) h) _ s (Nat.le_refl _) hV
theorem best_cases (h1 : L.length ≤ 4096) (h2 : W.length ≤ 4096) (hB : srcB L W = true) : (∃ o n c, bestB L W = (o, n, c, 0) ∧ Gd L W o ∧ o.length = W.length ∧ lf L W o = (n, c) ∧ ∀ F, Gd L W F → F.length = W.length → le (n, c) (lf L W F)) ∨ (bestB L W = ([], 0, 0, 8) ∧ ∀ F, Gd L W F → F.length = W.length → False) := by
  unfold bestB
  rw [if_pos ⟨h1, h2⟩, if_pos hB]
  have hb := fun F (hG : Gd L W F) (hF : F.length = W.length) => srch_B W.length [] F (false, [], 0, 0) hF hG
  have hc := srch_C (L := L) (W := W) W.length [] (false, [], 0, 0) (by simp) gd_nil (fun h => by cases h)
  generalize srch L W W.length [] (false, [], 0, 0) = s at hb hc
  by_cases h : s.1 = true
  · rw [if_pos h]
    obtain ⟨g1, g2, g3⟩ := hc h
    exact .inl ⟨_, _, _, rfl, g1, g2, g3, fun F hG hF => (hb F hG hF).2⟩
  · rw [if_neg h]
    exact .inr ⟨rfl, fun F hG hF => h (hb F hG hF).1⟩
theorem of_right {F : List Int} {r : Option (Int × Int)} (hB : srcB L W = true) (hs : ∀ p ∈ L, p.f2.length ≤ 1048576) (hW : W.length ≤ 4096) (hF : F.length = W.length) (hm : ∀ p ∈ F, ∃ v : Nat, p = (v : Int) ∧ v < L.length)
    (hI : Ev (fun k => impl_sourceOf.f k L W F) (rI F r)) : Ev (fun k => impl_SourceOf.f k L W F) (rS F r) := by
  obtain ⟨h6, htw⟩ := src_facts hB
  have i1 := src_impl L W (by omega) (by omega) (fun p hp => by have := hs p hp; omega)
  rw [hB] at i1
  have eI : ∀ k, impl_SourceOf.j0 (k + 1) L W F false = (impl_SourcesOK.f k L W).bind fun t258 => (if t258 = true then (if (F.length : Int) = (W.length : Int) then ((impl_areFrom.f k F 0 (wrap64 ((L.length : Int) - 1))).bind fun t259 => (impl_SourceOf.j1 k L W F (!t259))) else (impl_SourceOf.j1 k L W F true)) else (some (([] : List Int), 0, 0, 1))) := fun k => by simp only [impl_SourceOf.j0]; rw [if_neg (by simp)]
  have e2 := from_ev F 0 (wrap64 ((L.length : Int) - 1)) (by unfold maxLen; omega)
  have hq : (F.all fun p => decide (0 ≤ p ∧ p ≤ wrap64 ((L.length : Int) - 1))) = true := List.all_eq_true.2 (fun x hx => by
    obtain ⟨v, rfl, hv⟩ := hm x hx
    rw [w64 (by omega) (by omega)]
    exact decide_eq_true (by omega))
  rw [hq] at e2
  have jf : Ev (fun k => impl_SourceOf.j1 k L W F (!true)) (rS F r) := by
    refine Ev.step (f := fun k => (impl_sourceOf.f k L W F).bind fun bt260 => (if bt260.2.2.2 = true then (some (bt260.1, bt260.2.1, bt260.2.2.1, 0)) else (some (([] : List Int), 0, 0, 19)))) (fun k => by simp only [impl_SourceOf.j1]; rw [if_neg (by simp)]) (ev_bind hI ?_)
    cases r with
    | none => exact ev_neg (by simp [rI]) (ev_some _)
    | some q => exact ev_pos rfl (ev_some _)
  exact impl_short ⟨by omega, hW, by omega⟩ (Ev.step eI (ev_bind i1 (ev_pos rfl (ev_pos (by omega) (ev_bind e2 jf)))))
theorem rd_more {m : Src} {v : Nat} (hv : v < L.length) : rd_T58 (L ++ [m]) (v : Int) = rd_T58 L (v : Int) := by
  have h1 : rd_T58 L (v : Int) = L[v] := getD_some (List.getElem?_eq_getElem hv)
  have h2 : rd_T58 (L ++ [m]) (v : Int) = L[v] := getD_some (by rw [List.getElem?_append_left hv, List.getElem?_eq_getElem hv])
  rw [h1, h2]
theorem way_more {m : Src} {F : List Int} (hm : ∀ p ∈ F, ∃ v : Nat, p = (v : Int) ∧ v < L.length) : ∀ (k : Nat) (i : Int) (T : List Int) (n c : Int), impl_sourceOf.l0 k (L ++ [m]) W F F (F.length : Int) i T n c = impl_sourceOf.l0 k L W F F (F.length : Int) i T n c
  | 0, _, _, _, _ => rfl
  | k + 1, i, T, n, c => by
    simp only [impl_sourceOf.l0, way_more hm k]
    by_cases h1 : i < (F.length : Int)
    · by_cases h2 : 0 ≤ i
      · obtain ⟨j, rfl⟩ := Int.eq_ofNat_of_zero_le h2
        have hj : j < F.length := by omega
        have hr : rd F (j : Int) = F[j] := getD_some (List.getElem?_eq_getElem hj)
        obtain ⟨v, e, hv⟩ := hm F[j] (List.getElem_mem hj)
        rw [hr, e, rd_more hv, if_pos (show (v : Int) < ((L ++ [m]).length : Int) by rw [List.length_append, List.length_singleton]; omega), if_pos (show (v : Int) < (L.length : Int) by omega)]
      · simp only [if_neg h2]
    · simp only [if_neg h1]
theorem lf_more {m : Src} {F : List Int} (hB : srcB L W = true) (hs : ∀ p ∈ L, p.f2.length ≤ 1048576) (hB' : srcB (L ++ [m]) W = true) (hs' : ∀ p ∈ L ++ [m], p.f2.length ≤ 1048576) (hW : W.length ≤ 4096) (hF : F.length = W.length) (hG : Gd L W F) : Gd (L ++ [m]) W F ∧ lf (L ++ [m]) W F = lf L W F := by
  have hG' : Gd (L ++ [m]) W F := by
    intro i x hx
    obtain ⟨v, e, hv, hg⟩ := hG i x hx
    refine ⟨v, e, by rw [List.length_append]; omega, ?_⟩
    unfold gv at hg ⊢
    rw [rd_more hv]; exact hg
  refine ⟨hG', ?_⟩
  have e1 := (lf_ev hB hs hW hF hG).1
  have e2 := (lf_ev hB' hs' hW hF hG').1
  have e3 := ev_one (ev_same e2 (fun k => by
    unfold impl_sourceOf.f
    simp only [way_more (gd_mem hG)])) e1
  simp only [Prod.mk.injEq, true_and, and_true] at e3
  exact Prod.ext e3.1 e3.2
end
end Go.Proofs.Ytojncbpeeboooaa.ZBestSpX
