/- BestSource: the program's search and the reference's come to the same. -/
import Derived.Test.YtojncbpeeboooaaZSrcCX
namespace Go.Proofs.Ytojncbpeeboooaa.ZBestSoX
open Go.RowKit Go.Proofs.Ytojncbpeeboooaa.X Go.Proofs.Ytojncbpeeboooaa.Lib Go.Proofs.Ytojncbpeeboooaa.ZNameX Go.Proofs.Ytojncbpeeboooaa.ZSourcesX Go.Proofs.Ytojncbpeeboooaa.ZSrcOfX Go.Proofs.Ytojncbpeeboooaa.ZSrcCX Go.Proofs.YtojncbpeeboooaaW.PrintWords Go.Proofs.YtojncbpeeboooaaW.PrintLast Go.Proofs.YtojncbpeeboooaaW.PrintMore
theorem ev_one {α : Type} {g : Nat → Option α} {a b : α} (h1 : Ev g a) (h2 : Ev g b) : a = b := by
  obtain ⟨n, h1⟩ := h1
  obtain ⟨m, h2⟩ := h2
  have e1 := h1 (n + m) (by omega)
  have e2 := h2 (n + m) (by omega)
  rw [e1] at e2
  exact Option.some.inj e2
def Gd (L : List Src) (W : List Stk) (o : List Int) : Prop := ∀ (i : Nat) (x : Int), o[i]? = some x → ∃ v : Nat, x = (v : Int) ∧ v < L.length ∧ gv L W i v = true
theorem gd_nil {L : List Src} {W : List Stk} : Gd L W [] := fun i x h => by simp at h
theorem gd_mem {L : List Src} {W : List Stk} {o : List Int} (h : Gd L W o) : ∀ p ∈ o, ∃ v : Nat, p = (v : Int) ∧ v < L.length := fun p hp => by
  obtain ⟨i, hi, e⟩ := List.getElem_of_mem hp
  obtain ⟨v, e1, e2, _⟩ := h i p (by rw [List.getElem?_eq_getElem hi, e])
  exact ⟨v, e1, e2⟩
theorem gd_app {L : List Src} {W : List Stk} {o : List Int} {v : Nat} (h : Gd L W o) (hv : v < L.length) (hg : gv L W o.length v = true) : Gd L W (o ++ [(v : Int)]) := by
  intro i x hx
  by_cases c : i < o.length
  · rw [List.getElem?_append_left c] at hx
    exact h i x hx
  · have hl := some_lt hx
    rw [List.length_append, List.length_cons, List.length_nil] at hl
    have : i = o.length := by omega
    subst this
    rw [List.getElem?_append_right (Nat.le_refl _), Nat.sub_self] at hx
    exact ⟨v, (Option.some.inj hx).symm, hv, hg⟩
open Classical in
noncomputable def lf (L : List Src) (W : List Stk) (F : List Int) : Int × Int := if h : ∃ p, Ev (fun k => impl_sourceOf.f k L W F) (rI F (some p)) then h.choose else (0, 0)
theorem lf_ev {L : List Src} {W : List Stk} (hB : srcB L W = true) (hs : ∀ p ∈ L, p.f2.length ≤ 1048576) (hW : W.length ≤ 4096) {F : List Int} (hF : F.length = W.length) (hg : Gd L W F) :
    Ev (fun k => impl_sourceOf.f k L W F) (F, (lf L W F).1, (lf L W F).2, true) ∧ Ev (fun k => spec_SourceOf.f k L W F) (F, (lf L W F).1, (lf L W F).2, 0) := by
  obtain ⟨h6, htw⟩ := src_facts hB
  have hm := gd_mem hg
  obtain ⟨r, w1, w2, w3⟩ := way_ev (L := L) (W := W) (F := F) hF hW hm (fun p hp => ⟨by have := hs p hp; unfold maxLen; omega, htw p hp⟩)
  obtain ⟨p, rfl⟩ := w3.1 (fun j v _ hj => by
    obtain ⟨u, e1, e2, e3⟩ := hg j (v : Int) hj
    have : u = v := by omega
    subst this
    exact e3)
  have hI : Ev (fun k => impl_sourceOf.f k L W F) (rI F (some p)) := by
    unfold impl_sourceOf.f slices_Clone_int_int.f
    simp only [Option.bind_some, List.length_nil, Nat.zero_add, List.nil_append]
    simp only [if_pos (show F.length < 17592186044416 by omega), Option.bind_some]
    exact w1
  have h : ∃ p, Ev (fun k => impl_sourceOf.f k L W F) (rI F (some p)) := ⟨p, hI⟩
  have hp : lf L W F = p := by
    unfold lf
    rw [dif_pos h]
    have e := ev_one h.choose_spec hI
    generalize h.choose = q at e
    obtain ⟨a, b⟩ := q
    obtain ⟨a', b'⟩ := p
    unfold rI at e
    simp only [Prod.mk.injEq, true_and, and_true] at e
    rw [e.1, e.2]
  rw [hp]
  obtain ⟨n, c⟩ := p
  refine ⟨hI, ?_⟩
  have s1 := src_spec L W (by unfold maxLen; omega) (by unfold maxLen; omega) (fun p hp => by have := hs p hp; unfold maxLen; omega)
  rw [hB] at s1
  have eS : ∀ k, spec_SourceOf.j0 (k + 1) L W F false = (spec_SourcesOK.f k L W).bind fun t128 => (if t128 = true then (if (F.length : Int) = (W.length : Int) then (spec_SourceOf.l0 k L W F (List.replicate L.length false) 0 0 0) else (some (([] : List Int), 0, 0, 3))) else (some (([] : List Int), 0, 0, 1))) := fun k => by
    simp only [spec_SourceOf.j0, Int.toNat_natCast]
    rw [if_neg (by simp)]
    simp only [if_pos (ige L.length), if_pos (show L.length ≤ 281474976710656 by omega)]
  have hq : F.all (okF L) = true := List.all_eq_true.2 (fun x hx => by
    obtain ⟨v, rfl, hv⟩ := hm x hx
    unfold okF
    rw [w64 (by omega) (by omega)]
    exact decide_eq_true (by omega))
  unfold spec_SourceOf.f
  refine ev_neg (by omega) (ev_neg (by omega) ?_)
  rw [decide_eq_false (show ¬ (F.length : Int) > 4096 by omega)]
  exact Ev.step eS (ev_bind s1 (ev_pos rfl (ev_pos (by omega) (sfrom_ev (by omega) _ (fun _ => w2) (fun h => by rw [hq] at h; cases h)))))
theorem cheap_eq (o o' : List Int) (n c n' c' : Int) : impl_isCheaper.f o n c o' n' c' = some (decide (c < c') || (decide (c = c') && decide (n < n'))) := by
  unfold impl_isCheaper.f
  by_cases h : c < c'
  · rw [if_pos h, decide_eq_true h, Bool.true_or]
  · rw [if_neg h, decide_eq_false h, Bool.false_or]
    by_cases g : c = c'
    · rw [if_pos g, decide_eq_true g, Bool.true_and]
    · rw [if_neg g, decide_eq_false g, Bool.false_and]
abbrev Bs := Bool × List Int × Int × Int
abbrev Bz := List Int × Int × Int × Bool
def toZ (s : Bs) : Bz := (s.2.1, s.2.2.1, s.2.2.2, s.1)
def chp (p : Int × Int) (s : Bs) : Bool := decide (p.2 < s.2.2.2) || (decide (p.2 = s.2.2.2) && decide (p.1 < s.2.2.1))
def upd (o : List Int) (p : Int × Int) (s : Bs) : Bs := if s.1 = true then (if chp p s = true then (true, o, p.1, p.2) else s) else (true, o, p.1, p.2)
theorem upd_1 {o : List Int} {p : Int × Int} {s : Bs} (h1 : s.1 = true) (h2 : chp p s = true) : upd o p s = (true, o, p.1, p.2) := by unfold upd; rw [if_pos h1, if_pos h2]
theorem upd_2 {o : List Int} {p : Int × Int} {s : Bs} (h1 : s.1 = true) (h2 : ¬ chp p s = true) : upd o p s = s := by unfold upd; rw [if_pos h1, if_neg h2]
theorem upd_3 {o : List Int} {p : Int × Int} {s : Bs} (h1 : ¬ s.1 = true) : upd o p s = (true, o, p.1, p.2) := by unfold upd; rw [if_neg h1]
noncomputable def lp (L : List Src) (W : List Stk) (o : List Int) (g : List Int → Bs → Bs) : Nat → Bs → Bs
  | 0, s => s
  | m + 1, s => lp L W o g m (if gv L W o.length (L.length - (m + 1)) = true then g (o ++ [((L.length - (m + 1) : Nat) : Int)]) s else s)
noncomputable def srch (L : List Src) (W : List Stk) : Nat → List Int → Bs → Bs
  | 0, o, s => upd o (lf L W o) s
  | d + 1, o, s => lp L W o (srch L W d) L.length s
theorem clone_eq {o : List Int} (h : o.length ≤ 4096) : slices_Clone_int_int.f o = some o := by
  unfold slices_Clone_int_int.f
  simp only [Option.bind_some, List.length_nil, Nat.zero_add, List.nil_append]
  rw [if_pos (show o.length < 17592186044416 by omega)]
section
variable {L : List Src} {W : List Stk} (hB : srcB L W = true) (hs : ∀ p ∈ L, p.f2.length ≤ 1048576) (hW : W.length ≤ 4096)
include hB hs hW
theorem impl_ev : ∀ (d : Nat) (o : List Int) (s : Bs), o.length + d = W.length → Gd L W o → Ev (fun k => impl_BestSource_1.f k o W L s.1 s.2.1 s.2.2.1 s.2.2.2) (srch L W d o s) := by
  obtain ⟨h6, htw⟩ := src_facts hB
  intro d
  induction d with
  | zero =>
    intro o s hd ho
    have hc := (lf_ev hB hs hW (F := o) (by omega) ho).1
    generalize hq : lf L W o = p at hc
    refine Ev.step (f := fun k => (impl_sourceOf.f k L W o).bind fun bt170 => (if bt170.2.2.2 = true then (if s.1 = true then ((impl_isCheaper.f bt170.1 bt170.2.1 bt170.2.2.1 s.2.1 s.2.2.1 s.2.2.2).bind fun t177 => (if t177 = true then (some (true, bt170.1, bt170.2.1, bt170.2.2.1)) else (some (s.1, s.2.1, s.2.2.1, s.2.2.2)))) else (some (true, bt170.1, bt170.2.1, bt170.2.2.1))) else (some (s.1, s.2.1, s.2.2.1, s.2.2.2)))) (fun k => ?_) (ev_bind hc (ev_pos rfl ?_))
    · simp only [impl_BestSource_1.f]
      rw [if_pos (by omega)]
    · unfold srch
      rw [hq]
      by_cases h1 : s.1 = true
      · refine ev_pos h1 ?_
        simp only [cheap_eq, Option.bind_some]
        by_cases h2 : chp p s = true
        · rw [upd_1 h1 h2]; exact ev_pos h2 (ev_some _)
        · rw [upd_2 h1 h2]; exact ev_neg h2 (ev_some _)
      · rw [upd_3 h1]; exact ev_neg h1 (ev_some _)
  | succ d ihd =>
    intro o s hd ho
    refine Ev.step (f := fun k => impl_BestSource_1.l0 k o (L.length : Int) ((0 : Nat) : Int) W L s.1 s.2.1 s.2.2.1 s.2.2.2) (fun k => ?_) ?_
    · simp only [impl_BestSource_1.f]
      rw [if_neg (by omega)]; rfl
    · unfold srch
      have key := down (n := L.length) (P := fun i => ∀ s : Bs, Ev (fun k => impl_BestSource_1.l0 k o (L.length : Int) (i : Int) W L s.1 s.2.1 s.2.2.1 s.2.2.2) (lp L W o (srch L W d) (L.length - i) s)) ?_ ?_ 0 (Nat.zero_le _) s
      · exact key
      · intro s
        rw [Nat.sub_self]
        refine ev_succ (fun k => ?_)
        simp only [impl_BestSource_1.l0]
        rw [if_neg (by omega)]; rfl
      · intro i hi ih s
        obtain ⟨m, hm⟩ : ∃ m, L.length - i = m + 1 := ⟨L.length - i - 1, by omega⟩
        rw [hm]
        unfold lp
        rw [show L.length - (m + 1) = i by omega]
        rw [show L.length - (i + 1) = m by omega] at ih
        have hw : Aside0 (wrap64 ((i : Int) + 1) = ((i + 1 : Nat) : Int)) := ⟨wrap_succ hi (by unfold maxLen; omega)⟩
        have hr : rd_T58 L (i : Int) = L[i] := getD_some (List.getElem?_eq_getElem hi)
        have hcd : Ev (fun k => impl_Source_gives.f k ((rd_T58 L (i : Int)).f0) ((rd_T58 L (i : Int)).f1) ((rd_T58 L (i : Int)).f2) ((rd_T124 W (o.length : Int)).f0) ((rd_T124 W (o.length : Int)).f1)) (gv L W o.length i) := gives_ev _ _ _ _ _ (by rw [hr]; have := hs L[i] (List.getElem_mem hi); unfold maxLen; omega)
        refine Ev.step (f := fun k => (impl_Source_gives.f k ((rd_T58 L (i : Int)).f0) ((rd_T58 L (i : Int)).f1) ((rd_T58 L (i : Int)).f2) ((rd_T124 W (o.length : Int)).f0) ((rd_T124 W (o.length : Int)).f1)).bind fun t => if t = true then (impl_BestSource_1.f k (o ++ [(i : Int)]) W L s.1 s.2.1 s.2.2.1 s.2.2.2).bind fun bt => impl_BestSource_1.l0 k o (L.length : Int) ((i + 1 : Nat) : Int) W L bt.1 bt.2.1 bt.2.2.1 bt.2.2.2 else impl_BestSource_1.l0 k o (L.length : Int) ((i + 1 : Nat) : Int) W L s.1 s.2.1 s.2.2.1 s.2.2.2) (fun k => ?_) (ev_bind hcd ?_)
        · simp only [impl_BestSource_1.l0, hw.out, clone_eq (show o.length ≤ 4096 by omega), Option.bind_some, List.length_cons, List.length_nil, Nat.zero_add]
          rw [if_pos (ilt hi), if_pos (ige _), if_pos (ilt hi), if_pos (ige _), if_pos (ilt (show o.length < W.length by omega))]
          simp only [if_pos (show o.length + 1 < 17592186044416 by omega)]
        · by_cases h0 : gv L W o.length i = true
          · rw [if_pos h0]
            exact ev_pos h0 (ev_bind (ihd (o ++ [(i : Int)]) s (by rw [List.length_append, List.length_cons, List.length_nil]; omega) (gd_app ho hi h0)) (ih _))
          · rw [if_neg h0]
            exact ev_neg h0 (ih s)
theorem spec_ev : ∀ (d : Nat) (o : List Int) (s : Bs), o.length + d = W.length → Gd L W o → Ev (fun k => spec_l23Search_try.f k L W s.2.1 s.2.2.1 s.2.2.2 s.1 o) (toZ (srch L W d o s)) := by
  obtain ⟨h6, htw⟩ := src_facts hB
  intro d
  induction d with
  | zero =>
    intro o s hd ho
    have hc := (lf_ev hB hs hW (F := o) (by omega) ho).2
    generalize hq : lf L W o = p at hc
    refine Ev.step (f := fun k => (spec_SourceOf.f k L W o).bind fun bt252 => (if s.1 = true then (if bt252.2.2.1 < s.2.2.2 then (some (bt252.1, bt252.2.1, bt252.2.2.1, true)) else (if bt252.2.2.1 = s.2.2.2 then (if bt252.2.1 < s.2.2.1 then (some (bt252.1, bt252.2.1, bt252.2.2.1, true)) else (some (s.2.1, s.2.2.1, s.2.2.2, s.1))) else (some (s.2.1, s.2.2.1, s.2.2.2, s.1)))) else (some (bt252.1, bt252.2.1, bt252.2.2.1, true)))) (fun k => ?_) (ev_bind hc ?_)
    · simp only [spec_l23Search_try.f]
      rw [if_pos (by omega)]
    · unfold srch
      rw [hq]
      by_cases h1 : s.1 = true
      · refine ev_pos h1 ?_
        dsimp only
        by_cases g1 : p.2 < s.2.2.2
        · rw [upd_1 h1 (by unfold chp; rw [decide_eq_true g1, Bool.true_or])]; exact ev_pos g1 (ev_some _)
        · refine ev_neg g1 ?_
          by_cases g2 : p.2 = s.2.2.2
          · refine ev_pos g2 ?_
            by_cases g3 : p.1 < s.2.2.1
            · rw [upd_1 h1 (by unfold chp; rw [decide_eq_true g2, decide_eq_true g3, Bool.true_and, Bool.or_true])]; exact ev_pos g3 (ev_some _)
            · rw [upd_2 h1 (by unfold chp; rw [decide_eq_false g1, decide_eq_false g3, Bool.and_false, Bool.or_false]; simp)]; exact ev_neg g3 (ev_some _)
          · rw [upd_2 h1 (by unfold chp; rw [decide_eq_false g1, decide_eq_false g2, Bool.false_and, Bool.or_false]; simp)]; exact ev_neg g2 (ev_some _)
      · rw [upd_3 h1]; exact ev_neg h1 (ev_some _)
  | succ d ihd =>
    intro o s hd ho
    refine Ev.step (f := fun k => spec_l23Search_try.l0 k o ((0 : Nat) : Int) L W s.2.1 s.2.2.1 s.2.2.2 s.1) (fun k => ?_) ?_
    · simp only [spec_l23Search_try.f]
      rw [if_neg (by omega)]; rfl
    · unfold srch
      have key := down (n := L.length) (P := fun i => ∀ s : Bs, Ev (fun k => spec_l23Search_try.l0 k o (i : Int) L W s.2.1 s.2.2.1 s.2.2.2 s.1) (toZ (lp L W o (srch L W d) (L.length - i) s))) ?_ ?_ 0 (Nat.zero_le _) s
      · exact key
      · intro s
        rw [Nat.sub_self]
        refine ev_succ (fun k => ?_)
        simp only [spec_l23Search_try.l0]
        rw [if_neg (by omega)]; rfl
      · intro i hi ih s
        obtain ⟨m, hm⟩ : ∃ m, L.length - i = m + 1 := ⟨L.length - i - 1, by omega⟩
        rw [hm]
        unfold lp
        rw [show L.length - (m + 1) = i by omega]
        rw [show L.length - (i + 1) = m by omega] at ih
        have hw : Aside0 (wrap64 ((i : Int) + 1) = ((i + 1 : Nat) : Int)) := ⟨wrap_succ hi (by unfold maxLen; omega)⟩
        have hr : rd_T58 L (i : Int) = L[i] := getD_some (List.getElem?_eq_getElem hi)
        have hcd : Ev (fun k => spec_l23Has.f k ((rd_T58 L (i : Int)).f0) ((rd_T58 L (i : Int)).f1) ((rd_T58 L (i : Int)).f2) ((rd_T124 W (o.length : Int)).f0) ((rd_T124 W (o.length : Int)).f1)) (gv L W o.length i) := has_ev _ _ _ _ _ (by rw [hr]; have := hs L[i] (List.getElem_mem hi); unfold maxLen; omega) (by rw [hr]; exact htw L[i] (List.getElem_mem hi))
        refine Ev.step (f := fun k => (spec_l23Has.f k ((rd_T58 L (i : Int)).f0) ((rd_T58 L (i : Int)).f1) ((rd_T58 L (i : Int)).f2) ((rd_T124 W (o.length : Int)).f0) ((rd_T124 W (o.length : Int)).f1)).bind fun t => if t = true then (spec_l23Search_try.f k L W s.2.1 s.2.2.1 s.2.2.2 s.1 (o ++ [(i : Int)])).bind fun bt => spec_l23Search_try.l0 k o ((i + 1 : Nat) : Int) L W bt.1 bt.2.1 bt.2.2.1 bt.2.2.2 else spec_l23Search_try.l0 k o ((i + 1 : Nat) : Int) L W s.2.1 s.2.2.1 s.2.2.2 s.1) (fun k => ?_) (ev_bind hcd ?_)
        · simp only [spec_l23Search_try.l0, hw.out, Option.bind_some, List.length_nil, Nat.zero_add, List.nil_append]
          rw [if_pos (ilt hi), if_pos (ige _), if_pos (ige _), if_pos (ilt (show o.length < W.length by omega))]
          simp only [if_pos (show o.length < 17592186044416 by omega)]
        · by_cases h0 : gv L W o.length i = true
          · rw [if_pos h0]
            exact ev_pos h0 (ev_bind (ihd (o ++ [(i : Int)]) s (by rw [List.length_append, List.length_cons, List.length_nil]; omega) (gd_app ho hi h0)) (ih _))
          · rw [if_neg h0]
            exact ev_neg h0 (ih s)
end
noncomputable def bestB (L : List Src) (W : List Stk) : Res := if L.length ≤ 4096 ∧ W.length ≤ 4096 then (if srcB L W = true then (if (srch L W W.length [] (false, [], 0, 0)).1 = true then ((srch L W W.length [] (false, [], 0, 0)).2.1, (srch L W W.length [] (false, [], 0, 0)).2.2.1, (srch L W W.length [] (false, [], 0, 0)).2.2.2, 0) else ([], 0, 0, 8)) else ([], 0, 0, 1)) else ([], 0, 0, 2)
theorem best_impl (L : List Src) (W : List Stk) (hl : L.length ≤ 1048576) (hw : W.length ≤ 1048576) (hs : ∀ p ∈ L, p.f2.length ≤ 1048576) : Ev (fun k => impl_BestSource.f k L W) (bestB L W) := by
  have bad : Ev (fun k => impl_BestSource.j0 k true L W) (([], 0, 0, 2) : Res) := ev_succ (fun k => by simp only [impl_BestSource.j0]; rw [if_pos trivial])
  unfold impl_BestSource.f impl_Source.f impl_Stocked_79.f bestB
  simp only [Option.bind_some]
  by_cases h1 : L.length ≤ 4096
  · refine ev_pos (decide_eq_true (by omega)) ?_
    by_cases h2 : W.length ≤ 4096
    · rw [if_pos ⟨h1, h2⟩, decide_eq_true (show (W.length : Int) ≤ 4096 by omega)]
      refine Ev.step (f := fun k => (impl_SourcesOK.f k L W).bind fun t201 => (if t201 = true then ((impl_BestSource_1.f k ([] : List Int) W L false ([] : List Int) 0 0).bind fun bt205 => (if bt205.1 = true then (some (bt205.2.1, bt205.2.2.1, bt205.2.2.2, 0)) else (some (([] : List Int), 0, 0, 8)))) else (some (([] : List Int), 0, 0, 1)))) (fun k => by simp only [impl_BestSource.j0]; rw [if_neg (by simp)]) (ev_bind (src_impl L W (by omega) (by omega) (fun p hp => by have := hs p hp; omega)) ?_)
      by_cases h3 : srcB L W = true
      · rw [if_pos h3]
        refine ev_pos h3 (ev_bind (impl_ev h3 hs h2 W.length [] (false, [], 0, 0) (by simp) gd_nil) ?_)
        by_cases g : (srch L W W.length [] (false, [], 0, 0)).1 = true
        · simp only [if_pos g]; exact ev_some _
        · simp only [if_neg g]; exact ev_some _
      · rw [if_neg h3]; exact ev_neg h3 (ev_some _)
    · rw [if_neg (by omega), decide_eq_false (show ¬ (W.length : Int) ≤ 4096 by omega)]
      exact bad
  · rw [if_neg (by omega)]
    refine ev_neg (by rw [decide_eq_true_eq]; omega) bad
theorem best_spec (L : List Src) (W : List Stk) (hl : L.length ≤ 1048576) (hw : W.length ≤ 1048576) (hs : ∀ p ∈ L, p.f2.length ≤ 1048576) : Ev (fun k => spec_BestSource.f k L W) (bestB L W) := by
  have bad : Ev (fun k => spec_BestSource.j0 k L W true) (([], 0, 0, 2) : Res) := ev_succ (fun k => by simp only [spec_BestSource.j0]; rw [if_pos trivial])
  unfold spec_BestSource.f bestB
  by_cases h1 : L.length ≤ 4096
  · refine ev_neg (by omega) ?_
    by_cases h2 : W.length ≤ 4096
    · rw [if_pos ⟨h1, h2⟩, decide_eq_false (show ¬ (W.length : Int) > 4096 by omega)]
      refine Ev.step (f := fun k => (spec_SourcesOK.f k L W).bind fun t278 => (if t278 = true then ((spec_l23Search_try.f k L W ([] : List Int) 0 0 false (([] : List Int))).bind fun bt283 => (if bt283.2.2.2 = true then (some (bt283.1, bt283.2.1, bt283.2.2.1, 0)) else (some (([] : List Int), 0, 0, 8)))) else (some (([] : List Int), 0, 0, 1)))) (fun k => by simp only [spec_BestSource.j0]; rw [if_neg (by simp)]) (ev_bind (src_spec L W (by unfold maxLen; omega) (by unfold maxLen; omega) (fun p hp => by have := hs p hp; unfold maxLen; omega)) ?_)
      by_cases h3 : srcB L W = true
      · rw [if_pos h3]
        refine ev_pos h3 (ev_bind (spec_ev h3 hs h2 W.length [] (false, [], 0, 0) (by simp) gd_nil) ?_)
        by_cases g : (srch L W W.length [] (false, [], 0, 0)).1 = true
        · rw [if_pos g]; exact ev_pos g (ev_some _)
        · rw [if_neg g]; exact ev_neg g (ev_some _)
      · rw [if_neg h3]; exact ev_neg h3 (ev_some _)
    · rw [if_neg (by omega), decide_eq_true (show (W.length : Int) > 4096 by omega)]
      exact bad
  · rw [if_neg (by omega)]
    exact ev_pos (by omega) bad
end Go.Proofs.Ytojncbpeeboooaa.ZBestSoX
