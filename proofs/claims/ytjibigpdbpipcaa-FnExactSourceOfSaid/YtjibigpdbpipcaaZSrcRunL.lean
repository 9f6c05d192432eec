/- SourceOf: the program's and the reference's answers are the same, for all arguments. -/
import Derived.Test.YtjibigpdbpipcaaZSrcOfL
namespace Go.Proofs.Ytjibigpdbpipcaa.ZSrcRunL
open Go.RowKit Go.Proofs.Ytjibigpdbpipcaa.L Go.Proofs.Ytjibigpdbpipcaa.Lib Go.Proofs.Ytjibigpdbpipcaa.ZNameL Go.Proofs.Ytjibigpdbpipcaa.ZSourcesL Go.Proofs.Ytjibigpdbpipcaa.ZSrcOfL Go.Proofs.YtjibigpdbpipcaaW.PrintWords Go.Proofs.YtjibigpdbpipcaaW.PrintLast Go.Proofs.YtjibigpdbpipcaaW.PrintMore
abbrev Res := List Int × Int × Int × Int
def eR (n : Int) : Res := (([] : List Int), 0, 0, n)
theorem from_ev (l : List Int) (lo hi : Int) (hl : l.length ≤ maxLen) : Ev (fun k => impl_areFrom.f k l lo hi) (l.all fun x => decide (lo ≤ x ∧ x ≤ hi)) := by
  unfold impl_areFrom.f
  have hx : Ev (fun k => slices_IndexFunc_at_impl_areFrom_1.f k l lo hi) (fidx (fun x => !decide (lo ≤ x ∧ x ≤ hi)) l 0) := by
    unfold slices_IndexFunc_at_impl_areFrom_1.f
    refine index_ev' l _ (fun k i => slices_IndexFunc_at_impl_areFrom_1.l0 k l (l.length : Int) i lo hi) hl (fun k i x hx => ?_) (fun k => ?_)
    · have := some_lt hx
      have hr : rd l (i : Int) = x := getD_some hx
      simp only [slices_IndexFunc_at_impl_areFrom_1.l0, hr, impl_areFrom_1.f, within_eq, Option.bind_some]
      rw [if_pos (ilt this), if_pos (ige _), if_pos (ilt this)]
    · simp only [slices_IndexFunc_at_impl_areFrom_1.l0]
      rw [if_neg (by omega)]
  have hc : Ev (fun k => slices_ContainsFunc_at_impl_areFrom_1.f k l lo hi) (l.any fun x => !decide (lo ≤ x ∧ x ≤ hi)) := any_of_index hx
  refine ev_bind hc (ev_eq (ev_some _) ?_)
  rw [List.all_eq_not_any_not]
def okF (L : List Src) (p : Int) : Bool := decide (0 ≤ p ∧ p ≤ wrap64 ((L.length : Int) - 1))
section
variable {L : List Src} {W : List Stk} {F : List Int} {r : Res}
theorem sfrom_ev (hF : F.length ≤ 4096) (used : List Bool) (h1 : F.all (okF L) = true → Ev (fun k => spec_SourceOf.l1 k L W F used ((0 : Nat) : Int) [] 0 0) r) (h2 : F.all (okF L) = false → r = eR 3) : Ev (fun k => spec_SourceOf.l0 k L W F used 0 0 0) r := by
  have key := down_list F (P := fun i => ((F.drop i).all (okF L) = true → Ev (fun k => spec_SourceOf.l1 k L W F used ((0 : Nat) : Int) [] 0 0) r) → ((F.drop i).all (okF L) = false → r = eR 3) → Ev (fun k => spec_SourceOf.l0 k L W F used (i : Int) 0 0) r) ?_ ?_
  · exact key h1 h2
  · intro g _
    rw [List.drop_length] at g
    refine Ev.step (fun k => ?_) (g rfl)
    simp only [spec_SourceOf.l0]
    rw [if_neg (by omega)]; rfl
  · intro i p hp hd ih g1 g2
    have hi := some_lt hp
    have hrp : rd F (i : Int) = p := getD_some hp
    rw [hd, List.all_cons] at g1 g2
    by_cases a : 0 ≤ p ∧ p ≤ wrap64 ((L.length : Int) - 1)
    · have ho : okF L p = true := decide_eq_true a
      rw [ho, Bool.true_and] at g1 g2
      refine Ev.step (f := fun k => spec_SourceOf.l0 k L W F used (wrap64 ((i : Int) + 1)) 0 0) (fun k => ?_) ?_
      · simp only [spec_SourceOf.l0, hrp, l01In_eq, Option.bind_some]
        rw [if_pos (ilt hi), if_pos (ige _), if_pos (decide_eq_true a)]
      · rw [wrap_succ hi (by unfold maxLen; omega)]; exact ih g1 g2
    · have ho : okF L p = false := decide_eq_false a
      rw [ho, Bool.false_and] at g2
      rw [g2 rfl]
      refine ev_succ (fun k => ?_)
      simp only [spec_SourceOf.l0, hrp, l01In_eq, Option.bind_some]
      rw [if_pos (ilt hi), if_pos (ige _), if_neg (by simpa using a)]; rfl
theorem impl_long (h : ¬ (L.length ≤ 4096 ∧ W.length ≤ 4096 ∧ F.length ≤ 4096)) : Ev (fun k => impl_SourceOf.f k L W F) (eR 2) := by
  have e : Ev (fun k => impl_SourceOf.j0 k L W F true) (eR 2) := ev_succ (fun k => by simp only [impl_SourceOf.j0]; rw [if_pos trivial]; rfl)
  unfold impl_SourceOf.f impl_Source.f impl_Stocked_42.f impl_isList_int.f
  simp only [Option.bind_some]
  by_cases a : (L.length : Int) ≤ 4096
  · refine ev_pos (decide_eq_true a) ?_
    by_cases b : (W.length : Int) ≤ 4096
    · refine ev_pos (decide_eq_true b) ?_
      rw [decide_eq_false (show ¬ (F.length : Int) ≤ 4096 by omega)]
      exact e
    · exact ev_neg (by simpa using b) e
  · exact ev_neg (by simpa using a) e
theorem impl_short (h : L.length ≤ 4096 ∧ W.length ≤ 4096 ∧ F.length ≤ 4096) (k0 : Ev (fun k => impl_SourceOf.j0 k L W F false) r) : Ev (fun k => impl_SourceOf.f k L W F) r := by
  unfold impl_SourceOf.f impl_Source.f impl_Stocked_42.f impl_isList_int.f
  simp only [Option.bind_some]
  refine ev_pos (decide_eq_true (by omega)) (ev_pos (decide_eq_true (by omega)) ?_)
  rw [decide_eq_true (show (F.length : Int) ≤ 4096 by omega)]
  exact k0
theorem spec_long (h : ¬ (L.length ≤ 4096 ∧ W.length ≤ 4096 ∧ F.length ≤ 4096)) : Ev (fun k => spec_SourceOf.f k L W F) (eR 2) := by
  have e : Ev (fun k => spec_SourceOf.j0 k L W F true) (eR 2) := ev_succ (fun k => by simp only [spec_SourceOf.j0]; rw [if_pos trivial]; rfl)
  unfold spec_SourceOf.f
  by_cases a : (L.length : Int) > 4096
  · exact ev_pos a e
  · refine ev_neg a ?_
    by_cases b : (W.length : Int) > 4096
    · exact ev_pos b e
    · refine ev_neg b ?_
      rw [decide_eq_true (show (F.length : Int) > 4096 by omega)]
      exact e
theorem spec_short (h : L.length ≤ 4096 ∧ W.length ≤ 4096 ∧ F.length ≤ 4096) (k0 : Ev (fun k => spec_SourceOf.j0 k L W F false) r) : Ev (fun k => spec_SourceOf.f k L W F) r := by
  unfold spec_SourceOf.f
  refine ev_neg (by omega) (ev_neg (by omega) ?_)
  rw [decide_eq_false (show ¬ (F.length : Int) > 4096 by omega)]
  exact k0
end
theorem src_facts {L : List Src} {W : List Stk} (h : srcB L W = true) : L.length ≤ 6 ∧ ∀ p ∈ L, twG (fun x y : Stk => eqS x.f0 y.f0) [] p.f2 = false := by
  unfold srcB at h
  rw [Bool.and_eq_true, Bool.and_eq_true, Bool.and_eq_true] at h
  refine ⟨of_decide_eq_true h.1, fun p hp => ?_⟩
  have h2 := List.all_eq_true.1 h.2.2.1 p hp
  unfold okSo stockB at h2
  rw [Bool.and_eq_true, Bool.and_eq_true, Bool.and_eq_true, Bool.and_eq_true] at h2
  simpa using h2.2.2.2.2
theorem src_both (L : List Src) (W : List Stk) (F : List Int) (hs : ∀ p ∈ L, p.f2.length ≤ 1048576) : ∃ r : Res, Ev (fun k => impl_SourceOf.f k L W F) r ∧ Ev (fun k => spec_SourceOf.f k L W F) r ∧ r.1.length ≤ 4096 := by
  by_cases a : L.length ≤ 4096 ∧ W.length ≤ 4096 ∧ F.length ≤ 4096
  · have i1 := src_impl L W (by omega) (by omega) (fun p hp => by have := hs p hp; omega)
    have s1 := src_spec L W (by unfold maxLen; omega) (by unfold maxLen; omega) (fun p hp => by have := hs p hp; unfold maxLen; omega)
    have eI : ∀ k, impl_SourceOf.j0 (k + 1) L W F false = (impl_SourcesOK.f k L W).bind fun t258 => (if t258 = true then (if (F.length : Int) = (W.length : Int) then ((impl_areFrom.f k F 0 (wrap64 ((L.length : Int) - 1))).bind fun t259 => (impl_SourceOf.j1 k L W F (!t259))) else (impl_SourceOf.j1 k L W F true)) else (some (([] : List Int), 0, 0, 1))) := fun k => by simp only [impl_SourceOf.j0]; rw [if_neg (by simp)]
    have eS : ∀ k, spec_SourceOf.j0 (k + 1) L W F false = (spec_SourcesOK.f k L W).bind fun t128 => (if t128 = true then (if (F.length : Int) = (W.length : Int) then (spec_SourceOf.l0 k L W F (List.replicate L.length false) 0 0 0) else (some (([] : List Int), 0, 0, 3))) else (some (([] : List Int), 0, 0, 1))) := fun k => by
      simp only [spec_SourceOf.j0, Int.toNat_natCast]
      rw [if_neg (by simp)]
      simp only [if_pos (ige L.length), if_pos (show L.length ≤ 281474976710656 by omega)]
    have jt : Ev (fun k => impl_SourceOf.j1 k L W F true) (eR 3) := ev_succ (fun k => by simp only [impl_SourceOf.j1]; rw [if_pos trivial]; rfl)
    cases hB : srcB L W with
    | false =>
      rw [hB] at i1 s1
      exact ⟨eR 1, impl_short a (Ev.step eI (ev_bind i1 (ev_neg (by simp) (ev_some _)))), spec_short a (Ev.step eS (ev_bind s1 (ev_neg (by simp) (ev_some _)))), by simp [eR]⟩
    | true =>
      rw [hB] at i1 s1
      obtain ⟨h6, htw⟩ := src_facts hB
      by_cases c : (F.length : Int) = (W.length : Int)
      · have e2 := from_ev F 0 (wrap64 ((L.length : Int) - 1)) (by unfold maxLen; omega)
        have hf : (F.all fun p => decide (0 ≤ p ∧ p ≤ wrap64 ((L.length : Int) - 1))) = F.all (okF L) := rfl
        rw [hf] at e2
        cases hq : F.all (okF L) with
        | false =>
          rw [hq] at e2
          exact ⟨eR 3, impl_short a (Ev.step eI (ev_bind i1 (ev_pos rfl (ev_pos c (ev_bind e2 jt))))), spec_short a (Ev.step eS (ev_bind s1 (ev_pos rfl (ev_pos c (sfrom_ev (by omega) _ (fun h => by rw [hq] at h; cases h) (fun _ => rfl)))))), by simp [eR]⟩
        | true =>
          rw [hq] at e2
          have hpl : ∀ p ∈ F, ∃ v : Nat, p = (v : Int) ∧ v < L.length := by
            intro p hp
            have hh := of_decide_eq_true (List.all_eq_true.1 hq p hp)
            rw [w64 (by omega) (by omega)] at hh
            obtain ⟨v, rfl⟩ := Int.eq_ofNat_of_zero_le hh.1
            exact ⟨v, rfl, by omega⟩
          obtain ⟨r, w1, w2⟩ := way_ev (L := L) (W := W) (F := F) (by omega) (by omega) hpl (fun p hp => ⟨by have := hs p hp; unfold maxLen; omega, htw p hp⟩)
          have hI : Ev (fun k => impl_sourceOf.f k L W F) (rI F r) := by
            unfold impl_sourceOf.f slices_Clone_int_int.f
            simp only [Option.bind_some, List.length_nil, Nat.zero_add, List.nil_append]
            simp only [if_pos (show F.length < 17592186044416 by omega), Option.bind_some]
            exact w1
          have jf : Ev (fun k => impl_SourceOf.j1 k L W F (!true)) (rS F r) := by
            refine Ev.step (f := fun k => (impl_sourceOf.f k L W F).bind fun bt260 => (if bt260.2.2.2 = true then (some (bt260.1, bt260.2.1, bt260.2.2.1, 0)) else (some (([] : List Int), 0, 0, 19)))) (fun k => by simp only [impl_SourceOf.j1]; rw [if_neg (by simp)]) (ev_bind hI ?_)
            cases r with
            | none => exact ev_neg (by simp [rI]) (ev_some _)
            | some q => exact ev_pos rfl (ev_some _)
          refine ⟨rS F r, impl_short a (Ev.step eI (ev_bind i1 (ev_pos rfl (ev_pos c (ev_bind e2 jf))))), spec_short a (Ev.step eS (ev_bind s1 (ev_pos rfl (ev_pos c (sfrom_ev (by omega) _ (fun _ => w2) (fun h => by rw [hq] at h; cases h)))))), ?_⟩
          cases r with
          | none => simp [rS]
          | some q => show F.length ≤ 4096; omega
      · exact ⟨eR 3, impl_short a (Ev.step eI (ev_bind i1 (ev_pos rfl (ev_neg c jt)))), spec_short a (Ev.step eS (ev_bind s1 (ev_pos rfl (ev_neg c (ev_some _))))), by simp [eR]⟩
  · exact ⟨eR 2, impl_long a, spec_long a, by simp [eR]⟩
end Go.Proofs.Ytjibigpdbpipcaa.ZSrcRunL
