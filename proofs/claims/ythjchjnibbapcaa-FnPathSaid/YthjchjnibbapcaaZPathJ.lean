/- The shortest way: the program's and the reference's answers, as one function. -/
import Derived.Test.YthjchjnibbapcaaZHalJ
namespace Go.Proofs.Ythjchjnibbapcaa.ZPathJ
open Go.RowKit Go.Proofs.Ythjchjnibbapcaa.J Go.Proofs.Ythjchjnibbapcaa.Lib Go.Proofs.Ythjchjnibbapcaa.ZHalJ Go.Proofs.YthjchjnibbapcaaW.PrintWords Go.Proofs.YthjchjnibbapcaaW.PrintLast Go.Proofs.YthjchjnibbapcaaW.PrintMore
section
variable {D D' : S45 → S45 → Int} {l : List S45} {ok : S45 → Prop}
theorem rd_ok (h0 : ok ⟨0, 0⟩) (hl : ∀ p ∈ l, ok p) (i : Nat) : ok (rd_T45 l (i : Int)) := by
  unfold rd_T45
  rw [Int.toNat_natCast, List.getD_eq_getElem?_getD]
  by_cases h : i < l.length
  · rw [List.getElem?_eq_getElem h]; exact hl _ (List.getElem_mem h)
  · rw [List.getElem?_eq_none (by omega)]; exact h0
theorem shF_congr (h0 : ok ⟨0, 0⟩) (hl : ∀ p ∈ l, ok p) (hD : ∀ a b, ok a → ok b → D a b = D' a b) : ∀ k m s, ok s → shF D l k m s = shF D' l k m s := by
  intro k
  induction k with
  | zero => intro m s hs; exact hD _ _ hs h0
  | succ k ih =>
    intro m s hs
    unfold shF
    split
    · exact hD _ _ hs h0
    · apply bestI_congr
      intro i hi _
      rw [hD _ _ hs (rd_ok h0 hl i), ih _ _ (rd_ok h0 hl i)]
theorem sh_congr (h0 : ok ⟨0, 0⟩) (hl : ∀ p ∈ l, ok p) (hD : ∀ a b, ok a → ok b → D a b = D' a b) (m : Nat) (s : S45) (hs : ok s) : sh D l m s = sh D' l m s := shF_congr h0 hl hD _ m s hs
theorem hit_congr (h0 : ok ⟨0, 0⟩) (hl : ∀ p ∈ l, ok p) (hD : ∀ a b, ok a → ok b → D a b = D' a b) (m : Nat) (s : S45) (hs : ok s) (i : Nat) : hitB D l m s i = hitB D' l m s i := by
  unfold hitB GG
  rw [hD _ _ hs (rd_ok h0 hl i), sh_congr h0 hl hD _ _ (rd_ok h0 hl i), sh_congr h0 hl hD m s hs]
theorem ordF_congr (h0 : ok ⟨0, 0⟩) (hl : ∀ p ∈ l, ok p) (hD : ∀ a b, ok a → ok b → D a b = D' a b) : ∀ k m s, ok s → ordF D l k m s = ordF D' l k m s := by
  intro k
  induction k with
  | zero => intro m s _; rfl
  | succ k ih =>
    intro m s hs
    unfold ordF
    rw [show hitB D l m s = hitB D' l m s from funext (fun i => hit_congr h0 hl hD m s hs i)]
    split
    · rfl
    · rw [ih _ _ (rd_ok h0 hl _)]
end
def bestB (a b c : Int) (l : List S45) : List Int × Int × Int := if picksB a b c l = 0 then (ordF (way a b c) l l.length (2 ^ l.length - 1) ⟨0, 0⟩, sh (way a b c) l (2 ^ l.length - 1) ⟨0, 0⟩, 0) else ([], 0, picksB a b c l)
theorem best_spec (a b c : Int) (l : List S45) (hl : l.length ≤ maxLen) : Ev (fun k => spec_BestPath.f k a b c l) (bestB a b c l) := by
  unfold spec_BestPath.f bestB
  refine ev_bind (picks_spec a b c l hl) ?_
  by_cases h : picksB a b c l = 0
  · simp only [if_pos h]; exact ev_some _
  · simp only [if_neg h]; exact ev_some _
theorem bt_way {a b c : Int} {p q : S45} (h : Hl a b c) (hp : Sp a b p) (hq : Sp a b q) : bt a b c p q = way a b c p q := by
  have e1 := bt_eq a b c p.f0 p.f1 q.f0 q.f1
  rw [between_way h hp hq] at e1
  injection e1 with e1
  exact e1.symm
theorem best_impl (a b c : Int) (l : List S45) (hl : l.length ≤ maxLen) : Ev (fun k => impl_BestPath.f k a b c l) (bestB a b c l) := by
  unfold impl_BestPath.f bestB
  refine ev_bind (picks_impl a b c l hl) ?_
  by_cases h : picksB a b c l = 0
  · obtain ⟨hh, hs, h9⟩ := picks_zero h
    simp only [if_pos h]
    have hD : ∀ p q, Sp a b p → Sp a b q → bt a b c p q = way a b c p q := fun p q hp hq => bt_way hh hp hq
    rw [ordF_congr (sp_zero hh) hs hD _ _ _ (sp_zero hh), sh_congr (sp_zero hh) hs hD _ _ (sp_zero hh)]
    exact ev_some _
  · simp only [if_neg h]; exact ev_some _
end Go.Proofs.Ythjchjnibbapcaa.ZPathJ
