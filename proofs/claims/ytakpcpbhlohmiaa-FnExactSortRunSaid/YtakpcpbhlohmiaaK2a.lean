-- made by pp.py (wip/tools) out of the translation; Lean checks it
import Derived.Test.YtakpcpbhlohmiaaK0
import Derived.Test.YtakpcpbhlohmiaaK1
namespace Go.Proofs.Ytakpcpbhlohmiaa.K
open Go.RowKit Go.Proofs.YtakpcpbhlohmiaaW.PrintWords Go.Proofs.YtakpcpbhlohmiaaW.PrintLast Go.Proofs.YtakpcpbhlohmiaaW.PrintMore
attribute [local go_sem] max2_int min2_int max_two min_two max_three min_three max_four min_four   -- for this text's walks alone
set_option linter.unusedVariables false
set_option linter.unusedSimpArgs false

/-! ### impl_SortRun: function 6 -/
mutual
def impl_SortRun.j0 : Nat → List (S32) → List Int → Bool → Option (Int × Int × List Int × List Int × Int)
 | 0, _, _, _ => none
 | k + 1, x0, x1, x15 => if x15 = true then (some (0, 0, ([] : List Int), ([] : List Int), 2)) else (if (x0.length : Int) > 9 then (impl_SortRun.j1 k x0 x1 true) else (impl_SortRun.j1 k x0 x1 (decide ((x1.length : Int) > 100))))
def impl_SortRun.j1 : Nat → List (S32) → List Int → Bool → Option (Int × Int × List Int × List Int × Int)
 | 0, _, _, _ => none
 | k + 1, x0, x1, x25 => if x25 = true then (some (0, 0, ([] : List Int), ([] : List Int), 9)) else ((slices_ContainsFunc_at_impl_SortRun_1.f k x0).bind fun t117 => (if t117 = true then (some (0, 0, ([] : List Int), ([] : List Int), 1)) else ((impl_areFrom.f k x1 0 (wrap64 ((x0.length : Int) - 1))).bind fun t118 => (if t118 = true then ((slices_Repeat_int_int.f (([(-1)] : List Int)) (x1.length : Int)).bind fun t122 => (if 0 ≤ (x0.length : Int) then (if ((x0.length : Int) : Int).toNat ≤ 35184372088832 then (if 0 ≤ (x1.length : Int) then (if ((x1.length : Int) : Int).toNat ≤ 35184372088832 then (impl_SortRun.l0 k x0 x1 (([] : List Int)) (List.replicate ((x0.length : Int) : Int).toNat 0) (List.replicate ((x1.length : Int) : Int).toNat 0) (x1.length : Int) 0 0 0 t122) else (none)) else (none)) else (none)) else (none))) else (some (0, 0, ([] : List Int), ([] : List Int), 5))))))
def impl_SortRun.l0 : Nat → List (S32) → List Int → List Int → List Int → List Int → Int → Int → Int → Int → List Int → Option (Int × Int × List Int × List Int × Int)
 | 0, _, _, _, _, _, _, _, _, _, _ => none
 | k + 1, x0, x1, x7, x8, x9, x60, x61, x126000, x126001, x126002 => if x61 < x60 then (if x7.length < 17592186044416 then (impl_SortRun.l0 k x0 x1 (x7 ++ [x61]) x8 x9 x60 (wrap64 (x61 + 1)) x126000 x126001 x126002) else (none)) else (impl_SortRun.l1 k x0 x1 x7 x8 x9 x126000 x126001 x126002 ([] : List Int))
def impl_SortRun.l1 : Nat → List (S32) → List Int → List Int → List Int → List Int → Int → Int → List Int → List Int → Option (Int × Int × List Int × List Int × Int)
 | 0, _, _, _, _, _, _, _, _, _ => none
 | k + 1, x0, x1, x7, x8, x9, x126000, x126001, x126002, x126003 => if (x7.length : Int) > 0 then (impl_SortRun.l2 k x0 x1 x7 x8 x9 x0 (x0.length : Int) 0 x126000 x126001 x126002 x126003) else (some (x126000, x126001, x126002, x126003, 0))
def impl_SortRun.l2 : Nat → List (S32) → List Int → List Int → List Int → List Int → List (S32) → Int → Int → Int → Int → List Int → List Int → Option (Int × Int × List Int × List Int × Int)
 | 0, _, _, _, _, _, _, _, _, _, _, _, _ => none
 | k + 1, x0, x1, x7, x8, x9, x76, x77, x78, x126000, x126001, x126002, x126003 => if x78 < x77 then (if 0 ≤ x78 then (if x78 < (x76.length : Int) then (if ((rd_T32 x76 x78).f1) = 0 then (none) else (if (Int.tmod x126000 ((rd_T32 x76 x78).f1)) = 0 then (if x78 < (x8.length : Int) then (impl_SortRun.l2 k x0 x1 x7 (x8.set (x78 : Int).toNat 0) x9 x76 x77 (wrap64 (x78 + 1)) x126000 x126001 x126002 x126003) else (none)) else (impl_SortRun.l2 k x0 x1 x7 x8 x9 x76 x77 (wrap64 (x78 + 1)) x126000 x126001 x126002 x126003))) else (none)) else (none)) else (if 0 < (x7.length : Int) then (if 0 ≤ (rd x7 0) then (if (rd x7 0) < (x1.length : Int) then (if 1 ≤ (x7.length : Int) then ((some (x7.drop (1 : Int).toNat : List Int)).bind fun y143 => (if 0 ≤ (rd x1 (rd x7 0)) then (if (rd x1 (rd x7 0)) < (x8.length : Int) then (if (rd x1 (rd x7 0)) < (x0.length : Int) then (if (rd x8 (rd x1 (rd x7 0))) < ((rd_T32 x0 (rd x1 (rd x7 0))).f0) then (if (rd x7 0) < (x126002.length : Int) then (impl_SortRun.l1 k x0 x1 y143 (x8.set ((rd x1 (rd x7 0)) : Int).toNat (wrap64 ((rd x8 (rd x1 (rd x7 0))) + 1))) x9 (wrap64 (x126000 + 1)) x126001 (x126002.set ((rd x7 0) : Int).toNat x126000) x126003) else (none)) else (if (rd x7 0) < (x9.length : Int) then (if (rd x9 (rd x7 0)) = 3 then (if x126003.length < 17592186044416 then (impl_SortRun.l1 k x0 x1 y143 x8 x9 (wrap64 (x126000 + 1)) x126001 x126002 (x126003 ++ [rd x7 0])) else (none)) else (if y143.length < 17592186044416 then (impl_SortRun.l1 k x0 x1 (y143 ++ [rd x7 0]) x8 (x9.set ((rd x7 0) : Int).toNat (wrap64 ((rd x9 (rd x7 0)) + 1))) (wrap64 (x126000 + 1)) (wrap64 (x126001 + 1)) x126002 x126003) else (none))) else (none))) else (none)) else (none)) else (none))) else (none)) else (none)) else (none)) else (none))
end
def impl_SortRun.f (k : Nat) (l0 : List (S32)) (l1 : List Int) : Option (Int × Int × List Int × List Int × Int) := (impl_Lane_21.f l0).bind fun t115 => (if t115 = true then ((impl_isList_int.f l1).bind fun t116 => (impl_SortRun.j0 k l0 l1 (!t116))) else (impl_SortRun.j0 k l0 l1 true))
theorem impl_SortRun.mono_l : ∀ k, (∀ y0 y1 y2, LeO (impl_SortRun.j0 k y0 y1 y2) (impl_SortRun.j0 (k + 1) y0 y1 y2)) ∧ (∀ y0 y1 y2, LeO (impl_SortRun.j1 k y0 y1 y2) (impl_SortRun.j1 (k + 1) y0 y1 y2)) ∧ (∀ y0 y1 y2 y3 y4 y5 y6 y7 y8 y9, LeO (impl_SortRun.l0 k y0 y1 y2 y3 y4 y5 y6 y7 y8 y9) (impl_SortRun.l0 (k + 1) y0 y1 y2 y3 y4 y5 y6 y7 y8 y9)) ∧ (∀ y0 y1 y2 y3 y4 y5 y6 y7 y8, LeO (impl_SortRun.l1 k y0 y1 y2 y3 y4 y5 y6 y7 y8) (impl_SortRun.l1 (k + 1) y0 y1 y2 y3 y4 y5 y6 y7 y8)) ∧ (∀ y0 y1 y2 y3 y4 y5 y6 y7 y8 y9 y10 y11, LeO (impl_SortRun.l2 k y0 y1 y2 y3 y4 y5 y6 y7 y8 y9 y10 y11) (impl_SortRun.l2 (k + 1) y0 y1 y2 y3 y4 y5 y6 y7 y8 y9 y10 y11))
 | 0 => ⟨fun _ _ _ r h => by simp [impl_SortRun.j0] at h, fun _ _ _ r h => by simp [impl_SortRun.j1] at h, fun _ _ _ _ _ _ _ _ _ _ r h => by simp [impl_SortRun.l0] at h, fun _ _ _ _ _ _ _ _ _ r h => by simp [impl_SortRun.l1] at h, fun _ _ _ _ _ _ _ _ _ _ _ _ r h => by simp [impl_SortRun.l2] at h⟩
 | k + 1 => by
  obtain ⟨ih0, ih1, ih2, ih3, ih4⟩ := impl_SortRun.mono_l k
  refine ⟨?_, ?_, ?_, ?_, ?_⟩
  ·intro y0 y1 y2
   unfold impl_SortRun.j0
   repeat' first
   | (with_reducible exact ih0 _ _ _)
   | (with_reducible exact ih1 _ _ _)
   | (with_reducible exact ih2 _ _ _ _ _ _ _ _ _ _)
   | (with_reducible exact ih3 _ _ _ _ _ _ _ _ _)
   | (with_reducible exact ih4 _ _ _ _ _ _ _ _ _ _ _ _)
   | (with_reducible exact impl_areFrom.mono _ _ _ _)
   | (with_reducible exact slices_ContainsFunc_at_impl_SortRun_1.mono _ _)
   | (with_reducible exact LeO.refl _)
   | (with_reducible exact LeO.none _)
   | (with_reducible refine LeO.ite ?_ ?_)
   | (with_reducible refine LeO.bind ?_ (fun _ => ?_))
   | exact ih0 _ _ _
   | exact ih1 _ _ _
   | exact ih2 _ _ _ _ _ _ _ _ _ _
   | exact ih3 _ _ _ _ _ _ _ _ _
   | exact ih4 _ _ _ _ _ _ _ _ _ _ _ _
   | exact impl_areFrom.mono _ _ _ _
   | exact slices_ContainsFunc_at_impl_SortRun_1.mono _ _
   | exact LeO.none _
   | refine LeO.ite ?_ ?_
   | refine LeO.bind ?_ (fun _ => ?_)
  ·intro y0 y1 y2
   unfold impl_SortRun.j1
   repeat' first
   | (with_reducible exact ih0 _ _ _)
   | (with_reducible exact ih1 _ _ _)
   | (with_reducible exact ih2 _ _ _ _ _ _ _ _ _ _)
   | (with_reducible exact ih3 _ _ _ _ _ _ _ _ _)
   | (with_reducible exact ih4 _ _ _ _ _ _ _ _ _ _ _ _)
   | (with_reducible exact impl_areFrom.mono _ _ _ _)
   | (with_reducible exact slices_ContainsFunc_at_impl_SortRun_1.mono _ _)
   | (with_reducible exact LeO.refl _)
   | (with_reducible exact LeO.none _)
   | (with_reducible refine LeO.ite ?_ ?_)
   | (with_reducible refine LeO.bind ?_ (fun _ => ?_))
   | exact ih0 _ _ _
   | exact ih1 _ _ _
   | exact ih2 _ _ _ _ _ _ _ _ _ _
   | exact ih3 _ _ _ _ _ _ _ _ _
   | exact ih4 _ _ _ _ _ _ _ _ _ _ _ _
   | exact impl_areFrom.mono _ _ _ _
   | exact slices_ContainsFunc_at_impl_SortRun_1.mono _ _
   | exact LeO.none _
   | refine LeO.ite ?_ ?_
   | refine LeO.bind ?_ (fun _ => ?_)
  ·intro y0 y1 y2 y3 y4 y5 y6 y7 y8 y9
   unfold impl_SortRun.l0
   repeat' first
   | (with_reducible exact ih0 _ _ _)
   | (with_reducible exact ih1 _ _ _)
   | (with_reducible exact ih2 _ _ _ _ _ _ _ _ _ _)
   | (with_reducible exact ih3 _ _ _ _ _ _ _ _ _)
   | (with_reducible exact ih4 _ _ _ _ _ _ _ _ _ _ _ _)
   | (with_reducible exact impl_areFrom.mono _ _ _ _)
   | (with_reducible exact slices_ContainsFunc_at_impl_SortRun_1.mono _ _)
   | (with_reducible exact LeO.refl _)
   | (with_reducible exact LeO.none _)
   | (with_reducible refine LeO.ite ?_ ?_)
   | (with_reducible refine LeO.bind ?_ (fun _ => ?_))
   | exact ih0 _ _ _
   | exact ih1 _ _ _
   | exact ih2 _ _ _ _ _ _ _ _ _ _
   | exact ih3 _ _ _ _ _ _ _ _ _
   | exact ih4 _ _ _ _ _ _ _ _ _ _ _ _
   | exact impl_areFrom.mono _ _ _ _
   | exact slices_ContainsFunc_at_impl_SortRun_1.mono _ _
   | exact LeO.none _
   | refine LeO.ite ?_ ?_
   | refine LeO.bind ?_ (fun _ => ?_)
  ·intro y0 y1 y2 y3 y4 y5 y6 y7 y8
   unfold impl_SortRun.l1
   repeat' first
   | (with_reducible exact ih0 _ _ _)
   | (with_reducible exact ih1 _ _ _)
   | (with_reducible exact ih2 _ _ _ _ _ _ _ _ _ _)
   | (with_reducible exact ih3 _ _ _ _ _ _ _ _ _)
   | (with_reducible exact ih4 _ _ _ _ _ _ _ _ _ _ _ _)
   | (with_reducible exact impl_areFrom.mono _ _ _ _)
   | (with_reducible exact slices_ContainsFunc_at_impl_SortRun_1.mono _ _)
   | (with_reducible exact LeO.refl _)
   | (with_reducible exact LeO.none _)
   | (with_reducible refine LeO.ite ?_ ?_)
   | (with_reducible refine LeO.bind ?_ (fun _ => ?_))
   | exact ih0 _ _ _
   | exact ih1 _ _ _
   | exact ih2 _ _ _ _ _ _ _ _ _ _
   | exact ih3 _ _ _ _ _ _ _ _ _
   | exact ih4 _ _ _ _ _ _ _ _ _ _ _ _
   | exact impl_areFrom.mono _ _ _ _
   | exact slices_ContainsFunc_at_impl_SortRun_1.mono _ _
   | exact LeO.none _
   | refine LeO.ite ?_ ?_
   | refine LeO.bind ?_ (fun _ => ?_)
  ·intro y0 y1 y2 y3 y4 y5 y6 y7 y8 y9 y10 y11
   unfold impl_SortRun.l2
   repeat' first
   | (with_reducible exact ih0 _ _ _)
   | (with_reducible exact ih1 _ _ _)
   | (with_reducible exact ih2 _ _ _ _ _ _ _ _ _ _)
   | (with_reducible exact ih3 _ _ _ _ _ _ _ _ _)
   | (with_reducible exact ih4 _ _ _ _ _ _ _ _ _ _ _ _)
   | (with_reducible exact impl_areFrom.mono _ _ _ _)
   | (with_reducible exact slices_ContainsFunc_at_impl_SortRun_1.mono _ _)
   | (with_reducible exact LeO.refl _)
   | (with_reducible exact LeO.none _)
   | (with_reducible refine LeO.ite ?_ ?_)
   | (with_reducible refine LeO.bind ?_ (fun _ => ?_))
   | exact ih0 _ _ _
   | exact ih1 _ _ _
   | exact ih2 _ _ _ _ _ _ _ _ _ _
   | exact ih3 _ _ _ _ _ _ _ _ _
   | exact ih4 _ _ _ _ _ _ _ _ _ _ _ _
   | exact impl_areFrom.mono _ _ _ _
   | exact slices_ContainsFunc_at_impl_SortRun_1.mono _ _
   | exact LeO.none _
   | refine LeO.ite ?_ ?_
   | refine LeO.bind ?_ (fun _ => ?_)
theorem impl_SortRun.mono : ∀ a0 a1 k, LeO (impl_SortRun.f k a0 a1) (impl_SortRun.f (k + 1) a0 a1) := by
 intro a0 a1 k
 obtain ⟨ih0, ih1, ih2, ih3, ih4⟩ := impl_SortRun.mono_l k
 unfold impl_SortRun.f
 repeat' first
   | (with_reducible exact ih0 _ _ _)
   | (with_reducible exact ih1 _ _ _)
   | (with_reducible exact ih2 _ _ _ _ _ _ _ _ _ _)
   | (with_reducible exact ih3 _ _ _ _ _ _ _ _ _)
   | (with_reducible exact ih4 _ _ _ _ _ _ _ _ _ _ _ _)
   | (with_reducible exact impl_areFrom.mono _ _ _ _)
   | (with_reducible exact slices_ContainsFunc_at_impl_SortRun_1.mono _ _)
   | (with_reducible exact LeO.refl _)
   | (with_reducible exact LeO.none _)
   | (with_reducible refine LeO.ite ?_ ?_)
   | (with_reducible refine LeO.bind ?_ (fun _ => ?_))
   | exact ih0 _ _ _
   | exact ih1 _ _ _
   | exact ih2 _ _ _ _ _ _ _ _ _ _
   | exact ih3 _ _ _ _ _ _ _ _ _
   | exact ih4 _ _ _ _ _ _ _ _ _ _ _ _
   | exact impl_areFrom.mono _ _ _ _
   | exact slices_ContainsFunc_at_impl_SortRun_1.mono _ _
   | exact LeO.none _
   | refine LeO.ite ?_ ?_
   | refine LeO.bind ?_ (fun _ => ?_)
def impl_SortRun.T10 : Bool × List (List Nat × List Nat) := (true, [([], []), ([], []), ([1], [1]), ([2, 2], [2]), ([], []), ([4], [4]), ([5, 5], [5]), ([0, 0], [0]), ([3, 7, 0, 1, 2, 3, 7], [3]), ([6, 8, 0, 1, 2, 3, 4, 5, 6, 7, 8], [6])])
def impl_SortRun.B10 : List Nat := [0, 0, 2, 6, 0, 16, 48, 1, 143, 511]
theorem impl_SortRun.tab10 : rtab .any (opsOf Try.f6 10) = impl_SortRun.T10 := by kernel_rfl
theorem impl_SortRun.bits10 : waitsOk impl_SortRun.T10.2 impl_SortRun.B10 = true := by kernel_rfl
def impl_SortRun.T30 : Bool × List (List Nat × List Nat) := (true, [([], []), ([], []), ([0, 1], [0, 1]), ([2], [2]), ([], []), ([], []), ([4, 5], [4, 5]), ([6], [6]), ([7], [7]), ([3, 8], [3, 8]), ([9], [9])])
def impl_SortRun.B30 : List Nat := [0, 0, 3, 7, 0, 0, 48, 112, 240, 511, 1023]
theorem impl_SortRun.tab30 : rtab .any (opsOf Try.f6 30) = impl_SortRun.T30 := by kernel_rfl
theorem impl_SortRun.bits30 : waitsOk impl_SortRun.T30.2 impl_SortRun.B30 = true := by kernel_rfl

end Go.Proofs.Ytakpcpbhlohmiaa.K
