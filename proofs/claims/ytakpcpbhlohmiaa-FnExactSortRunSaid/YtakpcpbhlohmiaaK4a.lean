-- made by pp.py (wip/tools) out of the translation; Lean checks it
import Derived.Test.YtakpcpbhlohmiaaK0
import Derived.Test.YtakpcpbhlohmiaaK3
namespace Go.Proofs.Ytakpcpbhlohmiaa.K
open Go.RowKit Go.Proofs.YtakpcpbhlohmiaaW.PrintWords Go.Proofs.YtakpcpbhlohmiaaW.PrintLast Go.Proofs.YtakpcpbhlohmiaaW.PrintMore
attribute [local go_sem] max2_int min2_int max_two min_two max_three min_three max_four min_four   -- for this text's walks alone
set_option linter.unusedVariables false
set_option linter.unusedSimpArgs false

/-! ### spec_SortRun: function 8 -/
mutual
def spec_SortRun.j0 : Nat → List (S32) → List Int → Bool → Option (Int × Int × List Int × List Int × Int)
 | 0, _, _, _ => none
 | k + 1, x0, x1, x21 => if x21 = true then (some (0, 0, ([] : List Int), ([] : List Int), 2)) else (if (x0.length : Int) > 9 then (spec_SortRun.j1 k x0 x1 true) else (spec_SortRun.j1 k x0 x1 (decide ((x1.length : Int) > 100))))
def spec_SortRun.j1 : Nat → List (S32) → List Int → Bool → Option (Int × Int × List Int × List Int × Int)
 | 0, _, _, _ => none
 | k + 1, x0, x1, x30 => if x30 = true then (some (0, 0, ([] : List Int), ([] : List Int), 9)) else (spec_SortRun.l0 k x0 x1 (([] : List (S57))) 0)
def spec_SortRun.l0 : Nat → List (S32) → List Int → List (S57) → Int → Option (Int × Int × List Int × List Int × Int)
 | 0, _, _, _, _ => none
 | k + 1, x0, x1, x6, x7 => if x7 < (x0.length : Int) then (if 0 ≤ x7 then ((spec_l01In.f ((rd_T32 x0 x7).f0) 1 100).bind fun t165 => (if t165 = true then ((spec_l01In.f ((rd_T32 x0 x7).f1) 1 100).bind fun t167 => (if t167 = true then (spec_SortRun.l0 k x0 x1 x6 (wrap64 (x7 + 1))) else (some (0, 0, ([] : List Int), ([] : List Int), 1)))) else (some (0, 0, ([] : List Int), ([] : List Int), 1)))) else (none)) else (spec_SortRun.l1 k x0 x1 x6 0 0 0 ([] : List Int))
def spec_SortRun.l1 : Nat → List (S32) → List Int → List (S57) → Int → Int → Int → List Int → Option (Int × Int × List Int × List Int × Int)
 | 0, _, _, _, _, _, _, _ => none
 | k + 1, x0, x1, x6, x9, x169000, x169001, x169002 => if x9 < (x1.length : Int) then (if 0 ≤ x9 then ((spec_l01In.f (rd x1 x9) 0 (wrap64 ((x0.length : Int) - 1))).bind fun t170 => (if t170 = true then (if x6.length < 8796093022208 then (if x169002.length < 17592186044416 then (spec_SortRun.l1 k x0 x1 (x6 ++ [(⟨x9, 0⟩ : S57)]) (wrap64 (x9 + 1)) x169000 x169001 (x169002 ++ [(-1)])) else (none)) else (none)) else (some (0, 0, ([] : List Int), ([] : List Int), 5)))) else (none)) else (if 0 ≤ (x0.length : Int) then (if ((x0.length : Int) : Int).toNat ≤ 35184372088832 then (spec_SortRun.l2 k x0 x1 x6 (List.replicate ((x0.length : Int) : Int).toNat 0) x169000 x169001 x169002 ([] : List Int)) else (none)) else (none))
def spec_SortRun.l2 : Nat → List (S32) → List Int → List (S57) → List Int → Int → Int → List Int → List Int → Option (Int × Int × List Int × List Int × Int)
 | 0, _, _, _, _, _, _, _, _ => none
 | k + 1, x0, x1, x6, x10, x169000, x169001, x169002, x169003 => if (x6.length : Int) > 0 then (spec_SortRun.l3 k x0 x1 x6 x10 0 x169000 x169001 x169002 x169003) else (some (x169000, x169001, x169002, x169003, 0))
def spec_SortRun.l3 : Nat → List (S32) → List Int → List (S57) → List Int → Int → Int → Int → List Int → List Int → Option (Int × Int × List Int × List Int × Int)
 | 0, _, _, _, _, _, _, _, _, _ => none
 | k + 1, x0, x1, x6, x10, x11, x169000, x169001, x169002, x169003 => if x11 < (x0.length : Int) then (if 0 ≤ x11 then (if ((rd_T32 x0 x11).f1) = 0 then (none) else (if (Int.tmod x169000 ((rd_T32 x0 x11).f1)) = 0 then (if x11 < (x10.length : Int) then (spec_SortRun.l3 k x0 x1 x6 (x10.set (x11 : Int).toNat 0) (wrap64 (x11 + 1)) x169000 x169001 x169002 x169003) else (none)) else (spec_SortRun.l3 k x0 x1 x6 x10 (wrap64 (x11 + 1)) x169000 x169001 x169002 x169003))) else (none)) else (if 0 < (x6.length : Int) then ((some (([] : List (S57)) : List (S57))).bind fun y184 => (if 1 ≤ (x6.length : Int) then ((some (x6.drop 1 : List (S57))).bind fun y187 => (if y184.length + y187.length < 8796093022208 then ((some (y184 ++ y187 : List (S57))).bind fun y191 => (if 0 ≤ ((rd_T57 x6 0).f0) then (if ((rd_T57 x6 0).f0) < (x1.length : Int) then (if 0 ≤ (rd x1 ((rd_T57 x6 0).f0)) then (if (rd x1 ((rd_T57 x6 0).f0)) < (x10.length : Int) then (if (rd x1 ((rd_T57 x6 0).f0)) < (x0.length : Int) then (if (rd x10 (rd x1 ((rd_T57 x6 0).f0))) < ((rd_T32 x0 (rd x1 ((rd_T57 x6 0).f0))).f0) then (if ((rd_T57 x6 0).f0) < (x169002.length : Int) then (spec_SortRun.l2 k x0 x1 y191 (x10.set ((rd x1 ((rd_T57 x6 0).f0)) : Int).toNat (wrap64 ((rd x10 (rd x1 ((rd_T57 x6 0).f0))) + 1))) (wrap64 (x169000 + 1)) x169001 (x169002.set (((rd_T57 x6 0).f0) : Int).toNat x169000) x169003) else (none)) else (if ((rd_T57 x6 0).f1) = 3 then (if x169003.length < 17592186044416 then (spec_SortRun.l2 k x0 x1 y191 x10 (wrap64 (x169000 + 1)) x169001 x169002 (x169003 ++ [(rd_T57 x6 0).f0])) else (none)) else (if y191.length < 8796093022208 then (spec_SortRun.l2 k x0 x1 (y191 ++ [(⟨(rd_T57 x6 0).f0, wrap64 (((rd_T57 x6 0).f1) + 1)⟩ : S57)]) x10 (wrap64 (x169000 + 1)) (wrap64 (x169001 + 1)) x169002 x169003) else (none)))) else (none)) else (none)) else (none)) else (none)) else (none))) else (none))) else (none))) else (none))
end
def spec_SortRun.f (k : Nat) (l0 : List (S32)) (l1 : List Int) : Option (Int × Int × List Int × List Int × Int) := if (l0.length : Int) > 4096 then (spec_SortRun.j0 k l0 l1 true) else (spec_SortRun.j0 k l0 l1 (decide ((l1.length : Int) > 4096)))
theorem spec_SortRun.mono_l : ∀ k, (∀ y0 y1 y2, LeO (spec_SortRun.j0 k y0 y1 y2) (spec_SortRun.j0 (k + 1) y0 y1 y2)) ∧ (∀ y0 y1 y2, LeO (spec_SortRun.j1 k y0 y1 y2) (spec_SortRun.j1 (k + 1) y0 y1 y2)) ∧ (∀ y0 y1 y2 y3, LeO (spec_SortRun.l0 k y0 y1 y2 y3) (spec_SortRun.l0 (k + 1) y0 y1 y2 y3)) ∧ (∀ y0 y1 y2 y3 y4 y5 y6, LeO (spec_SortRun.l1 k y0 y1 y2 y3 y4 y5 y6) (spec_SortRun.l1 (k + 1) y0 y1 y2 y3 y4 y5 y6)) ∧ (∀ y0 y1 y2 y3 y4 y5 y6 y7, LeO (spec_SortRun.l2 k y0 y1 y2 y3 y4 y5 y6 y7) (spec_SortRun.l2 (k + 1) y0 y1 y2 y3 y4 y5 y6 y7)) ∧ (∀ y0 y1 y2 y3 y4 y5 y6 y7 y8, LeO (spec_SortRun.l3 k y0 y1 y2 y3 y4 y5 y6 y7 y8) (spec_SortRun.l3 (k + 1) y0 y1 y2 y3 y4 y5 y6 y7 y8))
 | 0 => ⟨fun _ _ _ r h => by simp [spec_SortRun.j0] at h, fun _ _ _ r h => by simp [spec_SortRun.j1] at h, fun _ _ _ _ r h => by simp [spec_SortRun.l0] at h, fun _ _ _ _ _ _ _ r h => by simp [spec_SortRun.l1] at h, fun _ _ _ _ _ _ _ _ r h => by simp [spec_SortRun.l2] at h, fun _ _ _ _ _ _ _ _ _ r h => by simp [spec_SortRun.l3] at h⟩
 | k + 1 => by
  obtain ⟨ih0, ih1, ih2, ih3, ih4, ih5⟩ := spec_SortRun.mono_l k
  refine ⟨?_, ?_, ?_, ?_, ?_, ?_⟩
  ·intro y0 y1 y2
   unfold spec_SortRun.j0
   repeat' first
   | (with_reducible exact ih0 _ _ _)
   | (with_reducible exact ih1 _ _ _)
   | (with_reducible exact ih2 _ _ _ _)
   | (with_reducible exact ih3 _ _ _ _ _ _ _)
   | (with_reducible exact ih4 _ _ _ _ _ _ _ _)
   | (with_reducible exact ih5 _ _ _ _ _ _ _ _ _)
   | (with_reducible exact LeO.refl _)
   | (with_reducible exact LeO.none _)
   | (with_reducible refine LeO.ite ?_ ?_)
   | (with_reducible refine LeO.bind ?_ (fun _ => ?_))
   | exact ih0 _ _ _
   | exact ih1 _ _ _
   | exact ih2 _ _ _ _
   | exact ih3 _ _ _ _ _ _ _
   | exact ih4 _ _ _ _ _ _ _ _
   | exact ih5 _ _ _ _ _ _ _ _ _
   | exact LeO.none _
   | refine LeO.ite ?_ ?_
   | refine LeO.bind ?_ (fun _ => ?_)
  ·intro y0 y1 y2
   unfold spec_SortRun.j1
   repeat' first
   | (with_reducible exact ih0 _ _ _)
   | (with_reducible exact ih1 _ _ _)
   | (with_reducible exact ih2 _ _ _ _)
   | (with_reducible exact ih3 _ _ _ _ _ _ _)
   | (with_reducible exact ih4 _ _ _ _ _ _ _ _)
   | (with_reducible exact ih5 _ _ _ _ _ _ _ _ _)
   | (with_reducible exact LeO.refl _)
   | (with_reducible exact LeO.none _)
   | (with_reducible refine LeO.ite ?_ ?_)
   | (with_reducible refine LeO.bind ?_ (fun _ => ?_))
   | exact ih0 _ _ _
   | exact ih1 _ _ _
   | exact ih2 _ _ _ _
   | exact ih3 _ _ _ _ _ _ _
   | exact ih4 _ _ _ _ _ _ _ _
   | exact ih5 _ _ _ _ _ _ _ _ _
   | exact LeO.none _
   | refine LeO.ite ?_ ?_
   | refine LeO.bind ?_ (fun _ => ?_)
  ·intro y0 y1 y2 y3
   unfold spec_SortRun.l0
   repeat' first
   | (with_reducible exact ih0 _ _ _)
   | (with_reducible exact ih1 _ _ _)
   | (with_reducible exact ih2 _ _ _ _)
   | (with_reducible exact ih3 _ _ _ _ _ _ _)
   | (with_reducible exact ih4 _ _ _ _ _ _ _ _)
   | (with_reducible exact ih5 _ _ _ _ _ _ _ _ _)
   | (with_reducible exact LeO.refl _)
   | (with_reducible exact LeO.none _)
   | (with_reducible refine LeO.ite ?_ ?_)
   | (with_reducible refine LeO.bind ?_ (fun _ => ?_))
   | exact ih0 _ _ _
   | exact ih1 _ _ _
   | exact ih2 _ _ _ _
   | exact ih3 _ _ _ _ _ _ _
   | exact ih4 _ _ _ _ _ _ _ _
   | exact ih5 _ _ _ _ _ _ _ _ _
   | exact LeO.none _
   | refine LeO.ite ?_ ?_
   | refine LeO.bind ?_ (fun _ => ?_)
  ·intro y0 y1 y2 y3 y4 y5 y6
   unfold spec_SortRun.l1
   repeat' first
   | (with_reducible exact ih0 _ _ _)
   | (with_reducible exact ih1 _ _ _)
   | (with_reducible exact ih2 _ _ _ _)
   | (with_reducible exact ih3 _ _ _ _ _ _ _)
   | (with_reducible exact ih4 _ _ _ _ _ _ _ _)
   | (with_reducible exact ih5 _ _ _ _ _ _ _ _ _)
   | (with_reducible exact LeO.refl _)
   | (with_reducible exact LeO.none _)
   | (with_reducible refine LeO.ite ?_ ?_)
   | (with_reducible refine LeO.bind ?_ (fun _ => ?_))
   | exact ih0 _ _ _
   | exact ih1 _ _ _
   | exact ih2 _ _ _ _
   | exact ih3 _ _ _ _ _ _ _
   | exact ih4 _ _ _ _ _ _ _ _
   | exact ih5 _ _ _ _ _ _ _ _ _
   | exact LeO.none _
   | refine LeO.ite ?_ ?_
   | refine LeO.bind ?_ (fun _ => ?_)
  ·intro y0 y1 y2 y3 y4 y5 y6 y7
   unfold spec_SortRun.l2
   repeat' first
   | (with_reducible exact ih0 _ _ _)
   | (with_reducible exact ih1 _ _ _)
   | (with_reducible exact ih2 _ _ _ _)
   | (with_reducible exact ih3 _ _ _ _ _ _ _)
   | (with_reducible exact ih4 _ _ _ _ _ _ _ _)
   | (with_reducible exact ih5 _ _ _ _ _ _ _ _ _)
   | (with_reducible exact LeO.refl _)
   | (with_reducible exact LeO.none _)
   | (with_reducible refine LeO.ite ?_ ?_)
   | (with_reducible refine LeO.bind ?_ (fun _ => ?_))
   | exact ih0 _ _ _
   | exact ih1 _ _ _
   | exact ih2 _ _ _ _
   | exact ih3 _ _ _ _ _ _ _
   | exact ih4 _ _ _ _ _ _ _ _
   | exact ih5 _ _ _ _ _ _ _ _ _
   | exact LeO.none _
   | refine LeO.ite ?_ ?_
   | refine LeO.bind ?_ (fun _ => ?_)
  ·intro y0 y1 y2 y3 y4 y5 y6 y7 y8
   unfold spec_SortRun.l3
   repeat' first
   | (with_reducible exact ih0 _ _ _)
   | (with_reducible exact ih1 _ _ _)
   | (with_reducible exact ih2 _ _ _ _)
   | (with_reducible exact ih3 _ _ _ _ _ _ _)
   | (with_reducible exact ih4 _ _ _ _ _ _ _ _)
   | (with_reducible exact ih5 _ _ _ _ _ _ _ _ _)
   | (with_reducible exact LeO.refl _)
   | (with_reducible exact LeO.none _)
   | (with_reducible refine LeO.ite ?_ ?_)
   | (with_reducible refine LeO.bind ?_ (fun _ => ?_))
   | exact ih0 _ _ _
   | exact ih1 _ _ _
   | exact ih2 _ _ _ _
   | exact ih3 _ _ _ _ _ _ _
   | exact ih4 _ _ _ _ _ _ _ _
   | exact ih5 _ _ _ _ _ _ _ _ _
   | exact LeO.none _
   | refine LeO.ite ?_ ?_
   | refine LeO.bind ?_ (fun _ => ?_)
theorem spec_SortRun.mono : ∀ a0 a1 k, LeO (spec_SortRun.f k a0 a1) (spec_SortRun.f (k + 1) a0 a1) := by
 intro a0 a1 k
 obtain ⟨ih0, ih1, ih2, ih3, ih4, ih5⟩ := spec_SortRun.mono_l k
 unfold spec_SortRun.f
 repeat' first
   | (with_reducible exact ih0 _ _ _)
   | (with_reducible exact ih1 _ _ _)
   | (with_reducible exact ih2 _ _ _ _)
   | (with_reducible exact ih3 _ _ _ _ _ _ _)
   | (with_reducible exact ih4 _ _ _ _ _ _ _ _)
   | (with_reducible exact ih5 _ _ _ _ _ _ _ _ _)
   | (with_reducible exact LeO.refl _)
   | (with_reducible exact LeO.none _)
   | (with_reducible refine LeO.ite ?_ ?_)
   | (with_reducible refine LeO.bind ?_ (fun _ => ?_))
   | exact ih0 _ _ _
   | exact ih1 _ _ _
   | exact ih2 _ _ _ _
   | exact ih3 _ _ _ _ _ _ _
   | exact ih4 _ _ _ _ _ _ _ _
   | exact ih5 _ _ _ _ _ _ _ _ _
   | exact LeO.none _
   | refine LeO.ite ?_ ?_
   | refine LeO.bind ?_ (fun _ => ?_)

end Go.Proofs.Ytakpcpbhlohmiaa.K
