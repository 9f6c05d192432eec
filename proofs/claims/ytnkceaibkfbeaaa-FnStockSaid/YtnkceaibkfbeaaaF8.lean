-- squeezed
-- made by pp.py (wip/tools) out of the translation; Lean checks it
import Derived.Test.YtnkceaibkfbeaaaF0
import Derived.Test.YtnkceaibkfbeaaaF3
import Derived.Test.YtnkceaibkfbeaaaF7
namespace Go.Proofs.Ytnkceaibkfbeaaa.F
open Go.RowKit Go.Proofs.YtnkceaibkfbeaaaW.PrintWords Go.Proofs.YtnkceaibkfbeaaaW.PrintLast Go.Proofs.YtnkceaibkfbeaaaW.PrintMore
attribute [local go_sem] max2_int min2_int max_two min_two max_three min_three max_four min_four   -- for this text's walks alone
set_option linter.unusedVariables false
set_option linter.unusedSimpArgs false

abbrev q8a := @blk_cell
/-! ### laws_FnStock: function 3 -/
mutual
def laws_FnStock.j0 : Nat → List Int → List Int → Bool → Option (Bool)
 | 0, _, _, _ => none
 | k + 1, x0, x1, x27 => if x27 = true then (some true) else ((spec_StockOf.f k x0).bind fun t277 => ((laws_at.f x1 0 (wrap64 ((t277.length : Int) + 1))).bind fun t280 => (if 0 ≤ t280 then (if t280 ≤ (t277.length : Int) then ((impl_StockRun.f k (t277.take (t280 : Int).toNat)).bind fun bt285 => (if bt285.2.2.2.2.2.2.2 = 0 then ((laws_balanced.f k bt285.2.1 bt285.2.2.1 bt285.2.2.2.1 bt285.2.2.2.2.1 bt285.2.2.2.2.2.1 bt285.2.2.2.2.2.2.1).bind fun t298 => (laws_FnStock.j1 k t277 t280 (!t298) bt285.2.1 bt285.2.2.1 bt285.2.2.2.1 bt285.2.2.2.2.1 bt285.2.2.2.2.2.1 bt285.2.2.2.2.2.2.1)) else (laws_FnStock.j1 k t277 t280 true bt285.2.1 bt285.2.2.1 bt285.2.2.2.1 bt285.2.2.2.2.1 bt285.2.2.2.2.2.1 bt285.2.2.2.2.2.2.1))) else (none)) else (none))))
def laws_FnStock.j1 : Nat → List (S34) → Int → Bool → Int → Int → Int → Int → Int → List (S38) → Option (Bool)
 | 0, _, _, _, _, _, _, _, _, _ => none
 | k + 1, x5, x6, x49, x298000, x298001, x298002, x298003, x298004, x298005 => if x49 = true then (some false) else (if x6 = (x5.length : Int) then (some true) else (if 0 ≤ (wrap64 (x6 + 1)) then (if (wrap64 (x6 + 1)) ≤ (x5.length : Int) then ((impl_StockRun.f k (x5.take ((wrap64 (x6 + 1)) : Int).toNat)).bind fun bt303 => (if bt303.2.2.2.2.2.2.2 = 0 then ((laws_balanced.f k bt303.2.1 bt303.2.2.1 bt303.2.2.2.1 bt303.2.2.2.2.1 bt303.2.2.2.2.2.1 bt303.2.2.2.2.2.2.1).bind fun t316 => (if t316 = true then (laws_FnStock.j2 k x5 x6 bt303.1 ((bt303.1.length : Int) != (wrap64 (x6 + 1))) x298000 x298001 x298002 x298003 x298004 x298005 bt303.2.1 bt303.2.2.1 bt303.2.2.2.1 bt303.2.2.2.2.1 bt303.2.2.2.2.2.1 bt303.2.2.2.2.2.2.1) else (laws_FnStock.j2 k x5 x6 bt303.1 true x298000 x298001 x298002 x298003 x298004 x298005 bt303.2.1 bt303.2.2.1 bt303.2.2.2.1 bt303.2.2.2.2.1 bt303.2.2.2.2.2.1 bt303.2.2.2.2.2.2.1))) else (laws_FnStock.j2 k x5 x6 bt303.1 true x298000 x298001 x298002 x298003 x298004 x298005 bt303.2.1 bt303.2.2.1 bt303.2.2.2.1 bt303.2.2.2.2.1 bt303.2.2.2.2.2.1 bt303.2.2.2.2.2.2.1))) else (none)) else (none)))
def laws_FnStock.j2 : Nat → List (S34) → Int → List (S36) → Bool → Int → Int → Int → Int → Int → List (S38) → Int → Int → Int → Int → Int → List (S38) → Option (Bool)
 | 0, _, _, _, _, _, _, _, _, _, _, _, _, _, _, _, _ => none
 | k + 1, x5, x6, x10, x76, x298000, x298001, x298002, x298003, x298004, x298005, x316000, x316001, x316002, x316003, x316004, x316005 => if x76 = true then (some false) else (if 0 ≤ x6 then (if x6 < (x5.length : Int) then (if ((rd_T34 x5 x6).f0) = 2 then (if x6 < (x10.length : Int) then (laws_FnStock.j3 k (((rd_T36 x10 x6).f0) != 0) x298000 x298001 x298002 x298003 x298004 x298005 x316000 x316001 x316002 x316003 x316004 x316005 ((rd_T34 x5 x6).f0) ((rd_T34 x5 x6).f1) ((rd_T34 x5 x6).f2) ((rd_T34 x5 x6).f3) ((rd_T34 x5 x6).f4)) else (none)) else (laws_FnStock.j3 k true x298000 x298001 x298002 x298003 x298004 x298005 x316000 x316001 x316002 x316003 x316004 x316005 ((rd_T34 x5 x6).f0) ((rd_T34 x5 x6).f1) ((rd_T34 x5 x6).f2) ((rd_T34 x5 x6).f3) ((rd_T34 x5 x6).f4))) else (none)) else (none))
def laws_FnStock.j3 : Nat → Bool → Int → Int → Int → Int → Int → List (S38) → Int → Int → Int → Int → Int → List (S38) → Int → ByteArray → Int → Int → Int → Option (Bool)
 | 0, _, _, _, _, _, _, _, _, _, _, _, _, _, _, _, _, _, _ => none
 | k + 1, x91, x298000, x298001, x298002, x298003, x298004, x298005, x316000, x316001, x316002, x316003, x316004, x316005, x319000, x319001, x319002, x319003, x319004 => if x91 = true then (some true) else (if x316002 = (wrap64 (x298002 + x319003)) then (laws_FnStock.l0 k (-1) 0 x298000 x298001 x298002 x298003 x298004 x298005 x316000 x316001 x316002 x316003 x316004 x316005 x319000 x319001 x319002 x319003 x319004) else (some false))
def laws_FnStock.l0 : Nat → Int → Int → Int → Int → Int → Int → Int → List (S38) → Int → Int → Int → Int → Int → List (S38) → Int → ByteArray → Int → Int → Int → Option (Bool)
 | 0, _, _, _, _, _, _, _, _, _, _, _, _, _, _, _, _, _, _, _ => none
 | k + 1, x14, x15, x298000, x298001, x298002, x298003, x298004, x298005, x316000, x316001, x316002, x316003, x316004, x316005, x319000, x319001, x319002, x319003, x319004 => if x15 < (x298005.length : Int) then (if 0 ≤ x15 then ((laws_units.f k x316005 ((rd_T38 x298005 x15).f0) ((rd_T38 x298005 x15).f1) ((rd_T38 x298005 x15).f2) ((rd_T38 x298005 x15).f3) ((rd_T38 x298005 x15).f4)).bind fun t322 => (if t322 > ((rd_T38 x298005 x15).f2) then (laws_FnStock.j5 k x14 x15 t322 true x298000 x298001 x298002 x298003 x298004 x298005 x316000 x316001 x316002 x316003 x316004 x316005 x319000 x319001 x319002 x319003 x319004 ((rd_T38 x298005 x15).f0) ((rd_T38 x298005 x15).f1) ((rd_T38 x298005 x15).f2) ((rd_T38 x298005 x15).f3) ((rd_T38 x298005 x15).f4)) else (if t322 < ((rd_T38 x298005 x15).f2) then (if ((rd_T38 x298005 x15).f0).toList = x319001.toList then (if (rd_T38 x298005 x15).f4 = true then (laws_FnStock.j5 k x14 x15 t322 true x298000 x298001 x298002 x298003 x298004 x298005 x316000 x316001 x316002 x316003 x316004 x316005 x319000 x319001 x319002 x319003 x319004 ((rd_T38 x298005 x15).f0) ((rd_T38 x298005 x15).f1) ((rd_T38 x298005 x15).f2) ((rd_T38 x298005 x15).f3) ((rd_T38 x298005 x15).f4)) else (laws_FnStock.j5 k x14 x15 t322 (decide (((rd_T38 x298005 x15).f3) < x298000)) x298000 x298001 x298002 x298003 x298004 x298005 x316000 x316001 x316002 x316003 x316004 x316005 x319000 x319001 x319002 x319003 x319004 ((rd_T38 x298005 x15).f0) ((rd_T38 x298005 x15).f1) ((rd_T38 x298005 x15).f2) ((rd_T38 x298005 x15).f3) ((rd_T38 x298005 x15).f4))) else (laws_FnStock.j5 k x14 x15 t322 true x298000 x298001 x298002 x298003 x298004 x298005 x316000 x316001 x316002 x316003 x316004 x316005 x319000 x319001 x319002 x319003 x319004 ((rd_T38 x298005 x15).f0) ((rd_T38 x298005 x15).f1) ((rd_T38 x298005 x15).f2) ((rd_T38 x298005 x15).f3) ((rd_T38 x298005 x15).f4))) else (laws_FnStock.j5 k x14 x15 t322 false x298000 x298001 x298002 x298003 x298004 x298005 x316000 x316001 x316002 x316003 x316004 x316005 x319000 x319001 x319002 x319003 x319004 ((rd_T38 x298005 x15).f0) ((rd_T38 x298005 x15).f1) ((rd_T38 x298005 x15).f2) ((rd_T38 x298005 x15).f3) ((rd_T38 x298005 x15).f4))))) else (none)) else (laws_FnStock.l1 k x14 0 x298000 x298001 x298002 x298003 x298004 x298005 x316000 x316001 x316002 x316003 x316004 x316005 x319000 x319001 x319002 x319003 x319004)
def laws_FnStock.j5 : Nat → Int → Int → Int → Bool → Int → Int → Int → Int → Int → List (S38) → Int → Int → Int → Int → Int → List (S38) → Int → ByteArray → Int → Int → Int → ByteArray → Int → Int → Int → Bool → Option (Bool)
 | 0, _, _, _, _, _, _, _, _, _, _, _, _, _, _, _, _, _, _, _, _, _, _, _, _, _, _ => none
 | k + 1, x14, x15, x17, x143, x298000, x298001, x298002, x298003, x298004, x298005, x316000, x316001, x316002, x316003, x316004, x316005, x319000, x319001, x319002, x319003, x319004, x322000, x322001, x322002, x322003, x322004 => if x143 = true then (some false) else (if x17 < x322002 then (laws_FnStock.l0 k (mx x14 x322003) (wrap64 (x15 + 1)) x298000 x298001 x298002 x298003 x298004 x298005 x316000 x316001 x316002 x316003 x316004 x316005 x319000 x319001 x319002 x319003 x319004) else (laws_FnStock.l0 k x14 (wrap64 (x15 + 1)) x298000 x298001 x298002 x298003 x298004 x298005 x316000 x316001 x316002 x316003 x316004 x316005 x319000 x319001 x319002 x319003 x319004))
def laws_FnStock.l1 : Nat → Int → Int → Int → Int → Int → Int → Int → List (S38) → Int → Int → Int → Int → Int → List (S38) → Int → ByteArray → Int → Int → Int → Option (Bool)
 | 0, _, _, _, _, _, _, _, _, _, _, _, _, _, _, _, _, _, _, _ => none
 | k + 1, x14, x18, x298000, x298001, x298002, x298003, x298004, x298005, x316000, x316001, x316002, x316003, x316004, x316005, x319000, x319001, x319002, x319003, x319004 => if x18 < (x298005.length : Int) then (if 0 ≤ x18 then (if ((rd_T38 x298005 x18).f0).toList = x319001.toList then (if ((rd_T38 x298005 x18).f4 = true) then (laws_FnStock.l1 k x14 (wrap64 (x18 + 1)) x298000 x298001 x298002 x298003 x298004 x298005 x316000 x316001 x316002 x316003 x316004 x316005 x319000 x319001 x319002 x319003 x319004) else (if ((rd_T38 x298005 x18).f3) ≥ x298000 then (if ((rd_T38 x298005 x18).f3) < x14 then ((laws_units.f k x316005 ((rd_T38 x298005 x18).f0) ((rd_T38 x298005 x18).f1) ((rd_T38 x298005 x18).f2) ((rd_T38 x298005 x18).f3) ((rd_T38 x298005 x18).f4)).bind fun t325 => (if t325 > 0 then (some false) else (laws_FnStock.l1 k x14 (wrap64 (x18 + 1)) x298000 x298001 x298002 x298003 x298004 x298005 x316000 x316001 x316002 x316003 x316004 x316005 x319000 x319001 x319002 x319003 x319004))) else (laws_FnStock.l1 k x14 (wrap64 (x18 + 1)) x298000 x298001 x298002 x298003 x298004 x298005 x316000 x316001 x316002 x316003 x316004 x316005 x319000 x319001 x319002 x319003 x319004)) else (laws_FnStock.l1 k x14 (wrap64 (x18 + 1)) x298000 x298001 x298002 x298003 x298004 x298005 x316000 x316001 x316002 x316003 x316004 x316005 x319000 x319001 x319002 x319003 x319004))) else (laws_FnStock.l1 k x14 (wrap64 (x18 + 1)) x298000 x298001 x298002 x298003 x298004 x298005 x316000 x316001 x316002 x316003 x316004 x316005 x319000 x319001 x319002 x319003 x319004)) else (none)) else (some true)
end
def laws_FnStock.f (k : Nat) (l0 : List Int) (l1 : List Int) : Option (Bool) := if (l0.length : Int) > 1048576 then (laws_FnStock.j0 k l0 l1 true) else (laws_FnStock.j0 k l0 l1 (decide ((l1.length : Int) > 1048576)))
theorem laws_FnStock.mono_l : ∀ k, (∀ y0 y1 y2, LeO (laws_FnStock.j0 k y0 y1 y2) (laws_FnStock.j0 (k + 1) y0 y1 y2)) ∧ (∀ y0 y1 y2 y3 y4 y5 y6 y7 y8, LeO (laws_FnStock.j1 k y0 y1 y2 y3 y4 y5 y6 y7 y8) (laws_FnStock.j1 (k + 1) y0 y1 y2 y3 y4 y5 y6 y7 y8)) ∧ (∀ y0 y1 y2 y3 y4 y5 y6 y7 y8 y9 y10 y11 y12 y13 y14 y15, LeO (laws_FnStock.j2 k y0 y1 y2 y3 y4 y5 y6 y7 y8 y9 y10 y11 y12 y13 y14 y15) (laws_FnStock.j2 (k + 1) y0 y1 y2 y3 y4 y5 y6 y7 y8 y9 y10 y11 y12 y13 y14 y15)) ∧ (∀ y0 y1 y2 y3 y4 y5 y6 y7 y8 y9 y10 y11 y12 y13 y14 y15 y16 y17, LeO (laws_FnStock.j3 k y0 y1 y2 y3 y4 y5 y6 y7 y8 y9 y10 y11 y12 y13 y14 y15 y16 y17) (laws_FnStock.j3 (k + 1) y0 y1 y2 y3 y4 y5 y6 y7 y8 y9 y10 y11 y12 y13 y14 y15 y16 y17)) ∧ (∀ y0 y1 y2 y3 y4 y5 y6 y7 y8 y9 y10 y11 y12 y13 y14 y15 y16 y17 y18, LeO (laws_FnStock.l0 k y0 y1 y2 y3 y4 y5 y6 y7 y8 y9 y10 y11 y12 y13 y14 y15 y16 y17 y18) (laws_FnStock.l0 (k + 1) y0 y1 y2 y3 y4 y5 y6 y7 y8 y9 y10 y11 y12 y13 y14 y15 y16 y17 y18)) ∧ (∀ y0 y1 y2 y3 y4 y5 y6 y7 y8 y9 y10 y11 y12 y13 y14 y15 y16 y17 y18 y19 y20 y21 y22 y23 y24 y25, LeO (laws_FnStock.j5 k y0 y1 y2 y3 y4 y5 y6 y7 y8 y9 y10 y11 y12 y13 y14 y15 y16 y17 y18 y19 y20 y21 y22 y23 y24 y25) (laws_FnStock.j5 (k + 1) y0 y1 y2 y3 y4 y5 y6 y7 y8 y9 y10 y11 y12 y13 y14 y15 y16 y17 y18 y19 y20 y21 y22 y23 y24 y25)) ∧ (∀ y0 y1 y2 y3 y4 y5 y6 y7 y8 y9 y10 y11 y12 y13 y14 y15 y16 y17 y18, LeO (laws_FnStock.l1 k y0 y1 y2 y3 y4 y5 y6 y7 y8 y9 y10 y11 y12 y13 y14 y15 y16 y17 y18) (laws_FnStock.l1 (k + 1) y0 y1 y2 y3 y4 y5 y6 y7 y8 y9 y10 y11 y12 y13 y14 y15 y16 y17 y18))
 | 0 => ⟨fun _ _ _ r h => by simp [laws_FnStock.j0] at h, fun _ _ _ _ _ _ _ _ _ r h => by simp [laws_FnStock.j1] at h, fun _ _ _ _ _ _ _ _ _ _ _ _ _ _ _ _ r h => by simp [laws_FnStock.j2] at h, fun _ _ _ _ _ _ _ _ _ _ _ _ _ _ _ _ _ _ r h => by simp [laws_FnStock.j3] at h, fun _ _ _ _ _ _ _ _ _ _ _ _ _ _ _ _ _ _ _ r h => by simp [laws_FnStock.l0] at h, fun _ _ _ _ _ _ _ _ _ _ _ _ _ _ _ _ _ _ _ _ _ _ _ _ _ _ r h => by simp [laws_FnStock.j5] at h, fun _ _ _ _ _ _ _ _ _ _ _ _ _ _ _ _ _ _ _ r h => by simp [laws_FnStock.l1] at h⟩
 | k + 1 => by
  obtain ⟨ih0, ih1, ih2, ih3, ih4, ih5, ih6⟩ := laws_FnStock.mono_l k
  refine ⟨?_, ?_, ?_, ?_, ?_, ?_, ?_⟩
  ·intro y0 y1 y2
   unfold laws_FnStock.j0
   repeat' first
   | (with_reducible exact ih0 _ _ _)
   | (with_reducible exact ih1 _ _ _ _ _ _ _ _ _)
   | (with_reducible exact ih2 _ _ _ _ _ _ _ _ _ _ _ _ _ _ _ _)
   | (with_reducible exact ih3 _ _ _ _ _ _ _ _ _ _ _ _ _ _ _ _ _ _)
   | (with_reducible exact ih4 _ _ _ _ _ _ _ _ _ _ _ _ _ _ _ _ _ _ _)
   | (with_reducible exact ih5 _ _ _ _ _ _ _ _ _ _ _ _ _ _ _ _ _ _ _ _ _ _ _ _ _ _)
   | (with_reducible exact ih6 _ _ _ _ _ _ _ _ _ _ _ _ _ _ _ _ _ _ _)
   | (with_reducible exact impl_StockRun.mono _ _)
   | (with_reducible exact laws_balanced.mono _ _ _ _ _ _ _)
   | (with_reducible exact laws_units.mono _ _ _ _ _ _ _)
   | (with_reducible exact spec_StockOf.mono _ _)
   | (with_reducible exact LeO.refl _)
   | (with_reducible exact LeO.none _)
   | (with_reducible refine LeO.ite ?_ ?_)
   | (with_reducible refine LeO.bind ?_ (fun _ => ?_))
   | exact ih0 _ _ _
   | exact ih1 _ _ _ _ _ _ _ _ _
   | exact ih2 _ _ _ _ _ _ _ _ _ _ _ _ _ _ _ _
   | exact ih3 _ _ _ _ _ _ _ _ _ _ _ _ _ _ _ _ _ _
   | exact ih4 _ _ _ _ _ _ _ _ _ _ _ _ _ _ _ _ _ _ _
   | exact ih5 _ _ _ _ _ _ _ _ _ _ _ _ _ _ _ _ _ _ _ _ _ _ _ _ _ _
   | exact ih6 _ _ _ _ _ _ _ _ _ _ _ _ _ _ _ _ _ _ _
   | exact impl_StockRun.mono _ _
   | exact laws_balanced.mono _ _ _ _ _ _ _
   | exact laws_units.mono _ _ _ _ _ _ _
   | exact spec_StockOf.mono _ _
   | exact LeO.none _
   | refine LeO.ite ?_ ?_
   | refine LeO.bind ?_ (fun _ => ?_)
  ·intro y0 y1 y2 y3 y4 y5 y6 y7 y8
   unfold laws_FnStock.j1
   repeat' first
   | (with_reducible exact ih0 _ _ _)
   | (with_reducible exact ih1 _ _ _ _ _ _ _ _ _)
   | (with_reducible exact ih2 _ _ _ _ _ _ _ _ _ _ _ _ _ _ _ _)
   | (with_reducible exact ih3 _ _ _ _ _ _ _ _ _ _ _ _ _ _ _ _ _ _)
   | (with_reducible exact ih4 _ _ _ _ _ _ _ _ _ _ _ _ _ _ _ _ _ _ _)
   | (with_reducible exact ih5 _ _ _ _ _ _ _ _ _ _ _ _ _ _ _ _ _ _ _ _ _ _ _ _ _ _)
   | (with_reducible exact ih6 _ _ _ _ _ _ _ _ _ _ _ _ _ _ _ _ _ _ _)
   | (with_reducible exact impl_StockRun.mono _ _)
   | (with_reducible exact laws_balanced.mono _ _ _ _ _ _ _)
   | (with_reducible exact laws_units.mono _ _ _ _ _ _ _)
   | (with_reducible exact spec_StockOf.mono _ _)
   | (with_reducible exact LeO.refl _)
   | (with_reducible exact LeO.none _)
   | (with_reducible refine LeO.ite ?_ ?_)
   | (with_reducible refine LeO.bind ?_ (fun _ => ?_))
   | exact ih0 _ _ _
   | exact ih1 _ _ _ _ _ _ _ _ _
   | exact ih2 _ _ _ _ _ _ _ _ _ _ _ _ _ _ _ _
   | exact ih3 _ _ _ _ _ _ _ _ _ _ _ _ _ _ _ _ _ _
   | exact ih4 _ _ _ _ _ _ _ _ _ _ _ _ _ _ _ _ _ _ _
   | exact ih5 _ _ _ _ _ _ _ _ _ _ _ _ _ _ _ _ _ _ _ _ _ _ _ _ _ _
   | exact ih6 _ _ _ _ _ _ _ _ _ _ _ _ _ _ _ _ _ _ _
   | exact impl_StockRun.mono _ _
   | exact laws_balanced.mono _ _ _ _ _ _ _
   | exact laws_units.mono _ _ _ _ _ _ _
   | exact spec_StockOf.mono _ _
   | exact LeO.none _
   | refine LeO.ite ?_ ?_
   | refine LeO.bind ?_ (fun _ => ?_)
  ·intro y0 y1 y2 y3 y4 y5 y6 y7 y8 y9 y10 y11 y12 y13 y14 y15
   unfold laws_FnStock.j2
   repeat' first
   | (with_reducible exact ih0 _ _ _)
   | (with_reducible exact ih1 _ _ _ _ _ _ _ _ _)
   | (with_reducible exact ih2 _ _ _ _ _ _ _ _ _ _ _ _ _ _ _ _)
   | (with_reducible exact ih3 _ _ _ _ _ _ _ _ _ _ _ _ _ _ _ _ _ _)
   | (with_reducible exact ih4 _ _ _ _ _ _ _ _ _ _ _ _ _ _ _ _ _ _ _)
   | (with_reducible exact ih5 _ _ _ _ _ _ _ _ _ _ _ _ _ _ _ _ _ _ _ _ _ _ _ _ _ _)
   | (with_reducible exact ih6 _ _ _ _ _ _ _ _ _ _ _ _ _ _ _ _ _ _ _)
   | (with_reducible exact impl_StockRun.mono _ _)
   | (with_reducible exact laws_balanced.mono _ _ _ _ _ _ _)
   | (with_reducible exact laws_units.mono _ _ _ _ _ _ _)
   | (with_reducible exact spec_StockOf.mono _ _)
   | (with_reducible exact LeO.refl _)
   | (with_reducible exact LeO.none _)
   | (with_reducible refine LeO.ite ?_ ?_)
   | (with_reducible refine LeO.bind ?_ (fun _ => ?_))
   | exact ih0 _ _ _
   | exact ih1 _ _ _ _ _ _ _ _ _
   | exact ih2 _ _ _ _ _ _ _ _ _ _ _ _ _ _ _ _
   | exact ih3 _ _ _ _ _ _ _ _ _ _ _ _ _ _ _ _ _ _
   | exact ih4 _ _ _ _ _ _ _ _ _ _ _ _ _ _ _ _ _ _ _
   | exact ih5 _ _ _ _ _ _ _ _ _ _ _ _ _ _ _ _ _ _ _ _ _ _ _ _ _ _
   | exact ih6 _ _ _ _ _ _ _ _ _ _ _ _ _ _ _ _ _ _ _
   | exact impl_StockRun.mono _ _
   | exact laws_balanced.mono _ _ _ _ _ _ _
   | exact laws_units.mono _ _ _ _ _ _ _
   | exact spec_StockOf.mono _ _
   | exact LeO.none _
   | refine LeO.ite ?_ ?_
   | refine LeO.bind ?_ (fun _ => ?_)
  ·intro y0 y1 y2 y3 y4 y5 y6 y7 y8 y9 y10 y11 y12 y13 y14 y15 y16 y17
   unfold laws_FnStock.j3
   repeat' first
   | (with_reducible exact ih0 _ _ _)
   | (with_reducible exact ih1 _ _ _ _ _ _ _ _ _)
   | (with_reducible exact ih2 _ _ _ _ _ _ _ _ _ _ _ _ _ _ _ _)
   | (with_reducible exact ih3 _ _ _ _ _ _ _ _ _ _ _ _ _ _ _ _ _ _)
   | (with_reducible exact ih4 _ _ _ _ _ _ _ _ _ _ _ _ _ _ _ _ _ _ _)
   | (with_reducible exact ih5 _ _ _ _ _ _ _ _ _ _ _ _ _ _ _ _ _ _ _ _ _ _ _ _ _ _)
   | (with_reducible exact ih6 _ _ _ _ _ _ _ _ _ _ _ _ _ _ _ _ _ _ _)
   | (with_reducible exact impl_StockRun.mono _ _)
   | (with_reducible exact laws_balanced.mono _ _ _ _ _ _ _)
   | (with_reducible exact laws_units.mono _ _ _ _ _ _ _)
   | (with_reducible exact spec_StockOf.mono _ _)
   | (with_reducible exact LeO.refl _)
   | (with_reducible exact LeO.none _)
   | (with_reducible refine LeO.ite ?_ ?_)
   | (with_reducible refine LeO.bind ?_ (fun _ => ?_))
   | exact ih0 _ _ _
   | exact ih1 _ _ _ _ _ _ _ _ _
   | exact ih2 _ _ _ _ _ _ _ _ _ _ _ _ _ _ _ _
   | exact ih3 _ _ _ _ _ _ _ _ _ _ _ _ _ _ _ _ _ _
   | exact ih4 _ _ _ _ _ _ _ _ _ _ _ _ _ _ _ _ _ _ _
   | exact ih5 _ _ _ _ _ _ _ _ _ _ _ _ _ _ _ _ _ _ _ _ _ _ _ _ _ _
   | exact ih6 _ _ _ _ _ _ _ _ _ _ _ _ _ _ _ _ _ _ _
   | exact impl_StockRun.mono _ _
   | exact laws_balanced.mono _ _ _ _ _ _ _
   | exact laws_units.mono _ _ _ _ _ _ _
   | exact spec_StockOf.mono _ _
   | exact LeO.none _
   | refine LeO.ite ?_ ?_
   | refine LeO.bind ?_ (fun _ => ?_)
  ·intro y0 y1 y2 y3 y4 y5 y6 y7 y8 y9 y10 y11 y12 y13 y14 y15 y16 y17 y18
   unfold laws_FnStock.l0
   repeat' first
   | (with_reducible exact ih0 _ _ _)
   | (with_reducible exact ih1 _ _ _ _ _ _ _ _ _)
   | (with_reducible exact ih2 _ _ _ _ _ _ _ _ _ _ _ _ _ _ _ _)
   | (with_reducible exact ih3 _ _ _ _ _ _ _ _ _ _ _ _ _ _ _ _ _ _)
   | (with_reducible exact ih4 _ _ _ _ _ _ _ _ _ _ _ _ _ _ _ _ _ _ _)
   | (with_reducible exact ih5 _ _ _ _ _ _ _ _ _ _ _ _ _ _ _ _ _ _ _ _ _ _ _ _ _ _)
   | (with_reducible exact ih6 _ _ _ _ _ _ _ _ _ _ _ _ _ _ _ _ _ _ _)
   | (with_reducible exact impl_StockRun.mono _ _)
   | (with_reducible exact laws_balanced.mono _ _ _ _ _ _ _)
   | (with_reducible exact laws_units.mono _ _ _ _ _ _ _)
   | (with_reducible exact spec_StockOf.mono _ _)
   | (with_reducible exact LeO.refl _)
   | (with_reducible exact LeO.none _)
   | (with_reducible refine LeO.ite ?_ ?_)
   | (with_reducible refine LeO.bind ?_ (fun _ => ?_))
   | exact ih0 _ _ _
   | exact ih1 _ _ _ _ _ _ _ _ _
   | exact ih2 _ _ _ _ _ _ _ _ _ _ _ _ _ _ _ _
   | exact ih3 _ _ _ _ _ _ _ _ _ _ _ _ _ _ _ _ _ _
   | exact ih4 _ _ _ _ _ _ _ _ _ _ _ _ _ _ _ _ _ _ _
   | exact ih5 _ _ _ _ _ _ _ _ _ _ _ _ _ _ _ _ _ _ _ _ _ _ _ _ _ _
   | exact ih6 _ _ _ _ _ _ _ _ _ _ _ _ _ _ _ _ _ _ _
   | exact impl_StockRun.mono _ _
   | exact laws_balanced.mono _ _ _ _ _ _ _
   | exact laws_units.mono _ _ _ _ _ _ _
   | exact spec_StockOf.mono _ _
   | exact LeO.none _
   | refine LeO.ite ?_ ?_
   | refine LeO.bind ?_ (fun _ => ?_)
  ·intro y0 y1 y2 y3 y4 y5 y6 y7 y8 y9 y10 y11 y12 y13 y14 y15 y16 y17 y18 y19 y20 y21 y22 y23 y24 y25
   unfold laws_FnStock.j5
   repeat' first
   | (with_reducible exact ih0 _ _ _)
   | (with_reducible exact ih1 _ _ _ _ _ _ _ _ _)
   | (with_reducible exact ih2 _ _ _ _ _ _ _ _ _ _ _ _ _ _ _ _)
   | (with_reducible exact ih3 _ _ _ _ _ _ _ _ _ _ _ _ _ _ _ _ _ _)
   | (with_reducible exact ih4 _ _ _ _ _ _ _ _ _ _ _ _ _ _ _ _ _ _ _)
   | (with_reducible exact ih5 _ _ _ _ _ _ _ _ _ _ _ _ _ _ _ _ _ _ _ _ _ _ _ _ _ _)
   | (with_reducible exact ih6 _ _ _ _ _ _ _ _ _ _ _ _ _ _ _ _ _ _ _)
   | (with_reducible exact impl_StockRun.mono _ _)
   | (with_reducible exact laws_balanced.mono _ _ _ _ _ _ _)
   | (with_reducible exact laws_units.mono _ _ _ _ _ _ _)
   | (with_reducible exact spec_StockOf.mono _ _)
   | (with_reducible exact LeO.refl _)
   | (with_reducible exact LeO.none _)
   | (with_reducible refine LeO.ite ?_ ?_)
   | (with_reducible refine LeO.bind ?_ (fun _ => ?_))
   | exact ih0 _ _ _
   | exact ih1 _ _ _ _ _ _ _ _ _
   | exact ih2 _ _ _ _ _ _ _ _ _ _ _ _ _ _ _ _
   | exact ih3 _ _ _ _ _ _ _ _ _ _ _ _ _ _ _ _ _ _
   | exact ih4 _ _ _ _ _ _ _ _ _ _ _ _ _ _ _ _ _ _ _
   | exact ih5 _ _ _ _ _ _ _ _ _ _ _ _ _ _ _ _ _ _ _ _ _ _ _ _ _ _
   | exact ih6 _ _ _ _ _ _ _ _ _ _ _ _ _ _ _ _ _ _ _
   | exact impl_StockRun.mono _ _
   | exact laws_balanced.mono _ _ _ _ _ _ _
   | exact laws_units.mono _ _ _ _ _ _ _
   | exact spec_StockOf.mono _ _
   | exact LeO.none _
   | refine LeO.ite ?_ ?_
   | refine LeO.bind ?_ (fun _ => ?_)
  ·intro y0 y1 y2 y3 y4 y5 y6 y7 y8 y9 y10 y11 y12 y13 y14 y15 y16 y17 y18
   unfold laws_FnStock.l1
   repeat' first
   | (with_reducible exact ih0 _ _ _)
   | (with_reducible exact ih1 _ _ _ _ _ _ _ _ _)
   | (with_reducible exact ih2 _ _ _ _ _ _ _ _ _ _ _ _ _ _ _ _)
   | (with_reducible exact ih3 _ _ _ _ _ _ _ _ _ _ _ _ _ _ _ _ _ _)
   | (with_reducible exact ih4 _ _ _ _ _ _ _ _ _ _ _ _ _ _ _ _ _ _ _)
   | (with_reducible exact ih5 _ _ _ _ _ _ _ _ _ _ _ _ _ _ _ _ _ _ _ _ _ _ _ _ _ _)
   | (with_reducible exact ih6 _ _ _ _ _ _ _ _ _ _ _ _ _ _ _ _ _ _ _)
   | (with_reducible exact impl_StockRun.mono _ _)
   | (with_reducible exact laws_balanced.mono _ _ _ _ _ _ _)
   | (with_reducible exact laws_units.mono _ _ _ _ _ _ _)
   | (with_reducible exact spec_StockOf.mono _ _)
   | (with_reducible exact LeO.refl _)
   | (with_reducible exact LeO.none _)
   | (with_reducible refine LeO.ite ?_ ?_)
   | (with_reducible refine LeO.bind ?_ (fun _ => ?_))
   | exact ih0 _ _ _
   | exact ih1 _ _ _ _ _ _ _ _ _
   | exact ih2 _ _ _ _ _ _ _ _ _ _ _ _ _ _ _ _
   | exact ih3 _ _ _ _ _ _ _ _ _ _ _ _ _ _ _ _ _ _
   | exact ih4 _ _ _ _ _ _ _ _ _ _ _ _ _ _ _ _ _ _ _
   | exact ih5 _ _ _ _ _ _ _ _ _ _ _ _ _ _ _ _ _ _ _ _ _ _ _ _ _ _
   | exact ih6 _ _ _ _ _ _ _ _ _ _ _ _ _ _ _ _ _ _ _
   | exact impl_StockRun.mono _ _
   | exact laws_balanced.mono _ _ _ _ _ _ _
   | exact laws_units.mono _ _ _ _ _ _ _
   | exact spec_StockOf.mono _ _
   | exact LeO.none _
   | refine LeO.ite ?_ ?_
   | refine LeO.bind ?_ (fun _ => ?_)
theorem laws_FnStock.mono : ∀ a0 a1 k, LeO (laws_FnStock.f k a0 a1) (laws_FnStock.f (k + 1) a0 a1) := by
 intro a0 a1 k
 obtain ⟨ih0, ih1, ih2, ih3, ih4, ih5, ih6⟩ := laws_FnStock.mono_l k
 unfold laws_FnStock.f
 repeat' first
   | (with_reducible exact ih0 _ _ _)
   | (with_reducible exact ih1 _ _ _ _ _ _ _ _ _)
   | (with_reducible exact ih2 _ _ _ _ _ _ _ _ _ _ _ _ _ _ _ _)
   | (with_reducible exact ih3 _ _ _ _ _ _ _ _ _ _ _ _ _ _ _ _ _ _)
   | (with_reducible exact ih4 _ _ _ _ _ _ _ _ _ _ _ _ _ _ _ _ _ _ _)
   | (with_reducible exact ih5 _ _ _ _ _ _ _ _ _ _ _ _ _ _ _ _ _ _ _ _ _ _ _ _ _ _)
   | (with_reducible exact ih6 _ _ _ _ _ _ _ _ _ _ _ _ _ _ _ _ _ _ _)
   | (with_reducible exact impl_StockRun.mono _ _)
   | (with_reducible exact laws_balanced.mono _ _ _ _ _ _ _)
   | (with_reducible exact laws_units.mono _ _ _ _ _ _ _)
   | (with_reducible exact spec_StockOf.mono _ _)
   | (with_reducible exact LeO.refl _)
   | (with_reducible exact LeO.none _)
   | (with_reducible refine LeO.ite ?_ ?_)
   | (with_reducible refine LeO.bind ?_ (fun _ => ?_))
   | exact ih0 _ _ _
   | exact ih1 _ _ _ _ _ _ _ _ _
   | exact ih2 _ _ _ _ _ _ _ _ _ _ _ _ _ _ _ _
   | exact ih3 _ _ _ _ _ _ _ _ _ _ _ _ _ _ _ _ _ _
   | exact ih4 _ _ _ _ _ _ _ _ _ _ _ _ _ _ _ _ _ _ _
   | exact ih5 _ _ _ _ _ _ _ _ _ _ _ _ _ _ _ _ _ _ _ _ _ _ _ _ _ _
   | exact ih6 _ _ _ _ _ _ _ _ _ _ _ _ _ _ _ _ _ _ _
   | exact impl_StockRun.mono _ _
   | exact laws_balanced.mono _ _ _ _ _ _ _
   | exact laws_units.mono _ _ _ _ _ _ _
   | exact spec_StockOf.mono _ _
   | exact LeO.none _
   | refine LeO.ite ?_ ?_
   | refine LeO.bind ?_ (fun _ => ?_)
set_option maxHeartbeats 64000000 in
set_option maxRecDepth 100000 in
theorem laws_FnStock.calls (k : Nat) (A0 : Option Addr) (c0 : Nat) (l0 : List Int) (A1 : Option Addr) (c1 : Nat) (l1 : List Int) (r : Bool) (w : World) (hr0 : Kd.C (Kd.int .u8) w A0 l0.length l0) (hc0 : l0.length ≤ c0) (hr1 : Kd.C (Kd.int .u8) w A1 l1.length l1) (hc1 : l1.length ≤ c1) (h : laws_FnStock.f k l0 l1 = some r) :
  Calls Try.prog 3 #[.slice A0 l0.length c0, .slice A1 l1.length c1] w fun e w' => e = .returned (.bool r) ∧ Below w.heap.size w w' := by
 have hu29 := Try.underlying29
 have hu34 := Try.underlying34
 have hu38 := Try.underlying38
 obtain ⟨HR0, HC0, HR1, HC1, HB⟩ := zD5 hr0 hc0 hr1 hc1 (Below.refl w.heap.size w)
 clear hr0 hc0 hr1 hc1
 have H : (if (l0.length : Int) > 1048576 then (laws_FnStock.j0 k l0 l1 true) else (laws_FnStock.j0 k l0 l1 (decide ((l1.length : Int) > 1048576)))) = some r := h
 clear h
 have HC3 := za H
 clear H
 go_enter Try.func3, Try.ntmps3
 go_upto_region 1 with (fail)
 go_cut [27] from 20 to 27 (fun v27 wc => ∃ (kq : Nat) (x27_2 : Bool), v27 = .bool x27_2 ∧ Aside0 (laws_FnStock.j0 kq l0 l1 x27_2 = some r) ∧ Aside0 (kq ≤ k) ∧ Aside0 (Below w.heap.size w wc))
 case first =>
  have H := HC3.out
  clear HC3
  by_cases c4 : (l0.length : Int) > 1048576
  rotate_left
  ·rw [if_neg c4] at H
   have c4b0 : decide (1048576 < (l0.length : Int)) = false := decide_eq_false c4
   have c4b1 : decide (1048576 < l0.length) = false := decide_eq_false (by omega)
   clear c4
   (first | rw [c4b0] | (simp only [i64_w, i32_w]; rw [c4b0]) | skip)
   have H' := za H
   clear H
   go_wp2
   go_meet
   case rel => exact ⟨_, (decide ((l1.length : Int) > 1048576)), zG68, H', ⟨zH82⟩, ⟨zH60⟩⟩
  rw [if_pos c4] at H
  have c4b0 : decide (1048576 < (l0.length : Int)) = true := decide_eq_true c4
  have c4b1 : decide (1048576 < l0.length) = true := decide_eq_true (by omega)
  clear c4
  (first | rw [c4b0] | (simp only [i64_w, i32_w]; rw [c4b0]) | skip)
  have H' := za H
  clear H
  go_wp2
  go_meet
  case rel => exact ⟨_, (true), zG68, H', ⟨zH82⟩, ⟨zH60⟩⟩
 case rest =>
  clear HC3
  try clear c1
  try clear c4
  try clear c4b0
  try clear c4b1
  obtain ⟨kq, x27_2, rfl, HA, HJ2, HB⟩ := hcut
  cases kq with
  | zero => exact absurd HA.out (by simp [laws_FnStock.j0])
  | succ kj2 =>
   have H := HA.out
   clear HA
   simp only [laws_FnStock.j0] at H
   by_cases c5 : x27_2 = true
   ·subst c5
    have H1 : (some true) = some r := by rw [if_pos rfl] at H; exact H
    clear H
    have H := H1
    clear H1
    obtain rfl := Option.some.inj H
    go_wp2
    go_ret
    exact ⟨zH70, zH60⟩
   replace c5 := Bool.eq_false_iff.mpr c5
   subst c5
   have H1 : ((spec_StockOf.f kj2 l0).bind fun t277 => ((laws_at.f l1 0 (wrap64 ((t277.length : Int) + 1))).bind fun t280 => (if 0 ≤ t280 then (if t280 ≤ (t277.length : Int) then ((impl_StockRun.f kj2 (t277.take (t280 : Int).toNat)).bind fun bt285 => (if bt285.2.2.2.2.2.2.2 = 0 then ((laws_balanced.f kj2 bt285.2.1 bt285.2.2.1 bt285.2.2.2.1 bt285.2.2.2.2.1 bt285.2.2.2.2.2.1 bt285.2.2.2.2.2.2.1).bind fun t298 => (laws_FnStock.j1 kj2 t277 t280 (!t298) bt285.2.1 bt285.2.2.1 bt285.2.2.2.1 bt285.2.2.2.2.1 bt285.2.2.2.2.2.1 bt285.2.2.2.2.2.2.1)) else (laws_FnStock.j1 kj2 t277 t280 true bt285.2.1 bt285.2.2.1 bt285.2.2.2.1 bt285.2.2.2.2.1 bt285.2.2.2.2.2.1 bt285.2.2.2.2.2.2.1))) else (none)) else (none)))) = some r := by rw [if_neg (show ¬ (false = true) by decide)] at H; exact H
   clear H
   have H := H1
   clear H1
   replace H := Option.bind_eq_some_iff.mp H
   obtain ⟨t277, A60, H⟩ := H
   replace H : ((laws_at.f l1 0 (wrap64 ((t277.length : Int) + 1))).bind fun t280 => (if 0 ≤ t280 then (if t280 ≤ (t277.length : Int) then ((impl_StockRun.f kj2 (t277.take (t280 : Int).toNat)).bind fun bt285 => (if bt285.2.2.2.2.2.2.2 = 0 then ((laws_balanced.f kj2 bt285.2.1 bt285.2.2.1 bt285.2.2.2.1 bt285.2.2.2.2.1 bt285.2.2.2.2.2.1 bt285.2.2.2.2.2.2.1).bind fun t298 => (laws_FnStock.j1 kj2 t277 t280 (!t298) bt285.2.1 bt285.2.2.1 bt285.2.2.2.1 bt285.2.2.2.2.1 bt285.2.2.2.2.2.1 bt285.2.2.2.2.2.2.1)) else (laws_FnStock.j1 kj2 t277 t280 true bt285.2.1 bt285.2.2.1 bt285.2.2.2.1 bt285.2.2.2.2.1 bt285.2.2.2.2.2.1 bt285.2.2.2.2.2.2.1))) else (none)) else (none))) = some r := H
   have A6 := za A60
   clear A60
   replace H := Option.bind_eq_some_iff.mp H
   obtain ⟨t280, A70, H⟩ := H
   replace H : (if 0 ≤ t280 then (if t280 ≤ (t277.length : Int) then ((impl_StockRun.f kj2 (t277.take (t280 : Int).toNat)).bind fun bt285 => (if bt285.2.2.2.2.2.2.2 = 0 then ((laws_balanced.f kj2 bt285.2.1 bt285.2.2.1 bt285.2.2.2.1 bt285.2.2.2.2.1 bt285.2.2.2.2.2.1 bt285.2.2.2.2.2.2.1).bind fun t298 => (laws_FnStock.j1 kj2 t277 t280 (!t298) bt285.2.1 bt285.2.2.1 bt285.2.2.2.1 bt285.2.2.2.2.1 bt285.2.2.2.2.2.1 bt285.2.2.2.2.2.2.1)) else (laws_FnStock.j1 kj2 t277 t280 true bt285.2.1 bt285.2.2.1 bt285.2.2.2.1 bt285.2.2.2.2.1 bt285.2.2.2.2.2.1 bt285.2.2.2.2.2.2.1))) else (none)) else (none)) = some r := H
   have A7 := za A70
   clear A70
   by_cases c8 : 0 ≤ t280
   rotate_left
   ·rw [if_neg c8] at H
    exact absurd H (by simp)

   rw [if_pos c8] at H
   have c8b0 := eq_true c8
   have c8b1 := decide_eq_true c8
   clear c8
   by_cases c9 : t280 ≤ (t277.length : Int)
   rotate_left
   ·rw [if_neg c9] at H
    exact absurd H (by simp)
   rw [if_pos c9] at H
   have c9b0 := eq_true c9
   have c9b1 := decide_eq_true c9
   clear c9
   obtain ⟨y281, hy281⟩ : ∃ y_ : List (S34), y_ = (t277.take (t280 : Int).toNat) := ⟨_, rfl⟩
   replace H : ((impl_StockRun.f kj2 y281).bind fun bt285 => (if bt285.2.2.2.2.2.2.2 = 0 then ((laws_balanced.f kj2 bt285.2.1 bt285.2.2.1 bt285.2.2.2.1 bt285.2.2.2.2.1 bt285.2.2.2.2.2.1 bt285.2.2.2.2.2.2.1).bind fun t298 => (laws_FnStock.j1 kj2 t277 t280 (!t298) bt285.2.1 bt285.2.2.1 bt285.2.2.2.1 bt285.2.2.2.2.1 bt285.2.2.2.2.2.1 bt285.2.2.2.2.2.2.1)) else (laws_FnStock.j1 kj2 t277 t280 true bt285.2.1 bt285.2.2.1 bt285.2.2.2.1 bt285.2.2.2.2.1 bt285.2.2.2.2.2.1 bt285.2.2.2.2.2.2.1))) = some r := by first | (rw [hy281]; with_reducible exact H) | (have H2_ := (Option.bind_some _ _).symm.trans H; rw [hy281]; with_reducible exact H2_) | (have H2_ := (Option.bind_some _ _).symm.trans H; with_reducible exact H2_) | with_reducible exact H | (rw [hy281]; exact H) | exact H
   have Ny281 := za hy281
   clear hy281
   replace H := Option.bind_eq_some_iff.mp H
   obtain ⟨⟨t285, t288, t289, t290, t291, t292, t293, t296⟩, A100, H⟩ := H
   replace H : (if t296 = 0 then ((laws_balanced.f kj2 t288 t289 t290 t291 t292 t293).bind fun t298 => (laws_FnStock.j1 kj2 t277 t280 (!t298) t288 t289 t290 t291 t292 t293)) else (laws_FnStock.j1 kj2 t277 t280 true t288 t289 t290 t291 t292 t293)) = some r := H
   obtain ⟨A10, HC11⟩ := zD2 A100 H
   clear A100 H
   go_upto_region 6 with (first | ((with_reducible refine gate_callee (f := 5) rfl ?_); refine goesL_ (some 29) rfl rfl Try.func5 zG69 rfl #[.slice A0 l0.length c0] rfl zG56 ?_; (with_reducible refine (spec_StockOf.calls kj2 _ _ l0 t277 _ ?side1 ?side2 A6.out).mono ?_); (case side1 => exact zH41); (case side2 => exact HC0.out); rintro e w12 ⟨v278, rfl, ho0, hb⟩; refine ⟨_, rfl, ?_⟩; have n_ := zA_ (za (zah ho0 (zv zG58))) (za (zu zG58 hb)); clear HB; obtain ⟨HO279, HB⟩ := n_; (try clear hb); (try clear ho0); obtain ⟨Ao13, co13, eo13⟩ := zab HO279.out; subst eo13) | ((with_reducible refine gate_callee (f := 6) rfl ?_); refine goesL_ (some 34) rfl rfl Try.func6 zG69 rfl #[.slice A1 l1.length c1, .int .i64 0, .int .i64 (wrap64 ((t277.length : Int) + 1))] rfl zG56 ?_; (with_reducible refine (laws_at.calls _ _ l1 0 (wrap64 ((t277.length : Int) + 1)) t280 _ ?side1 ?side2 A7.out).mono ?_); (case side1 => repeat (first | exact (zao HR1.out HB.out) | (with_reducible refine zad ?_ _) | (with_reducible refine zae ?_ _) | (with_reducible refine zaf ?_))); (case side2 => exact HC1.out); rintro e w' ⟨rfl, ⟨nd, rfl⟩⟩; refine ⟨_, rfl, ?_⟩; (try (rw [drewN_self w12]; generalize hq_ : World.drewN w12 _ = w12; have n0_ : Aside0 (Kd.R k34 34 w12 w.heap.size (fun _ => True) (.slice Ao13 t277.length co13) t277) := ⟨by rw [← hq_]; exact zK152⟩; have n1_ : Aside0 (Below w.heap.size w w12) := ⟨by rw [← hq_]; exact zG58⟩; clear HO279 HB hq_; have HO279 := n0_; have HB := n1_; clear n0_ n1_)); have q14 : (t280 : Int) ≤ ((t277.length : Int) : Int) := zO; obtain ⟨i014, hi014, _, hsz14, _⟩ := info_parts info34; have hroom14 : t277.length ≤ co13 := (zy HO279.out).2.1; have hC14 : Kd.C k34 _ Ao13 t277.length t277 := (zy HO279.out).2.2; have hcut14 := cut_to (P := Try.prog) 23 34 .i64 Try.underlying23 hi014 Ao13 t277.length co13 t280 zO q14 hroom14; have hr14 := Kd.C_take (m := (t280 : Int).toNat) hC14 (by omega); have hy14 : y281.length = (t280 : Int).toNat := (by rw [Ny281.out, List.length_take]; omega); rw [← Ny281.out] at hr14; rw [← hy14] at hcut14; have HR284 := za hr14; have HC284 := za (show y281.length ≤ co13 from by omega); clear hr14 hC14 hroom14 hi014 hsz14; have KY14 := za hy14; clear hy14; have KL14 := za (show (t280 : Int).toNat ≤ t277.length from by omega); replace q14 := eq_true q14) | ((with_reducible refine gate_callee (f := 7) rfl ?_); refine goesL_ (some 39) rfl rfl Try.func7 zG69 rfl #[.slice Ao13 y281.length co13] rfl zG56 ?_; (with_reducible refine (impl_StockRun.calls kj2 _ _ y281 t285 t288 t289 t290 t291 t292 t293 t296 _ ?side1 ?side2 A10.out).mono ?_); (case side1 => repeat (first | exact zK120 | (with_reducible refine zad ?_ _) | (with_reducible refine zae ?_ _) | (with_reducible refine zaf ?_))); (case side2 => exact HC284.out); rintro e w15 ⟨v286, v294, rfl, ho0, ho1, hb⟩; refine ⟨_, rfl, ?_⟩; have n_ := zA_ (za (zt zK152 hb)) (zA_ (za (zah ho0 (zv zG58))) (zA_ (za (zah ho1 (zv zG58))) (zA_ (za (zao zK120 hb)) (za (zu zG58 hb))))); clear HO279 HR284 HB; obtain ⟨HO279, HO287, HO295, HR284, HB⟩ := n_; (try clear hb); (try clear ho0); (try clear ho1)) | ((with_reducible refine gate_dst (N := 8) rfl ?_); (try (refine gate_guard (by rfl) ?_; dsimp only)); refine box_event ?hg (N := 8) ?hd (cs := (zs6 0 0 0 0 0 (.slice none 0 0))) (t := 29) ?hr ?_; (case hd => rfl); (case hg => rfl); (case hr => exact zH81); intro gb297 hg w16 hbox hb; have n_ := zA_ (za (zt zK152 hb)) (zA_ (za (zt (by (with_reducible repeat (first | apply zj | apply zk | apply zl)); exact HO287.out) hb)) (zA_ (za (zt (by (with_reducible repeat (first | apply zj | apply zk | apply zl)); exact HO295.out) hb)) (zA_ (za (zao zK120 hb)) (zA_ (za (zu zG58 hb)) (zA_ (za (hbox)) (zA_ (zN1 w.heap.size hg (zv zG58)) (zN1 w.heap.size hg (zv zG58)))))))); clear HO279 HO287 HO295 HR284 HB; obtain ⟨HO279, HO287, HO295, HR284, HB, BK297, GW297, GE297⟩ := n_; clear hb hbox hg; have hcz17_0 : w16.cell? ⟨gb297, 0, none⟩ = some (.int .i64 0) := (q8a BK297.out 0).trans rfl; have hcz17_1 : w16.cell? ⟨gb297, 1, none⟩ = some (.int .i64 0) := (q8a BK297.out 1).trans rfl; have hcz17_2 : w16.cell? ⟨gb297, 2, none⟩ = some (.int .i64 0) := (q8a BK297.out 2).trans rfl; have hcz17_3 : w16.cell? ⟨gb297, 3, none⟩ = some (.int .i64 0) := (q8a BK297.out 3).trans rfl; have hcz17_4 : w16.cell? ⟨gb297, 4, none⟩ = some (.int .i64 0) := (q8a BK297.out 4).trans rfl; have hcz17_5 : w16.cell? ⟨gb297, 5, none⟩ = some (.slice none 0 0) := (q8a BK297.out 5).trans rfl; have hfz17_0 := zd BK297.out 0; have hfz17_1 := zd BK297.out 1; have hfz17_2 := zd BK297.out 2; have hfz17_3 := zd BK297.out 3; have hfz17_4 := zd BK297.out 4; have hfz17_5 := zd BK297.out 5; obtain ⟨Ao18, co18, eo18⟩ := zab HO295.out; subst eo18))
   (try simp only [Act.put, List.setIfInBounds_toArray, List.set_cons_zero, List.set_cons_succ])
   go_cut [49] from 20 to 49 (fun v49 wc => ∃ (kq : Nat) (x49_10 : Bool), v49 = .bool x49_10 ∧ Aside0 (laws_FnStock.j1 kq t277 t280 x49_10 t288 t289 t290 t291 t292 t293 = some r) ∧ Aside0 (kq ≤ kj2) ∧ Aside0 (Kd.R k34 34 wc w.heap.size (fun _ => True) (.slice Ao13 t277.length co13) t277) ∧ Aside0 (Kd.R k38 38 wc w.heap.size (fun _ => True) (.slice Ao18 t293.length co18) t293) ∧ Aside0 (wc.heap[gb297]? = some (.cells (zs6 t288 t289 t290 t291 t292 (.slice Ao18 t293.length co18)) 29 (0, 0))) ∧ Aside0 (Below w.heap.size w wc))
   case first =>
    have H := HC11.out
    clear HC11
    by_cases c19 : t296 = 0
    rotate_left
    ·rw [if_neg c19] at H
     have c19b0 : (t296 == 0) = false := beq_eq_false_iff_ne.mpr c19
     have c19b1 : (t296 != 0) = true := bne_iff_ne.mpr c19
     (first | rw [c19b0] | (simp only [i64_w, i32_w]; rw [c19b0]) | skip)
     have H' := za H
     clear H
     go_wp2
     go_meet
     case rel => exact ⟨_, (true), zG68, H', ⟨by have := HJ2.out; first | omega | exact Nat.le_refl _⟩, ⟨by (with_reducible repeat (first | apply zj | apply zk | apply zl)); exact zn (zm (p := ⟨gb297, 5, none⟩) (zm (p := ⟨gb297, 4, none⟩) (zm (p := ⟨gb297, 3, none⟩) (zm (p := ⟨gb297, 2, none⟩) (zm (p := ⟨gb297, 1, none⟩) (zm (p := ⟨gb297, 0, none⟩) (zz HO279.out BK297.out zG70) (fun _ hk => hk.2) (.int .i64 t288)) (fun _ hk => hk.2) (.int .i64 t289)) (fun _ hk => hk.2) (.int .i64 t290)) (fun _ hk => hk.2) (.int .i64 t291)) (fun _ hk => hk.2) (.int .i64 t292)) (fun _ hk => hk.2) (.slice Ao18 t293.length co18)) (fun _ hk => trivial)⟩, ⟨by (with_reducible repeat (first | apply zj | apply zk | apply zl)); exact zn (zm (p := ⟨gb297, 5, none⟩) (zm (p := ⟨gb297, 4, none⟩) (zm (p := ⟨gb297, 3, none⟩) (zm (p := ⟨gb297, 2, none⟩) (zm (p := ⟨gb297, 1, none⟩) (zm (p := ⟨gb297, 0, none⟩) (zz HO295.out BK297.out zG70) (fun _ hk => hk.2) (.int .i64 t288)) (fun _ hk => hk.2) (.int .i64 t289)) (fun _ hk => hk.2) (.int .i64 t290)) (fun _ hk => hk.2) (.int .i64 t291)) (fun _ hk => hk.2) (.int .i64 t292)) (fun _ hk => hk.2) (.slice Ao18 t293.length co18)) (fun _ hk => trivial)⟩, ⟨by (with_reducible repeat (first | refine zc ?_ _ | refine ze ?_ | refine zb ?_ _)); refine zr (cs := (zs6 t288 t289 t290 t291 t292 (.slice none 0 0))) ?_ 5 _ rfl; (with_reducible repeat (first | refine zc ?_ _ | refine ze ?_ | refine zb ?_ _)); refine zr (cs := (zs6 t288 t289 t290 t291 0 (.slice none 0 0))) ?_ 4 _ rfl; (with_reducible repeat (first | refine zc ?_ _ | refine ze ?_ | refine zb ?_ _)); refine zr (cs := (zs6 t288 t289 t290 0 0 (.slice none 0 0))) ?_ 3 _ rfl; (with_reducible repeat (first | refine zc ?_ _ | refine ze ?_ | refine zb ?_ _)); refine zr (cs := (zs6 t288 t289 0 0 0 (.slice none 0 0))) ?_ 2 _ rfl; (with_reducible repeat (first | refine zc ?_ _ | refine ze ?_ | refine zb ?_ _)); refine zr (cs := (zs6 t288 0 0 0 0 (.slice none 0 0))) ?_ 1 _ rfl; (with_reducible repeat (first | refine zc ?_ _ | refine ze ?_ | refine zb ?_ _)); refine zr (cs := (zs6 0 0 0 0 0 (.slice none 0 0))) ?_ 0 _ rfl; (with_reducible repeat (first | refine zc ?_ _ | refine ze ?_ | refine zb ?_ _)); exact BK297.out⟩, ⟨zH46⟩⟩
    rw [if_pos c19] at H
    have c19b0 : (t296 == 0) = true := beq_iff_eq.mpr c19
    have c19b1 : (t296 != 0) = false := bne_eq_false_iff_eq.mpr c19
    clear c19
    (first | rw [c19b0] | (simp only [i64_w, i32_w]; rw [c19b0]) | skip)
    replace H := Option.bind_eq_some_iff.mp H
    obtain ⟨t298, A200, H⟩ := H
    replace H : (laws_FnStock.j1 kj2 t277 t280 (!t298) t288 t289 t290 t291 t292 t293) = some r := H
    have A20 := za A200
    clear A200
    have H' := za H
    clear H
    have hcz21_0 : w16.cell? ⟨gb297, 0, none⟩ = some (.int .i64 0) := (q8a BK297.out 0).trans rfl
    have hcz21_1 : w16.cell? ⟨gb297, 1, none⟩ = some (.int .i64 0) := (q8a BK297.out 1).trans rfl
    have hcz21_2 : w16.cell? ⟨gb297, 2, none⟩ = some (.int .i64 0) := (q8a BK297.out 2).trans rfl
    have hcz21_3 : w16.cell? ⟨gb297, 3, none⟩ = some (.int .i64 0) := (q8a BK297.out 3).trans rfl
    have hcz21_4 : w16.cell? ⟨gb297, 4, none⟩ = some (.int .i64 0) := (q8a BK297.out 4).trans rfl
    have hcz21_5 : w16.cell? ⟨gb297, 5, none⟩ = some (.slice none 0 0) := (q8a BK297.out 5).trans rfl
    have hfz21_0 := zd BK297.out 0
    have hfz21_1 := zd BK297.out 1
    have hfz21_2 := zd BK297.out 2
    have hfz21_3 := zd BK297.out 3
    have hfz21_4 := zd BK297.out 4
    have hfz21_5 := zd BK297.out 5
    go_wp2_with (first | (go_at_call 8; (with_reducible refine (laws_balanced.calls kj2 t288 t289 t290 t291 t292 _ _ t293 t298 _ ?side1 ?side2 A20.out).mono ?_); (case side1 => refine (zy (e := 38) (base := w.heap.size) (ok := fun k_ => True) (n := t293.length) (c := co18) ?_).2.2; exact zK97); (case side2 => exact (zy HO295.out).2.1); rintro e w22 ⟨rfl, hb⟩; have n_ := zA_ (za (zt (by (with_reducible repeat (first | apply zj | apply zk | apply zl)); exact (zn (zm (p := ⟨gb297, 5, none⟩) (zm (p := ⟨gb297, 4, none⟩) (zm (p := ⟨gb297, 3, none⟩) (zm (p := ⟨gb297, 2, none⟩) (zm (p := ⟨gb297, 1, none⟩) (zm (p := ⟨gb297, 0, none⟩) (zz HO279.out BK297.out zG70) (fun _ hk => hk.2) (.int .i64 t288)) (fun _ hk => hk.2) (.int .i64 t289)) (fun _ hk => hk.2) (.int .i64 t290)) (fun _ hk => hk.2) (.int .i64 t291)) (fun _ hk => hk.2) (.int .i64 t292)) (fun _ hk => hk.2) (.slice Ao18 t293.length co18)) (fun _ h_ => h_.1))) hb)) (zA_ (za (zt (by (with_reducible repeat (first | apply zj | apply zk | apply zl)); exact (zn (zm (p := ⟨gb297, 5, none⟩) (zm (p := ⟨gb297, 4, none⟩) (zm (p := ⟨gb297, 3, none⟩) (zm (p := ⟨gb297, 2, none⟩) (zm (p := ⟨gb297, 1, none⟩) (zm (p := ⟨gb297, 0, none⟩) (zz HO287.out BK297.out zG70) (fun _ hk => hk.2) (.int .i64 t288)) (fun _ hk => hk.2) (.int .i64 t289)) (fun _ hk => hk.2) (.int .i64 t290)) (fun _ hk => hk.2) (.int .i64 t291)) (fun _ hk => hk.2) (.int .i64 t292)) (fun _ hk => hk.2) (.slice Ao18 t293.length co18)) (fun _ h_ => h_.1))) hb)) (zA_ (za (zt zK97 hb)) (zA_ (za (zq (g := gb297) (o := .cells (zs6 t288 t289 t290 t291 t292 (.slice Ao18 t293.length co18)) 29 (0, 0)) (by (with_reducible repeat (first | refine zc ?_ _ | refine ze ?_ | refine zb ?_ _)); refine zr (cs := (zs6 t288 t289 t290 t291 t292 (.slice none 0 0))) ?_ 5 _ rfl; (with_reducible repeat (first | refine zc ?_ _ | refine ze ?_ | refine zb ?_ _)); refine zr (cs := (zs6 t288 t289 t290 t291 0 (.slice none 0 0))) ?_ 4 _ rfl; (with_reducible repeat (first | refine zc ?_ _ | refine ze ?_ | refine zb ?_ _)); refine zr (cs := (zs6 t288 t289 t290 0 0 (.slice none 0 0))) ?_ 3 _ rfl; (with_reducible repeat (first | refine zc ?_ _ | refine ze ?_ | refine zb ?_ _)); refine zr (cs := (zs6 t288 t289 0 0 0 (.slice none 0 0))) ?_ 2 _ rfl; (with_reducible repeat (first | refine zc ?_ _ | refine ze ?_ | refine zb ?_ _)); refine zr (cs := (zs6 t288 0 0 0 0 (.slice none 0 0))) ?_ 1 _ rfl; (with_reducible repeat (first | refine zc ?_ _ | refine ze ?_ | refine zb ?_ _)); refine zr (cs := (zs6 0 0 0 0 0 (.slice none 0 0))) ?_ 0 _ rfl; (with_reducible repeat (first | refine zc ?_ _ | refine ze ?_ | refine zb ?_ _)); exact BK297.out) hb)) (za (zu zK131 hb))))); clear HO279 HO287 HO295 BK297 HB; obtain ⟨HO279, HO287, HO295, BK297, HB⟩ := n_; (try clear hb); (try clear hk)))
    go_meet
    case rel => exact ⟨_, (!t298), zG68, H', ⟨by have := HJ2.out; first | omega | exact Nat.le_refl _⟩, ⟨by (with_reducible repeat (first | apply zj | apply zk | apply zl)); exact HO279.out⟩, ⟨by (with_reducible repeat (first | apply zj | apply zk | apply zl)); exact HO295.out⟩, ⟨zH68⟩, ⟨zH46⟩⟩
   case rest =>
    clear HC11
    try clear c1
    try clear c4
    try clear c4b0
    try clear c4b1
    try clear c5
    try clear c8
    try clear c8b0
    try clear c8b1
    try clear c9
    try clear c9b0
    try clear c9b1
    try clear q14
    try clear c19
    try clear c19b0
    try clear c19b1
    try clear hcz17_0
    try clear hcz17_1
    try clear hcz17_2
    try clear hcz17_3
    try clear hcz17_4
    try clear hcz17_5
    try clear hcz21_0
    try clear hcz21_1
    try clear hcz21_2
    try clear hcz21_3
    try clear hcz21_4
    try clear hcz21_5
    try clear hfz17_0
    try clear hfz17_1
    try clear hfz17_2
    try clear hfz17_3
    try clear hfz17_4
    try clear hfz17_5
    try clear hfz21_0
    try clear hfz21_1
    try clear hfz21_2
    try clear hfz21_3
    try clear hfz21_4
    try clear hfz21_5
    try clear q14
    obtain ⟨kq, x49_10, rfl, HA, HJ10, HO_5, HO_298005, BK297, HB⟩ := hcut
    cases kq with
    | zero => exact absurd HA.out (by simp [laws_FnStock.j1])
    | succ kj10 =>
     have H := HA.out
     clear HA
     simp only [laws_FnStock.j1] at H
     by_cases c23 : x49_10 = true
     ·subst c23
      have H1 : (some false) = some r := by rw [if_pos rfl] at H; exact H
      clear H
      have H := H1
      clear H1
      obtain rfl := Option.some.inj H
      go_wp2
      go_ret
      exact zH22
     replace c23 := Bool.eq_false_iff.mpr c23
     subst c23
     have H1 : (if t280 = (t277.length : Int) then (some true) else (if 0 ≤ (wrap64 (t280 + 1)) then (if (wrap64 (t280 + 1)) ≤ (t277.length : Int) then ((impl_StockRun.f kj10 (t277.take ((wrap64 (t280 + 1)) : Int).toNat)).bind fun bt303 => (if bt303.2.2.2.2.2.2.2 = 0 then ((laws_balanced.f kj10 bt303.2.1 bt303.2.2.1 bt303.2.2.2.1 bt303.2.2.2.2.1 bt303.2.2.2.2.2.1 bt303.2.2.2.2.2.2.1).bind fun t316 => (if t316 = true then (laws_FnStock.j2 kj10 t277 t280 bt303.1 ((bt303.1.length : Int) != (wrap64 (t280 + 1))) t288 t289 t290 t291 t292 t293 bt303.2.1 bt303.2.2.1 bt303.2.2.2.1 bt303.2.2.2.2.1 bt303.2.2.2.2.2.1 bt303.2.2.2.2.2.2.1) else (laws_FnStock.j2 kj10 t277 t280 bt303.1 true t288 t289 t290 t291 t292 t293 bt303.2.1 bt303.2.2.1 bt303.2.2.2.1 bt303.2.2.2.2.1 bt303.2.2.2.2.2.1 bt303.2.2.2.2.2.2.1))) else (laws_FnStock.j2 kj10 t277 t280 bt303.1 true t288 t289 t290 t291 t292 t293 bt303.2.1 bt303.2.2.1 bt303.2.2.2.1 bt303.2.2.2.2.1 bt303.2.2.2.2.2.1 bt303.2.2.2.2.2.2.1))) else (none)) else (none))) = some r := by rw [if_neg (show ¬ (false = true) by decide)] at H; exact H
     clear H
     have H := H1
     clear H1
     by_cases c24 : t280 = (t277.length : Int)
     ·rw [if_pos c24] at H
      have c24b0 : (t280 == (t277.length : Int)) = true := beq_iff_eq.mpr c24
      have c24b1 : (t280 != (t277.length : Int)) = false := bne_eq_false_iff_eq.mpr c24
      clear c24
      obtain rfl := Option.some.inj H
      go_wp2
      go_ret
      exact zH22
     rw [if_neg c24] at H
     have c24b0 : (t280 == (t277.length : Int)) = false := beq_eq_false_iff_ne.mpr c24
     have c24b1 : (t280 != (t277.length : Int)) = true := bne_iff_ne.mpr c24
     obtain ⟨ji25, hji25⟩ : ∃ j_ : Int, (wrap64 (t280 + 1)) = j_ := ⟨_, rfl⟩
     replace H : (if 0 ≤ (ji25) then (if (ji25) ≤ (t277.length : Int) then ((impl_StockRun.f kj10 (t277.take ((ji25) : Int).toNat)).bind fun bt303 => (if bt303.2.2.2.2.2.2.2 = 0 then ((laws_balanced.f kj10 bt303.2.1 bt303.2.2.1 bt303.2.2.2.1 bt303.2.2.2.2.1 bt303.2.2.2.2.2.1 bt303.2.2.2.2.2.2.1).bind fun t316 => (if t316 = true then (laws_FnStock.j2 kj10 t277 t280 bt303.1 ((bt303.1.length : Int) != (ji25)) t288 t289 t290 t291 t292 t293 bt303.2.1 bt303.2.2.1 bt303.2.2.2.1 bt303.2.2.2.2.1 bt303.2.2.2.2.2.1 bt303.2.2.2.2.2.2.1) else (laws_FnStock.j2 kj10 t277 t280 bt303.1 true t288 t289 t290 t291 t292 t293 bt303.2.1 bt303.2.2.1 bt303.2.2.2.1 bt303.2.2.2.2.1 bt303.2.2.2.2.2.1 bt303.2.2.2.2.2.2.1))) else (laws_FnStock.j2 kj10 t277 t280 bt303.1 true t288 t289 t290 t291 t292 t293 bt303.2.1 bt303.2.2.1 bt303.2.2.2.1 bt303.2.2.2.2.1 bt303.2.2.2.2.2.1 bt303.2.2.2.2.2.2.1))) else (none)) else (none)) = some r := by first | (rw [hji25] at H; exact H) | (simp only [hji25] at H ⊢; exact H)
     have hji25w : (IntKind.i64.wrap (t280 + 1)) = ji25 := (i64_w _).trans hji25
     by_cases c26 : 0 ≤ (ji25)
     rotate_left
     ·rw [if_neg c26] at H
      exact absurd H (by simp)
     rw [if_pos c26] at H
     have c26b0 := eq_true c26
     have c26b1 := decide_eq_true c26
     clear c26
     by_cases c27 : (ji25) ≤ (t277.length : Int)
     rotate_left
     ·rw [if_neg c27] at H
      exact absurd H (by simp)
     rw [if_pos c27] at H
     have c27b0 := eq_true c27
     have c27b1 := decide_eq_true c27
     clear c27
     obtain ⟨y299, hy299⟩ : ∃ y_ : List (S34), y_ = (t277.take ((ji25) : Int).toNat) := ⟨_, rfl⟩
     replace H : ((impl_StockRun.f kj10 y299).bind fun bt303 => (if bt303.2.2.2.2.2.2.2 = 0 then ((laws_balanced.f kj10 bt303.2.1 bt303.2.2.1 bt303.2.2.2.1 bt303.2.2.2.2.1 bt303.2.2.2.2.2.1 bt303.2.2.2.2.2.2.1).bind fun t316 => (if t316 = true then (laws_FnStock.j2 kj10 t277 t280 bt303.1 ((bt303.1.length : Int) != (ji25)) t288 t289 t290 t291 t292 t293 bt303.2.1 bt303.2.2.1 bt303.2.2.2.1 bt303.2.2.2.2.1 bt303.2.2.2.2.2.1 bt303.2.2.2.2.2.2.1) else (laws_FnStock.j2 kj10 t277 t280 bt303.1 true t288 t289 t290 t291 t292 t293 bt303.2.1 bt303.2.2.1 bt303.2.2.2.1 bt303.2.2.2.2.1 bt303.2.2.2.2.2.1 bt303.2.2.2.2.2.2.1))) else (laws_FnStock.j2 kj10 t277 t280 bt303.1 true t288 t289 t290 t291 t292 t293 bt303.2.1 bt303.2.2.1 bt303.2.2.2.1 bt303.2.2.2.2.1 bt303.2.2.2.2.2.1 bt303.2.2.2.2.2.2.1))) = some r := by first | (rw [hy299]; with_reducible exact H) | (have H2_ := (Option.bind_some _ _).symm.trans H; rw [hy299]; with_reducible exact H2_) | (have H2_ := (Option.bind_some _ _).symm.trans H; with_reducible exact H2_) | with_reducible exact H | (rw [hy299]; exact H) | exact H
     have Ny299 := za hy299
     clear hy299
     replace H := Option.bind_eq_some_iff.mp H
     obtain ⟨⟨t303, t306, t307, t308, t309, t310, t311, t314⟩, A280, H⟩ := H
     replace H : (if t314 = 0 then ((laws_balanced.f kj10 t306 t307 t308 t309 t310 t311).bind fun t316 => (if t316 = true then (laws_FnStock.j2 kj10 t277 t280 t303 ((t303.length : Int) != (ji25)) t288 t289 t290 t291 t292 t293 t306 t307 t308 t309 t310 t311) else (laws_FnStock.j2 kj10 t277 t280 t303 true t288 t289 t290 t291 t292 t293 t306 t307 t308 t309 t310 t311))) else (laws_FnStock.j2 kj10 t277 t280 t303 true t288 t289 t290 t291 t292 t293 t306 t307 t308 t309 t310 t311)) = some r := H
     obtain ⟨A28, HC29⟩ := zD2 A280 H
     clear A280 H
     have q30 : ((ji25) : Int) ≤ ((t277.length : Int) : Int) := zO
     obtain ⟨i030, hi030, _, hsz30, _⟩ := info_parts info34
     have hroom30 : t277.length ≤ co13 := (zy HO_5.out).2.1
     have hC30 : Kd.C k34 _ Ao13 t277.length t277 := (zy HO_5.out).2.2
     have hcut30 := cut_to (P := Try.prog) 23 34 .i64 Try.underlying23 hi030 Ao13 t277.length co13 (ji25) zO q30 hroom30
     have hr30 := Kd.C_take (m := ((ji25) : Int).toNat) hC30 (by omega)
     have hy30 : y299.length = ((ji25) : Int).toNat := (by rw [Ny299.out, List.length_take]; omega)
     rw [← Ny299.out] at hr30
     rw [← hy30] at hcut30
     obtain ⟨HR302, HC302, KY30, KL30⟩ := zD4 hr30 (show y299.length ≤ co13 from by omega) hy30 (show ((ji25) : Int).toNat ≤ t277.length from by omega)
     clear hr30 hC30 hroom30 hi030 hsz30 hy30
     replace q30 := eq_true q30
     go_upto_region 11 with (first | ((with_reducible refine gate_callee (f := 7) rfl ?_); refine goesL_ (some 59) rfl rfl Try.func7 zG69 rfl #[.slice Ao13 y299.length co13] rfl zG56 ?_; (with_reducible refine (impl_StockRun.calls kj10 _ _ y299 t303 t306 t307 t308 t309 t310 t311 t314 _ ?side1 ?side2 A28.out).mono ?_); (case side1 => repeat (first | exact zK121 | (with_reducible refine zad ?_ _) | (with_reducible refine zae ?_ _) | (with_reducible refine zaf ?_))); (case side2 => exact HC302.out); rintro e w31 ⟨v304, v312, rfl, ho0, ho1, hb⟩; refine ⟨_, rfl, ?_⟩; have n_ := zA_ (za (zt zK154 hb)) (zA_ (za (zag zK146 (zaj ho1) hb)) (zA_ (za (zah ho0 (zv zK131))) (zA_ (za (zah (Kd.R_new' ho1 (Kd.R_lt zK146)) (zv zK131))) (zA_ (za (zq (g := gb297) (o := .cells (zs6 t288 t289 t290 t291 t292 (.slice Ao18 t293.length co18)) 29 (0, 0)) zG60 hb)) (zA_ (za (zao zK121 hb)) (za (zu zK131 hb))))))); clear HO_5 HO_298005 BK297 HR302 HB; obtain ⟨HO_5, HO_298005, HO305, HO313, BK297, HR302, HB⟩ := n_; (try clear hb); (try clear ho0); (try clear ho1)) | ((with_reducible refine gate_dst (N := 11) rfl ?_); (try (refine gate_guard (by rfl) ?_; dsimp only)); refine box_event ?hg (N := 11) ?hd (cs := (zs6 0 0 0 0 0 (.slice none 0 0))) (t := 29) ?hr ?_; (case hd => rfl); (case hg => rfl); (case hr => exact zH81); intro gb315 hg w32 hbox hb; have n_ := zA_ (za (zt zK154 hb)) (zA_ (za (zt zK146 hb)) (zA_ (za (zt (by (with_reducible repeat (first | apply zj | apply zk | apply zl)); exact HO305.out) hb)) (zA_ (za (zt (by (with_reducible repeat (first | apply zj | apply zk | apply zl)); exact HO313.out) hb)) (zA_ (za (zq (g := gb297) (o := .cells (zs6 t288 t289 t290 t291 t292 (.slice Ao18 t293.length co18)) 29 (0, 0)) zG60 hb)) (zA_ (za (zao zK121 hb)) (zA_ (za (zu zK131 hb)) (zA_ (za (hbox)) (zA_ (zN1 w.heap.size hg (zv zK131)) (zA_ (zN1 w.heap.size hg (zv zK131)) (zN2 hg (zx (g := gb297) (o := .cells (zs6 t288 t289 t290 t291 t292 (.slice Ao18 t293.length co18)) 29 (0, 0)) zG60))))))))))); clear HO_5 HO_298005 HO305 HO313 BK297 HR302 HB; obtain ⟨HO_5, HO_298005, HO305, HO313, BK297, HR302, HB, BK315, GW315, GE315, NB297_315, NB315_297⟩ := n_; clear hb hbox hg; have hnb33 := NB315_297.out; have hnc33 := NB297_315.out; have hcz34_0 : w32.cell? ⟨gb315, 0, none⟩ = some (.int .i64 0) := (q8a BK315.out 0).trans rfl; have hcz34_1 : w32.cell? ⟨gb315, 1, none⟩ = some (.int .i64 0) := (q8a BK315.out 1).trans rfl; have hcz34_2 : w32.cell? ⟨gb315, 2, none⟩ = some (.int .i64 0) := (q8a BK315.out 2).trans rfl; have hcz34_3 : w32.cell? ⟨gb315, 3, none⟩ = some (.int .i64 0) := (q8a BK315.out 3).trans rfl; have hcz34_4 : w32.cell? ⟨gb315, 4, none⟩ = some (.int .i64 0) := (q8a BK315.out 4).trans rfl; have hcz34_5 : w32.cell? ⟨gb315, 5, none⟩ = some (.slice none 0 0) := (q8a BK315.out 5).trans rfl; have hfz34_0 := zd BK315.out 0; have hfz34_1 := zd BK315.out 1; have hfz34_2 := zd BK315.out 2; have hfz34_3 := zd BK315.out 3; have hfz34_4 := zd BK315.out 4; have hfz34_5 := zd BK315.out 5; obtain ⟨Ao35, co35, eo35⟩ := zab HO313.out; subst eo35))
     (try simp only [Act.put, List.setIfInBounds_toArray, List.set_cons_zero, List.set_cons_succ])
     go_cut [76] from 20 to 76 (fun v76 wc => ∃ (kq : Nat) (x76_28 : Bool), v76 = .bool x76_28 ∧ Aside0 (laws_FnStock.j2 kq t277 t280 t303 x76_28 t288 t289 t290 t291 t292 t293 t306 t307 t308 t309 t310 t311 = some r) ∧ Aside0 (kq ≤ kj10) ∧ Aside0 (Kd.R k34 34 wc w.heap.size (fun _ => True) (.slice Ao13 t277.length co13) t277) ∧ Aside0 (Kd.R k36 36 wc w.heap.size (fun _ => True) v304 t303) ∧ Aside0 (Kd.R k38 38 wc w.heap.size (fun k_ => some k_ ≠ ((.slice Ao35 t311.length co35) : Value).ownBlock) (.slice Ao18 t293.length co18) t293) ∧ Aside0 (Kd.R k38 38 wc w.heap.size (fun k_ => some k_ ≠ ((.slice Ao18 t293.length co18) : Value).ownBlock) (.slice Ao35 t311.length co35) t311) ∧ Aside0 (wc.heap[gb297]? = some (.cells (zs6 t288 t289 t290 t291 t292 (.slice Ao18 t293.length co18)) 29 (0, 0))) ∧ Aside0 (wc.heap[gb315]? = some (.cells (zs6 t306 t307 t308 t309 t310 (.slice Ao35 t311.length co35)) 29 (0, 0))) ∧ Aside0 (Below w.heap.size w wc))
     case first =>
      have H := HC29.out
      clear HC29
      by_cases c36 : t314 = 0
      rotate_left
      ·rw [if_neg c36] at H
       have c36b0 : (t314 == 0) = false := beq_eq_false_iff_ne.mpr c36
       have c36b1 : (t314 != 0) = true := bne_iff_ne.mpr c36
       (first | rw [c36b0] | (simp only [i64_w, i32_w]; rw [c36b0]) | skip)
       have H' := za H
       clear H
       go_wp2
       go_meet
       case rel => exact ⟨_, (true), zG68, H', ⟨zH75⟩, ⟨by (with_reducible repeat (first | apply zj | apply zk | apply zl)); exact zn (zm (p := ⟨gb315, 5, none⟩) (zm (p := ⟨gb315, 4, none⟩) (zm (p := ⟨gb315, 3, none⟩) (zm (p := ⟨gb315, 2, none⟩) (zm (p := ⟨gb315, 1, none⟩) (zm (p := ⟨gb315, 0, none⟩) (zz HO_5.out BK315.out zG70) (fun _ hk => hk.2) (.int .i64 t306)) (fun _ hk => hk.2) (.int .i64 t307)) (fun _ hk => hk.2) (.int .i64 t308)) (fun _ hk => hk.2) (.int .i64 t309)) (fun _ hk => hk.2) (.int .i64 t310)) (fun _ hk => hk.2) (.slice Ao35 t311.length co35)) (fun _ hk => trivial)⟩, ⟨by (with_reducible repeat (first | apply zj | apply zk | apply zl)); exact zn (zm (p := ⟨gb315, 5, none⟩) (zm (p := ⟨gb315, 4, none⟩) (zm (p := ⟨gb315, 3, none⟩) (zm (p := ⟨gb315, 2, none⟩) (zm (p := ⟨gb315, 1, none⟩) (zm (p := ⟨gb315, 0, none⟩) (zz HO305.out BK315.out zG70) (fun _ hk => hk.2) (.int .i64 t306)) (fun _ hk => hk.2) (.int .i64 t307)) (fun _ hk => hk.2) (.int .i64 t308)) (fun _ hk => hk.2) (.int .i64 t309)) (fun _ hk => hk.2) (.int .i64 t310)) (fun _ hk => hk.2) (.slice Ao35 t311.length co35)) (fun _ hk => trivial)⟩, ⟨by (with_reducible repeat (first | apply zj | apply zk | apply zl)); exact zn (zm (p := ⟨gb315, 5, none⟩) (zm (p := ⟨gb315, 4, none⟩) (zm (p := ⟨gb315, 3, none⟩) (zm (p := ⟨gb315, 2, none⟩) (zm (p := ⟨gb315, 1, none⟩) (zm (p := ⟨gb315, 0, none⟩) (zz HO_298005.out BK315.out zG70) (fun _ hk => hk.2) (.int .i64 t306)) (fun _ hk => hk.2) (.int .i64 t307)) (fun _ hk => hk.2) (.int .i64 t308)) (fun _ hk => hk.2) (.int .i64 t309)) (fun _ hk => hk.2) (.int .i64 t310)) (fun _ hk => hk.2) (.slice Ao35 t311.length co35)) (fun _ hk => hk.1.2)⟩, ⟨by (with_reducible repeat (first | apply zj | apply zk | apply zl)); exact zn (zm (p := ⟨gb315, 5, none⟩) (zm (p := ⟨gb315, 4, none⟩) (zm (p := ⟨gb315, 3, none⟩) (zm (p := ⟨gb315, 2, none⟩) (zm (p := ⟨gb315, 1, none⟩) (zm (p := ⟨gb315, 0, none⟩) (zz HO313.out BK315.out zG70) (fun _ hk => hk.2) (.int .i64 t306)) (fun _ hk => hk.2) (.int .i64 t307)) (fun _ hk => hk.2) (.int .i64 t308)) (fun _ hk => hk.2) (.int .i64 t309)) (fun _ hk => hk.2) (.int .i64 t310)) (fun _ hk => hk.2) (.slice Ao35 t311.length co35)) (fun _ hk => hk.1.2)⟩, ⟨by (with_reducible repeat (first | refine zc ?_ _ | refine ze ?_ | refine zb ?_ _)); refine zp ?_ NB297_315.out _; (with_reducible repeat (first | refine zc ?_ _ | refine ze ?_ | refine zb ?_ _)); refine zp ?_ NB297_315.out _; (with_reducible repeat (first | refine zc ?_ _ | refine ze ?_ | refine zb ?_ _)); refine zp ?_ NB297_315.out _; (with_reducible repeat (first | refine zc ?_ _ | refine ze ?_ | refine zb ?_ _)); refine zp ?_ NB297_315.out _; (with_reducible repeat (first | refine zc ?_ _ | refine ze ?_ | refine zb ?_ _)); refine zp ?_ NB297_315.out _; (with_reducible repeat (first | refine zc ?_ _ | refine ze ?_ | refine zb ?_ _)); refine zp ?_ NB297_315.out _; (with_reducible repeat (first | refine zc ?_ _ | refine ze ?_ | refine zb ?_ _)); exact BK297.out⟩, ⟨by (with_reducible repeat (first | refine zc ?_ _ | refine ze ?_ | refine zb ?_ _)); refine zr (cs := (zs6 t306 t307 t308 t309 t310 (.slice none 0 0))) ?_ 5 _ rfl; (with_reducible repeat (first | refine zc ?_ _ | refine ze ?_ | refine zb ?_ _)); refine zr (cs := (zs6 t306 t307 t308 t309 0 (.slice none 0 0))) ?_ 4 _ rfl; (with_reducible repeat (first | refine zc ?_ _ | refine ze ?_ | refine zb ?_ _)); refine zr (cs := (zs6 t306 t307 t308 0 0 (.slice none 0 0))) ?_ 3 _ rfl; (with_reducible repeat (first | refine zc ?_ _ | refine ze ?_ | refine zb ?_ _)); refine zr (cs := (zs6 t306 t307 0 0 0 (.slice none 0 0))) ?_ 2 _ rfl; (with_reducible repeat (first | refine zc ?_ _ | refine ze ?_ | refine zb ?_ _)); refine zr (cs := (zs6 t306 0 0 0 0 (.slice none 0 0))) ?_ 1 _ rfl; (with_reducible repeat (first | refine zc ?_ _ | refine ze ?_ | refine zb ?_ _)); refine zr (cs := (zs6 0 0 0 0 0 (.slice none 0 0))) ?_ 0 _ rfl; (with_reducible repeat (first | refine zc ?_ _ | refine ze ?_ | refine zb ?_ _)); exact BK315.out⟩, ⟨zH37⟩⟩
      rw [if_pos c36] at H
      have c36b0 : (t314 == 0) = true := beq_iff_eq.mpr c36
      have c36b1 : (t314 != 0) = false := bne_eq_false_iff_eq.mpr c36
      clear c36
      (first | rw [c36b0] | (simp only [i64_w, i32_w]; rw [c36b0]) | skip)
      replace H := Option.bind_eq_some_iff.mp H
      obtain ⟨t316, A370, H⟩ := H
      replace H : (if t316 = true then (laws_FnStock.j2 kj10 t277 t280 t303 ((t303.length : Int) != (ji25)) t288 t289 t290 t291 t292 t293 t306 t307 t308 t309 t310 t311) else (laws_FnStock.j2 kj10 t277 t280 t303 true t288 t289 t290 t291 t292 t293 t306 t307 t308 t309 t310 t311)) = some r := H
      have A37 := za A370
      clear A370
      by_cases c38 : t316 = true
      ·subst c38
       have H1 : (laws_FnStock.j2 kj10 t277 t280 t303 ((t303.length : Int) != (ji25)) t288 t289 t290 t291 t292 t293 t306 t307 t308 t309 t310 t311) = some r := by rw [if_pos rfl] at H; exact H
       clear H
       have H := H1
       clear H1
       have H' := za H
       clear H
       have hnb39 := NB315_297.out
       have hnc39 := NB297_315.out
       have hcz40_0 : w32.cell? ⟨gb315, 0, none⟩ = some (.int .i64 0) := (q8a BK315.out 0).trans rfl
       have hcz40_1 : w32.cell? ⟨gb315, 1, none⟩ = some (.int .i64 0) := (q8a BK315.out 1).trans rfl
       have hcz40_2 : w32.cell? ⟨gb315, 2, none⟩ = some (.int .i64 0) := (q8a BK315.out 2).trans rfl
       have hcz40_3 : w32.cell? ⟨gb315, 3, none⟩ = some (.int .i64 0) := (q8a BK315.out 3).trans rfl
       have hcz40_4 : w32.cell? ⟨gb315, 4, none⟩ = some (.int .i64 0) := (q8a BK315.out 4).trans rfl
       have hcz40_5 : w32.cell? ⟨gb315, 5, none⟩ = some (.slice none 0 0) := (q8a BK315.out 5).trans rfl
       have hfz40_0 := zd BK315.out 0
       have hfz40_1 := zd BK315.out 1
       have hfz40_2 := zd BK315.out 2
       have hfz40_3 := zd BK315.out 3
       have hfz40_4 := zd BK315.out 4
       have hfz40_5 := zd BK315.out 5
       go_wp2_with (first | (go_at_call 8; (with_reducible refine (laws_balanced.calls kj10 t306 t307 t308 t309 t310 _ _ t311 true _ ?side1 ?side2 A37.out).mono ?_); (case side1 => exact zH2); (case side2 => exact (zy HO313.out).2.1); rintro e w41 ⟨rfl, hb⟩; have n_ := zA_ (za (zt zK100 hb)) (zA_ (za (zt zK96 hb)) (zA_ (za (zt zK98 hb)) (zA_ (za (zt zK99 hb)) (zA_ (za (zq (g := gb297) (o := .cells (zs6 t288 t289 t290 t291 t292 (.slice Ao18 t293.length co18)) 29 (0, 0)) zK89 hb)) (zA_ (za (zq (g := gb315) (o := .cells (zs6 t306 t307 t308 t309 t310 (.slice Ao35 t311.length co35)) 29 (0, 0)) zK84 hb)) (za (zu zK123 hb))))))); clear HO_5 HO_298005 HO305 HO313 BK297 BK315 HB; obtain ⟨HO_5, HO_298005, HO305, HO313, BK297, BK315, HB⟩ := n_; (try clear hb); (try clear hk); obtain ⟨Ao42, co42, eo42⟩ := zab HO305.out; subst eo42))
       go_meet
       case rel => exact ⟨_, (((t303.length : Int) != (ji25))), (by first | rfl | (simp; done) | (simp only [← hji25] <;> (first | rfl | simp)) | (simp [*]; done)), H', ⟨zH75⟩, ⟨by (with_reducible repeat (first | apply zj | apply zk | apply zl)); exact HO_5.out⟩, ⟨by (with_reducible repeat (first | apply zj | apply zk | apply zl)); exact HO305.out⟩, ⟨zH54⟩, ⟨zH59⟩, ⟨zH68⟩, ⟨zH67⟩, ⟨zH37⟩⟩
      replace c38 := Bool.eq_false_iff.mpr c38
      subst c38
      have H1 : (laws_FnStock.j2 kj10 t277 t280 t303 true t288 t289 t290 t291 t292 t293 t306 t307 t308 t309 t310 t311) = some r := by rw [if_neg (show ¬ (false = true) by decide)] at H; exact H
      clear H
      have H := H1
      clear H1
      have H' := za H
      clear H
      have hnb43 := NB315_297.out
      have hnc43 := NB297_315.out
      have hcz44_0 : w32.cell? ⟨gb315, 0, none⟩ = some (.int .i64 0) := (q8a BK315.out 0).trans rfl
      have hcz44_1 : w32.cell? ⟨gb315, 1, none⟩ = some (.int .i64 0) := (q8a BK315.out 1).trans rfl
      have hcz44_2 : w32.cell? ⟨gb315, 2, none⟩ = some (.int .i64 0) := (q8a BK315.out 2).trans rfl
      have hcz44_3 : w32.cell? ⟨gb315, 3, none⟩ = some (.int .i64 0) := (q8a BK315.out 3).trans rfl
      have hcz44_4 : w32.cell? ⟨gb315, 4, none⟩ = some (.int .i64 0) := (q8a BK315.out 4).trans rfl
      have hcz44_5 : w32.cell? ⟨gb315, 5, none⟩ = some (.slice none 0 0) := (q8a BK315.out 5).trans rfl
      have hfz44_0 := zd BK315.out 0
      have hfz44_1 := zd BK315.out 1
      have hfz44_2 := zd BK315.out 2
      have hfz44_3 := zd BK315.out 3
      have hfz44_4 := zd BK315.out 4
      have hfz44_5 := zd BK315.out 5
      go_wp2_with (first | (go_at_call 8; (with_reducible refine (laws_balanced.calls kj10 t306 t307 t308 t309 t310 _ _ t311 false _ ?side1 ?side2 A37.out).mono ?_); (case side1 => exact zH2); (case side2 => exact (zy HO313.out).2.1); rintro e w45 ⟨rfl, hb⟩; have n_ := zA_ (za (zt zK100 hb)) (zA_ (za (zt zK96 hb)) (zA_ (za (zt zK98 hb)) (zA_ (za (zt zK99 hb)) (zA_ (za (zq (g := gb297) (o := .cells (zs6 t288 t289 t290 t291 t292 (.slice Ao18 t293.length co18)) 29 (0, 0)) zK89 hb)) (zA_ (za (zq (g := gb315) (o := .cells (zs6 t306 t307 t308 t309 t310 (.slice Ao35 t311.length co35)) 29 (0, 0)) zK84 hb)) (za (zu zK123 hb))))))); clear HO_5 HO_298005 HO305 HO313 BK297 BK315 HB; obtain ⟨HO_5, HO_298005, HO305, HO313, BK297, BK315, HB⟩ := n_; (try clear hb); (try clear hk)))
      go_meet
      case rel => exact ⟨_, (true), zG68, H', ⟨zH75⟩, ⟨by (with_reducible repeat (first | apply zj | apply zk | apply zl)); exact HO_5.out⟩, ⟨by (with_reducible repeat (first | apply zj | apply zk | apply zl)); exact HO305.out⟩, ⟨zH54⟩, ⟨zH59⟩, ⟨zH68⟩, ⟨zH67⟩, ⟨zH37⟩⟩
     case rest =>
      clear HC29
      try clear c1
      try clear c4
      try clear c4b0
      try clear c4b1
      try clear c5
      try clear c8
      try clear c8b0
      try clear c8b1
      try clear c9
      try clear c9b0
      try clear c9b1
      try clear q14
      try clear c19
      try clear c19b0
      try clear c19b1
      try clear c23
      try clear c24
      try clear c24b0
      try clear c24b1
      try clear c26
      try clear c26b0
      try clear c26b1
      try clear c27
      try clear c27b0
      try clear c27b1
      try clear q30
      try clear c36
      try clear c36b0
      try clear c36b1
      try clear c38
      try clear hcz17_0
      try clear hcz17_1
      try clear hcz17_2
      try clear hcz17_3
      try clear hcz17_4
      try clear hcz17_5
      try clear hcz21_0
      try clear hcz21_1
      try clear hcz21_2
      try clear hcz21_3
      try clear hcz21_4
      try clear hcz21_5
      try clear hcz34_0
      try clear hcz34_1
      try clear hcz34_2
      try clear hcz34_3
      try clear hcz34_4
      try clear hcz34_5
      try clear hcz40_0
      try clear hcz40_1
      try clear hcz40_2
      try clear hcz40_3
      try clear hcz40_4
      try clear hcz40_5
      try clear hcz44_0
      try clear hcz44_1
      try clear hcz44_2
      try clear hcz44_3
      try clear hcz44_4
      try clear hcz44_5
      try clear hfz17_0
      try clear hfz17_1
      try clear hfz17_2
      try clear hfz17_3
      try clear hfz17_4
      try clear hfz17_5
      try clear hfz21_0
      try clear hfz21_1
      try clear hfz21_2
      try clear hfz21_3
      try clear hfz21_4
      try clear hfz21_5
      try clear hfz34_0
      try clear hfz34_1
      try clear hfz34_2
      try clear hfz34_3
      try clear hfz34_4
      try clear hfz34_5
      try clear hfz40_0
      try clear hfz40_1
      try clear hfz40_2
      try clear hfz40_3
      try clear hfz40_4
      try clear hfz40_5
      try clear hfz44_0
      try clear hfz44_1
      try clear hfz44_2
      try clear hfz44_3
      try clear hfz44_4
      try clear hfz44_5
      try clear q14
      try clear q30
      obtain ⟨kq, x76_28, rfl, HA, HJ28, HO_5, HO_10, HO_298005, HO_316005, BK297, BK315, HB⟩ := hcut
      cases kq with
      | zero => exact absurd HA.out (by simp [laws_FnStock.j2])
      | succ kj28 =>
       have H := HA.out
       clear HA
       simp only [laws_FnStock.j2] at H
       by_cases c46 : x76_28 = true
       ·subst c46
        have H1 : (some false) = some r := by rw [if_pos rfl] at H; exact H
        clear H
        have H := H1
        clear H1
        obtain rfl := Option.some.inj H
        go_wp2
        go_ret
        exact ⟨zH29, zH37⟩
       replace c46 := Bool.eq_false_iff.mpr c46
       subst c46
       have H1 : (if 0 ≤ t280 then (if t280 < (t277.length : Int) then (if ((rd_T34 t277 t280).f0) = 2 then (if t280 < (t303.length : Int) then (laws_FnStock.j3 kj28 (((rd_T36 t303 t280).f0) != 0) t288 t289 t290 t291 t292 t293 t306 t307 t308 t309 t310 t311 ((rd_T34 t277 t280).f0) ((rd_T34 t277 t280).f1) ((rd_T34 t277 t280).f2) ((rd_T34 t277 t280).f3) ((rd_T34 t277 t280).f4)) else (none)) else (laws_FnStock.j3 kj28 true t288 t289 t290 t291 t292 t293 t306 t307 t308 t309 t310 t311 ((rd_T34 t277 t280).f0) ((rd_T34 t277 t280).f1) ((rd_T34 t277 t280).f2) ((rd_T34 t277 t280).f3) ((rd_T34 t277 t280).f4))) else (none)) else (none)) = some r := by rw [if_neg (show ¬ (false = true) by decide)] at H; exact H
       clear H
       have H := H1
       clear H1
       by_cases c47 : 0 ≤ t280
       rotate_left
       ·rw [if_neg c47] at H
        exact absurd H (by simp)
       rw [if_pos c47] at H
       have c47b0 := decide_eq_true c47
       clear c47
       by_cases c48 : t280 < (t277.length : Int)
       rotate_left
       ·rw [if_neg c48] at H
        exact absurd H (by simp)
       rw [if_pos c48] at H
       have c48b0 := decide_eq_true c48
       clear c48
       have HC49 := za H
       clear H
       have p317 : 0 ≤ (t280 : Int) := zO
       have q317 : t280 < (t277.length : Int) := zO
       obtain ⟨ad317, e317, hx317_0, hx317_1, hx317_2, hx317_3, hx317_4⟩ := at_T34 (zy HO_5.out).2.2 t280 p317 q317
       cases e317
       replace p317 := eq_true p317
       replace q317 := eq_true q317
       go_upto_region 14 with (first | ((with_reducible refine gate_dst (N := 13) rfl ?_); (try (refine gate_guard (by rfl) ?_; dsimp only)); refine box_event ?hg (N := 13) ?hd (cs := (za5 0 (⟨#[]⟩ : ByteArray) 0 0 0)) (t := 34) ?hr ?_; (case hd => rfl); (case hg => rfl); (case hr => exact zH81); intro gb318 hg w50 hbox hb; have n_ := zA_ (za (zt (zn (zac zK154 gb318 (Nat.le_of_eq hg.symm)) (fun _ h_ => h_.2)) hb)) (zA_ (za (zt (by (with_reducible repeat (first | apply zj | apply zk | apply zl)); exact HO_10.out) hb)) (zA_ (za (zt zK146 hb)) (zA_ (za (zt zK147 hb)) (zA_ (za (zq (g := gb297) (o := .cells (zs6 t288 t289 t290 t291 t292 (.slice Ao18 t293.length co18)) 29 (0, 0)) zG60 hb)) (zA_ (za (zq (g := gb315) (o := .cells (zs6 t306 t307 t308 t309 t310 (.slice Ao35 t311.length co35)) 29 (0, 0)) zG61 hb)) (zA_ (za (zu zK123 hb)) (zA_ (za (hbox)) (zA_ (zN1 w.heap.size hg (zv zK123)) (zA_ (zN1 w.heap.size hg (zv zK123)) (zN3 hg (zx (g := gb297) (o := .cells (zs6 t288 t289 t290 t291 t292 (.slice Ao18 t293.length co18)) 29 (0, 0)) zG60) (zN2 hg (zx (g := gb315) (o := .cells (zs6 t306 t307 t308 t309 t310 (.slice Ao35 t311.length co35)) 29 (0, 0)) zG61)))))))))))); clear HO_5 HO_10 HO_298005 HO_316005 BK297 BK315 HB; obtain ⟨HO_5, HO_10, HO_298005, HO_316005, BK297, BK315, HB, BK318, GW318, GE318, NB297_318, NB318_297, NB315_318, NB318_315⟩ := n_; clear hb hbox hg; have hnb51 := NB318_297.out; have hnc51 := NB297_318.out; have hnb52 := NB318_315.out; have hnc52 := NB315_318.out; have hcz53_0 : w50.cell? ⟨gb318, 0, none⟩ = some (.int .i64 0) := (q8a BK318.out 0).trans rfl; have hcz53_1 : w50.cell? ⟨gb318, 1, none⟩ = some (.string (⟨#[]⟩ : ByteArray)) := (q8a BK318.out 1).trans rfl; have hcz53_2 : w50.cell? ⟨gb318, 2, none⟩ = some (.int .i64 0) := (q8a BK318.out 2).trans rfl; have hcz53_3 : w50.cell? ⟨gb318, 3, none⟩ = some (.int .i64 0) := (q8a BK318.out 3).trans rfl; have hcz53_4 : w50.cell? ⟨gb318, 4, none⟩ = some (.int .i64 0) := (q8a BK318.out 4).trans rfl; have hfz53_0 := zd BK318.out 0; have hfz53_1 := zd BK318.out 1; have hfz53_2 := zd BK318.out 2; have hfz53_3 := zd BK318.out 3; have hfz53_4 := zd BK318.out 4))
       (try simp only [Act.put, List.setIfInBounds_toArray, List.set_cons_zero, List.set_cons_succ])
       go_cut [91] from 20 to 91 (fun v91 wc => ∃ (kq : Nat) (x91_48 : Bool), v91 = .bool x91_48 ∧ Aside0 (laws_FnStock.j3 kq x91_48 t288 t289 t290 t291 t292 t293 t306 t307 t308 t309 t310 t311 ((rd_T34 t277 t280).f0) ((rd_T34 t277 t280).f1) ((rd_T34 t277 t280).f2) ((rd_T34 t277 t280).f3) ((rd_T34 t277 t280).f4) = some r) ∧ Aside0 (kq ≤ kj28) ∧ Aside0 (Kd.R k38 38 wc w.heap.size (fun k_ => some k_ ≠ ((.slice Ao35 t311.length co35) : Value).ownBlock) (.slice Ao18 t293.length co18) t293) ∧ Aside0 (Kd.R k38 38 wc w.heap.size (fun k_ => some k_ ≠ ((.slice Ao18 t293.length co18) : Value).ownBlock) (.slice Ao35 t311.length co35) t311) ∧ Aside0 (wc.heap[gb297]? = some (.cells (zs6 t288 t289 t290 t291 t292 (.slice Ao18 t293.length co18)) 29 (0, 0))) ∧ Aside0 (wc.heap[gb315]? = some (.cells (zs6 t306 t307 t308 t309 t310 (.slice Ao35 t311.length co35)) 29 (0, 0))) ∧ Aside0 (wc.heap[gb318]? = some (.cells (za5 ((rd_T34 t277 t280).f0) ((rd_T34 t277 t280).f1) ((rd_T34 t277 t280).f2) ((rd_T34 t277 t280).f3) ((rd_T34 t277 t280).f4)) 34 (0, 0))) ∧ Aside0 (Below w.heap.size w wc))
       case first =>
        have H := HC49.out
        clear HC49
        by_cases c54 : ((rd_T34 t277 t280).f0) = 2
        rotate_left
        ·rw [if_neg c54] at H
         have c54b0 : (((rd_T34 t277 t280).f0) == 2) = false := beq_eq_false_iff_ne.mpr c54
         have c54b1 : (((rd_T34 t277 t280).f0) != 2) = true := bne_iff_ne.mpr c54
         (first | rw [c54b0] | (simp only [i64_w, i32_w]; rw [c54b0]) | skip)
         have H' := za H
         clear H
         have hnb60 := NB318_297.out
         have hnc60 := NB297_318.out
         have hnb61 := NB318_315.out
         have hnc61 := NB315_318.out
         have hcz62_0 : w50.cell? ⟨gb318, 0, none⟩ = some (.int .i64 0) := (q8a BK318.out 0).trans rfl
         have hcz62_1 : w50.cell? ⟨gb318, 1, none⟩ = some (.string (⟨#[]⟩ : ByteArray)) := (q8a BK318.out 1).trans rfl
         have hcz62_2 : w50.cell? ⟨gb318, 2, none⟩ = some (.int .i64 0) := (q8a BK318.out 2).trans rfl
         have hcz62_3 : w50.cell? ⟨gb318, 3, none⟩ = some (.int .i64 0) := (q8a BK318.out 3).trans rfl
         have hcz62_4 : w50.cell? ⟨gb318, 4, none⟩ = some (.int .i64 0) := (q8a BK318.out 4).trans rfl
         have hfz62_0 := zd BK318.out 0
         have hfz62_1 := zd BK318.out 1
         have hfz62_2 := zd BK318.out 2
         have hfz62_3 := zd BK318.out 3
         have hfz62_4 := zd BK318.out 4
         go_wp2
         go_meet
         case rel => exact ⟨_, (true), zG68, H', ⟨by have := HJ2.out; have := HJ10.out; have := HJ28.out; first | omega | exact Nat.le_refl _⟩, ⟨zH11⟩, ⟨zH12⟩, ⟨zH3⟩, ⟨zH4⟩, ⟨zH0⟩, ⟨zH26⟩⟩
        rw [if_pos c54] at H
        have c54b0 : (((rd_T34 t277 t280).f0) == 2) = true := beq_iff_eq.mpr c54
        have c54b1 : (((rd_T34 t277 t280).f0) != 2) = false := bne_eq_false_iff_eq.mpr c54
        clear c54
        (first | rw [c54b0] | (simp only [i64_w, i32_w]; rw [c54b0]) | skip)
        by_cases c55 : t280 < (t303.length : Int)
        rotate_left
        ·rw [if_neg c55] at H
         exact absurd H (by simp)
        rw [if_pos c55] at H
        have c55b0 := decide_eq_true c55
        clear c55
        have H' := za H
        clear H
        have hnb56 := NB318_297.out
        have hnc56 := NB297_318.out
        have hnb57 := NB318_315.out
        have hnc57 := NB315_318.out
        have hcz58_0 : w50.cell? ⟨gb318, 0, none⟩ = some (.int .i64 0) := (q8a BK318.out 0).trans rfl
        have hcz58_1 : w50.cell? ⟨gb318, 1, none⟩ = some (.string (⟨#[]⟩ : ByteArray)) := (q8a BK318.out 1).trans rfl
        have hcz58_2 : w50.cell? ⟨gb318, 2, none⟩ = some (.int .i64 0) := (q8a BK318.out 2).trans rfl
        have hcz58_3 : w50.cell? ⟨gb318, 3, none⟩ = some (.int .i64 0) := (q8a BK318.out 3).trans rfl
        have hcz58_4 : w50.cell? ⟨gb318, 4, none⟩ = some (.int .i64 0) := (q8a BK318.out 4).trans rfl
        have hfz58_0 := zd BK318.out 0
        have hfz58_1 := zd BK318.out 1
        have hfz58_2 := zd BK318.out 2
        have hfz58_3 := zd BK318.out 3
        have hfz58_4 := zd BK318.out 4
        obtain ⟨Ao59, co59, eo59⟩ := zab HO_10.out
        subst eo59
        have p319 : 0 ≤ (t280 : Int) := zO
        have q319 : t280 < (t303.length : Int) := zO
        obtain ⟨ad319, e319, hx319_0, hx319_1⟩ := at_T36 (zy HO_10.out).2.2 t280 p319 q319
        cases e319
        have hn319_0 : ad319.block ≠ gb318 := zaz (zai HO_10.out BK318.out zG70)
        have hn319_1 : ad319.block ≠ gb318 := zaz (zai HO_10.out BK318.out zG70)
        have hn319_2 : ad319.block ≠ gb318 := zaz (zai HO_10.out BK318.out zG70)
        have hn319_3 : ad319.block ≠ gb318 := zaz (zai HO_10.out BK318.out zG70)
        have hn319_4 : ad319.block ≠ gb318 := zaz (zai HO_10.out BK318.out zG70)
        replace hx319_0 := (cell_far (p := ⟨gb318, 0, none⟩) zK133 (.int .i64 ((rd_T34 t277 t280).f0))).trans hx319_0
        replace hx319_1 := (cell_far (p := ⟨gb318, 0, none⟩) zK133 (.int .i64 ((rd_T34 t277 t280).f0))).trans hx319_1
        replace hx319_0 := (cell_far (p := ⟨gb318, 1, none⟩) zK134 (.string ((rd_T34 t277 t280).f1))).trans hx319_0
        replace hx319_1 := (cell_far (p := ⟨gb318, 1, none⟩) zK134 (.string ((rd_T34 t277 t280).f1))).trans hx319_1
        replace hx319_0 := (cell_far (p := ⟨gb318, 2, none⟩) zK135 (.int .i64 ((rd_T34 t277 t280).f2))).trans hx319_0
        replace hx319_1 := (cell_far (p := ⟨gb318, 2, none⟩) zK135 (.int .i64 ((rd_T34 t277 t280).f2))).trans hx319_1
        replace hx319_0 := (cell_far (p := ⟨gb318, 3, none⟩) zK136 (.int .i64 ((rd_T34 t277 t280).f3))).trans hx319_0
        replace hx319_1 := (cell_far (p := ⟨gb318, 3, none⟩) zK136 (.int .i64 ((rd_T34 t277 t280).f3))).trans hx319_1
        replace hx319_0 := (cell_far (p := ⟨gb318, 4, none⟩) zK137 (.int .i64 ((rd_T34 t277 t280).f4))).trans hx319_0
        replace hx319_1 := (cell_far (p := ⟨gb318, 4, none⟩) zK137 (.int .i64 ((rd_T34 t277 t280).f4))).trans hx319_1
        clear hn319_0
        clear hn319_1
        clear hn319_2
        clear hn319_3
        clear hn319_4
        replace p319 := eq_true p319
        replace q319 := eq_true q319
        go_wp2
        go_meet
        case rel => exact ⟨_, ((((rd_T36 t303 t280).f0) != 0)), zG68, H', ⟨by have := HJ2.out; have := HJ10.out; have := HJ28.out; first | omega | exact Nat.le_refl _⟩, ⟨zH11⟩, ⟨zH12⟩, ⟨zH3⟩, ⟨zH4⟩, ⟨zH0⟩, ⟨zH26⟩⟩
       case rest =>
        clear HC49
        try clear c1
        try clear c4
        try clear c4b0
        try clear c4b1
        try clear c5
        try clear c8
        try clear c8b0
        try clear c8b1
        try clear c9
        try clear c9b0
        try clear c9b1
        try clear q14
        try clear c19
        try clear c19b0
        try clear c19b1
        try clear c23
        try clear c24
        try clear c24b0
        try clear c24b1
        try clear c26
        try clear c26b0
        try clear c26b1
        try clear c27
        try clear c27b0
        try clear c27b1
        try clear q30
        try clear c36
        try clear c36b0
        try clear c36b1
        try clear c38
        try clear c46
        try clear c47
        try clear c47b0
        try clear c48
        try clear c48b0
        try clear c54
        try clear c54b0
        try clear c54b1
        try clear c55
        try clear c55b0
        try clear hcz17_0
        try clear hcz17_1
        try clear hcz17_2
        try clear hcz17_3
        try clear hcz17_4
        try clear hcz17_5
        try clear hcz21_0
        try clear hcz21_1
        try clear hcz21_2
        try clear hcz21_3
        try clear hcz21_4
        try clear hcz21_5
        try clear hcz34_0
        try clear hcz34_1
        try clear hcz34_2
        try clear hcz34_3
        try clear hcz34_4
        try clear hcz34_5
        try clear hcz40_0
        try clear hcz40_1
        try clear hcz40_2
        try clear hcz40_3
        try clear hcz40_4
        try clear hcz40_5
        try clear hcz44_0
        try clear hcz44_1
        try clear hcz44_2
        try clear hcz44_3
        try clear hcz44_4
        try clear hcz44_5
        try clear hcz53_0
        try clear hcz53_1
        try clear hcz53_2
        try clear hcz53_3
        try clear hcz53_4
        try clear hcz58_0
        try clear hcz58_1
        try clear hcz58_2
        try clear hcz58_3
        try clear hcz58_4
        try clear hcz62_0
        try clear hcz62_1
        try clear hcz62_2
        try clear hcz62_3
        try clear hcz62_4
        try clear hfz17_0
        try clear hfz17_1
        try clear hfz17_2
        try clear hfz17_3
        try clear hfz17_4
        try clear hfz17_5
        try clear hfz21_0
        try clear hfz21_1
        try clear hfz21_2
        try clear hfz21_3
        try clear hfz21_4
        try clear hfz21_5
        try clear hfz34_0
        try clear hfz34_1
        try clear hfz34_2
        try clear hfz34_3
        try clear hfz34_4
        try clear hfz34_5
        try clear hfz40_0
        try clear hfz40_1
        try clear hfz40_2
        try clear hfz40_3
        try clear hfz40_4
        try clear hfz40_5
        try clear hfz44_0
        try clear hfz44_1
        try clear hfz44_2
        try clear hfz44_3
        try clear hfz44_4
        try clear hfz44_5
        try clear hfz53_0
        try clear hfz53_1
        try clear hfz53_2
        try clear hfz53_3
        try clear hfz53_4
        try clear hfz58_0
        try clear hfz58_1
        try clear hfz58_2
        try clear hfz58_3
        try clear hfz58_4
        try clear hfz62_0
        try clear hfz62_1
        try clear hfz62_2
        try clear hfz62_3
        try clear hfz62_4
        try clear hx317_0
        try clear hx317_1
        try clear hx317_2
        try clear hx317_3
        try clear hx317_4
        try clear hx319_0
        try clear hx319_1
        try clear p317
        try clear p319
        try clear q14
        try clear q30
        try clear q317
        try clear q319
        obtain ⟨kq, x91_48, rfl, HA, HJ48, HO_298005, HO_316005, BK297, BK315, BK318, HB⟩ := hcut
        cases kq with
        | zero => exact absurd HA.out (by simp [laws_FnStock.j3])
        | succ kj48 =>
         have H := HA.out
         clear HA
         simp only [laws_FnStock.j3] at H
         by_cases c63 : x91_48 = true
         ·subst c63
          have H1 : (some true) = some r := by rw [if_pos rfl] at H; exact H
          clear H
          have H := H1
          clear H1
          obtain rfl := Option.some.inj H
          go_wp2
          go_ret
          exact zH15
         replace c63 := Bool.eq_false_iff.mpr c63
         subst c63
         have H1 : (if t308 = (wrap64 (t290 + ((rd_T34 t277 t280).f3))) then (laws_FnStock.l0 kj48 (-1) 0 t288 t289 t290 t291 t292 t293 t306 t307 t308 t309 t310 t311 ((rd_T34 t277 t280).f0) ((rd_T34 t277 t280).f1) ((rd_T34 t277 t280).f2) ((rd_T34 t277 t280).f3) ((rd_T34 t277 t280).f4)) else (some false)) = some r := by rw [if_neg (show ¬ (false = true) by decide)] at H; exact H
         clear H
         have H := H1
         clear H1
         by_cases c64 : t308 = (wrap64 (t290 + ((rd_T34 t277 t280).f3)))
         rotate_left
         ·rw [if_neg c64] at H
          have c64b0 : (t308 == (wrap64 (t290 + ((rd_T34 t277 t280).f3)))) = false := beq_eq_false_iff_ne.mpr c64
          have c64b1 : (t308 != (wrap64 (t290 + ((rd_T34 t277 t280).f3)))) = true := bne_iff_ne.mpr c64
          obtain rfl := Option.some.inj H
          have hnb216 := NB315_297.out
          have hnc216 := NB297_315.out
          have hnb217 := NB315_318.out
          have hnc217 := NB318_315.out
          have hcz218_0 : wc.cell? ⟨gb315, 0, none⟩ = some (.int .i64 t306) := (q8a BK315.out 0).trans rfl
          have hcz218_1 : wc.cell? ⟨gb315, 1, none⟩ = some (.int .i64 t307) := (q8a BK315.out 1).trans rfl
          have hcz218_2 : wc.cell? ⟨gb315, 2, none⟩ = some (.int .i64 t308) := (q8a BK315.out 2).trans rfl
          have hcz218_3 : wc.cell? ⟨gb315, 3, none⟩ = some (.int .i64 t309) := (q8a BK315.out 3).trans rfl
          have hcz218_4 : wc.cell? ⟨gb315, 4, none⟩ = some (.int .i64 t310) := (q8a BK315.out 4).trans rfl
          have hcz218_5 : wc.cell? ⟨gb315, 5, none⟩ = some (.slice Ao35 t311.length co35) := (q8a BK315.out 5).trans rfl
          have hfz218_0 := zd BK315.out 0
          have hfz218_1 := zd BK315.out 1
          have hfz218_2 := zd BK315.out 2
          have hfz218_3 := zd BK315.out 3
          have hfz218_4 := zd BK315.out 4
          have hfz218_5 := zd BK315.out 5
          have hnb219 := NB297_318.out
          have hnc219 := NB318_297.out
          have hcz220_0 : wc.cell? ⟨gb297, 0, none⟩ = some (.int .i64 t288) := (q8a BK297.out 0).trans rfl
          have hcz220_1 : wc.cell? ⟨gb297, 1, none⟩ = some (.int .i64 t289) := (q8a BK297.out 1).trans rfl
          have hcz220_2 : wc.cell? ⟨gb297, 2, none⟩ = some (.int .i64 t290) := (q8a BK297.out 2).trans rfl
          have hcz220_3 : wc.cell? ⟨gb297, 3, none⟩ = some (.int .i64 t291) := (q8a BK297.out 3).trans rfl
          have hcz220_4 : wc.cell? ⟨gb297, 4, none⟩ = some (.int .i64 t292) := (q8a BK297.out 4).trans rfl
          have hcz220_5 : wc.cell? ⟨gb297, 5, none⟩ = some (.slice Ao18 t293.length co18) := (q8a BK297.out 5).trans rfl
          have hfz220_0 := zd BK297.out 0
          have hfz220_1 := zd BK297.out 1
          have hfz220_2 := zd BK297.out 2
          have hfz220_3 := zd BK297.out 3
          have hfz220_4 := zd BK297.out 4
          have hfz220_5 := zd BK297.out 5
          have hcz221_0 : wc.cell? ⟨gb318, 0, none⟩ = some (.int .i64 ((rd_T34 t277 t280).f0)) := (q8a BK318.out 0).trans rfl
          have hcz221_1 : wc.cell? ⟨gb318, 1, none⟩ = some (.string ((rd_T34 t277 t280).f1)) := (q8a BK318.out 1).trans rfl
          have hcz221_2 : wc.cell? ⟨gb318, 2, none⟩ = some (.int .i64 ((rd_T34 t277 t280).f2)) := (q8a BK318.out 2).trans rfl
          have hcz221_3 : wc.cell? ⟨gb318, 3, none⟩ = some (.int .i64 ((rd_T34 t277 t280).f3)) := (q8a BK318.out 3).trans rfl
          have hcz221_4 : wc.cell? ⟨gb318, 4, none⟩ = some (.int .i64 ((rd_T34 t277 t280).f4)) := (q8a BK318.out 4).trans rfl
          have hfz221_0 := zd BK318.out 0
          have hfz221_1 := zd BK318.out 1
          have hfz221_2 := zd BK318.out 2
          have hfz221_3 := zd BK318.out 3
          have hfz221_4 := zd BK318.out 4
          go_wp2
          go_ret
          exact zH15
         rw [if_pos c64] at H
         have c64b0 : (t308 == (wrap64 (t290 + ((rd_T34 t277 t280).f3)))) = true := beq_iff_eq.mpr c64
         have c64b1 : (t308 != (wrap64 (t290 + ((rd_T34 t277 t280).f3)))) = false := bne_eq_false_iff_eq.mpr c64
         clear c64
         have H' := za H
         clear H
         have hnb65 := NB315_297.out
         have hnc65 := NB297_315.out
         have hnb66 := NB315_318.out
         have hnc66 := NB318_315.out
         have hcz67_0 : wc.cell? ⟨gb315, 0, none⟩ = some (.int .i64 t306) := (q8a BK315.out 0).trans rfl
         have hcz67_1 : wc.cell? ⟨gb315, 1, none⟩ = some (.int .i64 t307) := (q8a BK315.out 1).trans rfl
         have hcz67_2 : wc.cell? ⟨gb315, 2, none⟩ = some (.int .i64 t308) := (q8a BK315.out 2).trans rfl
         have hcz67_3 : wc.cell? ⟨gb315, 3, none⟩ = some (.int .i64 t309) := (q8a BK315.out 3).trans rfl
         have hcz67_4 : wc.cell? ⟨gb315, 4, none⟩ = some (.int .i64 t310) := (q8a BK315.out 4).trans rfl
         have hcz67_5 : wc.cell? ⟨gb315, 5, none⟩ = some (.slice Ao35 t311.length co35) := (q8a BK315.out 5).trans rfl
         have hfz67_0 := zd BK315.out 0
         have hfz67_1 := zd BK315.out 1
         have hfz67_2 := zd BK315.out 2
         have hfz67_3 := zd BK315.out 3
         have hfz67_4 := zd BK315.out 4
         have hfz67_5 := zd BK315.out 5
         have hnb68 := NB297_318.out
         have hnc68 := NB318_297.out
         have hcz69_0 : wc.cell? ⟨gb297, 0, none⟩ = some (.int .i64 t288) := (q8a BK297.out 0).trans rfl
         have hcz69_1 : wc.cell? ⟨gb297, 1, none⟩ = some (.int .i64 t289) := (q8a BK297.out 1).trans rfl
         have hcz69_2 : wc.cell? ⟨gb297, 2, none⟩ = some (.int .i64 t290) := (q8a BK297.out 2).trans rfl
         have hcz69_3 : wc.cell? ⟨gb297, 3, none⟩ = some (.int .i64 t291) := (q8a BK297.out 3).trans rfl
         have hcz69_4 : wc.cell? ⟨gb297, 4, none⟩ = some (.int .i64 t292) := (q8a BK297.out 4).trans rfl
         have hcz69_5 : wc.cell? ⟨gb297, 5, none⟩ = some (.slice Ao18 t293.length co18) := (q8a BK297.out 5).trans rfl
         have hfz69_0 := zd BK297.out 0
         have hfz69_1 := zd BK297.out 1
         have hfz69_2 := zd BK297.out 2
         have hfz69_3 := zd BK297.out 3
         have hfz69_4 := zd BK297.out 4
         have hfz69_5 := zd BK297.out 5
         have hcz70_0 : wc.cell? ⟨gb318, 0, none⟩ = some (.int .i64 ((rd_T34 t277 t280).f0)) := (q8a BK318.out 0).trans rfl
         have hcz70_1 : wc.cell? ⟨gb318, 1, none⟩ = some (.string ((rd_T34 t277 t280).f1)) := (q8a BK318.out 1).trans rfl
         have hcz70_2 : wc.cell? ⟨gb318, 2, none⟩ = some (.int .i64 ((rd_T34 t277 t280).f2)) := (q8a BK318.out 2).trans rfl
         have hcz70_3 : wc.cell? ⟨gb318, 3, none⟩ = some (.int .i64 ((rd_T34 t277 t280).f3)) := (q8a BK318.out 3).trans rfl
         have hcz70_4 : wc.cell? ⟨gb318, 4, none⟩ = some (.int .i64 ((rd_T34 t277 t280).f4)) := (q8a BK318.out 4).trans rfl
         have hfz70_0 := zd BK318.out 0
         have hfz70_1 := zd BK318.out 1
         have hfz70_2 := zd BK318.out 2
         have hfz70_3 := zd BK318.out 3
         have hfz70_4 := zd BK318.out 4
         go_wp2
         go_loopg [14, 15] kj48 (fun kq v14 v15 w' => ∃ (x14_5 : Int) (x15_5 : Int), v14 = .int .i64 x14_5 ∧ v15 = .int .i64 x15_5 ∧ Aside0 (laws_FnStock.l0 kq x14_5 x15_5 t288 t289 t290 t291 t292 t293 t306 t307 t308 t309 t310 t311 ((rd_T34 t277 t280).f0) ((rd_T34 t277 t280).f1) ((rd_T34 t277 t280).f2) ((rd_T34 t277 t280).f3) ((rd_T34 t277 t280).f4) = some r) ∧ Aside0 (kq ≤ kj48) ∧ Aside0 (Kd.R k38 38 w' w.heap.size (fun k_ => some k_ ≠ ((.slice Ao35 t311.length co35) : Value).ownBlock) (.slice Ao18 t293.length co18) t293) ∧ Aside0 (Kd.R k38 38 w' w.heap.size (fun k_ => some k_ ≠ ((.slice Ao18 t293.length co18) : Value).ownBlock) (.slice Ao35 t311.length co35) t311) ∧ Aside0 (w'.heap[gb297]? = some (.cells (zs6 t288 t289 t290 t291 t292 (.slice Ao18 t293.length co18)) 29 (0, 0))) ∧ Aside0 (w'.heap[gb315]? = some (.cells (zs6 t306 t307 t308 t309 t310 (.slice Ao35 t311.length co35)) 29 (0, 0))) ∧ Aside0 (w'.heap[gb318]? = some (.cells (za5 ((rd_T34 t277 t280).f0) ((rd_T34 t277 t280).f1) ((rd_T34 t277 t280).f2) ((rd_T34 t277 t280).f3) ((rd_T34 t277 t280).f4)) 34 (0, 0))) ∧ Aside0 (Below w.heap.size w w'))
         case atStart => exact ⟨((-1)), (0), zG68, zG68, H', ⟨Nat.le_refl _⟩, ⟨zH71⟩, ⟨zH72⟩, ⟨zH68⟩, ⟨zH67⟩, ⟨zH66⟩, ⟨zH26⟩⟩
         case round =>
          clear H'
          try clear c1
          try clear c4
          try clear c4b0
          try clear c4b1
          try clear c5
          try clear c8
          try clear c8b0
          try clear c8b1
          try clear c9
          try clear c9b0
          try clear c9b1
          try clear q14
          try clear c19
          try clear c19b0
          try clear c19b1
          try clear c23
          try clear c24
          try clear c24b0
          try clear c24b1
          try clear c26
          try clear c26b0
          try clear c26b1
          try clear c27
          try clear c27b0
          try clear c27b1
          try clear q30
          try clear c36
          try clear c36b0
          try clear c36b1
          try clear c38
          try clear c46
          try clear c47
          try clear c47b0
          try clear c48
          try clear c48b0
          try clear c54
          try clear c54b0
          try clear c54b1
          try clear c55
          try clear c55b0
          try clear c63
          try clear c64
          try clear c64b0
          try clear c64b1
          try clear hcz17_0
          try clear hcz17_1
          try clear hcz17_2
          try clear hcz17_3
          try clear hcz17_4
          try clear hcz17_5
          try clear hcz21_0
          try clear hcz21_1
          try clear hcz21_2
          try clear hcz21_3
          try clear hcz21_4
          try clear hcz21_5
          try clear hcz34_0
          try clear hcz34_1
          try clear hcz34_2
          try clear hcz34_3
          try clear hcz34_4
          try clear hcz34_5
          try clear hcz40_0
          try clear hcz40_1
          try clear hcz40_2
          try clear hcz40_3
          try clear hcz40_4
          try clear hcz40_5
          try clear hcz44_0
          try clear hcz44_1
          try clear hcz44_2
          try clear hcz44_3
          try clear hcz44_4
          try clear hcz44_5
          try clear hcz53_0
          try clear hcz53_1
          try clear hcz53_2
          try clear hcz53_3
          try clear hcz53_4
          try clear hcz58_0
          try clear hcz58_1
          try clear hcz58_2
          try clear hcz58_3
          try clear hcz58_4
          try clear hcz62_0
          try clear hcz62_1
          try clear hcz62_2
          try clear hcz62_3
          try clear hcz62_4
          try clear hcz67_0
          try clear hcz67_1
          try clear hcz67_2
          try clear hcz67_3
          try clear hcz67_4
          try clear hcz67_5
          try clear hcz69_0
          try clear hcz69_1
          try clear hcz69_2
          try clear hcz69_3
          try clear hcz69_4
          try clear hcz69_5
          try clear hcz70_0
          try clear hcz70_1
          try clear hcz70_2
          try clear hcz70_3
          try clear hcz70_4
          try clear hfz17_0
          try clear hfz17_1
          try clear hfz17_2
          try clear hfz17_3
          try clear hfz17_4
          try clear hfz17_5
          try clear hfz21_0
          try clear hfz21_1
          try clear hfz21_2
          try clear hfz21_3
          try clear hfz21_4
          try clear hfz21_5
          try clear hfz34_0
          try clear hfz34_1
          try clear hfz34_2
          try clear hfz34_3
          try clear hfz34_4
          try clear hfz34_5
          try clear hfz40_0
          try clear hfz40_1
          try clear hfz40_2
          try clear hfz40_3
          try clear hfz40_4
          try clear hfz40_5
          try clear hfz44_0
          try clear hfz44_1
          try clear hfz44_2
          try clear hfz44_3
          try clear hfz44_4
          try clear hfz44_5
          try clear hfz53_0
          try clear hfz53_1
          try clear hfz53_2
          try clear hfz53_3
          try clear hfz53_4
          try clear hfz58_0
          try clear hfz58_1
          try clear hfz58_2
          try clear hfz58_3
          try clear hfz58_4
          try clear hfz62_0
          try clear hfz62_1
          try clear hfz62_2
          try clear hfz62_3
          try clear hfz62_4
          try clear hfz67_0
          try clear hfz67_1
          try clear hfz67_2
          try clear hfz67_3
          try clear hfz67_4
          try clear hfz67_5
          try clear hfz69_0
          try clear hfz69_1
          try clear hfz69_2
          try clear hfz69_3
          try clear hfz69_4
          try clear hfz69_5
          try clear hfz70_0
          try clear hfz70_1
          try clear hfz70_2
          try clear hfz70_3
          try clear hfz70_4
          try clear hx317_0
          try clear hx317_1
          try clear hx317_2
          try clear hx317_3
          try clear hx317_4
          try clear hx319_0
          try clear hx319_1
          try clear p317
          try clear p319
          try clear q14
          try clear q30
          try clear q317
          try clear q319
          obtain ⟨x14_5, x15_5, rfl, rfl, HA, HK5, HO_298005, HO_316005, BK297, BK315, BK318, HB⟩ := hrel
          cases gk with
          | zero => exact absurd HA.out (by simp [laws_FnStock.l0])
          | succ k5 =>
           have H := HA.out
           clear HA
           simp only [laws_FnStock.l0] at H
           by_cases c71 : x15_5 < (t293.length : Int)
           ·rw [if_pos c71] at H
            have c71b0 := decide_eq_true c71
            clear c71
            by_cases c72 : 0 ≤ x15_5
            rotate_left
            ·rw [if_neg c72] at H
             exact absurd H (by simp)
            rw [if_pos c72] at H
            have c72b0 := decide_eq_true c72
            clear c72
            replace H := Option.bind_eq_some_iff.mp H
            obtain ⟨t322, A730, H⟩ := H
            replace H : (if t322 > ((rd_T38 t293 x15_5).f2) then (laws_FnStock.j5 k5 x14_5 x15_5 t322 true t288 t289 t290 t291 t292 t293 t306 t307 t308 t309 t310 t311 ((rd_T34 t277 t280).f0) ((rd_T34 t277 t280).f1) ((rd_T34 t277 t280).f2) ((rd_T34 t277 t280).f3) ((rd_T34 t277 t280).f4) ((rd_T38 t293 x15_5).f0) ((rd_T38 t293 x15_5).f1) ((rd_T38 t293 x15_5).f2) ((rd_T38 t293 x15_5).f3) ((rd_T38 t293 x15_5).f4)) else (if t322 < ((rd_T38 t293 x15_5).f2) then (if ((rd_T38 t293 x15_5).f0).toList = ((rd_T34 t277 t280).f1).toList then (if (rd_T38 t293 x15_5).f4 = true then (laws_FnStock.j5 k5 x14_5 x15_5 t322 true t288 t289 t290 t291 t292 t293 t306 t307 t308 t309 t310 t311 ((rd_T34 t277 t280).f0) ((rd_T34 t277 t280).f1) ((rd_T34 t277 t280).f2) ((rd_T34 t277 t280).f3) ((rd_T34 t277 t280).f4) ((rd_T38 t293 x15_5).f0) ((rd_T38 t293 x15_5).f1) ((rd_T38 t293 x15_5).f2) ((rd_T38 t293 x15_5).f3) ((rd_T38 t293 x15_5).f4)) else (laws_FnStock.j5 k5 x14_5 x15_5 t322 (decide (((rd_T38 t293 x15_5).f3) < t288)) t288 t289 t290 t291 t292 t293 t306 t307 t308 t309 t310 t311 ((rd_T34 t277 t280).f0) ((rd_T34 t277 t280).f1) ((rd_T34 t277 t280).f2) ((rd_T34 t277 t280).f3) ((rd_T34 t277 t280).f4) ((rd_T38 t293 x15_5).f0) ((rd_T38 t293 x15_5).f1) ((rd_T38 t293 x15_5).f2) ((rd_T38 t293 x15_5).f3) ((rd_T38 t293 x15_5).f4))) else (laws_FnStock.j5 k5 x14_5 x15_5 t322 true t288 t289 t290 t291 t292 t293 t306 t307 t308 t309 t310 t311 ((rd_T34 t277 t280).f0) ((rd_T34 t277 t280).f1) ((rd_T34 t277 t280).f2) ((rd_T34 t277 t280).f3) ((rd_T34 t277 t280).f4) ((rd_T38 t293 x15_5).f0) ((rd_T38 t293 x15_5).f1) ((rd_T38 t293 x15_5).f2) ((rd_T38 t293 x15_5).f3) ((rd_T38 t293 x15_5).f4))) else (laws_FnStock.j5 k5 x14_5 x15_5 t322 false t288 t289 t290 t291 t292 t293 t306 t307 t308 t309 t310 t311 ((rd_T34 t277 t280).f0) ((rd_T34 t277 t280).f1) ((rd_T34 t277 t280).f2) ((rd_T34 t277 t280).f3) ((rd_T34 t277 t280).f4) ((rd_T38 t293 x15_5).f0) ((rd_T38 t293 x15_5).f1) ((rd_T38 t293 x15_5).f2) ((rd_T38 t293 x15_5).f3) ((rd_T38 t293 x15_5).f4)))) = some r := H
            obtain ⟨A73, HC74⟩ := zD2 A730 H
            clear A730 H
            have hnb75 := NB297_315.out
            have hnc75 := NB315_297.out
            have hnb76 := NB297_318.out
            have hnc76 := NB318_297.out
            have hcz77_0 : wr.cell? ⟨gb297, 0, none⟩ = some (.int .i64 t288) := (q8a BK297.out 0).trans rfl
            have hcz77_1 : wr.cell? ⟨gb297, 1, none⟩ = some (.int .i64 t289) := (q8a BK297.out 1).trans rfl
            have hcz77_2 : wr.cell? ⟨gb297, 2, none⟩ = some (.int .i64 t290) := (q8a BK297.out 2).trans rfl
            have hcz77_3 : wr.cell? ⟨gb297, 3, none⟩ = some (.int .i64 t291) := (q8a BK297.out 3).trans rfl
            have hcz77_4 : wr.cell? ⟨gb297, 4, none⟩ = some (.int .i64 t292) := (q8a BK297.out 4).trans rfl
            have hcz77_5 : wr.cell? ⟨gb297, 5, none⟩ = some (.slice Ao18 t293.length co18) := (q8a BK297.out 5).trans rfl
            have hfz77_0 := zd BK297.out 0
            have hfz77_1 := zd BK297.out 1
            have hfz77_2 := zd BK297.out 2
            have hfz77_3 := zd BK297.out 3
            have hfz77_4 := zd BK297.out 4
            have hfz77_5 := zd BK297.out 5
            have p320 : 0 ≤ (x15_5 : Int) := zO
            have q320 : x15_5 < (t293.length : Int) := zO
            obtain ⟨ad320, e320, hx320_0, hx320_1, hx320_2, hx320_3, hx320_4⟩ := at_T38 (zy HO_298005.out).2.2 x15_5 p320 q320
            cases e320
            replace p320 := eq_true p320
            replace q320 := eq_true q320
            go_upto_region 24 with (first | ((with_reducible refine gate_dst (N := 16) rfl ?_); (try (refine gate_guard (by rfl) ?_; dsimp only)); refine box_event ?hg (N := 16) ?hd (cs := (zl5 (⟨#[]⟩ : ByteArray) 0 0 0 false)) (t := 38) ?hr ?_; (case hd => rfl); (case hg => rfl); (case hr => exact zH81); intro gb321 hg w78 hbox hb; have n_ := zA_ (za (zt (zac zK146 gb321 (Nat.le_of_eq hg.symm)) hb)) (zA_ (za (zt (zac zK147 gb321 (Nat.le_of_eq hg.symm)) hb)) (zA_ (za (zq (g := gb297) (o := .cells (zs6 t288 t289 t290 t291 t292 (.slice (some ad320) t293.length co18)) 29 (0, 0)) zG60 hb)) (zA_ (za (zq (g := gb315) (o := .cells (zs6 t306 t307 t308 t309 t310 (.slice Ao35 t311.length co35)) 29 (0, 0)) zG61 hb)) (zA_ (za (zq (g := gb318) (o := .cells (za5 ((rd_T34 t277 t280).f0) ((rd_T34 t277 t280).f1) ((rd_T34 t277 t280).f2) ((rd_T34 t277 t280).f3) ((rd_T34 t277 t280).f4)) 34 (0, 0)) zG62 hb)) (zA_ (za (zu zG53 hb)) (zA_ (za (hbox)) (zA_ (zN1 w.heap.size hg (zv zG53)) (zA_ (zN1 w.heap.size hg (zv zG53)) (zN3 hg (zx (g := gb297) (o := .cells (zs6 t288 t289 t290 t291 t292 (.slice (some ad320) t293.length co18)) 29 (0, 0)) zG60) (zN3 hg (zx (g := gb315) (o := .cells (zs6 t306 t307 t308 t309 t310 (.slice Ao35 t311.length co35)) 29 (0, 0)) zG61) (zN2 hg (zx (g := gb318) (o := .cells (za5 ((rd_T34 t277 t280).f0) ((rd_T34 t277 t280).f1) ((rd_T34 t277 t280).f2) ((rd_T34 t277 t280).f3) ((rd_T34 t277 t280).f4)) 34 (0, 0)) zG62)))))))))))); clear HO_298005 HO_316005 BK297 BK315 BK318 HB; obtain ⟨HO_298005, HO_316005, BK297, BK315, BK318, HB, BK321, GW321, GE321, NB297_321, NB321_297, NB315_321, NB321_315, NB318_321, NB321_318⟩ := n_; clear hb hbox hg; have hnb79 := NB321_297.out; have hnc79 := NB297_321.out; have hnb80 := NB321_315.out; have hnc80 := NB315_321.out; have hnb81 := NB321_318.out; have hnc81 := NB318_321.out; have hcz82_0 : w78.cell? ⟨gb321, 0, none⟩ = some (.string (⟨#[]⟩ : ByteArray)) := (q8a BK321.out 0).trans rfl; have hcz82_1 : w78.cell? ⟨gb321, 1, none⟩ = some (.int .i64 0) := (q8a BK321.out 1).trans rfl; have hcz82_2 : w78.cell? ⟨gb321, 2, none⟩ = some (.int .i64 0) := (q8a BK321.out 2).trans rfl; have hcz82_3 : w78.cell? ⟨gb321, 3, none⟩ = some (.int .i64 0) := (q8a BK321.out 3).trans rfl; have hcz82_4 : w78.cell? ⟨gb321, 4, none⟩ = some (.bool false) := (q8a BK321.out 4).trans rfl; have hfz82_0 := zd BK321.out 0; have hfz82_1 := zd BK321.out 1; have hfz82_2 := zd BK321.out 2; have hfz82_3 := zd BK321.out 3; have hfz82_4 := zd BK321.out 4; have hnb83 := NB315_318.out; have hnc83 := NB318_315.out; have hcz84_0 : w78.cell? ⟨gb315, 0, none⟩ = some (.int .i64 t306) := (q8a BK315.out 0).trans rfl; have hcz84_1 : w78.cell? ⟨gb315, 1, none⟩ = some (.int .i64 t307) := (q8a BK315.out 1).trans rfl; have hcz84_2 : w78.cell? ⟨gb315, 2, none⟩ = some (.int .i64 t308) := (q8a BK315.out 2).trans rfl; have hcz84_3 : w78.cell? ⟨gb315, 3, none⟩ = some (.int .i64 t309) := (q8a BK315.out 3).trans rfl; have hcz84_4 : w78.cell? ⟨gb315, 4, none⟩ = some (.int .i64 t310) := (q8a BK315.out 4).trans rfl; have hcz84_5 : w78.cell? ⟨gb315, 5, none⟩ = some (.slice Ao35 t311.length co35) := (q8a BK315.out 5).trans rfl; have hfz84_0 := zd BK315.out 0; have hfz84_1 := zd BK315.out 1; have hfz84_2 := zd BK315.out 2; have hfz84_3 := zd BK315.out 3; have hfz84_4 := zd BK315.out 4; have hfz84_5 := zd BK315.out 5) | ((with_reducible refine gate_callee (f := 9) rfl ?_); refine goesL_ (some 115) rfl rfl Try.func9 zG69 rfl #[.slice Ao35 t311.length co35, .agg (zl5 ((rd_T38 t293 x15_5).f0) ((rd_T38 t293 x15_5).f1) ((rd_T38 t293 x15_5).f2) ((rd_T38 t293 x15_5).f3) ((rd_T38 t293 x15_5).f4))] rfl zG56 ?_; (with_reducible refine (laws_units.calls k5 _ _ t311 ((rd_T38 t293 x15_5).f0) ((rd_T38 t293 x15_5).f1) ((rd_T38 t293 x15_5).f2) ((rd_T38 t293 x15_5).f3) ((rd_T38 t293 x15_5).f4) t322 _ ?side1 ?side2 A73.out).mono ?_); (case side1 => refine (zy (e := 38) (base := w.heap.size) (ok := fun k_ => (some k_ ≠ (.slice (some ad320) t293.length co18 : Value).ownBlock ∧ k_ ≠ gb321)) (n := t311.length) (c := co35) ?_).2.2; exact zK93); (case side2 => exact (zy HO_316005.out).2.1); rintro e w85 ⟨rfl, hb⟩; refine ⟨_, rfl, ?_⟩; have n_ := zA_ (za (zt (by (with_reducible repeat (first | apply zj | apply zk | apply zl)); exact (zn (zm (p := ⟨gb321, 4, none⟩) (zm (p := ⟨gb321, 3, none⟩) (zm (p := ⟨gb321, 2, none⟩) (zm (p := ⟨gb321, 1, none⟩) (zm (p := ⟨gb321, 0, none⟩) (zn HO_298005.out (fun k_ hk => (⟨hk, hk.2⟩ : _ ∧ k_ ≠ gb321))) (fun _ hk => hk.2) (.string ((rd_T38 t293 x15_5).f0))) (fun _ hk => hk.2) (.int .i64 ((rd_T38 t293 x15_5).f1))) (fun _ hk => hk.2) (.int .i64 ((rd_T38 t293 x15_5).f2))) (fun _ hk => hk.2) (.int .i64 ((rd_T38 t293 x15_5).f3))) (fun _ hk => hk.2) (.bool ((rd_T38 t293 x15_5).f4))) (fun _ h_ => h_.1))) hb)) (zA_ (za (zt zK93 hb)) (zA_ (za (zq (g := gb297) (o := .cells (zs6 t288 t289 t290 t291 t292 (.slice (some ad320) t293.length co18)) 29 (0, 0)) (by (with_reducible repeat (first | refine zc ?_ _ | refine ze ?_ | refine zb ?_ _)); refine zp ?_ NB297_321.out _; (with_reducible repeat (first | refine zc ?_ _ | refine ze ?_ | refine zb ?_ _)); refine zp ?_ NB297_321.out _; (with_reducible repeat (first | refine zc ?_ _ | refine ze ?_ | refine zb ?_ _)); refine zp ?_ NB297_321.out _; (with_reducible repeat (first | refine zc ?_ _ | refine ze ?_ | refine zb ?_ _)); refine zp ?_ NB297_321.out _; (with_reducible repeat (first | refine zc ?_ _ | refine ze ?_ | refine zb ?_ _)); refine zp ?_ NB297_321.out _; (with_reducible repeat (first | refine zc ?_ _ | refine ze ?_ | refine zb ?_ _)); exact BK297.out) hb)) (zA_ (za (zq (g := gb315) (o := .cells (zs6 t306 t307 t308 t309 t310 (.slice Ao35 t311.length co35)) 29 (0, 0)) (by (with_reducible repeat (first | refine zc ?_ _ | refine ze ?_ | refine zb ?_ _)); refine zp ?_ NB315_321.out _; (with_reducible repeat (first | refine zc ?_ _ | refine ze ?_ | refine zb ?_ _)); refine zp ?_ NB315_321.out _; (with_reducible repeat (first | refine zc ?_ _ | refine ze ?_ | refine zb ?_ _)); refine zp ?_ NB315_321.out _; (with_reducible repeat (first | refine zc ?_ _ | refine ze ?_ | refine zb ?_ _)); refine zp ?_ NB315_321.out _; (with_reducible repeat (first | refine zc ?_ _ | refine ze ?_ | refine zb ?_ _)); refine zp ?_ NB315_321.out _; (with_reducible repeat (first | refine zc ?_ _ | refine ze ?_ | refine zb ?_ _)); exact BK315.out) hb)) (zA_ (za (zq (g := gb318) (o := .cells (za5 ((rd_T34 t277 t280).f0) ((rd_T34 t277 t280).f1) ((rd_T34 t277 t280).f2) ((rd_T34 t277 t280).f3) ((rd_T34 t277 t280).f4)) 34 (0, 0)) (by (with_reducible repeat (first | refine zc ?_ _ | refine ze ?_ | refine zb ?_ _)); refine zp ?_ NB318_321.out _; (with_reducible repeat (first | refine zc ?_ _ | refine ze ?_ | refine zb ?_ _)); refine zp ?_ NB318_321.out _; (with_reducible repeat (first | refine zc ?_ _ | refine ze ?_ | refine zb ?_ _)); refine zp ?_ NB318_321.out _; (with_reducible repeat (first | refine zc ?_ _ | refine ze ?_ | refine zb ?_ _)); refine zp ?_ NB318_321.out _; (with_reducible repeat (first | refine zc ?_ _ | refine ze ?_ | refine zb ?_ _)); refine zp ?_ NB318_321.out _; (with_reducible repeat (first | refine zc ?_ _ | refine ze ?_ | refine zb ?_ _)); exact BK318.out) hb)) (zA_ (za (zq (g := gb321) (o := .cells (zl5 ((rd_T38 t293 x15_5).f0) ((rd_T38 t293 x15_5).f1) ((rd_T38 t293 x15_5).f2) ((rd_T38 t293 x15_5).f3) ((rd_T38 t293 x15_5).f4)) 38 (0, 0)) (by (with_reducible repeat (first | refine zc ?_ _ | refine ze ?_ | refine zb ?_ _)); refine zr (cs := (zl5 ((rd_T38 t293 x15_5).f0) ((rd_T38 t293 x15_5).f1) ((rd_T38 t293 x15_5).f2) ((rd_T38 t293 x15_5).f3) false)) ?_ 4 _ rfl; (with_reducible repeat (first | refine zc ?_ _ | refine ze ?_ | refine zb ?_ _)); refine zr (cs := (zl5 ((rd_T38 t293 x15_5).f0) ((rd_T38 t293 x15_5).f1) ((rd_T38 t293 x15_5).f2) 0 false)) ?_ 3 _ rfl; (with_reducible repeat (first | refine zc ?_ _ | refine ze ?_ | refine zb ?_ _)); refine zr (cs := (zl5 ((rd_T38 t293 x15_5).f0) ((rd_T38 t293 x15_5).f1) 0 0 false)) ?_ 2 _ rfl; (with_reducible repeat (first | refine zc ?_ _ | refine ze ?_ | refine zb ?_ _)); refine zr (cs := (zl5 ((rd_T38 t293 x15_5).f0) 0 0 0 false)) ?_ 1 _ rfl; (with_reducible repeat (first | refine zc ?_ _ | refine ze ?_ | refine zb ?_ _)); refine zr (cs := (zl5 (⟨#[]⟩ : ByteArray) 0 0 0 false)) ?_ 0 _ rfl; (with_reducible repeat (first | refine zc ?_ _ | refine ze ?_ | refine zb ?_ _)); exact BK321.out) hb)) (za (zu (by repeat (first | (with_reducible first | exact HB.out | apply zi | apply zg | apply zh | refine zf ?_ GE297.out | refine zf ?_ GE315.out | refine zf ?_ GE318.out | refine zf ?_ GE321.out) | exact HB.out)) hb))))))); clear HO_298005 HO_316005 BK297 BK315 BK318 BK321 HB; obtain ⟨HO_298005, HO_316005, BK297, BK315, BK318, BK321, HB⟩ := n_; (try clear hb); (try clear hk)))
            (try simp only [Act.put, List.setIfInBounds_toArray, List.set_cons_zero, List.set_cons_succ])
            go_cut [143] from 100 to 143 (fun v143 wc => ∃ (kq : Nat) (x143_73 : Bool), v143 = .bool x143_73 ∧ Aside0 (laws_FnStock.j5 kq x14_5 x15_5 t322 x143_73 t288 t289 t290 t291 t292 t293 t306 t307 t308 t309 t310 t311 ((rd_T34 t277 t280).f0) ((rd_T34 t277 t280).f1) ((rd_T34 t277 t280).f2) ((rd_T34 t277 t280).f3) ((rd_T34 t277 t280).f4) ((rd_T38 t293 x15_5).f0) ((rd_T38 t293 x15_5).f1) ((rd_T38 t293 x15_5).f2) ((rd_T38 t293 x15_5).f3) ((rd_T38 t293 x15_5).f4) = some r) ∧ Aside0 (kq ≤ k5) ∧ Aside0 (Kd.R k38 38 wc w.heap.size (fun k_ => some k_ ≠ ((.slice Ao35 t311.length co35) : Value).ownBlock ∧ k_ ≠ gb321) (.slice (some ad320) t293.length co18) t293) ∧ Aside0 (Kd.R k38 38 wc w.heap.size (fun k_ => some k_ ≠ ((.slice (some ad320) t293.length co18) : Value).ownBlock ∧ k_ ≠ gb321) (.slice Ao35 t311.length co35) t311) ∧ Aside0 (wc.heap[gb297]? = some (.cells (zs6 t288 t289 t290 t291 t292 (.slice (some ad320) t293.length co18)) 29 (0, 0))) ∧ Aside0 (wc.heap[gb315]? = some (.cells (zs6 t306 t307 t308 t309 t310 (.slice Ao35 t311.length co35)) 29 (0, 0))) ∧ Aside0 (wc.heap[gb318]? = some (.cells (za5 ((rd_T34 t277 t280).f0) ((rd_T34 t277 t280).f1) ((rd_T34 t277 t280).f2) ((rd_T34 t277 t280).f3) ((rd_T34 t277 t280).f4)) 34 (0, 0))) ∧ Aside0 (wc.heap[gb321]? = some (.cells (zl5 ((rd_T38 t293 x15_5).f0) ((rd_T38 t293 x15_5).f1) ((rd_T38 t293 x15_5).f2) ((rd_T38 t293 x15_5).f3) ((rd_T38 t293 x15_5).f4)) 38 (0, 0))) ∧ Aside0 (Below w.heap.size w wc))
            case first =>
             have H := HC74.out
             clear HC74
             by_cases c86 : t322 > ((rd_T38 t293 x15_5).f2)
             ·rw [if_pos c86] at H
              have c86b0 : decide (((rd_T38 t293 x15_5).f2) < t322) = true := decide_eq_true c86
              clear c86
              (first | rw [c86b0] | (simp only [i64_w, i32_w]; rw [c86b0]) | skip)
              have H' := za H
              clear H
              have hnb87 := NB321_297.out
              have hnc87 := NB297_321.out
              have hnb88 := NB321_315.out
              have hnc88 := NB315_321.out
              have hnb89 := NB321_318.out
              have hnc89 := NB318_321.out
              have hcz90_0 : w85.cell? ⟨gb321, 0, none⟩ = some (.string ((rd_T38 t293 x15_5).f0)) := (q8a BK321.out 0).trans rfl
              have hcz90_1 : w85.cell? ⟨gb321, 1, none⟩ = some (.int .i64 ((rd_T38 t293 x15_5).f1)) := (q8a BK321.out 1).trans rfl
              have hcz90_2 : w85.cell? ⟨gb321, 2, none⟩ = some (.int .i64 ((rd_T38 t293 x15_5).f2)) := (q8a BK321.out 2).trans rfl
              have hcz90_3 : w85.cell? ⟨gb321, 3, none⟩ = some (.int .i64 ((rd_T38 t293 x15_5).f3)) := (q8a BK321.out 3).trans rfl
              have hcz90_4 : w85.cell? ⟨gb321, 4, none⟩ = some (.bool ((rd_T38 t293 x15_5).f4)) := (q8a BK321.out 4).trans rfl
              have hfz90_0 := zd BK321.out 0
              have hfz90_1 := zd BK321.out 1
              have hfz90_2 := zd BK321.out 2
              have hfz90_3 := zd BK321.out 3
              have hfz90_4 := zd BK321.out 4
              go_wp2
              go_meet
              case rel => exact ⟨_, (true), zG68, H', ⟨zH49⟩, ⟨zH71⟩, ⟨zH72⟩, ⟨zH68⟩, ⟨zH67⟩, ⟨zH66⟩, ⟨zH64⟩, ⟨zH25⟩⟩
             rw [if_neg c86] at H
             have c86b0 : decide (((rd_T38 t293 x15_5).f2) < t322) = false := decide_eq_false c86
             clear c86
             (first | rw [c86b0] | (simp only [i64_w, i32_w]; rw [c86b0]) | skip)
             by_cases c91 : t322 < ((rd_T38 t293 x15_5).f2)
             rotate_left
             ·rw [if_neg c91] at H
              have c91b0 := decide_eq_false c91
              clear c91
              have H' := za H
              clear H
              have hnb118 := NB321_297.out
              have hnc118 := NB297_321.out
              have hnb119 := NB321_315.out
              have hnc119 := NB315_321.out
              have hnb120 := NB321_318.out
              have hnc120 := NB318_321.out
              have hcz121_0 : w85.cell? ⟨gb321, 0, none⟩ = some (.string ((rd_T38 t293 x15_5).f0)) := (q8a BK321.out 0).trans rfl
              have hcz121_1 : w85.cell? ⟨gb321, 1, none⟩ = some (.int .i64 ((rd_T38 t293 x15_5).f1)) := (q8a BK321.out 1).trans rfl
              have hcz121_2 : w85.cell? ⟨gb321, 2, none⟩ = some (.int .i64 ((rd_T38 t293 x15_5).f2)) := (q8a BK321.out 2).trans rfl
              have hcz121_3 : w85.cell? ⟨gb321, 3, none⟩ = some (.int .i64 ((rd_T38 t293 x15_5).f3)) := (q8a BK321.out 3).trans rfl
              have hcz121_4 : w85.cell? ⟨gb321, 4, none⟩ = some (.bool ((rd_T38 t293 x15_5).f4)) := (q8a BK321.out 4).trans rfl
              have hfz121_0 := zd BK321.out 0
              have hfz121_1 := zd BK321.out 1
              have hfz121_2 := zd BK321.out 2
              have hfz121_3 := zd BK321.out 3
              have hfz121_4 := zd BK321.out 4
              go_wp2
              go_meet
              case rel => exact ⟨_, (false), zG68, H', ⟨zH49⟩, ⟨zH71⟩, ⟨zH72⟩, ⟨zH68⟩, ⟨zH67⟩, ⟨zH66⟩, ⟨zH64⟩, ⟨zH25⟩⟩
             rw [if_pos c91] at H
             have c91b0 := decide_eq_true c91
             clear c91
             by_cases c92 : ((rd_T38 t293 x15_5).f0).toList = ((rd_T34 t277 t280).f1).toList
             rotate_left
             ·rw [if_neg c92] at H
              have c92b0 : (((rd_T38 t293 x15_5).f0).toList == ((rd_T34 t277 t280).f1).toList) = false := beq_eq_false_iff_ne.mpr c92
              have c92b1 : (((rd_T38 t293 x15_5).f0).toList != ((rd_T34 t277 t280).f1).toList) = true := bne_iff_ne.mpr c92
              have H' := za H
              clear H
              have hnb111 := NB321_297.out
              have hnc111 := NB297_321.out
              have hnb112 := NB321_315.out
              have hnc112 := NB315_321.out
              have hnb113 := NB321_318.out
              have hnc113 := NB318_321.out
              have hcz114_0 : w85.cell? ⟨gb321, 0, none⟩ = some (.string ((rd_T38 t293 x15_5).f0)) := (q8a BK321.out 0).trans rfl
              have hcz114_1 : w85.cell? ⟨gb321, 1, none⟩ = some (.int .i64 ((rd_T38 t293 x15_5).f1)) := (q8a BK321.out 1).trans rfl
              have hcz114_2 : w85.cell? ⟨gb321, 2, none⟩ = some (.int .i64 ((rd_T38 t293 x15_5).f2)) := (q8a BK321.out 2).trans rfl
              have hcz114_3 : w85.cell? ⟨gb321, 3, none⟩ = some (.int .i64 ((rd_T38 t293 x15_5).f3)) := (q8a BK321.out 3).trans rfl
              have hcz114_4 : w85.cell? ⟨gb321, 4, none⟩ = some (.bool ((rd_T38 t293 x15_5).f4)) := (q8a BK321.out 4).trans rfl
              have hfz114_0 := zd BK321.out 0
              have hfz114_1 := zd BK321.out 1
              have hfz114_2 := zd BK321.out 2
              have hfz114_3 := zd BK321.out 3
              have hfz114_4 := zd BK321.out 4
              have hnb115 := NB318_297.out
              have hnc115 := NB297_318.out
              have hnb116 := NB318_315.out
              have hnc116 := NB315_318.out
              have hcz117_0 : w85.cell? ⟨gb318, 0, none⟩ = some (.int .i64 ((rd_T34 t277 t280).f0)) := (q8a BK318.out 0).trans rfl
              have hcz117_1 : w85.cell? ⟨gb318, 1, none⟩ = some (.string ((rd_T34 t277 t280).f1)) := (q8a BK318.out 1).trans rfl
              have hcz117_2 : w85.cell? ⟨gb318, 2, none⟩ = some (.int .i64 ((rd_T34 t277 t280).f2)) := (q8a BK318.out 2).trans rfl
              have hcz117_3 : w85.cell? ⟨gb318, 3, none⟩ = some (.int .i64 ((rd_T34 t277 t280).f3)) := (q8a BK318.out 3).trans rfl
              have hcz117_4 : w85.cell? ⟨gb318, 4, none⟩ = some (.int .i64 ((rd_T34 t277 t280).f4)) := (q8a BK318.out 4).trans rfl
              have hfz117_0 := zd BK318.out 0
              have hfz117_1 := zd BK318.out 1
              have hfz117_2 := zd BK318.out 2
              have hfz117_3 := zd BK318.out 3
              have hfz117_4 := zd BK318.out 4
              go_wp2
              go_meet
              case rel => exact ⟨_, (true), zG68, H', ⟨zH49⟩, ⟨zH71⟩, ⟨zH72⟩, ⟨zH68⟩, ⟨zH67⟩, ⟨zH66⟩, ⟨zH64⟩, ⟨zH25⟩⟩
             rw [if_pos c92] at H
             have c92b0 : (((rd_T38 t293 x15_5).f0).toList == ((rd_T34 t277 t280).f1).toList) = true := beq_iff_eq.mpr c92
             have c92b1 : (((rd_T38 t293 x15_5).f0).toList != ((rd_T34 t277 t280).f1).toList) = false := bne_eq_false_iff_eq.mpr c92
             clear c92
             obtain ⟨bq93, hbq93⟩ : ∃ b_ : Bool, b_ = ((rd_T38 t293 x15_5).f4) := ⟨_, rfl⟩
             replace H : (if bq93 = true then (laws_FnStock.j5 k5 x14_5 x15_5 t322 true t288 t289 t290 t291 t292 t293 t306 t307 t308 t309 t310 t311 ((rd_T34 t277 t280).f0) ((rd_T34 t277 t280).f1) ((rd_T34 t277 t280).f2) ((rd_T34 t277 t280).f3) ((rd_T34 t277 t280).f4) ((rd_T38 t293 x15_5).f0) ((rd_T38 t293 x15_5).f1) ((rd_T38 t293 x15_5).f2) ((rd_T38 t293 x15_5).f3) bq93) else (laws_FnStock.j5 k5 x14_5 x15_5 t322 (decide (((rd_T38 t293 x15_5).f3) < t288)) t288 t289 t290 t291 t292 t293 t306 t307 t308 t309 t310 t311 ((rd_T34 t277 t280).f0) ((rd_T34 t277 t280).f1) ((rd_T34 t277 t280).f2) ((rd_T34 t277 t280).f3) ((rd_T34 t277 t280).f4) ((rd_T38 t293 x15_5).f0) ((rd_T38 t293 x15_5).f1) ((rd_T38 t293 x15_5).f2) ((rd_T38 t293 x15_5).f3) bq93)) = some r := by rw [← hbq93] at H; exact H
             have Nbq93 := za hbq93
             clear hbq93
             by_cases c94 : bq93 = true
             ·subst c94
              have H1 : (laws_FnStock.j5 k5 x14_5 x15_5 t322 true t288 t289 t290 t291 t292 t293 t306 t307 t308 t309 t310 t311 ((rd_T34 t277 t280).f0) ((rd_T34 t277 t280).f1) ((rd_T34 t277 t280).f2) ((rd_T34 t277 t280).f3) ((rd_T34 t277 t280).f4) ((rd_T38 t293 x15_5).f0) ((rd_T38 t293 x15_5).f1) ((rd_T38 t293 x15_5).f2) ((rd_T38 t293 x15_5).f3) true) = some r := by rw [if_pos rfl] at H; exact H
              clear H
              have H := H1
              clear H1
              have H' := za H
              clear H
              have hnb95 := NB321_297.out
              have hnc95 := NB297_321.out
              have hnb96 := NB321_315.out
              have hnc96 := NB315_321.out
              have hnb97 := NB321_318.out
              have hnc97 := NB318_321.out
              have hcz98_0 : w85.cell? ⟨gb321, 0, none⟩ = some (.string ((rd_T38 t293 x15_5).f0)) := (q8a BK321.out 0).trans rfl
              have hcz98_1 : w85.cell? ⟨gb321, 1, none⟩ = some (.int .i64 ((rd_T38 t293 x15_5).f1)) := (q8a BK321.out 1).trans rfl
              have hcz98_2 : w85.cell? ⟨gb321, 2, none⟩ = some (.int .i64 ((rd_T38 t293 x15_5).f2)) := (q8a BK321.out 2).trans rfl
              have hcz98_3 : w85.cell? ⟨gb321, 3, none⟩ = some (.int .i64 ((rd_T38 t293 x15_5).f3)) := (q8a BK321.out 3).trans rfl
              have hcz98_4 : w85.cell? ⟨gb321, 4, none⟩ = some (.bool true) := (q8a BK321.out 4).trans (congrArg (fun b_ => some (Value.bool b_)) Nbq93.out.symm)
              have hfz98_0 := zd BK321.out 0
              have hfz98_1 := zd BK321.out 1
              have hfz98_2 := zd BK321.out 2
              have hfz98_3 := zd BK321.out 3
              have hfz98_4 := zd BK321.out 4
              have hnb99 := NB318_297.out
              have hnc99 := NB297_318.out
              have hnb100 := NB318_315.out
              have hnc100 := NB315_318.out
              have hcz101_0 : w85.cell? ⟨gb318, 0, none⟩ = some (.int .i64 ((rd_T34 t277 t280).f0)) := (q8a BK318.out 0).trans rfl
              have hcz101_1 : w85.cell? ⟨gb318, 1, none⟩ = some (.string ((rd_T34 t277 t280).f1)) := (q8a BK318.out 1).trans rfl
              have hcz101_2 : w85.cell? ⟨gb318, 2, none⟩ = some (.int .i64 ((rd_T34 t277 t280).f2)) := (q8a BK318.out 2).trans rfl
              have hcz101_3 : w85.cell? ⟨gb318, 3, none⟩ = some (.int .i64 ((rd_T34 t277 t280).f3)) := (q8a BK318.out 3).trans rfl
              have hcz101_4 : w85.cell? ⟨gb318, 4, none⟩ = some (.int .i64 ((rd_T34 t277 t280).f4)) := (q8a BK318.out 4).trans rfl
              have hfz101_0 := zd BK318.out 0
              have hfz101_1 := zd BK318.out 1
              have hfz101_2 := zd BK318.out 2
              have hfz101_3 := zd BK318.out 3
              have hfz101_4 := zd BK318.out 4
              go_wp2
              go_meet
              case rel => exact ⟨_, (true), zG68, (by rw [← Nbq93.out]; exact H'), ⟨zH49⟩, ⟨zH71⟩, ⟨zH72⟩, ⟨zH68⟩, ⟨zH67⟩, ⟨zH66⟩, ⟨zH64⟩, ⟨zH25⟩⟩
             replace c94 := Bool.eq_false_iff.mpr c94
             subst c94
             have H1 : (laws_FnStock.j5 k5 x14_5 x15_5 t322 (decide (((rd_T38 t293 x15_5).f3) < t288)) t288 t289 t290 t291 t292 t293 t306 t307 t308 t309 t310 t311 ((rd_T34 t277 t280).f0) ((rd_T34 t277 t280).f1) ((rd_T34 t277 t280).f2) ((rd_T34 t277 t280).f3) ((rd_T34 t277 t280).f4) ((rd_T38 t293 x15_5).f0) ((rd_T38 t293 x15_5).f1) ((rd_T38 t293 x15_5).f2) ((rd_T38 t293 x15_5).f3) false) = some r := by rw [if_neg (show ¬ (false = true) by decide)] at H; exact H
             clear H
             have H := H1
             clear H1
             have H' := za H
             clear H
             have hnb102 := NB321_297.out
             have hnc102 := NB297_321.out
             have hnb103 := NB321_315.out
             have hnc103 := NB315_321.out
             have hnb104 := NB321_318.out
             have hnc104 := NB318_321.out
             have hcz105_0 : w85.cell? ⟨gb321, 0, none⟩ = some (.string ((rd_T38 t293 x15_5).f0)) := (q8a BK321.out 0).trans rfl
             have hcz105_1 : w85.cell? ⟨gb321, 1, none⟩ = some (.int .i64 ((rd_T38 t293 x15_5).f1)) := (q8a BK321.out 1).trans rfl
             have hcz105_2 : w85.cell? ⟨gb321, 2, none⟩ = some (.int .i64 ((rd_T38 t293 x15_5).f2)) := (q8a BK321.out 2).trans rfl
             have hcz105_3 : w85.cell? ⟨gb321, 3, none⟩ = some (.int .i64 ((rd_T38 t293 x15_5).f3)) := (q8a BK321.out 3).trans rfl
             have hcz105_4 : w85.cell? ⟨gb321, 4, none⟩ = some (.bool false) := (q8a BK321.out 4).trans (congrArg (fun b_ => some (Value.bool b_)) Nbq93.out.symm)
             have hfz105_0 := zd BK321.out 0
             have hfz105_1 := zd BK321.out 1
             have hfz105_2 := zd BK321.out 2
             have hfz105_3 := zd BK321.out 3
             have hfz105_4 := zd BK321.out 4
             have hnb106 := NB318_297.out
             have hnc106 := NB297_318.out
             have hnb107 := NB318_315.out
             have hnc107 := NB315_318.out
             have hcz108_0 : w85.cell? ⟨gb318, 0, none⟩ = some (.int .i64 ((rd_T34 t277 t280).f0)) := (q8a BK318.out 0).trans rfl
             have hcz108_1 : w85.cell? ⟨gb318, 1, none⟩ = some (.string ((rd_T34 t277 t280).f1)) := (q8a BK318.out 1).trans rfl
             have hcz108_2 : w85.cell? ⟨gb318, 2, none⟩ = some (.int .i64 ((rd_T34 t277 t280).f2)) := (q8a BK318.out 2).trans rfl
             have hcz108_3 : w85.cell? ⟨gb318, 3, none⟩ = some (.int .i64 ((rd_T34 t277 t280).f3)) := (q8a BK318.out 3).trans rfl
             have hcz108_4 : w85.cell? ⟨gb318, 4, none⟩ = some (.int .i64 ((rd_T34 t277 t280).f4)) := (q8a BK318.out 4).trans rfl
             have hfz108_0 := zd BK318.out 0
             have hfz108_1 := zd BK318.out 1
             have hfz108_2 := zd BK318.out 2
             have hfz108_3 := zd BK318.out 3
             have hfz108_4 := zd BK318.out 4
             have hnb109 := NB297_315.out
             have hnc109 := NB315_297.out
             have hcz110_0 : w85.cell? ⟨gb297, 0, none⟩ = some (.int .i64 t288) := (q8a BK297.out 0).trans rfl
             have hcz110_1 : w85.cell? ⟨gb297, 1, none⟩ = some (.int .i64 t289) := (q8a BK297.out 1).trans rfl
             have hcz110_2 : w85.cell? ⟨gb297, 2, none⟩ = some (.int .i64 t290) := (q8a BK297.out 2).trans rfl
             have hcz110_3 : w85.cell? ⟨gb297, 3, none⟩ = some (.int .i64 t291) := (q8a BK297.out 3).trans rfl
             have hcz110_4 : w85.cell? ⟨gb297, 4, none⟩ = some (.int .i64 t292) := (q8a BK297.out 4).trans rfl
             have hcz110_5 : w85.cell? ⟨gb297, 5, none⟩ = some (.slice (some ad320) t293.length co18) := (q8a BK297.out 5).trans rfl
             have hfz110_0 := zd BK297.out 0
             have hfz110_1 := zd BK297.out 1
             have hfz110_2 := zd BK297.out 2
             have hfz110_3 := zd BK297.out 3
             have hfz110_4 := zd BK297.out 4
             have hfz110_5 := zd BK297.out 5
             go_wp2
             go_meet
             case rel => exact ⟨_, (decide (((rd_T38 t293 x15_5).f3) < t288)), zG68, (by rw [← Nbq93.out]; exact H'), ⟨zH49⟩, ⟨zH71⟩, ⟨zH72⟩, ⟨zH68⟩, ⟨zH67⟩, ⟨zH66⟩, ⟨zH64⟩, ⟨zH25⟩⟩
            case rest =>
             clear HC74
             try clear c1
             try clear c4
             try clear c4b0
             try clear c4b1
             try clear c5
             try clear c8
             try clear c8b0
             try clear c8b1
             try clear c9
             try clear c9b0
             try clear c9b1
             try clear q14
             try clear c19
             try clear c19b0
             try clear c19b1
             try clear c23
             try clear c24
             try clear c24b0
             try clear c24b1
             try clear c26
             try clear c26b0
             try clear c26b1
             try clear c27
             try clear c27b0
             try clear c27b1
             try clear q30
             try clear c36
             try clear c36b0
             try clear c36b1
             try clear c38
             try clear c46
             try clear c47
             try clear c47b0
             try clear c48
             try clear c48b0
             try clear c54
             try clear c54b0
             try clear c54b1
             try clear c55
             try clear c55b0
             try clear c63
             try clear c64
             try clear c64b0
             try clear c64b1
             try clear c71
             try clear c71b0
             try clear c72
             try clear c72b0
             try clear c86
             try clear c86b0
             try clear c91
             try clear c91b0
             try clear c92
             try clear c92b0
             try clear c92b1
             try clear c94
             try clear hcz101_0
             try clear hcz101_1
             try clear hcz101_2
             try clear hcz101_3
             try clear hcz101_4
             try clear hcz105_0
             try clear hcz105_1
             try clear hcz105_2
             try clear hcz105_3
             try clear hcz105_4
             try clear hcz108_0
             try clear hcz108_1
             try clear hcz108_2
             try clear hcz108_3
             try clear hcz108_4
             try clear hcz110_0
             try clear hcz110_1
             try clear hcz110_2
             try clear hcz110_3
             try clear hcz110_4
             try clear hcz110_5
             try clear hcz114_0
             try clear hcz114_1
             try clear hcz114_2
             try clear hcz114_3
             try clear hcz114_4
             try clear hcz117_0
             try clear hcz117_1
             try clear hcz117_2
             try clear hcz117_3
             try clear hcz117_4
             try clear hcz121_0
             try clear hcz121_1
             try clear hcz121_2
             try clear hcz121_3
             try clear hcz121_4
             try clear hcz17_0
             try clear hcz17_1
             try clear hcz17_2
             try clear hcz17_3
             try clear hcz17_4
             try clear hcz17_5
             try clear hcz21_0
             try clear hcz21_1
             try clear hcz21_2
             try clear hcz21_3
             try clear hcz21_4
             try clear hcz21_5
             try clear hcz34_0
             try clear hcz34_1
             try clear hcz34_2
             try clear hcz34_3
             try clear hcz34_4
             try clear hcz34_5
             try clear hcz40_0
             try clear hcz40_1
             try clear hcz40_2
             try clear hcz40_3
             try clear hcz40_4
             try clear hcz40_5
             try clear hcz44_0
             try clear hcz44_1
             try clear hcz44_2
             try clear hcz44_3
             try clear hcz44_4
             try clear hcz44_5
             try clear hcz53_0
             try clear hcz53_1
             try clear hcz53_2
             try clear hcz53_3
             try clear hcz53_4
             try clear hcz58_0
             try clear hcz58_1
             try clear hcz58_2
             try clear hcz58_3
             try clear hcz58_4
             try clear hcz62_0
             try clear hcz62_1
             try clear hcz62_2
             try clear hcz62_3
             try clear hcz62_4
             try clear hcz67_0
             try clear hcz67_1
             try clear hcz67_2
             try clear hcz67_3
             try clear hcz67_4
             try clear hcz67_5
             try clear hcz69_0
             try clear hcz69_1
             try clear hcz69_2
             try clear hcz69_3
             try clear hcz69_4
             try clear hcz69_5
             try clear hcz70_0
             try clear hcz70_1
             try clear hcz70_2
             try clear hcz70_3
             try clear hcz70_4
             try clear hcz77_0
             try clear hcz77_1
             try clear hcz77_2
             try clear hcz77_3
             try clear hcz77_4
             try clear hcz77_5
             try clear hcz82_0
             try clear hcz82_1
             try clear hcz82_2
             try clear hcz82_3
             try clear hcz82_4
             try clear hcz84_0
             try clear hcz84_1
             try clear hcz84_2
             try clear hcz84_3
             try clear hcz84_4
             try clear hcz84_5
             try clear hcz90_0
             try clear hcz90_1
             try clear hcz90_2
             try clear hcz90_3
             try clear hcz90_4
             try clear hcz98_0
             try clear hcz98_1
             try clear hcz98_2
             try clear hcz98_3
             try clear hcz98_4
             try clear hfz101_0
             try clear hfz101_1
             try clear hfz101_2
             try clear hfz101_3
             try clear hfz101_4
             try clear hfz105_0
             try clear hfz105_1
             try clear hfz105_2
             try clear hfz105_3
             try clear hfz105_4
             try clear hfz108_0
             try clear hfz108_1
             try clear hfz108_2
             try clear hfz108_3
             try clear hfz108_4
             try clear hfz110_0
             try clear hfz110_1
             try clear hfz110_2
             try clear hfz110_3
             try clear hfz110_4
             try clear hfz110_5
             try clear hfz114_0
             try clear hfz114_1
             try clear hfz114_2
             try clear hfz114_3
             try clear hfz114_4
             try clear hfz117_0
             try clear hfz117_1
             try clear hfz117_2
             try clear hfz117_3
             try clear hfz117_4
             try clear hfz121_0
             try clear hfz121_1
             try clear hfz121_2
             try clear hfz121_3
             try clear hfz121_4
             try clear hfz17_0
             try clear hfz17_1
             try clear hfz17_2
             try clear hfz17_3
             try clear hfz17_4
             try clear hfz17_5
             try clear hfz21_0
             try clear hfz21_1
             try clear hfz21_2
             try clear hfz21_3
             try clear hfz21_4
             try clear hfz21_5
             try clear hfz34_0
             try clear hfz34_1
             try clear hfz34_2
             try clear hfz34_3
             try clear hfz34_4
             try clear hfz34_5
             try clear hfz40_0
             try clear hfz40_1
             try clear hfz40_2
             try clear hfz40_3
             try clear hfz40_4
             try clear hfz40_5
             try clear hfz44_0
             try clear hfz44_1
             try clear hfz44_2
             try clear hfz44_3
             try clear hfz44_4
             try clear hfz44_5
             try clear hfz53_0
             try clear hfz53_1
             try clear hfz53_2
             try clear hfz53_3
             try clear hfz53_4
             try clear hfz58_0
             try clear hfz58_1
             try clear hfz58_2
             try clear hfz58_3
             try clear hfz58_4
             try clear hfz62_0
             try clear hfz62_1
             try clear hfz62_2
             try clear hfz62_3
             try clear hfz62_4
             try clear hfz67_0
             try clear hfz67_1
             try clear hfz67_2
             try clear hfz67_3
             try clear hfz67_4
             try clear hfz67_5
             try clear hfz69_0
             try clear hfz69_1
             try clear hfz69_2
             try clear hfz69_3
             try clear hfz69_4
             try clear hfz69_5
             try clear hfz70_0
             try clear hfz70_1
             try clear hfz70_2
             try clear hfz70_3
             try clear hfz70_4
             try clear hfz77_0
             try clear hfz77_1
             try clear hfz77_2
             try clear hfz77_3
             try clear hfz77_4
             try clear hfz77_5
             try clear hfz82_0
             try clear hfz82_1
             try clear hfz82_2
             try clear hfz82_3
             try clear hfz82_4
             try clear hfz84_0
             try clear hfz84_1
             try clear hfz84_2
             try clear hfz84_3
             try clear hfz84_4
             try clear hfz84_5
             try clear hfz90_0
             try clear hfz90_1
             try clear hfz90_2
             try clear hfz90_3
             try clear hfz90_4
             try clear hfz98_0
             try clear hfz98_1
             try clear hfz98_2
             try clear hfz98_3
             try clear hfz98_4
             try clear hx317_0
             try clear hx317_1
             try clear hx317_2
             try clear hx317_3
             try clear hx317_4
             try clear hx319_0
             try clear hx319_1
             try clear hx320_0
             try clear hx320_1
             try clear hx320_2
             try clear hx320_3
             try clear hx320_4
             try clear p317
             try clear p319
             try clear p320
             try clear q14
             try clear q30
             try clear q317
             try clear q319
             try clear q320
             obtain ⟨kq, x143_73, rfl, HA, HJ73, HO_298005, HO_316005, BK297, BK315, BK318, BK321, HB⟩ := hcut
             cases kq with
             | zero => exact absurd HA.out (by simp [laws_FnStock.j5])
             | succ kj73 =>
              have H := HA.out
              clear HA
              simp only [laws_FnStock.j5] at H
              by_cases c122 : x143_73 = true
              ·subst c122
               have H1 : (some false) = some r := by rw [if_pos rfl] at H; exact H
               clear H
               have H := H1
               clear H1
               obtain rfl := Option.some.inj H
               go_wp2
               go_ret
               exact ⟨zH29, zH25⟩
              replace c122 := Bool.eq_false_iff.mpr c122
              subst c122
              have H1 : (if t322 < ((rd_T38 t293 x15_5).f2) then (laws_FnStock.l0 kj73 (mx x14_5 ((rd_T38 t293 x15_5).f3)) (wrap64 (x15_5 + 1)) t288 t289 t290 t291 t292 t293 t306 t307 t308 t309 t310 t311 ((rd_T34 t277 t280).f0) ((rd_T34 t277 t280).f1) ((rd_T34 t277 t280).f2) ((rd_T34 t277 t280).f3) ((rd_T34 t277 t280).f4)) else (laws_FnStock.l0 kj73 x14_5 (wrap64 (x15_5 + 1)) t288 t289 t290 t291 t292 t293 t306 t307 t308 t309 t310 t311 ((rd_T34 t277 t280).f0) ((rd_T34 t277 t280).f1) ((rd_T34 t277 t280).f2) ((rd_T34 t277 t280).f3) ((rd_T34 t277 t280).f4))) = some r := by rw [if_neg (show ¬ (false = true) by decide)] at H; exact H
              clear H
              have H := H1
              clear H1
              by_cases c123 : t322 < ((rd_T38 t293 x15_5).f2)
              rotate_left
              ·rw [if_neg c123] at H
               have c123b0 := decide_eq_false c123
               clear c123
               have H' := za H
               clear H
               have hnb129 := NB321_297.out
               have hnc129 := NB297_321.out
               have hnb130 := NB321_315.out
               have hnc130 := NB315_321.out
               have hnb131 := NB321_318.out
               have hnc131 := NB318_321.out
               have hcz132_0 : wc.cell? ⟨gb321, 0, none⟩ = some (.string ((rd_T38 t293 x15_5).f0)) := (q8a BK321.out 0).trans rfl
               have hcz132_1 : wc.cell? ⟨gb321, 1, none⟩ = some (.int .i64 ((rd_T38 t293 x15_5).f1)) := (q8a BK321.out 1).trans rfl
               have hcz132_2 : wc.cell? ⟨gb321, 2, none⟩ = some (.int .i64 ((rd_T38 t293 x15_5).f2)) := (q8a BK321.out 2).trans rfl
               have hcz132_3 : wc.cell? ⟨gb321, 3, none⟩ = some (.int .i64 ((rd_T38 t293 x15_5).f3)) := (q8a BK321.out 3).trans rfl
               have hcz132_4 : wc.cell? ⟨gb321, 4, none⟩ = some (.bool ((rd_T38 t293 x15_5).f4)) := (q8a BK321.out 4).trans rfl
               have hfz132_0 := zd BK321.out 0
               have hfz132_1 := zd BK321.out 1
               have hfz132_2 := zd BK321.out 2
               have hfz132_3 := zd BK321.out 3
               have hfz132_4 := zd BK321.out 4
               go_wp2
               go_roundg kj73
               case measure => have := HJ2.out; have := HJ10.out; have := HJ28.out; have := HJ48.out; have := HK5.out; have := HJ73.out; omega
               case rel => exact ⟨(x14_5), (wrap64 (x15_5 + 1)), zG68, zG68, H', ⟨zH52⟩, ⟨zH55⟩, ⟨zH56⟩, ⟨zH68⟩, ⟨zH67⟩, ⟨zH66⟩, ⟨zH25⟩⟩
              rw [if_pos c123] at H
              have c123b0 := decide_eq_true c123
              clear c123
              obtain ⟨ji124, hji124⟩ : ∃ j_ : Int, (mx x14_5 ((rd_T38 t293 x15_5).f3)) = j_ := ⟨_, rfl⟩
              replace H : (laws_FnStock.l0 kj73 ji124 (wrap64 (x15_5 + 1)) t288 t289 t290 t291 t292 t293 t306 t307 t308 t309 t310 t311 ((rd_T34 t277 t280).f0) ((rd_T34 t277 t280).f1) ((rd_T34 t277 t280).f2) ((rd_T34 t277 t280).f3) ((rd_T34 t277 t280).f4)) = some r := by first | (rw [hji124] at H; exact H) | (simp only [hji124] at H ⊢; exact H)
              have hji124_ : (if x14_5 < ((rd_T38 t293 x15_5).f3) then ((rd_T38 t293 x15_5).f3) else x14_5) = ji124 := hji124
              have H' := za H
              clear H
              have hnb125 := NB321_297.out
              have hnc125 := NB297_321.out
              have hnb126 := NB321_315.out
              have hnc126 := NB315_321.out
              have hnb127 := NB321_318.out
              have hnc127 := NB318_321.out
              have hcz128_0 : wc.cell? ⟨gb321, 0, none⟩ = some (.string ((rd_T38 t293 x15_5).f0)) := (q8a BK321.out 0).trans rfl
              have hcz128_1 : wc.cell? ⟨gb321, 1, none⟩ = some (.int .i64 ((rd_T38 t293 x15_5).f1)) := (q8a BK321.out 1).trans rfl
              have hcz128_2 : wc.cell? ⟨gb321, 2, none⟩ = some (.int .i64 ((rd_T38 t293 x15_5).f2)) := (q8a BK321.out 2).trans rfl
              have hcz128_3 : wc.cell? ⟨gb321, 3, none⟩ = some (.int .i64 ((rd_T38 t293 x15_5).f3)) := (q8a BK321.out 3).trans rfl
              have hcz128_4 : wc.cell? ⟨gb321, 4, none⟩ = some (.bool ((rd_T38 t293 x15_5).f4)) := (q8a BK321.out 4).trans rfl
              have hfz128_0 := zd BK321.out 0
              have hfz128_1 := zd BK321.out 1
              have hfz128_2 := zd BK321.out 2
              have hfz128_3 := zd BK321.out 3
              have hfz128_4 := zd BK321.out 4
              go_wp2
              go_roundg kj73
              case measure => have := HJ2.out; have := HJ10.out; have := HJ28.out; have := HJ48.out; have := HK5.out; have := HJ73.out; omega
              case rel => exact ⟨(ji124), (wrap64 (x15_5 + 1)), (by first | rfl | (simp; done) | (simp only [← hji124] <;> (first | rfl | simp)) | (simp [*]; done)), zG68, H', ⟨zH52⟩, ⟨zH55⟩, ⟨zH56⟩, ⟨zH68⟩, ⟨zH67⟩, ⟨zH66⟩, ⟨zH25⟩⟩
           rw [if_neg c71] at H
           have c71b0 := decide_eq_false c71
           clear c71
           have H' := za H
           clear H
           have hnb133 := NB297_315.out
           have hnc133 := NB315_297.out
           have hnb134 := NB297_318.out
           have hnc134 := NB318_297.out
           have hcz135_0 : wr.cell? ⟨gb297, 0, none⟩ = some (.int .i64 t288) := (q8a BK297.out 0).trans rfl
           have hcz135_1 : wr.cell? ⟨gb297, 1, none⟩ = some (.int .i64 t289) := (q8a BK297.out 1).trans rfl
           have hcz135_2 : wr.cell? ⟨gb297, 2, none⟩ = some (.int .i64 t290) := (q8a BK297.out 2).trans rfl
           have hcz135_3 : wr.cell? ⟨gb297, 3, none⟩ = some (.int .i64 t291) := (q8a BK297.out 3).trans rfl
           have hcz135_4 : wr.cell? ⟨gb297, 4, none⟩ = some (.int .i64 t292) := (q8a BK297.out 4).trans rfl
           have hcz135_5 : wr.cell? ⟨gb297, 5, none⟩ = some (.slice Ao18 t293.length co18) := (q8a BK297.out 5).trans rfl
           have hfz135_0 := zd BK297.out 0
           have hfz135_1 := zd BK297.out 1
           have hfz135_2 := zd BK297.out 2
           have hfz135_3 := zd BK297.out 3
           have hfz135_4 := zd BK297.out 4
           have hfz135_5 := zd BK297.out 5
           go_wp2
           go_loopg [18] k5 (fun kq v18 w' => ∃ (x18_6 : Int), v18 = .int .i64 x18_6 ∧ Aside0 (laws_FnStock.l1 kq x14_5 x18_6 t288 t289 t290 t291 t292 t293 t306 t307 t308 t309 t310 t311 ((rd_T34 t277 t280).f0) ((rd_T34 t277 t280).f1) ((rd_T34 t277 t280).f2) ((rd_T34 t277 t280).f3) ((rd_T34 t277 t280).f4) = some r) ∧ Aside0 (kq ≤ k5) ∧ Aside0 (Kd.R k38 38 w' w.heap.size (fun k_ => some k_ ≠ ((.slice Ao35 t311.length co35) : Value).ownBlock) (.slice Ao18 t293.length co18) t293) ∧ Aside0 (Kd.R k38 38 w' w.heap.size (fun k_ => some k_ ≠ ((.slice Ao18 t293.length co18) : Value).ownBlock) (.slice Ao35 t311.length co35) t311) ∧ Aside0 (w'.heap[gb297]? = some (.cells (zs6 t288 t289 t290 t291 t292 (.slice Ao18 t293.length co18)) 29 (0, 0))) ∧ Aside0 (w'.heap[gb315]? = some (.cells (zs6 t306 t307 t308 t309 t310 (.slice Ao35 t311.length co35)) 29 (0, 0))) ∧ Aside0 (w'.heap[gb318]? = some (.cells (za5 ((rd_T34 t277 t280).f0) ((rd_T34 t277 t280).f1) ((rd_T34 t277 t280).f2) ((rd_T34 t277 t280).f3) ((rd_T34 t277 t280).f4)) 34 (0, 0))) ∧ Aside0 (Below w.heap.size w w'))
           case atStart => exact ⟨(0), zG68, H', ⟨Nat.le_refl _⟩, ⟨zH71⟩, ⟨zH72⟩, ⟨zH68⟩, ⟨zH67⟩, ⟨zH66⟩, ⟨zH26⟩⟩
           case round =>
            clear H'
            try clear c1
            try clear c4
            try clear c4b0
            try clear c4b1
            try clear c5
            try clear c8
            try clear c8b0
            try clear c8b1
            try clear c9
            try clear c9b0
            try clear c9b1
            try clear q14
            try clear c19
            try clear c19b0
            try clear c19b1
            try clear c23
            try clear c24
            try clear c24b0
            try clear c24b1
            try clear c26
            try clear c26b0
            try clear c26b1
            try clear c27
            try clear c27b0
            try clear c27b1
            try clear q30
            try clear c36
            try clear c36b0
            try clear c36b1
            try clear c38
            try clear c46
            try clear c47
            try clear c47b0
            try clear c48
            try clear c48b0
            try clear c54
            try clear c54b0
            try clear c54b1
            try clear c55
            try clear c55b0
            try clear c63
            try clear c64
            try clear c64b0
            try clear c64b1
            try clear c71
            try clear c71b0
            try clear c72
            try clear c72b0
            try clear c86
            try clear c86b0
            try clear c91
            try clear c91b0
            try clear c92
            try clear c92b0
            try clear c92b1
            try clear c94
            try clear c122
            try clear c123
            try clear c123b0
            try clear hcz101_0
            try clear hcz101_1
            try clear hcz101_2
            try clear hcz101_3
            try clear hcz101_4
            try clear hcz105_0
            try clear hcz105_1
            try clear hcz105_2
            try clear hcz105_3
            try clear hcz105_4
            try clear hcz108_0
            try clear hcz108_1
            try clear hcz108_2
            try clear hcz108_3
            try clear hcz108_4
            try clear hcz110_0
            try clear hcz110_1
            try clear hcz110_2
            try clear hcz110_3
            try clear hcz110_4
            try clear hcz110_5
            try clear hcz114_0
            try clear hcz114_1
            try clear hcz114_2
            try clear hcz114_3
            try clear hcz114_4
            try clear hcz117_0
            try clear hcz117_1
            try clear hcz117_2
            try clear hcz117_3
            try clear hcz117_4
            try clear hcz121_0
            try clear hcz121_1
            try clear hcz121_2
            try clear hcz121_3
            try clear hcz121_4
            try clear hcz128_0
            try clear hcz128_1
            try clear hcz128_2
            try clear hcz128_3
            try clear hcz128_4
            try clear hcz132_0
            try clear hcz132_1
            try clear hcz132_2
            try clear hcz132_3
            try clear hcz132_4
            try clear hcz135_0
            try clear hcz135_1
            try clear hcz135_2
            try clear hcz135_3
            try clear hcz135_4
            try clear hcz135_5
            try clear hcz17_0
            try clear hcz17_1
            try clear hcz17_2
            try clear hcz17_3
            try clear hcz17_4
            try clear hcz17_5
            try clear hcz21_0
            try clear hcz21_1
            try clear hcz21_2
            try clear hcz21_3
            try clear hcz21_4
            try clear hcz21_5
            try clear hcz34_0
            try clear hcz34_1
            try clear hcz34_2
            try clear hcz34_3
            try clear hcz34_4
            try clear hcz34_5
            try clear hcz40_0
            try clear hcz40_1
            try clear hcz40_2
            try clear hcz40_3
            try clear hcz40_4
            try clear hcz40_5
            try clear hcz44_0
            try clear hcz44_1
            try clear hcz44_2
            try clear hcz44_3
            try clear hcz44_4
            try clear hcz44_5
            try clear hcz53_0
            try clear hcz53_1
            try clear hcz53_2
            try clear hcz53_3
            try clear hcz53_4
            try clear hcz58_0
            try clear hcz58_1
            try clear hcz58_2
            try clear hcz58_3
            try clear hcz58_4
            try clear hcz62_0
            try clear hcz62_1
            try clear hcz62_2
            try clear hcz62_3
            try clear hcz62_4
            try clear hcz67_0
            try clear hcz67_1
            try clear hcz67_2
            try clear hcz67_3
            try clear hcz67_4
            try clear hcz67_5
            try clear hcz69_0
            try clear hcz69_1
            try clear hcz69_2
            try clear hcz69_3
            try clear hcz69_4
            try clear hcz69_5
            try clear hcz70_0
            try clear hcz70_1
            try clear hcz70_2
            try clear hcz70_3
            try clear hcz70_4
            try clear hcz77_0
            try clear hcz77_1
            try clear hcz77_2
            try clear hcz77_3
            try clear hcz77_4
            try clear hcz77_5
            try clear hcz82_0
            try clear hcz82_1
            try clear hcz82_2
            try clear hcz82_3
            try clear hcz82_4
            try clear hcz84_0
            try clear hcz84_1
            try clear hcz84_2
            try clear hcz84_3
            try clear hcz84_4
            try clear hcz84_5
            try clear hcz90_0
            try clear hcz90_1
            try clear hcz90_2
            try clear hcz90_3
            try clear hcz90_4
            try clear hcz98_0
            try clear hcz98_1
            try clear hcz98_2
            try clear hcz98_3
            try clear hcz98_4
            try clear hfz101_0
            try clear hfz101_1
            try clear hfz101_2
            try clear hfz101_3
            try clear hfz101_4
            try clear hfz105_0
            try clear hfz105_1
            try clear hfz105_2
            try clear hfz105_3
            try clear hfz105_4
            try clear hfz108_0
            try clear hfz108_1
            try clear hfz108_2
            try clear hfz108_3
            try clear hfz108_4
            try clear hfz110_0
            try clear hfz110_1
            try clear hfz110_2
            try clear hfz110_3
            try clear hfz110_4
            try clear hfz110_5
            try clear hfz114_0
            try clear hfz114_1
            try clear hfz114_2
            try clear hfz114_3
            try clear hfz114_4
            try clear hfz117_0
            try clear hfz117_1
            try clear hfz117_2
            try clear hfz117_3
            try clear hfz117_4
            try clear hfz121_0
            try clear hfz121_1
            try clear hfz121_2
            try clear hfz121_3
            try clear hfz121_4
            try clear hfz128_0
            try clear hfz128_1
            try clear hfz128_2
            try clear hfz128_3
            try clear hfz128_4
            try clear hfz132_0
            try clear hfz132_1
            try clear hfz132_2
            try clear hfz132_3
            try clear hfz132_4
            try clear hfz135_0
            try clear hfz135_1
            try clear hfz135_2
            try clear hfz135_3
            try clear hfz135_4
            try clear hfz135_5
            try clear hfz17_0
            try clear hfz17_1
            try clear hfz17_2
            try clear hfz17_3
            try clear hfz17_4
            try clear hfz17_5
            try clear hfz21_0
            try clear hfz21_1
            try clear hfz21_2
            try clear hfz21_3
            try clear hfz21_4
            try clear hfz21_5
            try clear hfz34_0
            try clear hfz34_1
            try clear hfz34_2
            try clear hfz34_3
            try clear hfz34_4
            try clear hfz34_5
            try clear hfz40_0
            try clear hfz40_1
            try clear hfz40_2
            try clear hfz40_3
            try clear hfz40_4
            try clear hfz40_5
            try clear hfz44_0
            try clear hfz44_1
            try clear hfz44_2
            try clear hfz44_3
            try clear hfz44_4
            try clear hfz44_5
            try clear hfz53_0
            try clear hfz53_1
            try clear hfz53_2
            try clear hfz53_3
            try clear hfz53_4
            try clear hfz58_0
            try clear hfz58_1
            try clear hfz58_2
            try clear hfz58_3
            try clear hfz58_4
            try clear hfz62_0
            try clear hfz62_1
            try clear hfz62_2
            try clear hfz62_3
            try clear hfz62_4
            try clear hfz67_0
            try clear hfz67_1
            try clear hfz67_2
            try clear hfz67_3
            try clear hfz67_4
            try clear hfz67_5
            try clear hfz69_0
            try clear hfz69_1
            try clear hfz69_2
            try clear hfz69_3
            try clear hfz69_4
            try clear hfz69_5
            try clear hfz70_0
            try clear hfz70_1
            try clear hfz70_2
            try clear hfz70_3
            try clear hfz70_4
            try clear hfz77_0
            try clear hfz77_1
            try clear hfz77_2
            try clear hfz77_3
            try clear hfz77_4
            try clear hfz77_5
            try clear hfz82_0
            try clear hfz82_1
            try clear hfz82_2
            try clear hfz82_3
            try clear hfz82_4
            try clear hfz84_0
            try clear hfz84_1
            try clear hfz84_2
            try clear hfz84_3
            try clear hfz84_4
            try clear hfz84_5
            try clear hfz90_0
            try clear hfz90_1
            try clear hfz90_2
            try clear hfz90_3
            try clear hfz90_4
            try clear hfz98_0
            try clear hfz98_1
            try clear hfz98_2
            try clear hfz98_3
            try clear hfz98_4
            try clear hx317_0
            try clear hx317_1
            try clear hx317_2
            try clear hx317_3
            try clear hx317_4
            try clear hx319_0
            try clear hx319_1
            try clear hx320_0
            try clear hx320_1
            try clear hx320_2
            try clear hx320_3
            try clear hx320_4
            try clear p317
            try clear p319
            try clear p320
            try clear q14
            try clear q30
            try clear q317
            try clear q319
            try clear q320
            obtain ⟨x18_6, rfl, HA, HK6, HO_298005, HO_316005, BK297, BK315, BK318, HB⟩ := hrel
            cases gk with
            | zero => exact absurd HA.out (by simp [laws_FnStock.l1])
            | succ k6 =>
             have H := HA.out
             clear HA
             simp only [laws_FnStock.l1] at H
             by_cases c136 : x18_6 < (t293.length : Int)
             rotate_left
             ·rw [if_neg c136] at H
              have c136b0 := decide_eq_false c136
              clear c136
              obtain rfl := Option.some.inj H
              have hnb213 := NB297_315.out
              have hnc213 := NB315_297.out
              have hnb214 := NB297_318.out
              have hnc214 := NB318_297.out
              have hcz215_0 : wr.cell? ⟨gb297, 0, none⟩ = some (.int .i64 t288) := (q8a BK297.out 0).trans rfl
              have hcz215_1 : wr.cell? ⟨gb297, 1, none⟩ = some (.int .i64 t289) := (q8a BK297.out 1).trans rfl
              have hcz215_2 : wr.cell? ⟨gb297, 2, none⟩ = some (.int .i64 t290) := (q8a BK297.out 2).trans rfl
              have hcz215_3 : wr.cell? ⟨gb297, 3, none⟩ = some (.int .i64 t291) := (q8a BK297.out 3).trans rfl
              have hcz215_4 : wr.cell? ⟨gb297, 4, none⟩ = some (.int .i64 t292) := (q8a BK297.out 4).trans rfl
              have hcz215_5 : wr.cell? ⟨gb297, 5, none⟩ = some (.slice Ao18 t293.length co18) := (q8a BK297.out 5).trans rfl
              have hfz215_0 := zd BK297.out 0
              have hfz215_1 := zd BK297.out 1
              have hfz215_2 := zd BK297.out 2
              have hfz215_3 := zd BK297.out 3
              have hfz215_4 := zd BK297.out 4
              have hfz215_5 := zd BK297.out 5
              go_wp2
              go_ret
              exact zH15
             rw [if_pos c136] at H
             have c136b0 := decide_eq_true c136
             clear c136
             by_cases c137 : 0 ≤ x18_6
             rotate_left
             ·rw [if_neg c137] at H
              exact absurd H (by simp)
             rw [if_pos c137] at H
             have c137b0 := decide_eq_true c137
             clear c137
             by_cases c138 : ((rd_T38 t293 x18_6).f0).toList = ((rd_T34 t277 t280).f1).toList
             rotate_left
             ·rw [if_neg c138] at H
              have c138b0 : (((rd_T38 t293 x18_6).f0).toList == ((rd_T34 t277 t280).f1).toList) = false := beq_eq_false_iff_ne.mpr c138
              have c138b1 : (((rd_T38 t293 x18_6).f0).toList != ((rd_T34 t277 t280).f1).toList) = true := bne_iff_ne.mpr c138
              have H' := za H
              clear H
              have hnb203 := NB297_315.out
              have hnc203 := NB315_297.out
              have hnb204 := NB297_318.out
              have hnc204 := NB318_297.out
              have hcz205_0 : wr.cell? ⟨gb297, 0, none⟩ = some (.int .i64 t288) := (q8a BK297.out 0).trans rfl
              have hcz205_1 : wr.cell? ⟨gb297, 1, none⟩ = some (.int .i64 t289) := (q8a BK297.out 1).trans rfl
              have hcz205_2 : wr.cell? ⟨gb297, 2, none⟩ = some (.int .i64 t290) := (q8a BK297.out 2).trans rfl
              have hcz205_3 : wr.cell? ⟨gb297, 3, none⟩ = some (.int .i64 t291) := (q8a BK297.out 3).trans rfl
              have hcz205_4 : wr.cell? ⟨gb297, 4, none⟩ = some (.int .i64 t292) := (q8a BK297.out 4).trans rfl
              have hcz205_5 : wr.cell? ⟨gb297, 5, none⟩ = some (.slice Ao18 t293.length co18) := (q8a BK297.out 5).trans rfl
              have hfz205_0 := zd BK297.out 0
              have hfz205_1 := zd BK297.out 1
              have hfz205_2 := zd BK297.out 2
              have hfz205_3 := zd BK297.out 3
              have hfz205_4 := zd BK297.out 4
              have hfz205_5 := zd BK297.out 5
              have p323 : 0 ≤ (x18_6 : Int) := zO
              have q323 : x18_6 < (t293.length : Int) := zO
              obtain ⟨ad323, e323, hx323_0, hx323_1, hx323_2, hx323_3, hx323_4⟩ := at_T38 (zy HO_298005.out).2.2 x18_6 p323 q323
              cases e323
              replace p323 := eq_true p323
              replace q323 := eq_true q323
              go_wp2_with (first | ((with_reducible refine gate_dst (N := 19) rfl ?_); (try (refine gate_guard (by rfl) ?_; dsimp only)); refine box_event ?hg (N := 19) ?hd (cs := (zl5 (⟨#[]⟩ : ByteArray) 0 0 0 false)) (t := 38) ?hr ?_; (case hd => rfl); (case hg => rfl); (case hr => exact zH81); intro gb324 hg w206 hbox hb; have n_ := zA_ (za (zt (zac zK146 gb324 (Nat.le_of_eq hg.symm)) hb)) (zA_ (za (zt (zac zK147 gb324 (Nat.le_of_eq hg.symm)) hb)) (zA_ (za (zq (g := gb297) (o := .cells (zs6 t288 t289 t290 t291 t292 (.slice (some ad323) t293.length co18)) 29 (0, 0)) zG60 hb)) (zA_ (za (zq (g := gb315) (o := .cells (zs6 t306 t307 t308 t309 t310 (.slice Ao35 t311.length co35)) 29 (0, 0)) zG61 hb)) (zA_ (za (zq (g := gb318) (o := .cells (za5 ((rd_T34 t277 t280).f0) ((rd_T34 t277 t280).f1) ((rd_T34 t277 t280).f2) ((rd_T34 t277 t280).f3) ((rd_T34 t277 t280).f4)) 34 (0, 0)) zG62 hb)) (zA_ (za (zu zG53 hb)) (zA_ (za (hbox)) (zA_ (zN1 w.heap.size hg (zv zG53)) (zA_ (zN1 w.heap.size hg (zv zG53)) (zN3 hg (zx (g := gb297) (o := .cells (zs6 t288 t289 t290 t291 t292 (.slice (some ad323) t293.length co18)) 29 (0, 0)) zG60) (zN3 hg (zx (g := gb315) (o := .cells (zs6 t306 t307 t308 t309 t310 (.slice Ao35 t311.length co35)) 29 (0, 0)) zG61) (zN2 hg (zx (g := gb318) (o := .cells (za5 ((rd_T34 t277 t280).f0) ((rd_T34 t277 t280).f1) ((rd_T34 t277 t280).f2) ((rd_T34 t277 t280).f3) ((rd_T34 t277 t280).f4)) 34 (0, 0)) zG62)))))))))))); clear HO_298005 HO_316005 BK297 BK315 BK318 HB; obtain ⟨HO_298005, HO_316005, BK297, BK315, BK318, HB, BK324, GW324, GE324, NB297_324, NB324_297, NB315_324, NB324_315, NB318_324, NB324_318⟩ := n_; clear hb hbox hg; have hnb207 := NB324_297.out; have hnc207 := NB297_324.out; have hnb208 := NB324_315.out; have hnc208 := NB315_324.out; have hnb209 := NB324_318.out; have hnc209 := NB318_324.out; have hcz210_0 : w206.cell? ⟨gb324, 0, none⟩ = some (.string (⟨#[]⟩ : ByteArray)) := (q8a BK324.out 0).trans rfl; have hcz210_1 : w206.cell? ⟨gb324, 1, none⟩ = some (.int .i64 0) := (q8a BK324.out 1).trans rfl; have hcz210_2 : w206.cell? ⟨gb324, 2, none⟩ = some (.int .i64 0) := (q8a BK324.out 2).trans rfl; have hcz210_3 : w206.cell? ⟨gb324, 3, none⟩ = some (.int .i64 0) := (q8a BK324.out 3).trans rfl; have hcz210_4 : w206.cell? ⟨gb324, 4, none⟩ = some (.bool false) := (q8a BK324.out 4).trans rfl; have hfz210_0 := zd BK324.out 0; have hfz210_1 := zd BK324.out 1; have hfz210_2 := zd BK324.out 2; have hfz210_3 := zd BK324.out 3; have hfz210_4 := zd BK324.out 4; have hnb211 := NB318_315.out; have hnc211 := NB315_318.out; have hcz212_0 : w206.cell? ⟨gb318, 0, none⟩ = some (.int .i64 ((rd_T34 t277 t280).f0)) := (q8a BK318.out 0).trans rfl; have hcz212_1 : w206.cell? ⟨gb318, 1, none⟩ = some (.string ((rd_T34 t277 t280).f1)) := (q8a BK318.out 1).trans rfl; have hcz212_2 : w206.cell? ⟨gb318, 2, none⟩ = some (.int .i64 ((rd_T34 t277 t280).f2)) := (q8a BK318.out 2).trans rfl; have hcz212_3 : w206.cell? ⟨gb318, 3, none⟩ = some (.int .i64 ((rd_T34 t277 t280).f3)) := (q8a BK318.out 3).trans rfl; have hcz212_4 : w206.cell? ⟨gb318, 4, none⟩ = some (.int .i64 ((rd_T34 t277 t280).f4)) := (q8a BK318.out 4).trans rfl; have hfz212_0 := zd BK318.out 0; have hfz212_1 := zd BK318.out 1; have hfz212_2 := zd BK318.out 2; have hfz212_3 := zd BK318.out 3; have hfz212_4 := zd BK318.out 4))
              go_roundg k6
              case measure => have := HJ2.out; have := HJ10.out; have := HJ28.out; have := HJ48.out; have := HK5.out; have := HK6.out; omega
              case rel => exact ⟨(wrap64 (x18_6 + 1)), zG68, H', ⟨zH53⟩, ⟨by (with_reducible repeat (first | apply zj | apply zk | apply zl)); exact zn (zm (p := ⟨gb324, 4, none⟩) (zm (p := ⟨gb324, 3, none⟩) (zm (p := ⟨gb324, 2, none⟩) (zm (p := ⟨gb324, 1, none⟩) (zm (p := ⟨gb324, 0, none⟩) (zn HO_298005.out (fun k_ hk => (⟨hk, hk.2⟩ : _ ∧ k_ ≠ gb324))) (fun _ hk => hk.2) (.string ((rd_T38 t293 x18_6).f0))) (fun _ hk => hk.2) (.int .i64 ((rd_T38 t293 x18_6).f1))) (fun _ hk => hk.2) (.int .i64 ((rd_T38 t293 x18_6).f2))) (fun _ hk => hk.2) (.int .i64 ((rd_T38 t293 x18_6).f3))) (fun _ hk => hk.2) (.bool ((rd_T38 t293 x18_6).f4))) (fun _ hk => hk.1.1)⟩, ⟨by (with_reducible repeat (first | apply zj | apply zk | apply zl)); exact zn (zm (p := ⟨gb324, 4, none⟩) (zm (p := ⟨gb324, 3, none⟩) (zm (p := ⟨gb324, 2, none⟩) (zm (p := ⟨gb324, 1, none⟩) (zm (p := ⟨gb324, 0, none⟩) (zn HO_316005.out (fun k_ hk => (⟨hk, hk.2⟩ : _ ∧ k_ ≠ gb324))) (fun _ hk => hk.2) (.string ((rd_T38 t293 x18_6).f0))) (fun _ hk => hk.2) (.int .i64 ((rd_T38 t293 x18_6).f1))) (fun _ hk => hk.2) (.int .i64 ((rd_T38 t293 x18_6).f2))) (fun _ hk => hk.2) (.int .i64 ((rd_T38 t293 x18_6).f3))) (fun _ hk => hk.2) (.bool ((rd_T38 t293 x18_6).f4))) (fun _ hk => hk.1.1)⟩, ⟨zH5⟩, ⟨zH6⟩, ⟨zH7⟩, ⟨zH24⟩⟩
             rw [if_pos c138] at H
             have c138b0 : (((rd_T38 t293 x18_6).f0).toList == ((rd_T34 t277 t280).f1).toList) = true := beq_iff_eq.mpr c138
             have c138b1 : (((rd_T38 t293 x18_6).f0).toList != ((rd_T34 t277 t280).f1).toList) = false := bne_eq_false_iff_eq.mpr c138
             clear c138
             obtain ⟨bq139, hbq139⟩ : ∃ b_ : Bool, b_ = ((rd_T38 t293 x18_6).f4) := ⟨_, rfl⟩
             replace H : (if (bq139 = true) then (laws_FnStock.l1 k6 x14_5 (wrap64 (x18_6 + 1)) t288 t289 t290 t291 t292 t293 t306 t307 t308 t309 t310 t311 ((rd_T34 t277 t280).f0) ((rd_T34 t277 t280).f1) ((rd_T34 t277 t280).f2) ((rd_T34 t277 t280).f3) ((rd_T34 t277 t280).f4)) else (if ((rd_T38 t293 x18_6).f3) ≥ t288 then (if ((rd_T38 t293 x18_6).f3) < x14_5 then ((laws_units.f k6 t311 ((rd_T38 t293 x18_6).f0) ((rd_T38 t293 x18_6).f1) ((rd_T38 t293 x18_6).f2) ((rd_T38 t293 x18_6).f3) (bq139)).bind fun t325 => (if t325 > 0 then (some false) else (laws_FnStock.l1 k6 x14_5 (wrap64 (x18_6 + 1)) t288 t289 t290 t291 t292 t293 t306 t307 t308 t309 t310 t311 ((rd_T34 t277 t280).f0) ((rd_T34 t277 t280).f1) ((rd_T34 t277 t280).f2) ((rd_T34 t277 t280).f3) ((rd_T34 t277 t280).f4)))) else (laws_FnStock.l1 k6 x14_5 (wrap64 (x18_6 + 1)) t288 t289 t290 t291 t292 t293 t306 t307 t308 t309 t310 t311 ((rd_T34 t277 t280).f0) ((rd_T34 t277 t280).f1) ((rd_T34 t277 t280).f2) ((rd_T34 t277 t280).f3) ((rd_T34 t277 t280).f4))) else (laws_FnStock.l1 k6 x14_5 (wrap64 (x18_6 + 1)) t288 t289 t290 t291 t292 t293 t306 t307 t308 t309 t310 t311 ((rd_T34 t277 t280).f0) ((rd_T34 t277 t280).f1) ((rd_T34 t277 t280).f2) ((rd_T34 t277 t280).f3) ((rd_T34 t277 t280).f4)))) = some r := by rw [← hbq139] at H; exact H
             have Nbq139 := za hbq139
             clear hbq139
             by_cases c140 : (bq139 = true)
             ·subst c140
              have H1 : (laws_FnStock.l1 k6 x14_5 (wrap64 (x18_6 + 1)) t288 t289 t290 t291 t292 t293 t306 t307 t308 t309 t310 t311 ((rd_T34 t277 t280).f0) ((rd_T34 t277 t280).f1) ((rd_T34 t277 t280).f2) ((rd_T34 t277 t280).f3) ((rd_T34 t277 t280).f4)) = some r := by rw [if_pos rfl] at H; exact H
              clear H
              have H := H1
              clear H1
              have H' := za H
              clear H
              have hnb141 := NB297_315.out
              have hnc141 := NB315_297.out
              have hnb142 := NB297_318.out
              have hnc142 := NB318_297.out
              have hcz143_0 : wr.cell? ⟨gb297, 0, none⟩ = some (.int .i64 t288) := (q8a BK297.out 0).trans rfl
              have hcz143_1 : wr.cell? ⟨gb297, 1, none⟩ = some (.int .i64 t289) := (q8a BK297.out 1).trans rfl
              have hcz143_2 : wr.cell? ⟨gb297, 2, none⟩ = some (.int .i64 t290) := (q8a BK297.out 2).trans rfl
              have hcz143_3 : wr.cell? ⟨gb297, 3, none⟩ = some (.int .i64 t291) := (q8a BK297.out 3).trans rfl
              have hcz143_4 : wr.cell? ⟨gb297, 4, none⟩ = some (.int .i64 t292) := (q8a BK297.out 4).trans rfl
              have hcz143_5 : wr.cell? ⟨gb297, 5, none⟩ = some (.slice Ao18 t293.length co18) := (q8a BK297.out 5).trans rfl
              have hfz143_0 := zd BK297.out 0
              have hfz143_1 := zd BK297.out 1
              have hfz143_2 := zd BK297.out 2
              have hfz143_3 := zd BK297.out 3
              have hfz143_4 := zd BK297.out 4
              have hfz143_5 := zd BK297.out 5
              have p323 : 0 ≤ (x18_6 : Int) := zO
              have q323 : x18_6 < (t293.length : Int) := zO
              obtain ⟨ad323, e323, hx323_0, hx323_1, hx323_2, hx323_3, hx323_4⟩ := at_T38 (zy HO_298005.out).2.2 x18_6 p323 q323
              (try rw [← Nbq139.out] at hx323_4)
              cases e323
              replace p323 := eq_true p323
              replace q323 := eq_true q323
              go_wp2_with (first | ((with_reducible refine gate_dst (N := 19) rfl ?_); (try (refine gate_guard (by rfl) ?_; dsimp only)); refine box_event ?hg (N := 19) ?hd (cs := (zl5 (⟨#[]⟩ : ByteArray) 0 0 0 false)) (t := 38) ?hr ?_; (case hd => rfl); (case hg => rfl); (case hr => exact zH81); intro gb324 hg w144 hbox hb; have n_ := zA_ (za (zt (zac zK146 gb324 (Nat.le_of_eq hg.symm)) hb)) (zA_ (za (zt (zac zK147 gb324 (Nat.le_of_eq hg.symm)) hb)) (zA_ (za (zq (g := gb297) (o := .cells (zs6 t288 t289 t290 t291 t292 (.slice (some ad323) t293.length co18)) 29 (0, 0)) zG60 hb)) (zA_ (za (zq (g := gb315) (o := .cells (zs6 t306 t307 t308 t309 t310 (.slice Ao35 t311.length co35)) 29 (0, 0)) zG61 hb)) (zA_ (za (zq (g := gb318) (o := .cells (za5 ((rd_T34 t277 t280).f0) ((rd_T34 t277 t280).f1) ((rd_T34 t277 t280).f2) ((rd_T34 t277 t280).f3) ((rd_T34 t277 t280).f4)) 34 (0, 0)) zG62 hb)) (zA_ (za (zu zG53 hb)) (zA_ (za (hbox)) (zA_ (zN1 w.heap.size hg (zv zG53)) (zA_ (zN1 w.heap.size hg (zv zG53)) (zN3 hg (zx (g := gb297) (o := .cells (zs6 t288 t289 t290 t291 t292 (.slice (some ad323) t293.length co18)) 29 (0, 0)) zG60) (zN3 hg (zx (g := gb315) (o := .cells (zs6 t306 t307 t308 t309 t310 (.slice Ao35 t311.length co35)) 29 (0, 0)) zG61) (zN2 hg (zx (g := gb318) (o := .cells (za5 ((rd_T34 t277 t280).f0) ((rd_T34 t277 t280).f1) ((rd_T34 t277 t280).f2) ((rd_T34 t277 t280).f3) ((rd_T34 t277 t280).f4)) 34 (0, 0)) zG62)))))))))))); clear HO_298005 HO_316005 BK297 BK315 BK318 HB; obtain ⟨HO_298005, HO_316005, BK297, BK315, BK318, HB, BK324, GW324, GE324, NB297_324, NB324_297, NB315_324, NB324_315, NB318_324, NB324_318⟩ := n_; clear hb hbox hg; have hnb145 := NB324_297.out; have hnc145 := NB297_324.out; have hnb146 := NB324_315.out; have hnc146 := NB315_324.out; have hnb147 := NB324_318.out; have hnc147 := NB318_324.out; have hcz148_0 : w144.cell? ⟨gb324, 0, none⟩ = some (.string (⟨#[]⟩ : ByteArray)) := (q8a BK324.out 0).trans rfl; have hcz148_1 : w144.cell? ⟨gb324, 1, none⟩ = some (.int .i64 0) := (q8a BK324.out 1).trans rfl; have hcz148_2 : w144.cell? ⟨gb324, 2, none⟩ = some (.int .i64 0) := (q8a BK324.out 2).trans rfl; have hcz148_3 : w144.cell? ⟨gb324, 3, none⟩ = some (.int .i64 0) := (q8a BK324.out 3).trans rfl; have hcz148_4 : w144.cell? ⟨gb324, 4, none⟩ = some (.bool false) := (q8a BK324.out 4).trans rfl; have hfz148_0 := zd BK324.out 0; have hfz148_1 := zd BK324.out 1; have hfz148_2 := zd BK324.out 2; have hfz148_3 := zd BK324.out 3; have hfz148_4 := zd BK324.out 4; have hnb149 := NB318_315.out; have hnc149 := NB315_318.out; have hcz150_0 : w144.cell? ⟨gb318, 0, none⟩ = some (.int .i64 ((rd_T34 t277 t280).f0)) := (q8a BK318.out 0).trans rfl; have hcz150_1 : w144.cell? ⟨gb318, 1, none⟩ = some (.string ((rd_T34 t277 t280).f1)) := (q8a BK318.out 1).trans rfl; have hcz150_2 : w144.cell? ⟨gb318, 2, none⟩ = some (.int .i64 ((rd_T34 t277 t280).f2)) := (q8a BK318.out 2).trans rfl; have hcz150_3 : w144.cell? ⟨gb318, 3, none⟩ = some (.int .i64 ((rd_T34 t277 t280).f3)) := (q8a BK318.out 3).trans rfl; have hcz150_4 : w144.cell? ⟨gb318, 4, none⟩ = some (.int .i64 ((rd_T34 t277 t280).f4)) := (q8a BK318.out 4).trans rfl; have hfz150_0 := zd BK318.out 0; have hfz150_1 := zd BK318.out 1; have hfz150_2 := zd BK318.out 2; have hfz150_3 := zd BK318.out 3; have hfz150_4 := zd BK318.out 4))
              go_roundg k6
              case measure => have := HJ2.out; have := HJ10.out; have := HJ28.out; have := HJ48.out; have := HK5.out; have := HK6.out; omega
              case rel => exact ⟨(wrap64 (x18_6 + 1)), zG68, H', ⟨zH53⟩, ⟨by (with_reducible repeat (first | apply zj | apply zk | apply zl)); exact zn (zm (p := ⟨gb324, 4, none⟩) (zm (p := ⟨gb324, 3, none⟩) (zm (p := ⟨gb324, 2, none⟩) (zm (p := ⟨gb324, 1, none⟩) (zm (p := ⟨gb324, 0, none⟩) (zn HO_298005.out (fun k_ hk => (⟨hk, hk.2⟩ : _ ∧ k_ ≠ gb324))) (fun _ hk => hk.2) (.string ((rd_T38 t293 x18_6).f0))) (fun _ hk => hk.2) (.int .i64 ((rd_T38 t293 x18_6).f1))) (fun _ hk => hk.2) (.int .i64 ((rd_T38 t293 x18_6).f2))) (fun _ hk => hk.2) (.int .i64 ((rd_T38 t293 x18_6).f3))) (fun _ hk => hk.2) (.bool true)) (fun _ hk => hk.1.1)⟩, ⟨by (with_reducible repeat (first | apply zj | apply zk | apply zl)); exact zn (zm (p := ⟨gb324, 4, none⟩) (zm (p := ⟨gb324, 3, none⟩) (zm (p := ⟨gb324, 2, none⟩) (zm (p := ⟨gb324, 1, none⟩) (zm (p := ⟨gb324, 0, none⟩) (zn HO_316005.out (fun k_ hk => (⟨hk, hk.2⟩ : _ ∧ k_ ≠ gb324))) (fun _ hk => hk.2) (.string ((rd_T38 t293 x18_6).f0))) (fun _ hk => hk.2) (.int .i64 ((rd_T38 t293 x18_6).f1))) (fun _ hk => hk.2) (.int .i64 ((rd_T38 t293 x18_6).f2))) (fun _ hk => hk.2) (.int .i64 ((rd_T38 t293 x18_6).f3))) (fun _ hk => hk.2) (.bool true)) (fun _ hk => hk.1.1)⟩, ⟨zH5⟩, ⟨zH6⟩, ⟨zH7⟩, ⟨zH24⟩⟩
             replace c140 := Bool.eq_false_iff.mpr c140
             subst c140
             have H1 : (if ((rd_T38 t293 x18_6).f3) ≥ t288 then (if ((rd_T38 t293 x18_6).f3) < x14_5 then ((laws_units.f k6 t311 ((rd_T38 t293 x18_6).f0) ((rd_T38 t293 x18_6).f1) ((rd_T38 t293 x18_6).f2) ((rd_T38 t293 x18_6).f3) (false)).bind fun t325 => (if t325 > 0 then (some false) else (laws_FnStock.l1 k6 x14_5 (wrap64 (x18_6 + 1)) t288 t289 t290 t291 t292 t293 t306 t307 t308 t309 t310 t311 ((rd_T34 t277 t280).f0) ((rd_T34 t277 t280).f1) ((rd_T34 t277 t280).f2) ((rd_T34 t277 t280).f3) ((rd_T34 t277 t280).f4)))) else (laws_FnStock.l1 k6 x14_5 (wrap64 (x18_6 + 1)) t288 t289 t290 t291 t292 t293 t306 t307 t308 t309 t310 t311 ((rd_T34 t277 t280).f0) ((rd_T34 t277 t280).f1) ((rd_T34 t277 t280).f2) ((rd_T34 t277 t280).f3) ((rd_T34 t277 t280).f4))) else (laws_FnStock.l1 k6 x14_5 (wrap64 (x18_6 + 1)) t288 t289 t290 t291 t292 t293 t306 t307 t308 t309 t310 t311 ((rd_T34 t277 t280).f0) ((rd_T34 t277 t280).f1) ((rd_T34 t277 t280).f2) ((rd_T34 t277 t280).f3) ((rd_T34 t277 t280).f4))) = some r := by rw [if_neg (show ¬ (false = true) by decide)] at H; exact H
             clear H
             have H := H1
             clear H1
             by_cases c151 : ((rd_T38 t293 x18_6).f3) ≥ t288
             rotate_left
             ·rw [if_neg c151] at H
              have c151b0 : decide (t288 ≤ ((rd_T38 t293 x18_6).f3)) = false := decide_eq_false c151
              clear c151
              have H' := za H
              clear H
              have hnb192 := NB297_315.out
              have hnc192 := NB315_297.out
              have hnb193 := NB297_318.out
              have hnc193 := NB318_297.out
              have hcz194_0 : wr.cell? ⟨gb297, 0, none⟩ = some (.int .i64 t288) := (q8a BK297.out 0).trans rfl
              have hcz194_1 : wr.cell? ⟨gb297, 1, none⟩ = some (.int .i64 t289) := (q8a BK297.out 1).trans rfl
              have hcz194_2 : wr.cell? ⟨gb297, 2, none⟩ = some (.int .i64 t290) := (q8a BK297.out 2).trans rfl
              have hcz194_3 : wr.cell? ⟨gb297, 3, none⟩ = some (.int .i64 t291) := (q8a BK297.out 3).trans rfl
              have hcz194_4 : wr.cell? ⟨gb297, 4, none⟩ = some (.int .i64 t292) := (q8a BK297.out 4).trans rfl
              have hcz194_5 : wr.cell? ⟨gb297, 5, none⟩ = some (.slice Ao18 t293.length co18) := (q8a BK297.out 5).trans rfl
              have hfz194_0 := zd BK297.out 0
              have hfz194_1 := zd BK297.out 1
              have hfz194_2 := zd BK297.out 2
              have hfz194_3 := zd BK297.out 3
              have hfz194_4 := zd BK297.out 4
              have hfz194_5 := zd BK297.out 5
              have p323 : 0 ≤ (x18_6 : Int) := zO
              have q323 : x18_6 < (t293.length : Int) := zO
              obtain ⟨ad323, e323, hx323_0, hx323_1, hx323_2, hx323_3, hx323_4⟩ := at_T38 (zy HO_298005.out).2.2 x18_6 p323 q323
              (try rw [← Nbq139.out] at hx323_4)
              cases e323
              replace p323 := eq_true p323
              replace q323 := eq_true q323
              go_wp2_with (first | ((with_reducible refine gate_dst (N := 19) rfl ?_); (try (refine gate_guard (by rfl) ?_; dsimp only)); refine box_event ?hg (N := 19) ?hd (cs := (zl5 (⟨#[]⟩ : ByteArray) 0 0 0 false)) (t := 38) ?hr ?_; (case hd => rfl); (case hg => rfl); (case hr => exact zH81); intro gb324 hg w195 hbox hb; have n_ := zA_ (za (zt (zac zK146 gb324 (Nat.le_of_eq hg.symm)) hb)) (zA_ (za (zt (zac zK147 gb324 (Nat.le_of_eq hg.symm)) hb)) (zA_ (za (zq (g := gb297) (o := .cells (zs6 t288 t289 t290 t291 t292 (.slice (some ad323) t293.length co18)) 29 (0, 0)) zG60 hb)) (zA_ (za (zq (g := gb315) (o := .cells (zs6 t306 t307 t308 t309 t310 (.slice Ao35 t311.length co35)) 29 (0, 0)) zG61 hb)) (zA_ (za (zq (g := gb318) (o := .cells (za5 ((rd_T34 t277 t280).f0) ((rd_T34 t277 t280).f1) ((rd_T34 t277 t280).f2) ((rd_T34 t277 t280).f3) ((rd_T34 t277 t280).f4)) 34 (0, 0)) zG62 hb)) (zA_ (za (zu zG53 hb)) (zA_ (za (hbox)) (zA_ (zN1 w.heap.size hg (zv zG53)) (zA_ (zN1 w.heap.size hg (zv zG53)) (zN3 hg (zx (g := gb297) (o := .cells (zs6 t288 t289 t290 t291 t292 (.slice (some ad323) t293.length co18)) 29 (0, 0)) zG60) (zN3 hg (zx (g := gb315) (o := .cells (zs6 t306 t307 t308 t309 t310 (.slice Ao35 t311.length co35)) 29 (0, 0)) zG61) (zN2 hg (zx (g := gb318) (o := .cells (za5 ((rd_T34 t277 t280).f0) ((rd_T34 t277 t280).f1) ((rd_T34 t277 t280).f2) ((rd_T34 t277 t280).f3) ((rd_T34 t277 t280).f4)) 34 (0, 0)) zG62)))))))))))); clear HO_298005 HO_316005 BK297 BK315 BK318 HB; obtain ⟨HO_298005, HO_316005, BK297, BK315, BK318, HB, BK324, GW324, GE324, NB297_324, NB324_297, NB315_324, NB324_315, NB318_324, NB324_318⟩ := n_; clear hb hbox hg; have hnb196 := NB324_297.out; have hnc196 := NB297_324.out; have hnb197 := NB324_315.out; have hnc197 := NB315_324.out; have hnb198 := NB324_318.out; have hnc198 := NB318_324.out; have hcz199_0 : w195.cell? ⟨gb324, 0, none⟩ = some (.string (⟨#[]⟩ : ByteArray)) := (q8a BK324.out 0).trans rfl; have hcz199_1 : w195.cell? ⟨gb324, 1, none⟩ = some (.int .i64 0) := (q8a BK324.out 1).trans rfl; have hcz199_2 : w195.cell? ⟨gb324, 2, none⟩ = some (.int .i64 0) := (q8a BK324.out 2).trans rfl; have hcz199_3 : w195.cell? ⟨gb324, 3, none⟩ = some (.int .i64 0) := (q8a BK324.out 3).trans rfl; have hcz199_4 : w195.cell? ⟨gb324, 4, none⟩ = some (.bool false) := (q8a BK324.out 4).trans rfl; have hfz199_0 := zd BK324.out 0; have hfz199_1 := zd BK324.out 1; have hfz199_2 := zd BK324.out 2; have hfz199_3 := zd BK324.out 3; have hfz199_4 := zd BK324.out 4; have hnb200 := NB318_315.out; have hnc200 := NB315_318.out; have hcz201_0 : w195.cell? ⟨gb318, 0, none⟩ = some (.int .i64 ((rd_T34 t277 t280).f0)) := (q8a BK318.out 0).trans rfl; have hcz201_1 : w195.cell? ⟨gb318, 1, none⟩ = some (.string ((rd_T34 t277 t280).f1)) := (q8a BK318.out 1).trans rfl; have hcz201_2 : w195.cell? ⟨gb318, 2, none⟩ = some (.int .i64 ((rd_T34 t277 t280).f2)) := (q8a BK318.out 2).trans rfl; have hcz201_3 : w195.cell? ⟨gb318, 3, none⟩ = some (.int .i64 ((rd_T34 t277 t280).f3)) := (q8a BK318.out 3).trans rfl; have hcz201_4 : w195.cell? ⟨gb318, 4, none⟩ = some (.int .i64 ((rd_T34 t277 t280).f4)) := (q8a BK318.out 4).trans rfl; have hfz201_0 := zd BK318.out 0; have hfz201_1 := zd BK318.out 1; have hfz201_2 := zd BK318.out 2; have hfz201_3 := zd BK318.out 3; have hfz201_4 := zd BK318.out 4; have hcz202_0 : w195.cell? ⟨gb297, 0, none⟩ = some (.int .i64 t288) := (q8a BK297.out 0).trans rfl; have hcz202_1 : w195.cell? ⟨gb297, 1, none⟩ = some (.int .i64 t289) := (q8a BK297.out 1).trans rfl; have hcz202_2 : w195.cell? ⟨gb297, 2, none⟩ = some (.int .i64 t290) := (q8a BK297.out 2).trans rfl; have hcz202_3 : w195.cell? ⟨gb297, 3, none⟩ = some (.int .i64 t291) := (q8a BK297.out 3).trans rfl; have hcz202_4 : w195.cell? ⟨gb297, 4, none⟩ = some (.int .i64 t292) := (q8a BK297.out 4).trans rfl; have hcz202_5 : w195.cell? ⟨gb297, 5, none⟩ = some (.slice (some ad323) t293.length co18) := (q8a BK297.out 5).trans rfl; have hfz202_0 := zd BK297.out 0; have hfz202_1 := zd BK297.out 1; have hfz202_2 := zd BK297.out 2; have hfz202_3 := zd BK297.out 3; have hfz202_4 := zd BK297.out 4; have hfz202_5 := zd BK297.out 5))
              go_roundg k6
              case measure => have := HJ2.out; have := HJ10.out; have := HJ28.out; have := HJ48.out; have := HK5.out; have := HK6.out; omega
              case rel => exact ⟨(wrap64 (x18_6 + 1)), zG68, H', ⟨zH53⟩, ⟨zH8⟩, ⟨zH9⟩, ⟨zH5⟩, ⟨zH6⟩, ⟨zH7⟩, ⟨zH24⟩⟩
             rw [if_pos c151] at H
             have c151b0 : decide (t288 ≤ ((rd_T38 t293 x18_6).f3)) = true := decide_eq_true c151
             clear c151
             by_cases c152 : ((rd_T38 t293 x18_6).f3) < x14_5
             rotate_left
             ·rw [if_neg c152] at H
              have c152b0 := decide_eq_false c152
              clear c152
              have H' := za H
              clear H
              have hnb181 := NB297_315.out
              have hnc181 := NB315_297.out
              have hnb182 := NB297_318.out
              have hnc182 := NB318_297.out
              have hcz183_0 : wr.cell? ⟨gb297, 0, none⟩ = some (.int .i64 t288) := (q8a BK297.out 0).trans rfl
              have hcz183_1 : wr.cell? ⟨gb297, 1, none⟩ = some (.int .i64 t289) := (q8a BK297.out 1).trans rfl
              have hcz183_2 : wr.cell? ⟨gb297, 2, none⟩ = some (.int .i64 t290) := (q8a BK297.out 2).trans rfl
              have hcz183_3 : wr.cell? ⟨gb297, 3, none⟩ = some (.int .i64 t291) := (q8a BK297.out 3).trans rfl
              have hcz183_4 : wr.cell? ⟨gb297, 4, none⟩ = some (.int .i64 t292) := (q8a BK297.out 4).trans rfl
              have hcz183_5 : wr.cell? ⟨gb297, 5, none⟩ = some (.slice Ao18 t293.length co18) := (q8a BK297.out 5).trans rfl
              have hfz183_0 := zd BK297.out 0
              have hfz183_1 := zd BK297.out 1
              have hfz183_2 := zd BK297.out 2
              have hfz183_3 := zd BK297.out 3
              have hfz183_4 := zd BK297.out 4
              have hfz183_5 := zd BK297.out 5
              have p323 : 0 ≤ (x18_6 : Int) := zO
              have q323 : x18_6 < (t293.length : Int) := zO
              obtain ⟨ad323, e323, hx323_0, hx323_1, hx323_2, hx323_3, hx323_4⟩ := at_T38 (zy HO_298005.out).2.2 x18_6 p323 q323
              (try rw [← Nbq139.out] at hx323_4)
              cases e323
              replace p323 := eq_true p323
              replace q323 := eq_true q323
              go_wp2_with (first | ((with_reducible refine gate_dst (N := 19) rfl ?_); (try (refine gate_guard (by rfl) ?_; dsimp only)); refine box_event ?hg (N := 19) ?hd (cs := (zl5 (⟨#[]⟩ : ByteArray) 0 0 0 false)) (t := 38) ?hr ?_; (case hd => rfl); (case hg => rfl); (case hr => exact zH81); intro gb324 hg w184 hbox hb; have n_ := zA_ (za (zt (zac zK146 gb324 (Nat.le_of_eq hg.symm)) hb)) (zA_ (za (zt (zac zK147 gb324 (Nat.le_of_eq hg.symm)) hb)) (zA_ (za (zq (g := gb297) (o := .cells (zs6 t288 t289 t290 t291 t292 (.slice (some ad323) t293.length co18)) 29 (0, 0)) zG60 hb)) (zA_ (za (zq (g := gb315) (o := .cells (zs6 t306 t307 t308 t309 t310 (.slice Ao35 t311.length co35)) 29 (0, 0)) zG61 hb)) (zA_ (za (zq (g := gb318) (o := .cells (za5 ((rd_T34 t277 t280).f0) ((rd_T34 t277 t280).f1) ((rd_T34 t277 t280).f2) ((rd_T34 t277 t280).f3) ((rd_T34 t277 t280).f4)) 34 (0, 0)) zG62 hb)) (zA_ (za (zu zG53 hb)) (zA_ (za (hbox)) (zA_ (zN1 w.heap.size hg (zv zG53)) (zA_ (zN1 w.heap.size hg (zv zG53)) (zN3 hg (zx (g := gb297) (o := .cells (zs6 t288 t289 t290 t291 t292 (.slice (some ad323) t293.length co18)) 29 (0, 0)) zG60) (zN3 hg (zx (g := gb315) (o := .cells (zs6 t306 t307 t308 t309 t310 (.slice Ao35 t311.length co35)) 29 (0, 0)) zG61) (zN2 hg (zx (g := gb318) (o := .cells (za5 ((rd_T34 t277 t280).f0) ((rd_T34 t277 t280).f1) ((rd_T34 t277 t280).f2) ((rd_T34 t277 t280).f3) ((rd_T34 t277 t280).f4)) 34 (0, 0)) zG62)))))))))))); clear HO_298005 HO_316005 BK297 BK315 BK318 HB; obtain ⟨HO_298005, HO_316005, BK297, BK315, BK318, HB, BK324, GW324, GE324, NB297_324, NB324_297, NB315_324, NB324_315, NB318_324, NB324_318⟩ := n_; clear hb hbox hg; have hnb185 := NB324_297.out; have hnc185 := NB297_324.out; have hnb186 := NB324_315.out; have hnc186 := NB315_324.out; have hnb187 := NB324_318.out; have hnc187 := NB318_324.out; have hcz188_0 : w184.cell? ⟨gb324, 0, none⟩ = some (.string (⟨#[]⟩ : ByteArray)) := (q8a BK324.out 0).trans rfl; have hcz188_1 : w184.cell? ⟨gb324, 1, none⟩ = some (.int .i64 0) := (q8a BK324.out 1).trans rfl; have hcz188_2 : w184.cell? ⟨gb324, 2, none⟩ = some (.int .i64 0) := (q8a BK324.out 2).trans rfl; have hcz188_3 : w184.cell? ⟨gb324, 3, none⟩ = some (.int .i64 0) := (q8a BK324.out 3).trans rfl; have hcz188_4 : w184.cell? ⟨gb324, 4, none⟩ = some (.bool false) := (q8a BK324.out 4).trans rfl; have hfz188_0 := zd BK324.out 0; have hfz188_1 := zd BK324.out 1; have hfz188_2 := zd BK324.out 2; have hfz188_3 := zd BK324.out 3; have hfz188_4 := zd BK324.out 4; have hnb189 := NB318_315.out; have hnc189 := NB315_318.out; have hcz190_0 : w184.cell? ⟨gb318, 0, none⟩ = some (.int .i64 ((rd_T34 t277 t280).f0)) := (q8a BK318.out 0).trans rfl; have hcz190_1 : w184.cell? ⟨gb318, 1, none⟩ = some (.string ((rd_T34 t277 t280).f1)) := (q8a BK318.out 1).trans rfl; have hcz190_2 : w184.cell? ⟨gb318, 2, none⟩ = some (.int .i64 ((rd_T34 t277 t280).f2)) := (q8a BK318.out 2).trans rfl; have hcz190_3 : w184.cell? ⟨gb318, 3, none⟩ = some (.int .i64 ((rd_T34 t277 t280).f3)) := (q8a BK318.out 3).trans rfl; have hcz190_4 : w184.cell? ⟨gb318, 4, none⟩ = some (.int .i64 ((rd_T34 t277 t280).f4)) := (q8a BK318.out 4).trans rfl; have hfz190_0 := zd BK318.out 0; have hfz190_1 := zd BK318.out 1; have hfz190_2 := zd BK318.out 2; have hfz190_3 := zd BK318.out 3; have hfz190_4 := zd BK318.out 4; have hcz191_0 : w184.cell? ⟨gb297, 0, none⟩ = some (.int .i64 t288) := (q8a BK297.out 0).trans rfl; have hcz191_1 : w184.cell? ⟨gb297, 1, none⟩ = some (.int .i64 t289) := (q8a BK297.out 1).trans rfl; have hcz191_2 : w184.cell? ⟨gb297, 2, none⟩ = some (.int .i64 t290) := (q8a BK297.out 2).trans rfl; have hcz191_3 : w184.cell? ⟨gb297, 3, none⟩ = some (.int .i64 t291) := (q8a BK297.out 3).trans rfl; have hcz191_4 : w184.cell? ⟨gb297, 4, none⟩ = some (.int .i64 t292) := (q8a BK297.out 4).trans rfl; have hcz191_5 : w184.cell? ⟨gb297, 5, none⟩ = some (.slice (some ad323) t293.length co18) := (q8a BK297.out 5).trans rfl; have hfz191_0 := zd BK297.out 0; have hfz191_1 := zd BK297.out 1; have hfz191_2 := zd BK297.out 2; have hfz191_3 := zd BK297.out 3; have hfz191_4 := zd BK297.out 4; have hfz191_5 := zd BK297.out 5))
              go_roundg k6
              case measure => have := HJ2.out; have := HJ10.out; have := HJ28.out; have := HJ48.out; have := HK5.out; have := HK6.out; omega
              case rel => exact ⟨(wrap64 (x18_6 + 1)), zG68, H', ⟨zH53⟩, ⟨zH8⟩, ⟨zH9⟩, ⟨zH5⟩, ⟨zH6⟩, ⟨zH7⟩, ⟨zH24⟩⟩
             rw [if_pos c152] at H
             have c152b0 := decide_eq_true c152
             clear c152
             replace H := Option.bind_eq_some_iff.mp H
             obtain ⟨t325, A1530, H⟩ := H
             replace H : (if t325 > 0 then (some false) else (laws_FnStock.l1 k6 x14_5 (wrap64 (x18_6 + 1)) t288 t289 t290 t291 t292 t293 t306 t307 t308 t309 t310 t311 ((rd_T34 t277 t280).f0) ((rd_T34 t277 t280).f1) ((rd_T34 t277 t280).f2) ((rd_T34 t277 t280).f3) ((rd_T34 t277 t280).f4))) = some r := H
             have A153 := za A1530
             clear A1530
             by_cases c154 : t325 > 0
             ·rw [if_pos c154] at H
              have c154b0 : decide (0 < t325) = true := decide_eq_true c154
              clear c154
              obtain rfl := Option.some.inj H
              have hnb155 := NB297_315.out
              have hnc155 := NB315_297.out
              have hnb156 := NB297_318.out
              have hnc156 := NB318_297.out
              have hcz157_0 : wr.cell? ⟨gb297, 0, none⟩ = some (.int .i64 t288) := (q8a BK297.out 0).trans rfl
              have hcz157_1 : wr.cell? ⟨gb297, 1, none⟩ = some (.int .i64 t289) := (q8a BK297.out 1).trans rfl
              have hcz157_2 : wr.cell? ⟨gb297, 2, none⟩ = some (.int .i64 t290) := (q8a BK297.out 2).trans rfl
              have hcz157_3 : wr.cell? ⟨gb297, 3, none⟩ = some (.int .i64 t291) := (q8a BK297.out 3).trans rfl
              have hcz157_4 : wr.cell? ⟨gb297, 4, none⟩ = some (.int .i64 t292) := (q8a BK297.out 4).trans rfl
              have hcz157_5 : wr.cell? ⟨gb297, 5, none⟩ = some (.slice Ao18 t293.length co18) := (q8a BK297.out 5).trans rfl
              have hfz157_0 := zd BK297.out 0
              have hfz157_1 := zd BK297.out 1
              have hfz157_2 := zd BK297.out 2
              have hfz157_3 := zd BK297.out 3
              have hfz157_4 := zd BK297.out 4
              have hfz157_5 := zd BK297.out 5
              have p323 : 0 ≤ (x18_6 : Int) := zO
              have q323 : x18_6 < (t293.length : Int) := zO
              obtain ⟨ad323, e323, hx323_0, hx323_1, hx323_2, hx323_3, hx323_4⟩ := at_T38 (zy HO_298005.out).2.2 x18_6 p323 q323
              (try rw [← Nbq139.out] at hx323_4)
              cases e323
              replace p323 := eq_true p323
              replace q323 := eq_true q323
              go_wp2_with (first | ((with_reducible refine gate_dst (N := 19) rfl ?_); (try (refine gate_guard (by rfl) ?_; dsimp only)); refine box_event ?hg (N := 19) ?hd (cs := (zl5 (⟨#[]⟩ : ByteArray) 0 0 0 false)) (t := 38) ?hr ?_; (case hd => rfl); (case hg => rfl); (case hr => exact zH81); intro gb324 hg w158 hbox hb; have n_ := zA_ (za (zt (zac zK146 gb324 (Nat.le_of_eq hg.symm)) hb)) (zA_ (za (zt (zac zK147 gb324 (Nat.le_of_eq hg.symm)) hb)) (zA_ (za (zq (g := gb297) (o := .cells (zs6 t288 t289 t290 t291 t292 (.slice (some ad323) t293.length co18)) 29 (0, 0)) zG60 hb)) (zA_ (za (zq (g := gb315) (o := .cells (zs6 t306 t307 t308 t309 t310 (.slice Ao35 t311.length co35)) 29 (0, 0)) zG61 hb)) (zA_ (za (zq (g := gb318) (o := .cells (za5 ((rd_T34 t277 t280).f0) ((rd_T34 t277 t280).f1) ((rd_T34 t277 t280).f2) ((rd_T34 t277 t280).f3) ((rd_T34 t277 t280).f4)) 34 (0, 0)) zG62 hb)) (zA_ (za (zu zG53 hb)) (zA_ (za (hbox)) (zA_ (zN1 w.heap.size hg (zv zG53)) (zA_ (zN1 w.heap.size hg (zv zG53)) (zN3 hg (zx (g := gb297) (o := .cells (zs6 t288 t289 t290 t291 t292 (.slice (some ad323) t293.length co18)) 29 (0, 0)) zG60) (zN3 hg (zx (g := gb315) (o := .cells (zs6 t306 t307 t308 t309 t310 (.slice Ao35 t311.length co35)) 29 (0, 0)) zG61) (zN2 hg (zx (g := gb318) (o := .cells (za5 ((rd_T34 t277 t280).f0) ((rd_T34 t277 t280).f1) ((rd_T34 t277 t280).f2) ((rd_T34 t277 t280).f3) ((rd_T34 t277 t280).f4)) 34 (0, 0)) zG62)))))))))))); clear HO_298005 HO_316005 BK297 BK315 BK318 HB; obtain ⟨HO_298005, HO_316005, BK297, BK315, BK318, HB, BK324, GW324, GE324, NB297_324, NB324_297, NB315_324, NB324_315, NB318_324, NB324_318⟩ := n_; clear hb hbox hg; have hnb159 := NB324_297.out; have hnc159 := NB297_324.out; have hnb160 := NB324_315.out; have hnc160 := NB315_324.out; have hnb161 := NB324_318.out; have hnc161 := NB318_324.out; have hcz162_0 : w158.cell? ⟨gb324, 0, none⟩ = some (.string (⟨#[]⟩ : ByteArray)) := (q8a BK324.out 0).trans rfl; have hcz162_1 : w158.cell? ⟨gb324, 1, none⟩ = some (.int .i64 0) := (q8a BK324.out 1).trans rfl; have hcz162_2 : w158.cell? ⟨gb324, 2, none⟩ = some (.int .i64 0) := (q8a BK324.out 2).trans rfl; have hcz162_3 : w158.cell? ⟨gb324, 3, none⟩ = some (.int .i64 0) := (q8a BK324.out 3).trans rfl; have hcz162_4 : w158.cell? ⟨gb324, 4, none⟩ = some (.bool false) := (q8a BK324.out 4).trans rfl; have hfz162_0 := zd BK324.out 0; have hfz162_1 := zd BK324.out 1; have hfz162_2 := zd BK324.out 2; have hfz162_3 := zd BK324.out 3; have hfz162_4 := zd BK324.out 4; have hnb163 := NB318_315.out; have hnc163 := NB315_318.out; have hcz164_0 : w158.cell? ⟨gb318, 0, none⟩ = some (.int .i64 ((rd_T34 t277 t280).f0)) := (q8a BK318.out 0).trans rfl; have hcz164_1 : w158.cell? ⟨gb318, 1, none⟩ = some (.string ((rd_T34 t277 t280).f1)) := (q8a BK318.out 1).trans rfl; have hcz164_2 : w158.cell? ⟨gb318, 2, none⟩ = some (.int .i64 ((rd_T34 t277 t280).f2)) := (q8a BK318.out 2).trans rfl; have hcz164_3 : w158.cell? ⟨gb318, 3, none⟩ = some (.int .i64 ((rd_T34 t277 t280).f3)) := (q8a BK318.out 3).trans rfl; have hcz164_4 : w158.cell? ⟨gb318, 4, none⟩ = some (.int .i64 ((rd_T34 t277 t280).f4)) := (q8a BK318.out 4).trans rfl; have hfz164_0 := zd BK318.out 0; have hfz164_1 := zd BK318.out 1; have hfz164_2 := zd BK318.out 2; have hfz164_3 := zd BK318.out 3; have hfz164_4 := zd BK318.out 4; have hcz165_0 : w158.cell? ⟨gb297, 0, none⟩ = some (.int .i64 t288) := (q8a BK297.out 0).trans rfl; have hcz165_1 : w158.cell? ⟨gb297, 1, none⟩ = some (.int .i64 t289) := (q8a BK297.out 1).trans rfl; have hcz165_2 : w158.cell? ⟨gb297, 2, none⟩ = some (.int .i64 t290) := (q8a BK297.out 2).trans rfl; have hcz165_3 : w158.cell? ⟨gb297, 3, none⟩ = some (.int .i64 t291) := (q8a BK297.out 3).trans rfl; have hcz165_4 : w158.cell? ⟨gb297, 4, none⟩ = some (.int .i64 t292) := (q8a BK297.out 4).trans rfl; have hcz165_5 : w158.cell? ⟨gb297, 5, none⟩ = some (.slice (some ad323) t293.length co18) := (q8a BK297.out 5).trans rfl; have hfz165_0 := zd BK297.out 0; have hfz165_1 := zd BK297.out 1; have hfz165_2 := zd BK297.out 2; have hfz165_3 := zd BK297.out 3; have hfz165_4 := zd BK297.out 4; have hfz165_5 := zd BK297.out 5; have hcz166_0 : w158.cell? ⟨gb315, 0, none⟩ = some (.int .i64 t306) := (q8a BK315.out 0).trans rfl; have hcz166_1 : w158.cell? ⟨gb315, 1, none⟩ = some (.int .i64 t307) := (q8a BK315.out 1).trans rfl; have hcz166_2 : w158.cell? ⟨gb315, 2, none⟩ = some (.int .i64 t308) := (q8a BK315.out 2).trans rfl; have hcz166_3 : w158.cell? ⟨gb315, 3, none⟩ = some (.int .i64 t309) := (q8a BK315.out 3).trans rfl; have hcz166_4 : w158.cell? ⟨gb315, 4, none⟩ = some (.int .i64 t310) := (q8a BK315.out 4).trans rfl; have hcz166_5 : w158.cell? ⟨gb315, 5, none⟩ = some (.slice Ao35 t311.length co35) := (q8a BK315.out 5).trans rfl; have hfz166_0 := zd BK315.out 0; have hfz166_1 := zd BK315.out 1; have hfz166_2 := zd BK315.out 2; have hfz166_3 := zd BK315.out 3; have hfz166_4 := zd BK315.out 4; have hfz166_5 := zd BK315.out 5) | (go_at_call 9; (with_reducible refine (laws_units.calls k6 _ _ t311 ((rd_T38 t293 x18_6).f0) ((rd_T38 t293 x18_6).f1) ((rd_T38 t293 x18_6).f2) ((rd_T38 t293 x18_6).f3) false t325 _ ?side1 ?side2 A153.out).mono ?_); (case side1 => exact zH1); (case side2 => exact (zy HO_316005.out).2.1); rintro e w167 ⟨rfl, hb⟩; have n_ := zA_ (za (zt zK94 hb)) (zA_ (za (zt zK95 hb)) (zA_ (za (zq (g := gb297) (o := .cells (zs6 t288 t289 t290 t291 t292 (.slice (some ad323) t293.length co18)) 29 (0, 0)) zK90 hb)) (zA_ (za (zq (g := gb315) (o := .cells (zs6 t306 t307 t308 t309 t310 (.slice Ao35 t311.length co35)) 29 (0, 0)) zK91 hb)) (zA_ (za (zq (g := gb318) (o := .cells (za5 ((rd_T34 t277 t280).f0) ((rd_T34 t277 t280).f1) ((rd_T34 t277 t280).f2) ((rd_T34 t277 t280).f3) ((rd_T34 t277 t280).f4)) 34 (0, 0)) zK92 hb)) (zA_ (za (zq (g := gb324) (o := .cells (zl5 ((rd_T38 t293 x18_6).f0) ((rd_T38 t293 x18_6).f1) ((rd_T38 t293 x18_6).f2) ((rd_T38 t293 x18_6).f3) false) 38 (0, 0)) zK88 hb)) (za (zu zK115 hb))))))); clear HO_298005 HO_316005 BK297 BK315 BK318 BK324 HB; obtain ⟨HO_298005, HO_316005, BK297, BK315, BK318, BK324, HB⟩ := n_; (try clear hb); (try clear hk)))
              go_ret
              exact ⟨zH29, zH24⟩
             rw [if_neg c154] at H
             have c154b0 : decide (0 < t325) = false := decide_eq_false c154
             clear c154
             have H' := za H
             clear H
             have hnb168 := NB297_315.out
             have hnc168 := NB315_297.out
             have hnb169 := NB297_318.out
             have hnc169 := NB318_297.out
             have hcz170_0 : wr.cell? ⟨gb297, 0, none⟩ = some (.int .i64 t288) := (q8a BK297.out 0).trans rfl
             have hcz170_1 : wr.cell? ⟨gb297, 1, none⟩ = some (.int .i64 t289) := (q8a BK297.out 1).trans rfl
             have hcz170_2 : wr.cell? ⟨gb297, 2, none⟩ = some (.int .i64 t290) := (q8a BK297.out 2).trans rfl
             have hcz170_3 : wr.cell? ⟨gb297, 3, none⟩ = some (.int .i64 t291) := (q8a BK297.out 3).trans rfl
             have hcz170_4 : wr.cell? ⟨gb297, 4, none⟩ = some (.int .i64 t292) := (q8a BK297.out 4).trans rfl
             have hcz170_5 : wr.cell? ⟨gb297, 5, none⟩ = some (.slice Ao18 t293.length co18) := (q8a BK297.out 5).trans rfl
             have hfz170_0 := zd BK297.out 0
             have hfz170_1 := zd BK297.out 1
             have hfz170_2 := zd BK297.out 2
             have hfz170_3 := zd BK297.out 3
             have hfz170_4 := zd BK297.out 4
             have hfz170_5 := zd BK297.out 5
             have p323 : 0 ≤ (x18_6 : Int) := zO
             have q323 : x18_6 < (t293.length : Int) := zO
             obtain ⟨ad323, e323, hx323_0, hx323_1, hx323_2, hx323_3, hx323_4⟩ := at_T38 (zy HO_298005.out).2.2 x18_6 p323 q323
             (try rw [← Nbq139.out] at hx323_4)
             cases e323
             replace p323 := eq_true p323
             replace q323 := eq_true q323
             go_wp2_with (first | ((with_reducible refine gate_dst (N := 19) rfl ?_); (try (refine gate_guard (by rfl) ?_; dsimp only)); refine box_event ?hg (N := 19) ?hd (cs := (zl5 (⟨#[]⟩ : ByteArray) 0 0 0 false)) (t := 38) ?hr ?_; (case hd => rfl); (case hg => rfl); (case hr => exact zH81); intro gb324 hg w171 hbox hb; have n_ := zA_ (za (zt (zac zK146 gb324 (Nat.le_of_eq hg.symm)) hb)) (zA_ (za (zt (zac zK147 gb324 (Nat.le_of_eq hg.symm)) hb)) (zA_ (za (zq (g := gb297) (o := .cells (zs6 t288 t289 t290 t291 t292 (.slice (some ad323) t293.length co18)) 29 (0, 0)) zG60 hb)) (zA_ (za (zq (g := gb315) (o := .cells (zs6 t306 t307 t308 t309 t310 (.slice Ao35 t311.length co35)) 29 (0, 0)) zG61 hb)) (zA_ (za (zq (g := gb318) (o := .cells (za5 ((rd_T34 t277 t280).f0) ((rd_T34 t277 t280).f1) ((rd_T34 t277 t280).f2) ((rd_T34 t277 t280).f3) ((rd_T34 t277 t280).f4)) 34 (0, 0)) zG62 hb)) (zA_ (za (zu zG53 hb)) (zA_ (za (hbox)) (zA_ (zN1 w.heap.size hg (zv zG53)) (zA_ (zN1 w.heap.size hg (zv zG53)) (zN3 hg (zx (g := gb297) (o := .cells (zs6 t288 t289 t290 t291 t292 (.slice (some ad323) t293.length co18)) 29 (0, 0)) zG60) (zN3 hg (zx (g := gb315) (o := .cells (zs6 t306 t307 t308 t309 t310 (.slice Ao35 t311.length co35)) 29 (0, 0)) zG61) (zN2 hg (zx (g := gb318) (o := .cells (za5 ((rd_T34 t277 t280).f0) ((rd_T34 t277 t280).f1) ((rd_T34 t277 t280).f2) ((rd_T34 t277 t280).f3) ((rd_T34 t277 t280).f4)) 34 (0, 0)) zG62)))))))))))); clear HO_298005 HO_316005 BK297 BK315 BK318 HB; obtain ⟨HO_298005, HO_316005, BK297, BK315, BK318, HB, BK324, GW324, GE324, NB297_324, NB324_297, NB315_324, NB324_315, NB318_324, NB324_318⟩ := n_; clear hb hbox hg; have hnb172 := NB324_297.out; have hnc172 := NB297_324.out; have hnb173 := NB324_315.out; have hnc173 := NB315_324.out; have hnb174 := NB324_318.out; have hnc174 := NB318_324.out; have hcz175_0 : w171.cell? ⟨gb324, 0, none⟩ = some (.string (⟨#[]⟩ : ByteArray)) := (q8a BK324.out 0).trans rfl; have hcz175_1 : w171.cell? ⟨gb324, 1, none⟩ = some (.int .i64 0) := (q8a BK324.out 1).trans rfl; have hcz175_2 : w171.cell? ⟨gb324, 2, none⟩ = some (.int .i64 0) := (q8a BK324.out 2).trans rfl; have hcz175_3 : w171.cell? ⟨gb324, 3, none⟩ = some (.int .i64 0) := (q8a BK324.out 3).trans rfl; have hcz175_4 : w171.cell? ⟨gb324, 4, none⟩ = some (.bool false) := (q8a BK324.out 4).trans rfl; have hfz175_0 := zd BK324.out 0; have hfz175_1 := zd BK324.out 1; have hfz175_2 := zd BK324.out 2; have hfz175_3 := zd BK324.out 3; have hfz175_4 := zd BK324.out 4; have hnb176 := NB318_315.out; have hnc176 := NB315_318.out; have hcz177_0 : w171.cell? ⟨gb318, 0, none⟩ = some (.int .i64 ((rd_T34 t277 t280).f0)) := (q8a BK318.out 0).trans rfl; have hcz177_1 : w171.cell? ⟨gb318, 1, none⟩ = some (.string ((rd_T34 t277 t280).f1)) := (q8a BK318.out 1).trans rfl; have hcz177_2 : w171.cell? ⟨gb318, 2, none⟩ = some (.int .i64 ((rd_T34 t277 t280).f2)) := (q8a BK318.out 2).trans rfl; have hcz177_3 : w171.cell? ⟨gb318, 3, none⟩ = some (.int .i64 ((rd_T34 t277 t280).f3)) := (q8a BK318.out 3).trans rfl; have hcz177_4 : w171.cell? ⟨gb318, 4, none⟩ = some (.int .i64 ((rd_T34 t277 t280).f4)) := (q8a BK318.out 4).trans rfl; have hfz177_0 := zd BK318.out 0; have hfz177_1 := zd BK318.out 1; have hfz177_2 := zd BK318.out 2; have hfz177_3 := zd BK318.out 3; have hfz177_4 := zd BK318.out 4; have hcz178_0 : w171.cell? ⟨gb297, 0, none⟩ = some (.int .i64 t288) := (q8a BK297.out 0).trans rfl; have hcz178_1 : w171.cell? ⟨gb297, 1, none⟩ = some (.int .i64 t289) := (q8a BK297.out 1).trans rfl; have hcz178_2 : w171.cell? ⟨gb297, 2, none⟩ = some (.int .i64 t290) := (q8a BK297.out 2).trans rfl; have hcz178_3 : w171.cell? ⟨gb297, 3, none⟩ = some (.int .i64 t291) := (q8a BK297.out 3).trans rfl; have hcz178_4 : w171.cell? ⟨gb297, 4, none⟩ = some (.int .i64 t292) := (q8a BK297.out 4).trans rfl; have hcz178_5 : w171.cell? ⟨gb297, 5, none⟩ = some (.slice (some ad323) t293.length co18) := (q8a BK297.out 5).trans rfl; have hfz178_0 := zd BK297.out 0; have hfz178_1 := zd BK297.out 1; have hfz178_2 := zd BK297.out 2; have hfz178_3 := zd BK297.out 3; have hfz178_4 := zd BK297.out 4; have hfz178_5 := zd BK297.out 5; have hcz179_0 : w171.cell? ⟨gb315, 0, none⟩ = some (.int .i64 t306) := (q8a BK315.out 0).trans rfl; have hcz179_1 : w171.cell? ⟨gb315, 1, none⟩ = some (.int .i64 t307) := (q8a BK315.out 1).trans rfl; have hcz179_2 : w171.cell? ⟨gb315, 2, none⟩ = some (.int .i64 t308) := (q8a BK315.out 2).trans rfl; have hcz179_3 : w171.cell? ⟨gb315, 3, none⟩ = some (.int .i64 t309) := (q8a BK315.out 3).trans rfl; have hcz179_4 : w171.cell? ⟨gb315, 4, none⟩ = some (.int .i64 t310) := (q8a BK315.out 4).trans rfl; have hcz179_5 : w171.cell? ⟨gb315, 5, none⟩ = some (.slice Ao35 t311.length co35) := (q8a BK315.out 5).trans rfl; have hfz179_0 := zd BK315.out 0; have hfz179_1 := zd BK315.out 1; have hfz179_2 := zd BK315.out 2; have hfz179_3 := zd BK315.out 3; have hfz179_4 := zd BK315.out 4; have hfz179_5 := zd BK315.out 5) | (go_at_call 9; (with_reducible refine (laws_units.calls k6 _ _ t311 ((rd_T38 t293 x18_6).f0) ((rd_T38 t293 x18_6).f1) ((rd_T38 t293 x18_6).f2) ((rd_T38 t293 x18_6).f3) false t325 _ ?side1 ?side2 A153.out).mono ?_); (case side1 => exact zH1); (case side2 => exact (zy HO_316005.out).2.1); rintro e w180 ⟨rfl, hb⟩; have n_ := zA_ (za (zt zK94 hb)) (zA_ (za (zt zK95 hb)) (zA_ (za (zq (g := gb297) (o := .cells (zs6 t288 t289 t290 t291 t292 (.slice (some ad323) t293.length co18)) 29 (0, 0)) zK90 hb)) (zA_ (za (zq (g := gb315) (o := .cells (zs6 t306 t307 t308 t309 t310 (.slice Ao35 t311.length co35)) 29 (0, 0)) zK91 hb)) (zA_ (za (zq (g := gb318) (o := .cells (za5 ((rd_T34 t277 t280).f0) ((rd_T34 t277 t280).f1) ((rd_T34 t277 t280).f2) ((rd_T34 t277 t280).f3) ((rd_T34 t277 t280).f4)) 34 (0, 0)) zK92 hb)) (zA_ (za (zq (g := gb324) (o := .cells (zl5 ((rd_T38 t293 x18_6).f0) ((rd_T38 t293 x18_6).f1) ((rd_T38 t293 x18_6).f2) ((rd_T38 t293 x18_6).f3) false) 38 (0, 0)) zK88 hb)) (za (zu zK115 hb))))))); clear HO_298005 HO_316005 BK297 BK315 BK318 BK324 HB; obtain ⟨HO_298005, HO_316005, BK297, BK315, BK318, BK324, HB⟩ := n_; (try clear hb); (try clear hk)))
             go_roundg k6
             case measure => have := HJ2.out; have := HJ10.out; have := HJ28.out; have := HJ48.out; have := HK5.out; have := HK6.out; omega
             case rel => exact ⟨(wrap64 (x18_6 + 1)), zG68, H', ⟨zH53⟩, ⟨zH55⟩, ⟨zH56⟩, ⟨zH68⟩, ⟨zH67⟩, ⟨zH66⟩, ⟨zH24⟩⟩
end Go.Proofs.Ytnkceaibkfbeaaa.F
