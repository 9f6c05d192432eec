-- squeezed
-- made by pp.py (wip/tools) out of the translation; Lean checks it
import Derived.Test.YtnkceaibkfbeaaaE0
import Derived.Test.YtnkceaibkfbeaaaE5
import Derived.Test.YtnkceaibkfbeaaaE13
import Derived.Test.YtnkceaibkfbeaaaE14
import Derived.Test.YtnkceaibkfbeaaaE15
import Derived.Test.YtnkceaibkfbeaaaE16
import Derived.Test.YtnkceaibkfbeaaaE17
import Derived.Test.YtnkceaibkfbeaaaE19
namespace Go.Proofs.Ytnkceaibkfbeaaa.E
open Go.RowKit Go.Proofs.YtnkceaibkfbeaaaW.PrintWords Go.Proofs.YtnkceaibkfbeaaaW.PrintLast Go.Proofs.YtnkceaibkfbeaaaW.PrintMore
attribute [local go_sem] max2_int min2_int max_two min_two max_three min_three max_four min_four   -- for this text's walks alone
set_option linter.unusedVariables false
set_option linter.unusedSimpArgs false

abbrev q20a := @blk_cell
/-! ### laws_FnExactStockRun: function 4 -/
mutual
def laws_FnExactStockRun.j0 : Nat → List (S57) → List (S36) → Int → List (S34) → List (S36) → Int → Bool → Int → Int → Int → Int → Int → List (S38) → Int → Int → Int → Int → Int → List (S38) → Option (Bool)
 | 0, _, _, _, _, _, _, _, _, _, _, _, _, _, _, _, _, _, _, _ => none
 | k + 1, x0, x4, x6, x7, x8, x10, x51, x367000, x367001, x367002, x367003, x367004, x367005, x383000, x383001, x383002, x383003, x383004, x383005 => if x51 = true then (some false) else ((laws_toStockActS.f k x0).bind fun t385 => ((laws_eqStockActS.f k x7 t385).bind fun t388 => (if t388 = true then ((laws_markStockActS.f k x7 1).bind fun bt389 => (if bt389.1 < 0 then (laws_FnExactStockRun.j1 k x0 x4 x6 x8 true x367000 x367001 x367002 x367003 x367004 x367005 x383000 x383001 x383002 x383003 x383004 x383005) else ((laws_eqStockObsS.f k x8 x4).bind fun t391 => (if t391 = true then ((laws_eqStock.f k x383000 x383001 x383002 x383003 x383004 x383005 x367000 x367001 x367002 x367003 x367004 x367005).bind fun t392 => (if t392 = true then (laws_FnExactStockRun.j1 k x0 x4 x6 x8 (x10 != x6) x367000 x367001 x367002 x367003 x367004 x367005 x383000 x383001 x383002 x383003 x383004 x383005) else (laws_FnExactStockRun.j1 k x0 x4 x6 x8 true x367000 x367001 x367002 x367003 x367004 x367005 x383000 x383001 x383002 x383003 x383004 x383005))) else (laws_FnExactStockRun.j1 k x0 x4 x6 x8 true x367000 x367001 x367002 x367003 x367004 x367005 x383000 x383001 x383002 x383003 x383004 x383005))))) else (some false))))
def laws_FnExactStockRun.j1 : Nat → List (S57) → List (S36) → Int → List (S36) → Bool → Int → Int → Int → Int → Int → List (S38) → Int → Int → Int → Int → Int → List (S38) → Option (Bool)
 | 0, _, _, _, _, _, _, _, _, _, _, _, _, _, _, _, _, _ => none
 | k + 1, x0, x4, x6, x8, x78, x367000, x367001, x367002, x367003, x367004, x367005, x383000, x383001, x383002, x383003, x383004, x383005 => if x78 = true then (some false) else ((laws_markStockObsS.f k x8 1).bind fun bt393 => ((laws_markStock.f k x383000 x383001 x383002 x383003 x383004 x383005 bt393.1).bind fun bt395 => ((laws_heldStockObsS.f k bt393.2 1).bind fun t397 => (if t397 < 0 then (some false) else ((laws_heldStock.f k x383000 x383001 x383002 x383003 x383004 bt395.2 t397).bind fun t398 => (if t398 < 0 then (some false) else (if t398 = bt395.1 then ((laws_toStockActS.f k x0).bind fun t399 => ((impl_StockRun.f k t399).bind fun bt402 => ((laws_eqStockObsS.f k bt402.1 x4).bind fun t415 => (if t415 = true then ((laws_eqStock.f k bt402.2.1 bt402.2.2.1 bt402.2.2.2.1 bt402.2.2.2.2.1 bt402.2.2.2.2.2.1 bt402.2.2.2.2.2.2.1 x367000 x367001 x367002 x367003 x367004 x367005).bind fun t416 => (if t416 = true then (laws_FnExactStockRun.j2 k bt393.2 bt395.1 (bt402.2.2.2.2.2.2.2 != x6) x383000 x383001 x383002 x383003 x383004 bt395.2) else (laws_FnExactStockRun.j2 k bt393.2 bt395.1 true x383000 x383001 x383002 x383003 x383004 bt395.2))) else (laws_FnExactStockRun.j2 k bt393.2 bt395.1 true x383000 x383001 x383002 x383003 x383004 bt395.2))))) else (some false))))))))
def laws_FnExactStockRun.j2 : Nat → List (S36) → Int → Bool → Int → Int → Int → Int → Int → List (S38) → Option (Bool)
 | 0, _, _, _, _, _, _, _, _, _ => none
 | k + 1, x8, x12, x119, x383000, x383001, x383002, x383003, x383004, x383005 => if x119 = true then (some false) else ((laws_heldStockObsS.f k x8 1).bind fun t417 => (if t417 < 0 then (some false) else ((laws_heldStock.f k x383000 x383001 x383002 x383003 x383004 x383005 t417).bind fun t418 => (if t418 < 0 then (some false) else (if t418 = x12 then (some true) else (some false))))))
end
def laws_FnExactStockRun.f (k : Nat) (l0 : List (S57)) : Option (Bool) := (laws_szStockActS.f k l0 1048576).bind fun t350 => (if t350 < 0 then (some true) else ((laws_toStockActS.f k l0).bind fun t351 => ((spec_StockRun.f k t351).bind fun bt354 => ((laws_toStockActS.f k l0).bind fun t367 => ((impl_StockRun.f k t367).bind fun bt370 => ((laws_eqStockObsS.f k bt370.1 bt354.1).bind fun t383 => (if t383 = true then ((laws_eqStock.f k bt370.2.1 bt370.2.2.1 bt370.2.2.2.1 bt370.2.2.2.2.1 bt370.2.2.2.2.2.1 bt370.2.2.2.2.2.2.1 bt354.2.1 bt354.2.2.1 bt354.2.2.2.1 bt354.2.2.2.2.1 bt354.2.2.2.2.2.1 bt354.2.2.2.2.2.2.1).bind fun t384 => (if t384 = true then (laws_FnExactStockRun.j0 k l0 bt354.1 bt354.2.2.2.2.2.2.2 t367 bt370.1 bt370.2.2.2.2.2.2.2 (bt370.2.2.2.2.2.2.2 != bt354.2.2.2.2.2.2.2) bt354.2.1 bt354.2.2.1 bt354.2.2.2.1 bt354.2.2.2.2.1 bt354.2.2.2.2.2.1 bt354.2.2.2.2.2.2.1 bt370.2.1 bt370.2.2.1 bt370.2.2.2.1 bt370.2.2.2.2.1 bt370.2.2.2.2.2.1 bt370.2.2.2.2.2.2.1) else (laws_FnExactStockRun.j0 k l0 bt354.1 bt354.2.2.2.2.2.2.2 t367 bt370.1 bt370.2.2.2.2.2.2.2 true bt354.2.1 bt354.2.2.1 bt354.2.2.2.1 bt354.2.2.2.2.1 bt354.2.2.2.2.2.1 bt354.2.2.2.2.2.2.1 bt370.2.1 bt370.2.2.1 bt370.2.2.2.1 bt370.2.2.2.2.1 bt370.2.2.2.2.2.1 bt370.2.2.2.2.2.2.1))) else (laws_FnExactStockRun.j0 k l0 bt354.1 bt354.2.2.2.2.2.2.2 t367 bt370.1 bt370.2.2.2.2.2.2.2 true bt354.2.1 bt354.2.2.1 bt354.2.2.2.1 bt354.2.2.2.2.1 bt354.2.2.2.2.2.1 bt354.2.2.2.2.2.2.1 bt370.2.1 bt370.2.2.1 bt370.2.2.2.1 bt370.2.2.2.2.1 bt370.2.2.2.2.2.1 bt370.2.2.2.2.2.2.1))))))))
theorem laws_FnExactStockRun.mono_l : ∀ k, (∀ y0 y1 y2 y3 y4 y5 y6 y7 y8 y9 y10 y11 y12 y13 y14 y15 y16 y17 y18, LeO (laws_FnExactStockRun.j0 k y0 y1 y2 y3 y4 y5 y6 y7 y8 y9 y10 y11 y12 y13 y14 y15 y16 y17 y18) (laws_FnExactStockRun.j0 (k + 1) y0 y1 y2 y3 y4 y5 y6 y7 y8 y9 y10 y11 y12 y13 y14 y15 y16 y17 y18)) ∧ (∀ y0 y1 y2 y3 y4 y5 y6 y7 y8 y9 y10 y11 y12 y13 y14 y15 y16, LeO (laws_FnExactStockRun.j1 k y0 y1 y2 y3 y4 y5 y6 y7 y8 y9 y10 y11 y12 y13 y14 y15 y16) (laws_FnExactStockRun.j1 (k + 1) y0 y1 y2 y3 y4 y5 y6 y7 y8 y9 y10 y11 y12 y13 y14 y15 y16)) ∧ (∀ y0 y1 y2 y3 y4 y5 y6 y7 y8, LeO (laws_FnExactStockRun.j2 k y0 y1 y2 y3 y4 y5 y6 y7 y8) (laws_FnExactStockRun.j2 (k + 1) y0 y1 y2 y3 y4 y5 y6 y7 y8))
 | 0 => ⟨fun _ _ _ _ _ _ _ _ _ _ _ _ _ _ _ _ _ _ _ r h => by simp [laws_FnExactStockRun.j0] at h, fun _ _ _ _ _ _ _ _ _ _ _ _ _ _ _ _ _ r h => by simp [laws_FnExactStockRun.j1] at h, fun _ _ _ _ _ _ _ _ _ r h => by simp [laws_FnExactStockRun.j2] at h⟩
 | k + 1 => by
  obtain ⟨ih0, ih1, ih2⟩ := laws_FnExactStockRun.mono_l k
  refine ⟨?_, ?_, ?_⟩
  ·intro y0 y1 y2 y3 y4 y5 y6 y7 y8 y9 y10 y11 y12 y13 y14 y15 y16 y17 y18
   unfold laws_FnExactStockRun.j0
   repeat' first
   | (with_reducible exact ih0 _ _ _ _ _ _ _ _ _ _ _ _ _ _ _ _ _ _ _)
   | (with_reducible exact ih1 _ _ _ _ _ _ _ _ _ _ _ _ _ _ _ _ _)
   | (with_reducible exact ih2 _ _ _ _ _ _ _ _ _)
   | (with_reducible exact impl_StockRun.mono _ _)
   | (with_reducible exact laws_eqStock.mono _ _ _ _ _ _ _ _ _ _ _ _ _)
   | (with_reducible exact laws_eqStockActS.mono _ _ _)
   | (with_reducible exact laws_eqStockObsS.mono _ _ _)
   | (with_reducible exact laws_heldStock.mono _ _ _ _ _ _ _ _)
   | (with_reducible exact laws_heldStockObsS.mono _ _ _)
   | (with_reducible exact laws_markStock.mono _ _ _ _ _ _ _ _)
   | (with_reducible exact laws_markStockActS.mono _ _ _)
   | (with_reducible exact laws_markStockObsS.mono _ _ _)
   | (with_reducible exact laws_szStockActS.mono _ _ _)
   | (with_reducible exact laws_toStockActS.mono _ _)
   | (with_reducible exact spec_StockRun.mono _ _)
   | (with_reducible exact LeO.refl _)
   | (with_reducible exact LeO.none _)
   | (with_reducible refine LeO.ite ?_ ?_)
   | (with_reducible refine LeO.bind ?_ (fun _ => ?_))
   | exact LeO.none _
   | refine LeO.ite ?_ ?_
   | refine LeO.bind ?_ (fun _ => ?_)
  ·intro y0 y1 y2 y3 y4 y5 y6 y7 y8 y9 y10 y11 y12 y13 y14 y15 y16
   unfold laws_FnExactStockRun.j1
   repeat' first
   | (with_reducible exact ih0 _ _ _ _ _ _ _ _ _ _ _ _ _ _ _ _ _ _ _)
   | (with_reducible exact ih1 _ _ _ _ _ _ _ _ _ _ _ _ _ _ _ _ _)
   | (with_reducible exact ih2 _ _ _ _ _ _ _ _ _)
   | (with_reducible exact impl_StockRun.mono _ _)
   | (with_reducible exact laws_eqStock.mono _ _ _ _ _ _ _ _ _ _ _ _ _)
   | (with_reducible exact laws_eqStockActS.mono _ _ _)
   | (with_reducible exact laws_eqStockObsS.mono _ _ _)
   | (with_reducible exact laws_heldStock.mono _ _ _ _ _ _ _ _)
   | (with_reducible exact laws_heldStockObsS.mono _ _ _)
   | (with_reducible exact laws_markStock.mono _ _ _ _ _ _ _ _)
   | (with_reducible exact laws_markStockActS.mono _ _ _)
   | (with_reducible exact laws_markStockObsS.mono _ _ _)
   | (with_reducible exact laws_szStockActS.mono _ _ _)
   | (with_reducible exact laws_toStockActS.mono _ _)
   | (with_reducible exact spec_StockRun.mono _ _)
   | (with_reducible exact LeO.refl _)
   | (with_reducible exact LeO.none _)
   | (with_reducible refine LeO.ite ?_ ?_)
   | (with_reducible refine LeO.bind ?_ (fun _ => ?_))
   | exact LeO.none _
   | refine LeO.ite ?_ ?_
   | refine LeO.bind ?_ (fun _ => ?_)
  ·intro y0 y1 y2 y3 y4 y5 y6 y7 y8
   unfold laws_FnExactStockRun.j2
   repeat' first
   | (with_reducible exact ih0 _ _ _ _ _ _ _ _ _ _ _ _ _ _ _ _ _ _ _)
   | (with_reducible exact ih1 _ _ _ _ _ _ _ _ _ _ _ _ _ _ _ _ _)
   | (with_reducible exact ih2 _ _ _ _ _ _ _ _ _)
   | (with_reducible exact impl_StockRun.mono _ _)
   | (with_reducible exact laws_eqStock.mono _ _ _ _ _ _ _ _ _ _ _ _ _)
   | (with_reducible exact laws_eqStockActS.mono _ _ _)
   | (with_reducible exact laws_eqStockObsS.mono _ _ _)
   | (with_reducible exact laws_heldStock.mono _ _ _ _ _ _ _ _)
   | (with_reducible exact laws_heldStockObsS.mono _ _ _)
   | (with_reducible exact laws_markStock.mono _ _ _ _ _ _ _ _)
   | (with_reducible exact laws_markStockActS.mono _ _ _)
   | (with_reducible exact laws_markStockObsS.mono _ _ _)
   | (with_reducible exact laws_szStockActS.mono _ _ _)
   | (with_reducible exact laws_toStockActS.mono _ _)
   | (with_reducible exact spec_StockRun.mono _ _)
   | (with_reducible exact LeO.refl _)
   | (with_reducible exact LeO.none _)
   | (with_reducible refine LeO.ite ?_ ?_)
   | (with_reducible refine LeO.bind ?_ (fun _ => ?_))
   | exact LeO.none _
   | refine LeO.ite ?_ ?_
   | refine LeO.bind ?_ (fun _ => ?_)
theorem laws_FnExactStockRun.mono : ∀ a0 k, LeO (laws_FnExactStockRun.f k a0) (laws_FnExactStockRun.f (k + 1) a0) := by
 intro a0 k
 obtain ⟨ih0, ih1, ih2⟩ := laws_FnExactStockRun.mono_l k
 unfold laws_FnExactStockRun.f
 repeat' first
   | (with_reducible exact ih0 _ _ _ _ _ _ _ _ _ _ _ _ _ _ _ _ _ _ _)
   | (with_reducible exact ih1 _ _ _ _ _ _ _ _ _ _ _ _ _ _ _ _ _)
   | (with_reducible exact ih2 _ _ _ _ _ _ _ _ _)
   | (with_reducible exact impl_StockRun.mono _ _)
   | (with_reducible exact laws_eqStock.mono _ _ _ _ _ _ _ _ _ _ _ _ _)
   | (with_reducible exact laws_eqStockActS.mono _ _ _)
   | (with_reducible exact laws_eqStockObsS.mono _ _ _)
   | (with_reducible exact laws_heldStock.mono _ _ _ _ _ _ _ _)
   | (with_reducible exact laws_heldStockObsS.mono _ _ _)
   | (with_reducible exact laws_markStock.mono _ _ _ _ _ _ _ _)
   | (with_reducible exact laws_markStockActS.mono _ _ _)
   | (with_reducible exact laws_markStockObsS.mono _ _ _)
   | (with_reducible exact laws_szStockActS.mono _ _ _)
   | (with_reducible exact laws_toStockActS.mono _ _)
   | (with_reducible exact spec_StockRun.mono _ _)
   | (with_reducible exact LeO.refl _)
   | (with_reducible exact LeO.none _)
   | (with_reducible refine LeO.ite ?_ ?_)
   | (with_reducible refine LeO.bind ?_ (fun _ => ?_))
   | exact LeO.none _
   | refine LeO.ite ?_ ?_
   | refine LeO.bind ?_ (fun _ => ?_)
set_option maxHeartbeats 64000000 in
set_option maxRecDepth 100000 in
theorem laws_FnExactStockRun.calls (k : Nat) (A0 : Option Addr) (c0 : Nat) (l0 : List (S57)) (r : Bool) (w : World) (hr0 : Kd.C k57 w A0 l0.length l0) (hc0 : l0.length ≤ c0) (h : laws_FnExactStockRun.f k l0 = some r) :
  Calls Try.prog 4 #[.slice A0 l0.length c0] w fun e w' => e = .returned (.bool r) ∧ Below w.heap.size w w' := by
 have hu29 := Try.underlying29
 obtain ⟨HR0, HC0, HB⟩ := zD3 hr0 hc0 (Below.refl w.heap.size w)
 clear hr0 hc0
 have H : ((laws_szStockActS.f k l0 1048576).bind fun t350 => (if t350 < 0 then (some true) else ((laws_toStockActS.f k l0).bind fun t351 => ((spec_StockRun.f k t351).bind fun bt354 => ((laws_toStockActS.f k l0).bind fun t367 => ((impl_StockRun.f k t367).bind fun bt370 => ((laws_eqStockObsS.f k bt370.1 bt354.1).bind fun t383 => (if t383 = true then ((laws_eqStock.f k bt370.2.1 bt370.2.2.1 bt370.2.2.2.1 bt370.2.2.2.2.1 bt370.2.2.2.2.2.1 bt370.2.2.2.2.2.2.1 bt354.2.1 bt354.2.2.1 bt354.2.2.2.1 bt354.2.2.2.2.1 bt354.2.2.2.2.2.1 bt354.2.2.2.2.2.2.1).bind fun t384 => (if t384 = true then (laws_FnExactStockRun.j0 k l0 bt354.1 bt354.2.2.2.2.2.2.2 t367 bt370.1 bt370.2.2.2.2.2.2.2 (bt370.2.2.2.2.2.2.2 != bt354.2.2.2.2.2.2.2) bt354.2.1 bt354.2.2.1 bt354.2.2.2.1 bt354.2.2.2.2.1 bt354.2.2.2.2.2.1 bt354.2.2.2.2.2.2.1 bt370.2.1 bt370.2.2.1 bt370.2.2.2.1 bt370.2.2.2.2.1 bt370.2.2.2.2.2.1 bt370.2.2.2.2.2.2.1) else (laws_FnExactStockRun.j0 k l0 bt354.1 bt354.2.2.2.2.2.2.2 t367 bt370.1 bt370.2.2.2.2.2.2.2 true bt354.2.1 bt354.2.2.1 bt354.2.2.2.1 bt354.2.2.2.2.1 bt354.2.2.2.2.2.1 bt354.2.2.2.2.2.2.1 bt370.2.1 bt370.2.2.1 bt370.2.2.2.1 bt370.2.2.2.2.1 bt370.2.2.2.2.2.1 bt370.2.2.2.2.2.2.1))) else (laws_FnExactStockRun.j0 k l0 bt354.1 bt354.2.2.2.2.2.2.2 t367 bt370.1 bt370.2.2.2.2.2.2.2 true bt354.2.1 bt354.2.2.1 bt354.2.2.2.1 bt354.2.2.2.2.1 bt354.2.2.2.2.2.1 bt354.2.2.2.2.2.2.1 bt370.2.1 bt370.2.2.1 bt370.2.2.2.1 bt370.2.2.2.2.1 bt370.2.2.2.2.2.1 bt370.2.2.2.2.2.2.1))))))))) = some r := h
 clear h
 replace H := Option.bind_eq_some_iff.mp H
 obtain ⟨t350, A20, H⟩ := H
 replace H : (if t350 < 0 then (some true) else ((laws_toStockActS.f k l0).bind fun t351 => ((spec_StockRun.f k t351).bind fun bt354 => ((laws_toStockActS.f k l0).bind fun t367 => ((impl_StockRun.f k t367).bind fun bt370 => ((laws_eqStockObsS.f k bt370.1 bt354.1).bind fun t383 => (if t383 = true then ((laws_eqStock.f k bt370.2.1 bt370.2.2.1 bt370.2.2.2.1 bt370.2.2.2.2.1 bt370.2.2.2.2.2.1 bt370.2.2.2.2.2.2.1 bt354.2.1 bt354.2.2.1 bt354.2.2.2.1 bt354.2.2.2.2.1 bt354.2.2.2.2.2.1 bt354.2.2.2.2.2.2.1).bind fun t384 => (if t384 = true then (laws_FnExactStockRun.j0 k l0 bt354.1 bt354.2.2.2.2.2.2.2 t367 bt370.1 bt370.2.2.2.2.2.2.2 (bt370.2.2.2.2.2.2.2 != bt354.2.2.2.2.2.2.2) bt354.2.1 bt354.2.2.1 bt354.2.2.2.1 bt354.2.2.2.2.1 bt354.2.2.2.2.2.1 bt354.2.2.2.2.2.2.1 bt370.2.1 bt370.2.2.1 bt370.2.2.2.1 bt370.2.2.2.2.1 bt370.2.2.2.2.2.1 bt370.2.2.2.2.2.2.1) else (laws_FnExactStockRun.j0 k l0 bt354.1 bt354.2.2.2.2.2.2.2 t367 bt370.1 bt370.2.2.2.2.2.2.2 true bt354.2.1 bt354.2.2.1 bt354.2.2.2.1 bt354.2.2.2.2.1 bt354.2.2.2.2.2.1 bt354.2.2.2.2.2.2.1 bt370.2.1 bt370.2.2.1 bt370.2.2.2.1 bt370.2.2.2.2.1 bt370.2.2.2.2.2.1 bt370.2.2.2.2.2.2.1))) else (laws_FnExactStockRun.j0 k l0 bt354.1 bt354.2.2.2.2.2.2.2 t367 bt370.1 bt370.2.2.2.2.2.2.2 true bt354.2.1 bt354.2.2.1 bt354.2.2.2.1 bt354.2.2.2.2.1 bt354.2.2.2.2.2.1 bt354.2.2.2.2.2.2.1 bt370.2.1 bt370.2.2.1 bt370.2.2.2.1 bt370.2.2.2.2.1 bt370.2.2.2.2.2.1 bt370.2.2.2.2.2.2.1)))))))) = some r := H
 have A2 := za A20
 clear A20
 by_cases c3 : t350 < 0
 ·rw [if_pos c3] at H
  have c3b0 := decide_eq_true c3
  clear c3
  obtain rfl := Option.some.inj H
  go_enter Try.func4, Try.ntmps4
  go_wp2_with (first | ((with_reducible refine gate_callee (f := 10) rfl ?_); refine goesL_ (some 19) rfl rfl Try.func10 zG83 rfl #[.slice A0 l0.length c0, .int .i64 1048576] rfl zG54 ?_; (with_reducible refine (laws_szStockActS.calls k _ _ l0 1048576 t350 _ ?side1 ?side2 A2.out).mono ?_); (case side1 => exact zH41); (case side2 => exact HC0.out); rintro e w4 ⟨rfl, hb⟩; refine ⟨_, rfl, ?_⟩; replace HB := za (zr zG60 hb); (try clear hb)))
  go_ret
  exact zH14
 rw [if_neg c3] at H
 have c3b0 := decide_eq_false c3
 clear c3
 replace H := Option.bind_eq_some_iff.mp H
 obtain ⟨t351, A50, H⟩ := H
 replace H : ((spec_StockRun.f k t351).bind fun bt354 => ((laws_toStockActS.f k l0).bind fun t367 => ((impl_StockRun.f k t367).bind fun bt370 => ((laws_eqStockObsS.f k bt370.1 bt354.1).bind fun t383 => (if t383 = true then ((laws_eqStock.f k bt370.2.1 bt370.2.2.1 bt370.2.2.2.1 bt370.2.2.2.2.1 bt370.2.2.2.2.2.1 bt370.2.2.2.2.2.2.1 bt354.2.1 bt354.2.2.1 bt354.2.2.2.1 bt354.2.2.2.2.1 bt354.2.2.2.2.2.1 bt354.2.2.2.2.2.2.1).bind fun t384 => (if t384 = true then (laws_FnExactStockRun.j0 k l0 bt354.1 bt354.2.2.2.2.2.2.2 t367 bt370.1 bt370.2.2.2.2.2.2.2 (bt370.2.2.2.2.2.2.2 != bt354.2.2.2.2.2.2.2) bt354.2.1 bt354.2.2.1 bt354.2.2.2.1 bt354.2.2.2.2.1 bt354.2.2.2.2.2.1 bt354.2.2.2.2.2.2.1 bt370.2.1 bt370.2.2.1 bt370.2.2.2.1 bt370.2.2.2.2.1 bt370.2.2.2.2.2.1 bt370.2.2.2.2.2.2.1) else (laws_FnExactStockRun.j0 k l0 bt354.1 bt354.2.2.2.2.2.2.2 t367 bt370.1 bt370.2.2.2.2.2.2.2 true bt354.2.1 bt354.2.2.1 bt354.2.2.2.1 bt354.2.2.2.2.1 bt354.2.2.2.2.2.1 bt354.2.2.2.2.2.2.1 bt370.2.1 bt370.2.2.1 bt370.2.2.2.1 bt370.2.2.2.2.1 bt370.2.2.2.2.2.1 bt370.2.2.2.2.2.2.1))) else (laws_FnExactStockRun.j0 k l0 bt354.1 bt354.2.2.2.2.2.2.2 t367 bt370.1 bt370.2.2.2.2.2.2.2 true bt354.2.1 bt354.2.2.1 bt354.2.2.2.1 bt354.2.2.2.2.1 bt354.2.2.2.2.2.1 bt354.2.2.2.2.2.2.1 bt370.2.1 bt370.2.2.1 bt370.2.2.2.1 bt370.2.2.2.2.1 bt370.2.2.2.2.2.1 bt370.2.2.2.2.2.2.1)))))) = some r := H
 have A5 := za A50
 clear A50
 replace H := Option.bind_eq_some_iff.mp H
 obtain ⟨⟨t354, t357, t358, t359, t360, t361, t362, t365⟩, A60, H⟩ := H
 replace H : ((laws_toStockActS.f k l0).bind fun t367 => ((impl_StockRun.f k t367).bind fun bt370 => ((laws_eqStockObsS.f k bt370.1 t354).bind fun t383 => (if t383 = true then ((laws_eqStock.f k bt370.2.1 bt370.2.2.1 bt370.2.2.2.1 bt370.2.2.2.2.1 bt370.2.2.2.2.2.1 bt370.2.2.2.2.2.2.1 t357 t358 t359 t360 t361 t362).bind fun t384 => (if t384 = true then (laws_FnExactStockRun.j0 k l0 t354 t365 t367 bt370.1 bt370.2.2.2.2.2.2.2 (bt370.2.2.2.2.2.2.2 != t365) t357 t358 t359 t360 t361 t362 bt370.2.1 bt370.2.2.1 bt370.2.2.2.1 bt370.2.2.2.2.1 bt370.2.2.2.2.2.1 bt370.2.2.2.2.2.2.1) else (laws_FnExactStockRun.j0 k l0 t354 t365 t367 bt370.1 bt370.2.2.2.2.2.2.2 true t357 t358 t359 t360 t361 t362 bt370.2.1 bt370.2.2.1 bt370.2.2.2.1 bt370.2.2.2.2.1 bt370.2.2.2.2.2.1 bt370.2.2.2.2.2.2.1))) else (laws_FnExactStockRun.j0 k l0 t354 t365 t367 bt370.1 bt370.2.2.2.2.2.2.2 true t357 t358 t359 t360 t361 t362 bt370.2.1 bt370.2.2.1 bt370.2.2.2.1 bt370.2.2.2.2.1 bt370.2.2.2.2.2.1 bt370.2.2.2.2.2.2.1))))) = some r := H
 have A6 := za A60
 clear A60
 replace H := Option.bind_eq_some_iff.mp H
 obtain ⟨t367, A70, H⟩ := H
 replace H : ((impl_StockRun.f k t367).bind fun bt370 => ((laws_eqStockObsS.f k bt370.1 t354).bind fun t383 => (if t383 = true then ((laws_eqStock.f k bt370.2.1 bt370.2.2.1 bt370.2.2.2.1 bt370.2.2.2.2.1 bt370.2.2.2.2.2.1 bt370.2.2.2.2.2.2.1 t357 t358 t359 t360 t361 t362).bind fun t384 => (if t384 = true then (laws_FnExactStockRun.j0 k l0 t354 t365 t367 bt370.1 bt370.2.2.2.2.2.2.2 (bt370.2.2.2.2.2.2.2 != t365) t357 t358 t359 t360 t361 t362 bt370.2.1 bt370.2.2.1 bt370.2.2.2.1 bt370.2.2.2.2.1 bt370.2.2.2.2.2.1 bt370.2.2.2.2.2.2.1) else (laws_FnExactStockRun.j0 k l0 t354 t365 t367 bt370.1 bt370.2.2.2.2.2.2.2 true t357 t358 t359 t360 t361 t362 bt370.2.1 bt370.2.2.1 bt370.2.2.2.1 bt370.2.2.2.2.1 bt370.2.2.2.2.2.1 bt370.2.2.2.2.2.2.1))) else (laws_FnExactStockRun.j0 k l0 t354 t365 t367 bt370.1 bt370.2.2.2.2.2.2.2 true t357 t358 t359 t360 t361 t362 bt370.2.1 bt370.2.2.1 bt370.2.2.2.1 bt370.2.2.2.2.1 bt370.2.2.2.2.2.1 bt370.2.2.2.2.2.2.1)))) = some r := H
 have A7 := za A70
 clear A70
 replace H := Option.bind_eq_some_iff.mp H
 obtain ⟨⟨t370, t373, t374, t375, t376, t377, t378, t381⟩, A80, H⟩ := H
 replace H : ((laws_eqStockObsS.f k t370 t354).bind fun t383 => (if t383 = true then ((laws_eqStock.f k t373 t374 t375 t376 t377 t378 t357 t358 t359 t360 t361 t362).bind fun t384 => (if t384 = true then (laws_FnExactStockRun.j0 k l0 t354 t365 t367 t370 t381 (t381 != t365) t357 t358 t359 t360 t361 t362 t373 t374 t375 t376 t377 t378) else (laws_FnExactStockRun.j0 k l0 t354 t365 t367 t370 t381 true t357 t358 t359 t360 t361 t362 t373 t374 t375 t376 t377 t378))) else (laws_FnExactStockRun.j0 k l0 t354 t365 t367 t370 t381 true t357 t358 t359 t360 t361 t362 t373 t374 t375 t376 t377 t378))) = some r := H
 obtain ⟨A8, HC9⟩ := zD2 A80 H
 clear A80 H
 go_enter Try.func4, Try.ntmps4
 go_upto_region 8 with (first | ((with_reducible refine gate_callee (f := 10) rfl ?_); refine goesL_ (some 19) rfl rfl Try.func10 zG83 rfl #[.slice A0 l0.length c0, .int .i64 1048576] rfl zG54 ?_; (with_reducible refine (laws_szStockActS.calls k _ _ l0 1048576 t350 _ ?side1 ?side2 A2.out).mono ?_); (case side1 => exact zH41); (case side2 => exact HC0.out); rintro e w10 ⟨rfl, hb⟩; refine ⟨_, rfl, ?_⟩; replace HB := za (zr zG60 hb); (try clear hb); (try clear hk)) | ((with_reducible refine gate_callee (f := 12) rfl ?_); refine goesL_ (some 24) rfl rfl Try.func12 zG83 rfl #[.slice A0 l0.length c0] rfl zG54 ?_; (with_reducible refine (laws_toStockActS.calls k _ _ l0 t351 _ ?side1 ?side2 A5.out).mono ?_); (case side1 => exact zH40); (case side2 => exact HC0.out); rintro e w11 ⟨v352, rfl, ho0, hb⟩; refine ⟨_, rfl, ?_⟩; have n_ := zA_ (za (zai ho0 (zp zG60))) (za (zr zG60 hb)); clear HB; obtain ⟨HO353, HB⟩ := n_; (try clear hb); (try clear hk); (try clear ho0); obtain ⟨Ao12, co12, eo12⟩ := zx HO353.out; subst eo12) | ((with_reducible refine gate_callee (f := 11) rfl ?_); refine goesL_ (some 25) rfl rfl Try.func11 zG83 rfl #[.slice Ao12 t351.length co12] rfl zG54 ?_; (with_reducible refine (spec_StockRun.calls k _ _ t351 t354 t357 t358 t359 t360 t361 t362 t365 _ ?side1 ?side2 A6.out).mono ?_); (case side1 => repeat (first | exact (Kd.R_reads' HO353.out).2.2 | (with_reducible refine zy ?_ _) | (with_reducible refine zz ?_ _) | (with_reducible refine zaa ?_))); (case side2 => exact (Kd.R_reads' HO353.out).2.1); rintro e w13 ⟨v355, v363, rfl, ho0, ho1, hb⟩; refine ⟨_, rfl, ?_⟩; have n_ := zA_ (za (zo zK169 hb)) (zA_ (za (zai ho0 (zp zG60))) (zA_ (za (zai ho1 (zp zG60))) (za (zr zG60 hb)))); clear HO353 HB; obtain ⟨HO353, HO356, HO364, HB⟩ := n_; (try clear hb); (try clear hk); (try clear ho0); (try clear ho1)) | ((with_reducible refine gate_dst (N := 5) rfl ?_); refine box_event ?hg (N := 5) ?hd (cs := (zs6 0 0 0 0 0 (.slice none 0 0))) (t := 29) ?hr ?_; (case hd => rfl); (case hg => rfl); (case hr => exact zH83); intro gb366 hg w14 hbox hb; have n_ := zA_ (za (zo zK169 hb)) (zA_ (za (zo zK170 hb)) (zA_ (za (zo zK171 hb)) (zA_ (za (zr zG60 hb)) (zA_ (za (hbox)) (zA_ (zN1 w.heap.size hg (zp zG60)) (zN1 w.heap.size hg (zp zG60))))))); clear HO353 HO356 HO364 HB; obtain ⟨HO353, HO356, HO364, HB, BK366, GW366, GE366⟩ := n_; clear hb hbox hg; have hcz15_0 : w14.cell? ⟨gb366, 0, none⟩ = some (.int .i64 0) := (q20a BK366.out 0).trans rfl; have hcz15_1 : w14.cell? ⟨gb366, 1, none⟩ = some (.int .i64 0) := (q20a BK366.out 1).trans rfl; have hcz15_2 : w14.cell? ⟨gb366, 2, none⟩ = some (.int .i64 0) := (q20a BK366.out 2).trans rfl; have hcz15_3 : w14.cell? ⟨gb366, 3, none⟩ = some (.int .i64 0) := (q20a BK366.out 3).trans rfl; have hcz15_4 : w14.cell? ⟨gb366, 4, none⟩ = some (.int .i64 0) := (q20a BK366.out 4).trans rfl; have hcz15_5 : w14.cell? ⟨gb366, 5, none⟩ = some (.slice none 0 0) := (q20a BK366.out 5).trans rfl; have hfz15_0 := zc BK366.out 0; have hfz15_1 := zc BK366.out 1; have hfz15_2 := zc BK366.out 2; have hfz15_3 := zc BK366.out 3; have hfz15_4 := zc BK366.out 4; have hfz15_5 := zc BK366.out 5; obtain ⟨Ao16, co16, eo16⟩ := zx HO364.out; subst eo16) | ((with_reducible refine gate_callee (f := 12) rfl ?_); refine goesL_ (some 30) rfl rfl Try.func12 zG83 rfl #[.slice A0 l0.length c0] rfl zG54 ?_; (with_reducible refine (laws_toStockActS.calls k _ _ l0 t367 _ ?side1 ?side2 A7.out).mono ?_); (case side1 => exact zak HR0.out zK151); (case side2 => exact HC0.out); rintro e w17 ⟨v368, rfl, ho0, hb⟩; refine ⟨_, rfl, ?_⟩; have n_ := zA_ (za (zan zK106 (zaq ho0) hb)) (zA_ (za (zo (by (with_reducible repeat (first | apply zk | apply zl | apply zn)); exact (zs (zm (p := ⟨gb366, 5, none⟩) (zm (p := ⟨gb366, 4, none⟩) (zm (p := ⟨gb366, 3, none⟩) (zm (p := ⟨gb366, 2, none⟩) (zm (p := ⟨gb366, 1, none⟩) (zm (p := ⟨gb366, 0, none⟩) (zw HO356.out BK366.out zG84) (fun _ hk => hk.2) (.int .i64 t357)) (fun _ hk => hk.2) (.int .i64 t358)) (fun _ hk => hk.2) (.int .i64 t359)) (fun _ hk => hk.2) (.int .i64 t360)) (fun _ hk => hk.2) (.int .i64 t361)) (fun _ hk => hk.2) (.slice Ao16 t362.length co16)) (fun _ h_ => h_.1))) hb)) (zA_ (za (zo (by (with_reducible repeat (first | apply zk | apply zl | apply zn)); exact (zs (zm (p := ⟨gb366, 5, none⟩) (zm (p := ⟨gb366, 4, none⟩) (zm (p := ⟨gb366, 3, none⟩) (zm (p := ⟨gb366, 2, none⟩) (zm (p := ⟨gb366, 1, none⟩) (zm (p := ⟨gb366, 0, none⟩) (zw HO364.out BK366.out zG84) (fun _ hk => hk.2) (.int .i64 t357)) (fun _ hk => hk.2) (.int .i64 t358)) (fun _ hk => hk.2) (.int .i64 t359)) (fun _ hk => hk.2) (.int .i64 t360)) (fun _ hk => hk.2) (.int .i64 t361)) (fun _ hk => hk.2) (.slice Ao16 t362.length co16)) (fun _ h_ => h_.1))) hb)) (zA_ (za (zai (zar ho0 (zas zK106)) (zp zK151))) (zA_ (za (zq (g := gb366) (o := .cells (zs6 t357 t358 t359 t360 t361 (.slice Ao16 t362.length co16)) 29 (0, 0)) (by (with_reducible repeat (first | refine zf ?_ _ | refine zg ?_ | refine ze ?_ _)); refine zu (cs := (zs6 t357 t358 t359 t360 t361 (.slice none 0 0))) ?_ 5 _ rfl; (with_reducible repeat (first | refine zf ?_ _ | refine zg ?_ | refine ze ?_ _)); refine zu (cs := (zs6 t357 t358 t359 t360 0 (.slice none 0 0))) ?_ 4 _ rfl; (with_reducible repeat (first | refine zf ?_ _ | refine zg ?_ | refine ze ?_ _)); refine zu (cs := (zs6 t357 t358 t359 0 0 (.slice none 0 0))) ?_ 3 _ rfl; (with_reducible repeat (first | refine zf ?_ _ | refine zg ?_ | refine ze ?_ _)); refine zu (cs := (zs6 t357 t358 0 0 0 (.slice none 0 0))) ?_ 2 _ rfl; (with_reducible repeat (first | refine zf ?_ _ | refine zg ?_ | refine ze ?_ _)); refine zu (cs := (zs6 t357 0 0 0 0 (.slice none 0 0))) ?_ 1 _ rfl; (with_reducible repeat (first | refine zf ?_ _ | refine zg ?_ | refine ze ?_ _)); refine zu (cs := (zs6 0 0 0 0 0 (.slice none 0 0))) ?_ 0 _ rfl; (with_reducible repeat (first | refine zf ?_ _ | refine zg ?_ | refine ze ?_ _)); exact BK366.out) hb)) (za (zr zK151 hb)))))); clear HO353 HO356 HO364 BK366 HB; obtain ⟨HO353, HO356, HO364, HO369, BK366, HB⟩ := n_; (try clear hb); (try clear hk); (try clear ho0); obtain ⟨Ao18, co18, eo18⟩ := zx HO369.out; subst eo18) | ((with_reducible refine gate_callee (f := 7) rfl ?_); refine goesL_ (some 33) rfl rfl Try.func7 zG83 rfl #[.slice Ao18 t367.length co18] rfl zG54 ?_; (with_reducible refine (impl_StockRun.calls k _ _ t367 t370 t373 t374 t375 t376 t377 t378 t381 _ ?side1 ?side2 A8.out).mono ?_); (case side1 => repeat (first | exact (Kd.R_reads' HO369.out).2.2 | (with_reducible refine zy ?_ _) | (with_reducible refine zz ?_ _) | (with_reducible refine zaa ?_))); (case side2 => exact (Kd.R_reads' HO369.out).2.1); rintro e w19 ⟨v371, v379, rfl, ho0, ho1, hb⟩; refine ⟨_, rfl, ?_⟩; have n_ := zA_ (za (zo zK169 hb)) (zA_ (za (zan zK170 (zaq ho0) hb)) (zA_ (za (zan zK171 (zaq ho1) hb)) (zA_ (za (zo zK172 hb)) (zA_ (za (zai (zar ho0 (zas zK170)) (zp zK151))) (zA_ (za (zai (zar ho1 (zas zK171)) (zp zK151))) (zA_ (za (zq (g := gb366) (o := .cells (zs6 t357 t358 t359 t360 t361 (.slice Ao16 t362.length co16)) 29 (0, 0)) zG69 hb)) (za (zr zK151 hb)))))))); clear HO353 HO356 HO364 HO369 BK366 HB; obtain ⟨HO353, HO356, HO364, HO369, HO372, HO380, BK366, HB⟩ := n_; (try clear hb); (try clear hk); (try clear ho0); (try clear ho1)) | ((with_reducible refine gate_dst (N := 9) rfl ?_); refine box_event ?hg (N := 9) ?hd (cs := (zs6 0 0 0 0 0 (.slice none 0 0))) (t := 29) ?hr ?_; (case hd => rfl); (case hg => rfl); (case hr => exact zH83); intro gb382 hg w20 hbox hb; have n_ := zA_ (za (zo zK169 hb)) (zA_ (za (zo zK170 hb)) (zA_ (za (zo zK171 hb)) (zA_ (za (zo zK172 hb)) (zA_ (za (zo zK173 hb)) (zA_ (za (zo zK174 hb)) (zA_ (za (zq (g := gb366) (o := .cells (zs6 t357 t358 t359 t360 t361 (.slice Ao16 t362.length co16)) 29 (0, 0)) zG69 hb)) (zA_ (za (zr zK151 hb)) (zA_ (za (hbox)) (zA_ (zN1 w.heap.size hg (zp zK151)) (zA_ (zN1 w.heap.size hg (zp zK151)) (zN2 hg (zv (g := gb366) (o := .cells (zs6 t357 t358 t359 t360 t361 (.slice Ao16 t362.length co16)) 29 (0, 0)) zG69)))))))))))); clear HO353 HO356 HO364 HO369 HO372 HO380 BK366 HB; obtain ⟨HO353, HO356, HO364, HO369, HO372, HO380, BK366, HB, BK382, GW382, GE382, NB366_382, NB382_366⟩ := n_; clear hb hbox hg; have hnb21 := NB382_366.out; have hnc21 := NB366_382.out; have hcz22_0 : w20.cell? ⟨gb382, 0, none⟩ = some (.int .i64 0) := (q20a BK382.out 0).trans rfl; have hcz22_1 : w20.cell? ⟨gb382, 1, none⟩ = some (.int .i64 0) := (q20a BK382.out 1).trans rfl; have hcz22_2 : w20.cell? ⟨gb382, 2, none⟩ = some (.int .i64 0) := (q20a BK382.out 2).trans rfl; have hcz22_3 : w20.cell? ⟨gb382, 3, none⟩ = some (.int .i64 0) := (q20a BK382.out 3).trans rfl; have hcz22_4 : w20.cell? ⟨gb382, 4, none⟩ = some (.int .i64 0) := (q20a BK382.out 4).trans rfl; have hcz22_5 : w20.cell? ⟨gb382, 5, none⟩ = some (.slice none 0 0) := (q20a BK382.out 5).trans rfl; have hfz22_0 := zc BK382.out 0; have hfz22_1 := zc BK382.out 1; have hfz22_2 := zc BK382.out 2; have hfz22_3 := zc BK382.out 3; have hfz22_4 := zc BK382.out 4; have hfz22_5 := zc BK382.out 5; obtain ⟨Ao23, co23, eo23⟩ := zx HO380.out; subst eo23))
 (try simp only [Act.put, List.setIfInBounds_toArray, List.set_cons_zero, List.set_cons_succ])
 go_cut [51] (fun v51 wc => ∃ (kq : Nat) (x51_8 : Bool), v51 = .bool x51_8 ∧ Aside0 (laws_FnExactStockRun.j0 kq l0 t354 t365 t367 t370 t381 x51_8 t357 t358 t359 t360 t361 t362 t373 t374 t375 t376 t377 t378 = some r) ∧ Aside0 (kq ≤ k) ∧ Aside0 (Kd.R k36 36 wc w.heap.size (fun k_ => some k_ ≠ (v371 : Value).ownBlock) v355 t354) ∧ Aside0 (Kd.R k34 34 wc w.heap.size (fun _ => True) (.slice Ao18 t367.length co18) t367) ∧ Aside0 (Kd.R k36 36 wc w.heap.size (fun k_ => some k_ ≠ (v355 : Value).ownBlock) v371 t370) ∧ Aside0 (Kd.R k38 38 wc w.heap.size (fun k_ => some k_ ≠ ((.slice Ao23 t378.length co23) : Value).ownBlock) (.slice Ao16 t362.length co16) t362) ∧ Aside0 (Kd.R k38 38 wc w.heap.size (fun k_ => some k_ ≠ ((.slice Ao16 t362.length co16) : Value).ownBlock) (.slice Ao23 t378.length co23) t378) ∧ Aside0 (wc.heap[gb366]? = some (.cells (zs6 t357 t358 t359 t360 t361 (.slice Ao16 t362.length co16)) 29 (0, 0))) ∧ Aside0 (wc.heap[gb382]? = some (.cells (zs6 t373 t374 t375 t376 t377 (.slice Ao23 t378.length co23)) 29 (0, 0))) ∧ Aside0 (Below w.heap.size w wc))
 case first =>
  have H := HC9.out
  clear HC9
  replace H := Option.bind_eq_some_iff.mp H
  obtain ⟨t383, A240, H⟩ := H
  replace H : (if t383 = true then ((laws_eqStock.f k t373 t374 t375 t376 t377 t378 t357 t358 t359 t360 t361 t362).bind fun t384 => (if t384 = true then (laws_FnExactStockRun.j0 k l0 t354 t365 t367 t370 t381 (t381 != t365) t357 t358 t359 t360 t361 t362 t373 t374 t375 t376 t377 t378) else (laws_FnExactStockRun.j0 k l0 t354 t365 t367 t370 t381 true t357 t358 t359 t360 t361 t362 t373 t374 t375 t376 t377 t378))) else (laws_FnExactStockRun.j0 k l0 t354 t365 t367 t370 t381 true t357 t358 t359 t360 t361 t362 t373 t374 t375 t376 t377 t378)) = some r := H
  have A24 := za A240
  clear A240
  by_cases c25 : t383 = true
  rotate_left
  ·replace c25 := Bool.eq_false_iff.mpr c25
   subst c25
   have H1 : (laws_FnExactStockRun.j0 k l0 t354 t365 t367 t370 t381 true t357 t358 t359 t360 t361 t362 t373 t374 t375 t376 t377 t378) = some r := by rw [if_neg (show ¬ (false = true) by decide)] at H; exact H
   clear H
   have H := H1
   clear H1
   have H' := za H
   clear H
   obtain ⟨Ao42, co42, eo42⟩ := zx HO372.out
   subst eo42
   obtain ⟨Ao43, co43, eo43⟩ := zx HO356.out
   subst eo43
   go_wp2_with (first | ((with_reducible refine gate_callee (f := 13) rfl ?_); refine goesL_ (some 39) rfl rfl Try.func13 zG83 rfl #[.slice Ao42 t370.length co42, .slice Ao43 t354.length co43] rfl zG54 ?_; (with_reducible refine (laws_eqStockObsS.calls k _ _ t370 _ _ t354 false _ ?side1 ?side2 ?side3 ?side4 A24.out).mono ?_); (case side1 => refine (Kd.R_reads' (e := 36) (base := w.heap.size) (ok := fun k_ => (True ∧ some k_ ≠ (.slice Ao43 t354.length co43 : Value).ownBlock)) (n := t370.length) (c := co42) ?_).2.2; exact zK107); (case side2 => exact (Kd.R_reads' HO372.out).2.1); (case side3 => refine (Kd.R_reads' (e := 36) (base := w.heap.size) (ok := fun k_ => (True ∧ some k_ ≠ (.slice Ao42 t370.length co42 : Value).ownBlock)) (n := t354.length) (c := co43) ?_).2.2; exact zK108); (case side4 => exact (Kd.R_reads' HO356.out).2.1); rintro e w44 ⟨rfl, hb⟩; refine ⟨_, rfl, ?_⟩; have n_ := zA_ (za (zo zK109 hb)) (zA_ (za (zo zK108 hb)) (zA_ (za (zo zK110 hb)) (zA_ (za (zo zK111 hb)) (zA_ (za (zo zK107 hb)) (zA_ (za (zo zK112 hb)) (zA_ (za (zq (g := gb366) (o := .cells (zs6 t357 t358 t359 t360 t361 (.slice Ao16 t362.length co16)) 29 (0, 0)) zK96 hb)) (zA_ (za (zq (g := gb382) (o := .cells (zs6 t373 t374 t375 t376 t377 (.slice Ao23 t378.length co23)) 29 (0, 0)) zK92 hb)) (za (zr zG53 hb))))))))); clear HO353 HO356 HO364 HO369 HO372 HO380 BK366 BK382 HB; obtain ⟨HO353, HO356, HO364, HO369, HO372, HO380, BK366, BK382, HB⟩ := n_; (try clear hb); (try clear hk)))
   go_meet
   case rel => exact ⟨_, (true), zG82, H', ⟨zH84⟩, ⟨zH56⟩, ⟨zH52⟩, ⟨zH58⟩, ⟨zH57⟩, ⟨zH59⟩, ⟨zH65⟩, ⟨zH66⟩, ⟨zH26⟩⟩
  subst c25
  have H1 : ((laws_eqStock.f k t373 t374 t375 t376 t377 t378 t357 t358 t359 t360 t361 t362).bind fun t384 => (if t384 = true then (laws_FnExactStockRun.j0 k l0 t354 t365 t367 t370 t381 (t381 != t365) t357 t358 t359 t360 t361 t362 t373 t374 t375 t376 t377 t378) else (laws_FnExactStockRun.j0 k l0 t354 t365 t367 t370 t381 true t357 t358 t359 t360 t361 t362 t373 t374 t375 t376 t377 t378))) = some r := by rw [if_pos rfl] at H; exact H
  clear H
  have H := H1
  clear H1
  replace H := Option.bind_eq_some_iff.mp H
  obtain ⟨t384, A260, H⟩ := H
  replace H : (if t384 = true then (laws_FnExactStockRun.j0 k l0 t354 t365 t367 t370 t381 (t381 != t365) t357 t358 t359 t360 t361 t362 t373 t374 t375 t376 t377 t378) else (laws_FnExactStockRun.j0 k l0 t354 t365 t367 t370 t381 true t357 t358 t359 t360 t361 t362 t373 t374 t375 t376 t377 t378)) = some r := H
  have A26 := za A260
  clear A260
  by_cases c27 : t384 = true
  ·subst c27
   have H1 : (laws_FnExactStockRun.j0 k l0 t354 t365 t367 t370 t381 (t381 != t365) t357 t358 t359 t360 t361 t362 t373 t374 t375 t376 t377 t378) = some r := by rw [if_pos rfl] at H; exact H
   clear H
   have H := H1
   clear H1
   have H' := za H
   clear H
   obtain ⟨Ao28, co28, eo28⟩ := zx HO372.out
   subst eo28
   obtain ⟨Ao29, co29, eo29⟩ := zx HO356.out
   subst eo29
   go_wp2_with (first | ((with_reducible refine gate_callee (f := 13) rfl ?_); refine goesL_ (some 39) rfl rfl Try.func13 zG83 rfl #[.slice Ao28 t370.length co28, .slice Ao29 t354.length co29] rfl zG54 ?_; (with_reducible refine (laws_eqStockObsS.calls k _ _ t370 _ _ t354 true _ ?side1 ?side2 ?side3 ?side4 A24.out).mono ?_); (case side1 => refine (Kd.R_reads' (e := 36) (base := w.heap.size) (ok := fun k_ => (True ∧ some k_ ≠ (.slice Ao29 t354.length co29 : Value).ownBlock)) (n := t370.length) (c := co28) ?_).2.2; exact zK107); (case side2 => exact (Kd.R_reads' HO372.out).2.1); (case side3 => refine (Kd.R_reads' (e := 36) (base := w.heap.size) (ok := fun k_ => (True ∧ some k_ ≠ (.slice Ao28 t370.length co28 : Value).ownBlock)) (n := t354.length) (c := co29) ?_).2.2; exact zK108); (case side4 => exact (Kd.R_reads' HO356.out).2.1); rintro e w30 ⟨rfl, hb⟩; refine ⟨_, rfl, ?_⟩; have n_ := zA_ (za (zo zK109 hb)) (zA_ (za (zo zK108 hb)) (zA_ (za (zo zK110 hb)) (zA_ (za (zo zK111 hb)) (zA_ (za (zo zK107 hb)) (zA_ (za (zo zK112 hb)) (zA_ (za (zq (g := gb366) (o := .cells (zs6 t357 t358 t359 t360 t361 (.slice Ao16 t362.length co16)) 29 (0, 0)) zK96 hb)) (zA_ (za (zq (g := gb382) (o := .cells (zs6 t373 t374 t375 t376 t377 (.slice Ao23 t378.length co23)) 29 (0, 0)) zK92 hb)) (za (zr zG53 hb))))))))); clear HO353 HO356 HO364 HO369 HO372 HO380 BK366 BK382 HB; obtain ⟨HO353, HO356, HO364, HO369, HO372, HO380, BK366, BK382, HB⟩ := n_; (try clear hb); (try clear hk); have hnb31 := NB382_366.out; have hnc31 := NB366_382.out; have hcz32_0 : w30.cell? ⟨gb382, 0, none⟩ = some (.int .i64 t373) := (q20a BK382.out 0).trans rfl; have hcz32_1 : w30.cell? ⟨gb382, 1, none⟩ = some (.int .i64 t374) := (q20a BK382.out 1).trans rfl; have hcz32_2 : w30.cell? ⟨gb382, 2, none⟩ = some (.int .i64 t375) := (q20a BK382.out 2).trans rfl; have hcz32_3 : w30.cell? ⟨gb382, 3, none⟩ = some (.int .i64 t376) := (q20a BK382.out 3).trans rfl; have hcz32_4 : w30.cell? ⟨gb382, 4, none⟩ = some (.int .i64 t377) := (q20a BK382.out 4).trans rfl; have hcz32_5 : w30.cell? ⟨gb382, 5, none⟩ = some (.slice Ao23 t378.length co23) := (q20a BK382.out 5).trans rfl; have hfz32_0 := zc BK382.out 0; have hfz32_1 := zc BK382.out 1; have hfz32_2 := zc BK382.out 2; have hfz32_3 := zc BK382.out 3; have hfz32_4 := zc BK382.out 4; have hfz32_5 := zc BK382.out 5; have hcz33_0 : w30.cell? ⟨gb366, 0, none⟩ = some (.int .i64 t357) := (q20a BK366.out 0).trans rfl; have hcz33_1 : w30.cell? ⟨gb366, 1, none⟩ = some (.int .i64 t358) := (q20a BK366.out 1).trans rfl; have hcz33_2 : w30.cell? ⟨gb366, 2, none⟩ = some (.int .i64 t359) := (q20a BK366.out 2).trans rfl; have hcz33_3 : w30.cell? ⟨gb366, 3, none⟩ = some (.int .i64 t360) := (q20a BK366.out 3).trans rfl; have hcz33_4 : w30.cell? ⟨gb366, 4, none⟩ = some (.int .i64 t361) := (q20a BK366.out 4).trans rfl; have hcz33_5 : w30.cell? ⟨gb366, 5, none⟩ = some (.slice Ao16 t362.length co16) := (q20a BK366.out 5).trans rfl; have hfz33_0 := zc BK366.out 0; have hfz33_1 := zc BK366.out 1; have hfz33_2 := zc BK366.out 2; have hfz33_3 := zc BK366.out 3; have hfz33_4 := zc BK366.out 4; have hfz33_5 := zc BK366.out 5) | (go_at_call 14; (with_reducible refine (laws_eqStock.calls k t373 t374 t375 t376 t377 _ _ t378 t357 t358 t359 t360 t361 _ _ t362 true _ ?side1 ?side2 ?side3 ?side4 A26.out).mono ?_); (case side1 => exact zH32); (case side2 => exact (Kd.R_reads' HO380.out).2.1); (case side3 => exact zH31); (case side4 => exact (Kd.R_reads' HO364.out).2.1); rintro e w34 ⟨rfl, hb⟩; have n_ := zA_ (za (zo zK169 hb)) (zA_ (za (zo zK170 hb)) (zA_ (za (zo zK171 hb)) (zA_ (za (zo zK172 hb)) (zA_ (za (zo zK173 hb)) (zA_ (za (zo zK174 hb)) (zA_ (za (zq (g := gb366) (o := .cells (zs6 t357 t358 t359 t360 t361 (.slice Ao16 t362.length co16)) 29 (0, 0)) zG69 hb)) (zA_ (za (zq (g := gb382) (o := .cells (zs6 t373 t374 t375 t376 t377 (.slice Ao23 t378.length co23)) 29 (0, 0)) zG70 hb)) (za (zr zG53 hb))))))))); clear HO353 HO356 HO364 HO369 HO372 HO380 BK366 BK382 HB; obtain ⟨HO353, HO356, HO364, HO369, HO372, HO380, BK366, BK382, HB⟩ := n_; (try clear hb); (try clear hk)))
   go_meet
   case rel => exact ⟨_, ((t381 != t365)), zG82, H', ⟨zH84⟩, ⟨zH56⟩, ⟨zH52⟩, ⟨zH58⟩, ⟨zH57⟩, ⟨zH59⟩, ⟨zH65⟩, ⟨zH66⟩, ⟨zH26⟩⟩
  replace c27 := Bool.eq_false_iff.mpr c27
  subst c27
  have H1 : (laws_FnExactStockRun.j0 k l0 t354 t365 t367 t370 t381 true t357 t358 t359 t360 t361 t362 t373 t374 t375 t376 t377 t378) = some r := by rw [if_neg (show ¬ (false = true) by decide)] at H; exact H
  clear H
  have H := H1
  clear H1
  have H' := za H
  clear H
  obtain ⟨Ao35, co35, eo35⟩ := zx HO372.out
  subst eo35
  obtain ⟨Ao36, co36, eo36⟩ := zx HO356.out
  subst eo36
  go_wp2_with (first | ((with_reducible refine gate_callee (f := 13) rfl ?_); refine goesL_ (some 39) rfl rfl Try.func13 zG83 rfl #[.slice Ao35 t370.length co35, .slice Ao36 t354.length co36] rfl zG54 ?_; (with_reducible refine (laws_eqStockObsS.calls k _ _ t370 _ _ t354 true _ ?side1 ?side2 ?side3 ?side4 A24.out).mono ?_); (case side1 => refine (Kd.R_reads' (e := 36) (base := w.heap.size) (ok := fun k_ => (True ∧ some k_ ≠ (.slice Ao36 t354.length co36 : Value).ownBlock)) (n := t370.length) (c := co35) ?_).2.2; exact zK107); (case side2 => exact (Kd.R_reads' HO372.out).2.1); (case side3 => refine (Kd.R_reads' (e := 36) (base := w.heap.size) (ok := fun k_ => (True ∧ some k_ ≠ (.slice Ao35 t370.length co35 : Value).ownBlock)) (n := t354.length) (c := co36) ?_).2.2; exact zK108); (case side4 => exact (Kd.R_reads' HO356.out).2.1); rintro e w37 ⟨rfl, hb⟩; refine ⟨_, rfl, ?_⟩; have n_ := zA_ (za (zo zK109 hb)) (zA_ (za (zo zK108 hb)) (zA_ (za (zo zK110 hb)) (zA_ (za (zo zK111 hb)) (zA_ (za (zo zK107 hb)) (zA_ (za (zo zK112 hb)) (zA_ (za (zq (g := gb366) (o := .cells (zs6 t357 t358 t359 t360 t361 (.slice Ao16 t362.length co16)) 29 (0, 0)) zK96 hb)) (zA_ (za (zq (g := gb382) (o := .cells (zs6 t373 t374 t375 t376 t377 (.slice Ao23 t378.length co23)) 29 (0, 0)) zK92 hb)) (za (zr zG53 hb))))))))); clear HO353 HO356 HO364 HO369 HO372 HO380 BK366 BK382 HB; obtain ⟨HO353, HO356, HO364, HO369, HO372, HO380, BK366, BK382, HB⟩ := n_; (try clear hb); (try clear hk); have hnb38 := NB382_366.out; have hnc38 := NB366_382.out; have hcz39_0 : w37.cell? ⟨gb382, 0, none⟩ = some (.int .i64 t373) := (q20a BK382.out 0).trans rfl; have hcz39_1 : w37.cell? ⟨gb382, 1, none⟩ = some (.int .i64 t374) := (q20a BK382.out 1).trans rfl; have hcz39_2 : w37.cell? ⟨gb382, 2, none⟩ = some (.int .i64 t375) := (q20a BK382.out 2).trans rfl; have hcz39_3 : w37.cell? ⟨gb382, 3, none⟩ = some (.int .i64 t376) := (q20a BK382.out 3).trans rfl; have hcz39_4 : w37.cell? ⟨gb382, 4, none⟩ = some (.int .i64 t377) := (q20a BK382.out 4).trans rfl; have hcz39_5 : w37.cell? ⟨gb382, 5, none⟩ = some (.slice Ao23 t378.length co23) := (q20a BK382.out 5).trans rfl; have hfz39_0 := zc BK382.out 0; have hfz39_1 := zc BK382.out 1; have hfz39_2 := zc BK382.out 2; have hfz39_3 := zc BK382.out 3; have hfz39_4 := zc BK382.out 4; have hfz39_5 := zc BK382.out 5; have hcz40_0 : w37.cell? ⟨gb366, 0, none⟩ = some (.int .i64 t357) := (q20a BK366.out 0).trans rfl; have hcz40_1 : w37.cell? ⟨gb366, 1, none⟩ = some (.int .i64 t358) := (q20a BK366.out 1).trans rfl; have hcz40_2 : w37.cell? ⟨gb366, 2, none⟩ = some (.int .i64 t359) := (q20a BK366.out 2).trans rfl; have hcz40_3 : w37.cell? ⟨gb366, 3, none⟩ = some (.int .i64 t360) := (q20a BK366.out 3).trans rfl; have hcz40_4 : w37.cell? ⟨gb366, 4, none⟩ = some (.int .i64 t361) := (q20a BK366.out 4).trans rfl; have hcz40_5 : w37.cell? ⟨gb366, 5, none⟩ = some (.slice Ao16 t362.length co16) := (q20a BK366.out 5).trans rfl; have hfz40_0 := zc BK366.out 0; have hfz40_1 := zc BK366.out 1; have hfz40_2 := zc BK366.out 2; have hfz40_3 := zc BK366.out 3; have hfz40_4 := zc BK366.out 4; have hfz40_5 := zc BK366.out 5) | (go_at_call 14; (with_reducible refine (laws_eqStock.calls k t373 t374 t375 t376 t377 _ _ t378 t357 t358 t359 t360 t361 _ _ t362 false _ ?side1 ?side2 ?side3 ?side4 A26.out).mono ?_); (case side1 => exact zH32); (case side2 => exact (Kd.R_reads' HO380.out).2.1); (case side3 => exact zH31); (case side4 => exact (Kd.R_reads' HO364.out).2.1); rintro e w41 ⟨rfl, hb⟩; have n_ := zA_ (za (zo zK169 hb)) (zA_ (za (zo zK170 hb)) (zA_ (za (zo zK171 hb)) (zA_ (za (zo zK172 hb)) (zA_ (za (zo zK173 hb)) (zA_ (za (zo zK174 hb)) (zA_ (za (zq (g := gb366) (o := .cells (zs6 t357 t358 t359 t360 t361 (.slice Ao16 t362.length co16)) 29 (0, 0)) zG69 hb)) (zA_ (za (zq (g := gb382) (o := .cells (zs6 t373 t374 t375 t376 t377 (.slice Ao23 t378.length co23)) 29 (0, 0)) zG70 hb)) (za (zr zG53 hb))))))))); clear HO353 HO356 HO364 HO369 HO372 HO380 BK366 BK382 HB; obtain ⟨HO353, HO356, HO364, HO369, HO372, HO380, BK366, BK382, HB⟩ := n_; (try clear hb); (try clear hk)))
  go_meet
  case rel => exact ⟨_, (true), zG82, H', ⟨zH84⟩, ⟨zH56⟩, ⟨zH52⟩, ⟨zH58⟩, ⟨zH57⟩, ⟨zH59⟩, ⟨zH65⟩, ⟨zH66⟩, ⟨zH26⟩⟩
 case rest =>
  clear HC9
  try clear c3
  try clear c3b0
  try clear c25
  try clear c27
  try clear hcz15_0
  try clear hcz15_1
  try clear hcz15_2
  try clear hcz15_3
  try clear hcz15_4
  try clear hcz15_5
  try clear hcz22_0
  try clear hcz22_1
  try clear hcz22_2
  try clear hcz22_3
  try clear hcz22_4
  try clear hcz22_5
  try clear hcz32_0
  try clear hcz32_1
  try clear hcz32_2
  try clear hcz32_3
  try clear hcz32_4
  try clear hcz32_5
  try clear hcz33_0
  try clear hcz33_1
  try clear hcz33_2
  try clear hcz33_3
  try clear hcz33_4
  try clear hcz33_5
  try clear hcz39_0
  try clear hcz39_1
  try clear hcz39_2
  try clear hcz39_3
  try clear hcz39_4
  try clear hcz39_5
  try clear hcz40_0
  try clear hcz40_1
  try clear hcz40_2
  try clear hcz40_3
  try clear hcz40_4
  try clear hcz40_5
  try clear hfz15_0
  try clear hfz15_1
  try clear hfz15_2
  try clear hfz15_3
  try clear hfz15_4
  try clear hfz15_5
  try clear hfz22_0
  try clear hfz22_1
  try clear hfz22_2
  try clear hfz22_3
  try clear hfz22_4
  try clear hfz22_5
  try clear hfz32_0
  try clear hfz32_1
  try clear hfz32_2
  try clear hfz32_3
  try clear hfz32_4
  try clear hfz32_5
  try clear hfz33_0
  try clear hfz33_1
  try clear hfz33_2
  try clear hfz33_3
  try clear hfz33_4
  try clear hfz33_5
  try clear hfz39_0
  try clear hfz39_1
  try clear hfz39_2
  try clear hfz39_3
  try clear hfz39_4
  try clear hfz39_5
  try clear hfz40_0
  try clear hfz40_1
  try clear hfz40_2
  try clear hfz40_3
  try clear hfz40_4
  try clear hfz40_5
  obtain ⟨kq, x51_8, rfl, HA, HJ8, HO_4, HO_7, HO_8, HO_367005, HO_383005, BK366, BK382, HB⟩ := hcut
  cases kq with
  | zero => exact absurd HA.out (by simp [laws_FnExactStockRun.j0])
  | succ kj8 =>
   have H := HA.out
   clear HA
   simp only [laws_FnExactStockRun.j0] at H
   by_cases c45 : x51_8 = true
   ·subst c45
    have H1 : (some false) = some r := by rw [if_pos rfl] at H; exact H
    clear H
    have H := H1
    clear H1
    obtain rfl := Option.some.inj H
    go_wp2
    go_ret
    exact zH9
   replace c45 := Bool.eq_false_iff.mpr c45
   subst c45
   have H1 : ((laws_toStockActS.f kj8 l0).bind fun t385 => ((laws_eqStockActS.f kj8 t367 t385).bind fun t388 => (if t388 = true then ((laws_markStockActS.f kj8 t367 1).bind fun bt389 => (if bt389.1 < 0 then (laws_FnExactStockRun.j1 kj8 l0 t354 t365 t370 true t357 t358 t359 t360 t361 t362 t373 t374 t375 t376 t377 t378) else ((laws_eqStockObsS.f kj8 t370 t354).bind fun t391 => (if t391 = true then ((laws_eqStock.f kj8 t373 t374 t375 t376 t377 t378 t357 t358 t359 t360 t361 t362).bind fun t392 => (if t392 = true then (laws_FnExactStockRun.j1 kj8 l0 t354 t365 t370 (t381 != t365) t357 t358 t359 t360 t361 t362 t373 t374 t375 t376 t377 t378) else (laws_FnExactStockRun.j1 kj8 l0 t354 t365 t370 true t357 t358 t359 t360 t361 t362 t373 t374 t375 t376 t377 t378))) else (laws_FnExactStockRun.j1 kj8 l0 t354 t365 t370 true t357 t358 t359 t360 t361 t362 t373 t374 t375 t376 t377 t378))))) else (some false)))) = some r := by rw [if_neg (show ¬ (false = true) by decide)] at H; exact H
   clear H
   have H := H1
   clear H1
   replace H := Option.bind_eq_some_iff.mp H
   obtain ⟨t385, A460, H⟩ := H
   replace H : ((laws_eqStockActS.f kj8 t367 t385).bind fun t388 => (if t388 = true then ((laws_markStockActS.f kj8 t367 1).bind fun bt389 => (if bt389.1 < 0 then (laws_FnExactStockRun.j1 kj8 l0 t354 t365 t370 true t357 t358 t359 t360 t361 t362 t373 t374 t375 t376 t377 t378) else ((laws_eqStockObsS.f kj8 t370 t354).bind fun t391 => (if t391 = true then ((laws_eqStock.f kj8 t373 t374 t375 t376 t377 t378 t357 t358 t359 t360 t361 t362).bind fun t392 => (if t392 = true then (laws_FnExactStockRun.j1 kj8 l0 t354 t365 t370 (t381 != t365) t357 t358 t359 t360 t361 t362 t373 t374 t375 t376 t377 t378) else (laws_FnExactStockRun.j1 kj8 l0 t354 t365 t370 true t357 t358 t359 t360 t361 t362 t373 t374 t375 t376 t377 t378))) else (laws_FnExactStockRun.j1 kj8 l0 t354 t365 t370 true t357 t358 t359 t360 t361 t362 t373 t374 t375 t376 t377 t378))))) else (some false))) = some r := H
   have A46 := za A460
   clear A460
   replace H := Option.bind_eq_some_iff.mp H
   obtain ⟨t388, A470, H⟩ := H
   replace H : (if t388 = true then ((laws_markStockActS.f kj8 t367 1).bind fun bt389 => (if bt389.1 < 0 then (laws_FnExactStockRun.j1 kj8 l0 t354 t365 t370 true t357 t358 t359 t360 t361 t362 t373 t374 t375 t376 t377 t378) else ((laws_eqStockObsS.f kj8 t370 t354).bind fun t391 => (if t391 = true then ((laws_eqStock.f kj8 t373 t374 t375 t376 t377 t378 t357 t358 t359 t360 t361 t362).bind fun t392 => (if t392 = true then (laws_FnExactStockRun.j1 kj8 l0 t354 t365 t370 (t381 != t365) t357 t358 t359 t360 t361 t362 t373 t374 t375 t376 t377 t378) else (laws_FnExactStockRun.j1 kj8 l0 t354 t365 t370 true t357 t358 t359 t360 t361 t362 t373 t374 t375 t376 t377 t378))) else (laws_FnExactStockRun.j1 kj8 l0 t354 t365 t370 true t357 t358 t359 t360 t361 t362 t373 t374 t375 t376 t377 t378))))) else (some false)) = some r := H
   have A47 := za A470
   clear A470
   by_cases c48 : t388 = true
   rotate_left
   ·replace c48 := Bool.eq_false_iff.mpr c48
    subst c48
    have H1 : (some false) = some r := by rw [if_neg (show ¬ (false = true) by decide)] at H; exact H
    clear H
    have H := H1
    clear H1
    obtain rfl := Option.some.inj H
    go_wp2_with (first | ((with_reducible refine gate_callee (f := 12) rfl ?_); refine goesL_ (some 54) rfl rfl Try.func12 zG83 rfl #[.slice A0 l0.length c0] rfl zG54 ?_; (with_reducible refine (laws_toStockActS.calls kj8 _ _ l0 t385 _ ?side1 ?side2 A46.out).mono ?_); (case side1 => exact zH40); (case side2 => exact HC0.out); rintro e w167 ⟨v386, rfl, ho0, hb⟩; refine ⟨_, rfl, ?_⟩; have n_ := zA_ (za (zo zG75 hb)) (zA_ (za (zan zK180 (zaq ho0) hb)) (zA_ (za (zo zG76 hb)) (zA_ (za (zo zG72 hb)) (zA_ (za (zo zG73 hb)) (zA_ (za (zai (zar ho0 (zas zK180)) (zp zG53))) (zA_ (za (zq (g := gb366) (o := .cells (zs6 t357 t358 t359 t360 t361 (.slice Ao16 t362.length co16)) 29 (0, 0)) zG69 hb)) (zA_ (za (zq (g := gb382) (o := .cells (zs6 t373 t374 t375 t376 t377 (.slice Ao23 t378.length co23)) 29 (0, 0)) zG70 hb)) (za (zr zG53 hb))))))))); clear HO_4 HO_7 HO_8 HO_367005 HO_383005 BK366 BK382 HB; obtain ⟨HO_4, HO_7, HO_8, HO_367005, HO_383005, HO387, BK366, BK382, HB⟩ := n_; (try clear hb); (try clear ho0); obtain ⟨Ao168, co168, eo168⟩ := zx HO387.out; subst eo168) | ((with_reducible refine gate_callee (f := 15) rfl ?_); refine goesL_ (some 55) rfl rfl Try.func15 zG83 rfl #[.slice Ao18 t367.length co18, .slice Ao168 t385.length co168] rfl zG54 ?_; (with_reducible refine (laws_eqStockActS.calls kj8 _ _ t367 _ _ t385 false _ ?side1 ?side2 ?side3 ?side4 A47.out).mono ?_); (case side1 => exact zH35); (case side2 => exact (Kd.R_reads' HO_7.out).2.1); (case side3 => exact zH33); (case side4 => exact (Kd.R_reads' HO387.out).2.1); rintro e w169 ⟨rfl, hb⟩; refine ⟨_, rfl, ?_⟩; have n_ := zA_ (za (zo zG75 hb)) (zA_ (za (zo zK180 hb)) (zA_ (za (zo zG76 hb)) (zA_ (za (zo zG72 hb)) (zA_ (za (zo zG73 hb)) (zA_ (za (zo zK175 hb)) (zA_ (za (zq (g := gb366) (o := .cells (zs6 t357 t358 t359 t360 t361 (.slice Ao16 t362.length co16)) 29 (0, 0)) zG69 hb)) (zA_ (za (zq (g := gb382) (o := .cells (zs6 t373 t374 t375 t376 t377 (.slice Ao23 t378.length co23)) 29 (0, 0)) zG70 hb)) (za (zr zG53 hb))))))))); clear HO_4 HO_7 HO_8 HO_367005 HO_383005 HO387 BK366 BK382 HB; obtain ⟨HO_4, HO_7, HO_8, HO_367005, HO_383005, HO387, BK366, BK382, HB⟩ := n_; (try clear hb)))
    go_ret
    exact zH9

   subst c48
   have H1 : ((laws_markStockActS.f kj8 t367 1).bind fun bt389 => (if bt389.1 < 0 then (laws_FnExactStockRun.j1 kj8 l0 t354 t365 t370 true t357 t358 t359 t360 t361 t362 t373 t374 t375 t376 t377 t378) else ((laws_eqStockObsS.f kj8 t370 t354).bind fun t391 => (if t391 = true then ((laws_eqStock.f kj8 t373 t374 t375 t376 t377 t378 t357 t358 t359 t360 t361 t362).bind fun t392 => (if t392 = true then (laws_FnExactStockRun.j1 kj8 l0 t354 t365 t370 (t381 != t365) t357 t358 t359 t360 t361 t362 t373 t374 t375 t376 t377 t378) else (laws_FnExactStockRun.j1 kj8 l0 t354 t365 t370 true t357 t358 t359 t360 t361 t362 t373 t374 t375 t376 t377 t378))) else (laws_FnExactStockRun.j1 kj8 l0 t354 t365 t370 true t357 t358 t359 t360 t361 t362 t373 t374 t375 t376 t377 t378))))) = some r := by rw [if_pos rfl] at H; exact H
   clear H
   have H := H1
   clear H1
   replace H := Option.bind_eq_some_iff.mp H
   obtain ⟨⟨t389, t390⟩, A490, H⟩ := H
   replace H : (if t389 < 0 then (laws_FnExactStockRun.j1 kj8 l0 t354 t365 t370 true t357 t358 t359 t360 t361 t362 t373 t374 t375 t376 t377 t378) else ((laws_eqStockObsS.f kj8 t370 t354).bind fun t391 => (if t391 = true then ((laws_eqStock.f kj8 t373 t374 t375 t376 t377 t378 t357 t358 t359 t360 t361 t362).bind fun t392 => (if t392 = true then (laws_FnExactStockRun.j1 kj8 l0 t354 t365 t370 (t381 != t365) t357 t358 t359 t360 t361 t362 t373 t374 t375 t376 t377 t378) else (laws_FnExactStockRun.j1 kj8 l0 t354 t365 t370 true t357 t358 t359 t360 t361 t362 t373 t374 t375 t376 t377 t378))) else (laws_FnExactStockRun.j1 kj8 l0 t354 t365 t370 true t357 t358 t359 t360 t361 t362 t373 t374 t375 t376 t377 t378)))) = some r := H
   obtain ⟨A49, HC50⟩ := zD2 A490 H
   clear A490 H
   go_upto_region 14 with (first | ((with_reducible refine gate_callee (f := 12) rfl ?_); refine goesL_ (some 54) rfl rfl Try.func12 zG83 rfl #[.slice A0 l0.length c0] rfl zG54 ?_; (with_reducible refine (laws_toStockActS.calls kj8 _ _ l0 t385 _ ?side1 ?side2 A46.out).mono ?_); (case side1 => exact zH40); (case side2 => exact HC0.out); rintro e w51 ⟨v386, rfl, ho0, hb⟩; refine ⟨_, rfl, ?_⟩; have n_ := zA_ (za (zo zG75 hb)) (zA_ (za (zan zK180 (zaq ho0) hb)) (zA_ (za (zo zG76 hb)) (zA_ (za (zo zG72 hb)) (zA_ (za (zo zG73 hb)) (zA_ (za (zai (zar ho0 (zas zK180)) (zp zG53))) (zA_ (za (zq (g := gb366) (o := .cells (zs6 t357 t358 t359 t360 t361 (.slice Ao16 t362.length co16)) 29 (0, 0)) zG69 hb)) (zA_ (za (zq (g := gb382) (o := .cells (zs6 t373 t374 t375 t376 t377 (.slice Ao23 t378.length co23)) 29 (0, 0)) zG70 hb)) (za (zr zG53 hb))))))))); clear HO_4 HO_7 HO_8 HO_367005 HO_383005 BK366 BK382 HB; obtain ⟨HO_4, HO_7, HO_8, HO_367005, HO_383005, HO387, BK366, BK382, HB⟩ := n_; (try clear hb); (try clear ho0); obtain ⟨Ao52, co52, eo52⟩ := zx HO387.out; subst eo52) | ((with_reducible refine gate_callee (f := 15) rfl ?_); refine goesL_ (some 55) rfl rfl Try.func15 zG83 rfl #[.slice Ao18 t367.length co18, .slice Ao52 t385.length co52] rfl zG54 ?_; (with_reducible refine (laws_eqStockActS.calls kj8 _ _ t367 _ _ t385 true _ ?side1 ?side2 ?side3 ?side4 A47.out).mono ?_); (case side1 => exact zH35); (case side2 => exact (Kd.R_reads' HO_7.out).2.1); (case side3 => exact zH33); (case side4 => exact (Kd.R_reads' HO387.out).2.1); rintro e w53 ⟨rfl, hb⟩; refine ⟨_, rfl, ?_⟩; have n_ := zA_ (za (zo zG75 hb)) (zA_ (za (zo zK180 hb)) (zA_ (za (zo zG76 hb)) (zA_ (za (zo zG72 hb)) (zA_ (za (zo zG73 hb)) (zA_ (za (zo zK175 hb)) (zA_ (za (zq (g := gb366) (o := .cells (zs6 t357 t358 t359 t360 t361 (.slice Ao16 t362.length co16)) 29 (0, 0)) zG69 hb)) (zA_ (za (zq (g := gb382) (o := .cells (zs6 t373 t374 t375 t376 t377 (.slice Ao23 t378.length co23)) 29 (0, 0)) zG70 hb)) (za (zr zG53 hb))))))))); clear HO_4 HO_7 HO_8 HO_367005 HO_383005 HO387 BK366 BK382 HB; obtain ⟨HO_4, HO_7, HO_8, HO_367005, HO_383005, HO387, BK366, BK382, HB⟩ := n_; (try clear hb)) | ((with_reducible refine gate_callee (f := 16) rfl ?_); refine goesL_ (some 59) rfl rfl Try.func16 zG83 rfl #[.slice Ao18 t367.length co18, .int .i64 1] rfl zG54 ?_; (with_reducible refine (laws_markStockActS.calls kj8 (fun k_ => some k_ = (.slice Ao18 t367.length co18 : Value).ownBlock) (.slice Ao18 t367.length co18) t367 1 t389 t390 w _ ?side1 ?side2 A49.out).mono ?_); (case side1 => exact zH30); (case side2 => exact zaj rfl HO_7.out); rintro e w54 ⟨rfl, hy0, hb, hkp⟩; refine ⟨_, rfl, ?_⟩; have n_ := zA_ (za (zs (ok' := fun k_ => some k_ ≠ (v371 : Value).ownBlock) (zac ((zae HO_4.out (zaf HO_7.out) zG84)) hkp (fun k_ hk_ hs_ => (hk_.2) hs_)) (fun k_ hk_ => hk_.1.1))) (zA_ (za (zap rfl hy0 (fun k_ e_ => HO_7.out.1 k_ e_))) (zA_ (za (zs (ok' := fun k_ => some k_ ≠ (v355 : Value).ownBlock) (zac ((zae HO_8.out (zaf HO_7.out) zG84)) hkp (fun k_ hk_ hs_ => (hk_.2) hs_)) (fun k_ hk_ => hk_.1.1))) (zA_ (za (zs (ok' := fun k_ => some k_ ≠ (.slice Ao23 t378.length co23 : Value).ownBlock) (zac ((zae HO_367005.out (zaf HO_7.out) zG84)) hkp (fun k_ hk_ hs_ => (hk_.2) hs_)) (fun k_ hk_ => hk_.1.1))) (zA_ (za (zs (ok' := fun k_ => some k_ ≠ (.slice Ao16 t362.length co16 : Value).ownBlock) (zac ((zae HO_383005.out (zaf HO_7.out) zG84)) hkp (fun k_ hk_ hs_ => (hk_.2) hs_)) (fun k_ hk_ => hk_.1.1))) (zA_ (za (zab zG69 hkp (fun hs_ => (fun e_ => (zad HO_7.out BK366.out zG84) e_) hs_))) (zA_ (za (zab zG70 hkp (fun hs_ => (fun e_ => (zad HO_7.out BK382.out zG84) e_) hs_))) (zA_ (za (zs (ok' := fun k_ => some k_ ≠ (.slice Ao18 t367.length co18 : Value).ownBlock) (zac (HO387.out) hkp (fun k_ hk_ hs_ => (hk_.2) hs_)) (fun k_ hk_ => hk_.1.2))) (za (hb))))))))); clear HO_4 HO_7 HO_8 HO_367005 HO_383005 BK366 BK382 HO387 HB; obtain ⟨HO_4, HO_7, HO_8, HO_367005, HO_383005, BK366, BK382, HO387, HB⟩ := n_; (try clear hb); (try clear hkp); (try clear hy0)))
   (try simp only [Act.put, List.setIfInBounds_toArray, List.set_cons_zero, List.set_cons_succ])
   go_cut [78] (fun v78 wc => ∃ (kq : Nat) (x78_49 : Bool), v78 = .bool x78_49 ∧ Aside0 (laws_FnExactStockRun.j1 kq l0 t354 t365 t370 x78_49 t357 t358 t359 t360 t361 t362 t373 t374 t375 t376 t377 t378 = some r) ∧ Aside0 (kq ≤ kj8) ∧ Aside0 (Kd.R k36 36 wc w.heap.size (fun k_ => some k_ ≠ (v371 : Value).ownBlock) v355 t354) ∧ Aside0 (Kd.R k36 36 wc w.heap.size (fun k_ => some k_ ≠ (v355 : Value).ownBlock) v371 t370) ∧ Aside0 (Kd.R k38 38 wc w.heap.size (fun k_ => some k_ ≠ ((.slice Ao23 t378.length co23) : Value).ownBlock) (.slice Ao16 t362.length co16) t362) ∧ Aside0 (Kd.R k38 38 wc w.heap.size (fun k_ => some k_ ≠ ((.slice Ao16 t362.length co16) : Value).ownBlock) (.slice Ao23 t378.length co23) t378) ∧ Aside0 (wc.heap[gb366]? = some (.cells (zs6 t357 t358 t359 t360 t361 (.slice Ao16 t362.length co16)) 29 (0, 0))) ∧ Aside0 (wc.heap[gb382]? = some (.cells (zs6 t373 t374 t375 t376 t377 (.slice Ao23 t378.length co23)) 29 (0, 0))) ∧ Aside0 (Below w.heap.size w wc))
   case first =>
    have H := HC50.out
    clear HC50
    by_cases c55 : t389 < 0
    ·rw [if_pos c55] at H
     have c55b0 := decide_eq_true c55
     clear c55
     (first | rw [c55b0] | (simp only [i64_w, i32_w]; rw [c55b0]) | skip)
     have H' := za H
     clear H
     go_wp2
     go_meet
     case rel => exact ⟨_, (true), zG82, H', ⟨zH78⟩, ⟨zH72⟩, ⟨zH73⟩, ⟨zH69⟩, ⟨zH70⟩, ⟨zH65⟩, ⟨zH66⟩, ⟨zH26⟩⟩
    rw [if_neg c55] at H
    have c55b0 := decide_eq_false c55
    clear c55
    (first | rw [c55b0] | (simp only [i64_w, i32_w]; rw [c55b0]) | skip)
    replace H := Option.bind_eq_some_iff.mp H
    obtain ⟨t391, A560, H⟩ := H
    replace H : (if t391 = true then ((laws_eqStock.f kj8 t373 t374 t375 t376 t377 t378 t357 t358 t359 t360 t361 t362).bind fun t392 => (if t392 = true then (laws_FnExactStockRun.j1 kj8 l0 t354 t365 t370 (t381 != t365) t357 t358 t359 t360 t361 t362 t373 t374 t375 t376 t377 t378) else (laws_FnExactStockRun.j1 kj8 l0 t354 t365 t370 true t357 t358 t359 t360 t361 t362 t373 t374 t375 t376 t377 t378))) else (laws_FnExactStockRun.j1 kj8 l0 t354 t365 t370 true t357 t358 t359 t360 t361 t362 t373 t374 t375 t376 t377 t378)) = some r := H
    have A56 := za A560
    clear A560
    by_cases c57 : t391 = true
    rotate_left
    ·replace c57 := Bool.eq_false_iff.mpr c57
     subst c57
     have H1 : (laws_FnExactStockRun.j1 kj8 l0 t354 t365 t370 true t357 t358 t359 t360 t361 t362 t373 t374 t375 t376 t377 t378) = some r := by rw [if_neg (show ¬ (false = true) by decide)] at H; exact H
     clear H
     have H := H1
     clear H1
     have H' := za H
     clear H
     obtain ⟨Ao74, co74, eo74⟩ := zx HO_8.out
     subst eo74
     obtain ⟨Ao75, co75, eo75⟩ := zx HO_4.out
     subst eo75
     go_wp2_with (first | (go_at_call 13; (with_reducible refine (laws_eqStockObsS.calls kj8 _ _ t370 _ _ t354 false _ ?side1 ?side2 ?side3 ?side4 A56.out).mono ?_); (case side1 => exact zH37); (case side2 => exact zH87); (case side3 => exact zH36); (case side4 => exact zH86); rintro e w76 ⟨rfl, hb⟩; have n_ := zA_ (za (zo zG75 hb)) (zA_ (za (zo zK180 hb)) (zA_ (za (zo zG76 hb)) (zA_ (za (zo zG72 hb)) (zA_ (za (zo zG73 hb)) (zA_ (za (zo zK175 hb)) (zA_ (za (zq (g := gb366) (o := .cells (zs6 t357 t358 t359 t360 t361 (.slice Ao16 t362.length co16)) 29 (0, 0)) zG69 hb)) (zA_ (za (zq (g := gb382) (o := .cells (zs6 t373 t374 t375 t376 t377 (.slice Ao23 t378.length co23)) 29 (0, 0)) zG70 hb)) (za (zr zG53 hb))))))))); clear HO_4 HO_7 HO_8 HO_367005 HO_383005 HO387 BK366 BK382 HB; obtain ⟨HO_4, HO_7, HO_8, HO_367005, HO_383005, HO387, BK366, BK382, HB⟩ := n_; (try clear hb)))
     go_meet
     case rel => exact ⟨_, (true), zG82, H', ⟨zH78⟩, ⟨zH72⟩, ⟨zH73⟩, ⟨zH69⟩, ⟨zH70⟩, ⟨zH65⟩, ⟨zH66⟩, ⟨zH26⟩⟩
    subst c57
    have H1 : ((laws_eqStock.f kj8 t373 t374 t375 t376 t377 t378 t357 t358 t359 t360 t361 t362).bind fun t392 => (if t392 = true then (laws_FnExactStockRun.j1 kj8 l0 t354 t365 t370 (t381 != t365) t357 t358 t359 t360 t361 t362 t373 t374 t375 t376 t377 t378) else (laws_FnExactStockRun.j1 kj8 l0 t354 t365 t370 true t357 t358 t359 t360 t361 t362 t373 t374 t375 t376 t377 t378))) = some r := by rw [if_pos rfl] at H; exact H
    clear H
    have H := H1
    clear H1
    replace H := Option.bind_eq_some_iff.mp H
    obtain ⟨t392, A580, H⟩ := H
    replace H : (if t392 = true then (laws_FnExactStockRun.j1 kj8 l0 t354 t365 t370 (t381 != t365) t357 t358 t359 t360 t361 t362 t373 t374 t375 t376 t377 t378) else (laws_FnExactStockRun.j1 kj8 l0 t354 t365 t370 true t357 t358 t359 t360 t361 t362 t373 t374 t375 t376 t377 t378)) = some r := H
    have A58 := za A580
    clear A580
    by_cases c59 : t392 = true
    ·subst c59
     have H1 : (laws_FnExactStockRun.j1 kj8 l0 t354 t365 t370 (t381 != t365) t357 t358 t359 t360 t361 t362 t373 t374 t375 t376 t377 t378) = some r := by rw [if_pos rfl] at H; exact H
     clear H
     have H := H1
     clear H1
     have H' := za H
     clear H
     obtain ⟨Ao60, co60, eo60⟩ := zx HO_8.out
     subst eo60
     obtain ⟨Ao61, co61, eo61⟩ := zx HO_4.out
     subst eo61
     go_wp2_with (first | (go_at_call 13; (with_reducible refine (laws_eqStockObsS.calls kj8 _ _ t370 _ _ t354 true _ ?side1 ?side2 ?side3 ?side4 A56.out).mono ?_); (case side1 => exact zH37); (case side2 => exact zH87); (case side3 => exact zH36); (case side4 => exact zH86); rintro e w62 ⟨rfl, hb⟩; have n_ := zA_ (za (zo zG75 hb)) (zA_ (za (zo zK180 hb)) (zA_ (za (zo zG76 hb)) (zA_ (za (zo zG72 hb)) (zA_ (za (zo zG73 hb)) (zA_ (za (zo zK175 hb)) (zA_ (za (zq (g := gb366) (o := .cells (zs6 t357 t358 t359 t360 t361 (.slice Ao16 t362.length co16)) 29 (0, 0)) zG69 hb)) (zA_ (za (zq (g := gb382) (o := .cells (zs6 t373 t374 t375 t376 t377 (.slice Ao23 t378.length co23)) 29 (0, 0)) zG70 hb)) (za (zr zG53 hb))))))))); clear HO_4 HO_7 HO_8 HO_367005 HO_383005 HO387 BK366 BK382 HB; obtain ⟨HO_4, HO_7, HO_8, HO_367005, HO_383005, HO387, BK366, BK382, HB⟩ := n_; (try clear hb); have hnb63 := NB382_366.out; have hnc63 := NB366_382.out; have hcz64_0 : w62.cell? ⟨gb382, 0, none⟩ = some (.int .i64 t373) := (q20a BK382.out 0).trans rfl; have hcz64_1 : w62.cell? ⟨gb382, 1, none⟩ = some (.int .i64 t374) := (q20a BK382.out 1).trans rfl; have hcz64_2 : w62.cell? ⟨gb382, 2, none⟩ = some (.int .i64 t375) := (q20a BK382.out 2).trans rfl; have hcz64_3 : w62.cell? ⟨gb382, 3, none⟩ = some (.int .i64 t376) := (q20a BK382.out 3).trans rfl; have hcz64_4 : w62.cell? ⟨gb382, 4, none⟩ = some (.int .i64 t377) := (q20a BK382.out 4).trans rfl; have hcz64_5 : w62.cell? ⟨gb382, 5, none⟩ = some (.slice Ao23 t378.length co23) := (q20a BK382.out 5).trans rfl; have hfz64_0 := zc BK382.out 0; have hfz64_1 := zc BK382.out 1; have hfz64_2 := zc BK382.out 2; have hfz64_3 := zc BK382.out 3; have hfz64_4 := zc BK382.out 4; have hfz64_5 := zc BK382.out 5; have hcz65_0 : w62.cell? ⟨gb366, 0, none⟩ = some (.int .i64 t357) := (q20a BK366.out 0).trans rfl; have hcz65_1 : w62.cell? ⟨gb366, 1, none⟩ = some (.int .i64 t358) := (q20a BK366.out 1).trans rfl; have hcz65_2 : w62.cell? ⟨gb366, 2, none⟩ = some (.int .i64 t359) := (q20a BK366.out 2).trans rfl; have hcz65_3 : w62.cell? ⟨gb366, 3, none⟩ = some (.int .i64 t360) := (q20a BK366.out 3).trans rfl; have hcz65_4 : w62.cell? ⟨gb366, 4, none⟩ = some (.int .i64 t361) := (q20a BK366.out 4).trans rfl; have hcz65_5 : w62.cell? ⟨gb366, 5, none⟩ = some (.slice Ao16 t362.length co16) := (q20a BK366.out 5).trans rfl; have hfz65_0 := zc BK366.out 0; have hfz65_1 := zc BK366.out 1; have hfz65_2 := zc BK366.out 2; have hfz65_3 := zc BK366.out 3; have hfz65_4 := zc BK366.out 4; have hfz65_5 := zc BK366.out 5) | (go_at_call 14; (with_reducible refine (laws_eqStock.calls kj8 t373 t374 t375 t376 t377 _ _ t378 t357 t358 t359 t360 t361 _ _ t362 true _ ?side1 ?side2 ?side3 ?side4 A58.out).mono ?_); (case side1 => exact zH25); (case side2 => exact zH85); (case side3 => exact zH22); (case side4 => exact (Kd.R_reads' HO_367005.out).2.1); rintro e w66 ⟨rfl, hb⟩; have n_ := zA_ (za (zo zG75 hb)) (zA_ (za (zo zK180 hb)) (zA_ (za (zo zG76 hb)) (zA_ (za (zo zG72 hb)) (zA_ (za (zo zG73 hb)) (zA_ (za (zo zK175 hb)) (zA_ (za (zq (g := gb366) (o := .cells (zs6 t357 t358 t359 t360 t361 (.slice Ao16 t362.length co16)) 29 (0, 0)) zG69 hb)) (zA_ (za (zq (g := gb382) (o := .cells (zs6 t373 t374 t375 t376 t377 (.slice Ao23 t378.length co23)) 29 (0, 0)) zG70 hb)) (za (zr zG53 hb))))))))); clear HO_4 HO_7 HO_8 HO_367005 HO_383005 HO387 BK366 BK382 HB; obtain ⟨HO_4, HO_7, HO_8, HO_367005, HO_383005, HO387, BK366, BK382, HB⟩ := n_; (try clear hb)))
     go_meet
     case rel => exact ⟨_, ((t381 != t365)), zG82, H', ⟨zH78⟩, ⟨zH72⟩, ⟨zH73⟩, ⟨zH69⟩, ⟨zH70⟩, ⟨zH65⟩, ⟨zH66⟩, ⟨zH26⟩⟩
    replace c59 := Bool.eq_false_iff.mpr c59
    subst c59
    have H1 : (laws_FnExactStockRun.j1 kj8 l0 t354 t365 t370 true t357 t358 t359 t360 t361 t362 t373 t374 t375 t376 t377 t378) = some r := by rw [if_neg (show ¬ (false = true) by decide)] at H; exact H
    clear H
    have H := H1
    clear H1
    have H' := za H
    clear H
    obtain ⟨Ao67, co67, eo67⟩ := zx HO_8.out
    subst eo67
    obtain ⟨Ao68, co68, eo68⟩ := zx HO_4.out
    subst eo68
    go_wp2_with (first | (go_at_call 13; (with_reducible refine (laws_eqStockObsS.calls kj8 _ _ t370 _ _ t354 true _ ?side1 ?side2 ?side3 ?side4 A56.out).mono ?_); (case side1 => exact zH37); (case side2 => exact zH87); (case side3 => exact zH36); (case side4 => exact zH86); rintro e w69 ⟨rfl, hb⟩; have n_ := zA_ (za (zo zG75 hb)) (zA_ (za (zo zK180 hb)) (zA_ (za (zo zG76 hb)) (zA_ (za (zo zG72 hb)) (zA_ (za (zo zG73 hb)) (zA_ (za (zo zK175 hb)) (zA_ (za (zq (g := gb366) (o := .cells (zs6 t357 t358 t359 t360 t361 (.slice Ao16 t362.length co16)) 29 (0, 0)) zG69 hb)) (zA_ (za (zq (g := gb382) (o := .cells (zs6 t373 t374 t375 t376 t377 (.slice Ao23 t378.length co23)) 29 (0, 0)) zG70 hb)) (za (zr zG53 hb))))))))); clear HO_4 HO_7 HO_8 HO_367005 HO_383005 HO387 BK366 BK382 HB; obtain ⟨HO_4, HO_7, HO_8, HO_367005, HO_383005, HO387, BK366, BK382, HB⟩ := n_; (try clear hb); have hnb70 := NB382_366.out; have hnc70 := NB366_382.out; have hcz71_0 : w69.cell? ⟨gb382, 0, none⟩ = some (.int .i64 t373) := (q20a BK382.out 0).trans rfl; have hcz71_1 : w69.cell? ⟨gb382, 1, none⟩ = some (.int .i64 t374) := (q20a BK382.out 1).trans rfl; have hcz71_2 : w69.cell? ⟨gb382, 2, none⟩ = some (.int .i64 t375) := (q20a BK382.out 2).trans rfl; have hcz71_3 : w69.cell? ⟨gb382, 3, none⟩ = some (.int .i64 t376) := (q20a BK382.out 3).trans rfl; have hcz71_4 : w69.cell? ⟨gb382, 4, none⟩ = some (.int .i64 t377) := (q20a BK382.out 4).trans rfl; have hcz71_5 : w69.cell? ⟨gb382, 5, none⟩ = some (.slice Ao23 t378.length co23) := (q20a BK382.out 5).trans rfl; have hfz71_0 := zc BK382.out 0; have hfz71_1 := zc BK382.out 1; have hfz71_2 := zc BK382.out 2; have hfz71_3 := zc BK382.out 3; have hfz71_4 := zc BK382.out 4; have hfz71_5 := zc BK382.out 5; have hcz72_0 : w69.cell? ⟨gb366, 0, none⟩ = some (.int .i64 t357) := (q20a BK366.out 0).trans rfl; have hcz72_1 : w69.cell? ⟨gb366, 1, none⟩ = some (.int .i64 t358) := (q20a BK366.out 1).trans rfl; have hcz72_2 : w69.cell? ⟨gb366, 2, none⟩ = some (.int .i64 t359) := (q20a BK366.out 2).trans rfl; have hcz72_3 : w69.cell? ⟨gb366, 3, none⟩ = some (.int .i64 t360) := (q20a BK366.out 3).trans rfl; have hcz72_4 : w69.cell? ⟨gb366, 4, none⟩ = some (.int .i64 t361) := (q20a BK366.out 4).trans rfl; have hcz72_5 : w69.cell? ⟨gb366, 5, none⟩ = some (.slice Ao16 t362.length co16) := (q20a BK366.out 5).trans rfl; have hfz72_0 := zc BK366.out 0; have hfz72_1 := zc BK366.out 1; have hfz72_2 := zc BK366.out 2; have hfz72_3 := zc BK366.out 3; have hfz72_4 := zc BK366.out 4; have hfz72_5 := zc BK366.out 5) | (go_at_call 14; (with_reducible refine (laws_eqStock.calls kj8 t373 t374 t375 t376 t377 _ _ t378 t357 t358 t359 t360 t361 _ _ t362 false _ ?side1 ?side2 ?side3 ?side4 A58.out).mono ?_); (case side1 => exact zH25); (case side2 => exact zH85); (case side3 => exact zH22); (case side4 => exact (Kd.R_reads' HO_367005.out).2.1); rintro e w73 ⟨rfl, hb⟩; have n_ := zA_ (za (zo zG75 hb)) (zA_ (za (zo zK180 hb)) (zA_ (za (zo zG76 hb)) (zA_ (za (zo zG72 hb)) (zA_ (za (zo zG73 hb)) (zA_ (za (zo zK175 hb)) (zA_ (za (zq (g := gb366) (o := .cells (zs6 t357 t358 t359 t360 t361 (.slice Ao16 t362.length co16)) 29 (0, 0)) zG69 hb)) (zA_ (za (zq (g := gb382) (o := .cells (zs6 t373 t374 t375 t376 t377 (.slice Ao23 t378.length co23)) 29 (0, 0)) zG70 hb)) (za (zr zG53 hb))))))))); clear HO_4 HO_7 HO_8 HO_367005 HO_383005 HO387 BK366 BK382 HB; obtain ⟨HO_4, HO_7, HO_8, HO_367005, HO_383005, HO387, BK366, BK382, HB⟩ := n_; (try clear hb)))
    go_meet
    case rel => exact ⟨_, (true), zG82, H', ⟨zH78⟩, ⟨zH72⟩, ⟨zH73⟩, ⟨zH69⟩, ⟨zH70⟩, ⟨zH65⟩, ⟨zH66⟩, ⟨zH26⟩⟩
   case rest =>
    clear HC50
    try clear c3
    try clear c3b0
    try clear c25
    try clear c27
    try clear c45
    try clear c48
    try clear c55
    try clear c55b0
    try clear c57
    try clear c59
    try clear hcz15_0
    try clear hcz15_1
    try clear hcz15_2
    try clear hcz15_3
    try clear hcz15_4
    try clear hcz15_5
    try clear hcz22_0
    try clear hcz22_1
    try clear hcz22_2
    try clear hcz22_3
    try clear hcz22_4
    try clear hcz22_5
    try clear hcz32_0
    try clear hcz32_1
    try clear hcz32_2
    try clear hcz32_3
    try clear hcz32_4
    try clear hcz32_5
    try clear hcz33_0
    try clear hcz33_1
    try clear hcz33_2
    try clear hcz33_3
    try clear hcz33_4
    try clear hcz33_5
    try clear hcz39_0
    try clear hcz39_1
    try clear hcz39_2
    try clear hcz39_3
    try clear hcz39_4
    try clear hcz39_5
    try clear hcz40_0
    try clear hcz40_1
    try clear hcz40_2
    try clear hcz40_3
    try clear hcz40_4
    try clear hcz40_5
    try clear hcz64_0
    try clear hcz64_1
    try clear hcz64_2
    try clear hcz64_3
    try clear hcz64_4
    try clear hcz64_5
    try clear hcz65_0
    try clear hcz65_1
    try clear hcz65_2
    try clear hcz65_3
    try clear hcz65_4
    try clear hcz65_5
    try clear hcz71_0
    try clear hcz71_1
    try clear hcz71_2
    try clear hcz71_3
    try clear hcz71_4
    try clear hcz71_5
    try clear hcz72_0
    try clear hcz72_1
    try clear hcz72_2
    try clear hcz72_3
    try clear hcz72_4
    try clear hcz72_5
    try clear hfz15_0
    try clear hfz15_1
    try clear hfz15_2
    try clear hfz15_3
    try clear hfz15_4
    try clear hfz15_5
    try clear hfz22_0
    try clear hfz22_1
    try clear hfz22_2
    try clear hfz22_3
    try clear hfz22_4
    try clear hfz22_5
    try clear hfz32_0
    try clear hfz32_1
    try clear hfz32_2
    try clear hfz32_3
    try clear hfz32_4
    try clear hfz32_5
    try clear hfz33_0
    try clear hfz33_1
    try clear hfz33_2
    try clear hfz33_3
    try clear hfz33_4
    try clear hfz33_5
    try clear hfz39_0
    try clear hfz39_1
    try clear hfz39_2
    try clear hfz39_3
    try clear hfz39_4
    try clear hfz39_5
    try clear hfz40_0
    try clear hfz40_1
    try clear hfz40_2
    try clear hfz40_3
    try clear hfz40_4
    try clear hfz40_5
    try clear hfz64_0
    try clear hfz64_1
    try clear hfz64_2
    try clear hfz64_3
    try clear hfz64_4
    try clear hfz64_5
    try clear hfz65_0
    try clear hfz65_1
    try clear hfz65_2
    try clear hfz65_3
    try clear hfz65_4
    try clear hfz65_5
    try clear hfz71_0
    try clear hfz71_1
    try clear hfz71_2
    try clear hfz71_3
    try clear hfz71_4
    try clear hfz71_5
    try clear hfz72_0
    try clear hfz72_1
    try clear hfz72_2
    try clear hfz72_3
    try clear hfz72_4
    try clear hfz72_5
    obtain ⟨kq, x78_49, rfl, HA, HJ49, HO_4, HO_8, HO_367005, HO_383005, BK366, BK382, HB⟩ := hcut
    cases kq with
    | zero => exact absurd HA.out (by simp [laws_FnExactStockRun.j1])
    | succ kj49 =>
     have H := HA.out
     clear HA
     simp only [laws_FnExactStockRun.j1] at H
     by_cases c77 : x78_49 = true
     ·subst c77
      have H1 : (some false) = some r := by rw [if_pos rfl] at H; exact H
      clear H
      have H := H1
      clear H1
      obtain rfl := Option.some.inj H
      go_wp2
      go_ret
      exact zH9
     replace c77 := Bool.eq_false_iff.mpr c77
     subst c77
     have H1 : ((laws_markStockObsS.f kj49 t370 1).bind fun bt393 => ((laws_markStock.f kj49 t373 t374 t375 t376 t377 t378 bt393.1).bind fun bt395 => ((laws_heldStockObsS.f kj49 bt393.2 1).bind fun t397 => (if t397 < 0 then (some false) else ((laws_heldStock.f kj49 t373 t374 t375 t376 t377 bt395.2 t397).bind fun t398 => (if t398 < 0 then (some false) else (if t398 = bt395.1 then ((laws_toStockActS.f kj49 l0).bind fun t399 => ((impl_StockRun.f kj49 t399).bind fun bt402 => ((laws_eqStockObsS.f kj49 bt402.1 t354).bind fun t415 => (if t415 = true then ((laws_eqStock.f kj49 bt402.2.1 bt402.2.2.1 bt402.2.2.2.1 bt402.2.2.2.2.1 bt402.2.2.2.2.2.1 bt402.2.2.2.2.2.2.1 t357 t358 t359 t360 t361 t362).bind fun t416 => (if t416 = true then (laws_FnExactStockRun.j2 kj49 bt393.2 bt395.1 (bt402.2.2.2.2.2.2.2 != t365) t373 t374 t375 t376 t377 bt395.2) else (laws_FnExactStockRun.j2 kj49 bt393.2 bt395.1 true t373 t374 t375 t376 t377 bt395.2))) else (laws_FnExactStockRun.j2 kj49 bt393.2 bt395.1 true t373 t374 t375 t376 t377 bt395.2))))) else (some false)))))))) = some r := by rw [if_neg (show ¬ (false = true) by decide)] at H; exact H
     clear H
     have H := H1
     clear H1
     replace H := Option.bind_eq_some_iff.mp H
     obtain ⟨⟨t393, t394⟩, A780, H⟩ := H
     replace H : ((laws_markStock.f kj49 t373 t374 t375 t376 t377 t378 t393).bind fun bt395 => ((laws_heldStockObsS.f kj49 t394 1).bind fun t397 => (if t397 < 0 then (some false) else ((laws_heldStock.f kj49 t373 t374 t375 t376 t377 bt395.2 t397).bind fun t398 => (if t398 < 0 then (some false) else (if t398 = bt395.1 then ((laws_toStockActS.f kj49 l0).bind fun t399 => ((impl_StockRun.f kj49 t399).bind fun bt402 => ((laws_eqStockObsS.f kj49 bt402.1 t354).bind fun t415 => (if t415 = true then ((laws_eqStock.f kj49 bt402.2.1 bt402.2.2.1 bt402.2.2.2.1 bt402.2.2.2.2.1 bt402.2.2.2.2.2.1 bt402.2.2.2.2.2.2.1 t357 t358 t359 t360 t361 t362).bind fun t416 => (if t416 = true then (laws_FnExactStockRun.j2 kj49 t394 bt395.1 (bt402.2.2.2.2.2.2.2 != t365) t373 t374 t375 t376 t377 bt395.2) else (laws_FnExactStockRun.j2 kj49 t394 bt395.1 true t373 t374 t375 t376 t377 bt395.2))) else (laws_FnExactStockRun.j2 kj49 t394 bt395.1 true t373 t374 t375 t376 t377 bt395.2))))) else (some false))))))) = some r := H
     have A78 := za A780
     clear A780
     replace H := Option.bind_eq_some_iff.mp H
     obtain ⟨⟨t395, t396⟩, A790, H⟩ := H
     replace H : ((laws_heldStockObsS.f kj49 t394 1).bind fun t397 => (if t397 < 0 then (some false) else ((laws_heldStock.f kj49 t373 t374 t375 t376 t377 t396 t397).bind fun t398 => (if t398 < 0 then (some false) else (if t398 = t395 then ((laws_toStockActS.f kj49 l0).bind fun t399 => ((impl_StockRun.f kj49 t399).bind fun bt402 => ((laws_eqStockObsS.f kj49 bt402.1 t354).bind fun t415 => (if t415 = true then ((laws_eqStock.f kj49 bt402.2.1 bt402.2.2.1 bt402.2.2.2.1 bt402.2.2.2.2.1 bt402.2.2.2.2.2.1 bt402.2.2.2.2.2.2.1 t357 t358 t359 t360 t361 t362).bind fun t416 => (if t416 = true then (laws_FnExactStockRun.j2 kj49 t394 t395 (bt402.2.2.2.2.2.2.2 != t365) t373 t374 t375 t376 t377 t396) else (laws_FnExactStockRun.j2 kj49 t394 t395 true t373 t374 t375 t376 t377 t396))) else (laws_FnExactStockRun.j2 kj49 t394 t395 true t373 t374 t375 t376 t377 t396))))) else (some false)))))) = some r := H
     have A79 := za A790
     clear A790
     replace H := Option.bind_eq_some_iff.mp H
     obtain ⟨t397, A800, H⟩ := H
     replace H : (if t397 < 0 then (some false) else ((laws_heldStock.f kj49 t373 t374 t375 t376 t377 t396 t397).bind fun t398 => (if t398 < 0 then (some false) else (if t398 = t395 then ((laws_toStockActS.f kj49 l0).bind fun t399 => ((impl_StockRun.f kj49 t399).bind fun bt402 => ((laws_eqStockObsS.f kj49 bt402.1 t354).bind fun t415 => (if t415 = true then ((laws_eqStock.f kj49 bt402.2.1 bt402.2.2.1 bt402.2.2.2.1 bt402.2.2.2.2.1 bt402.2.2.2.2.2.1 bt402.2.2.2.2.2.2.1 t357 t358 t359 t360 t361 t362).bind fun t416 => (if t416 = true then (laws_FnExactStockRun.j2 kj49 t394 t395 (bt402.2.2.2.2.2.2.2 != t365) t373 t374 t375 t376 t377 t396) else (laws_FnExactStockRun.j2 kj49 t394 t395 true t373 t374 t375 t376 t377 t396))) else (laws_FnExactStockRun.j2 kj49 t394 t395 true t373 t374 t375 t376 t377 t396))))) else (some false))))) = some r := H
     have A80 := za A800
     clear A800
     by_cases c81 : t397 < 0
     ·rw [if_pos c81] at H
      have c81b0 := decide_eq_true c81
      clear c81
      obtain rfl := Option.some.inj H
      obtain ⟨Ao82, co82, eo82⟩ := zx HO_8.out
      subst eo82
      go_wp2_with (first | ((with_reducible refine gate_callee (f := 17) rfl ?_); refine goesL_ (some 81) rfl rfl Try.func17 zG83 rfl #[.slice Ao82 t370.length co82, .int .i64 1] rfl zG54 ?_; (with_reducible refine (laws_markStockObsS.calls kj49 (fun k_ => some k_ = (.slice Ao82 t370.length co82 : Value).ownBlock) (.slice Ao82 t370.length co82) t370 1 t393 t394 w _ ?side1 ?side2 A78.out).mono ?_); (case side1 => exact zH30); (case side2 => exact zaj rfl HO_8.out); rintro e w83 ⟨rfl, hy0, hb, hkp⟩; refine ⟨_, rfl, ?_⟩; have n_ := zA_ (za (zs (ok' := fun k_ => some k_ ≠ (.slice Ao82 t370.length co82 : Value).ownBlock) (zac (HO_4.out) hkp (fun k_ hk_ hs_ => (hk_) hs_)) (fun k_ hk_ => hk_.1))) (zA_ (za (zap rfl hy0 (fun k_ e_ => HO_8.out.1 k_ e_))) (zA_ (za (zs (ok' := fun k_ => some k_ ≠ (.slice Ao23 t378.length co23 : Value).ownBlock) (zac ((zae HO_367005.out (zaf HO_8.out) zG84)) hkp (fun k_ hk_ hs_ => (hk_.2) hs_)) (fun k_ hk_ => hk_.1.1))) (zA_ (za (zs (ok' := fun k_ => some k_ ≠ (.slice Ao16 t362.length co16 : Value).ownBlock) (zac ((zae HO_383005.out (zaf HO_8.out) zG84)) hkp (fun k_ hk_ hs_ => (hk_.2) hs_)) (fun k_ hk_ => hk_.1.1))) (zA_ (za (zab zG69 hkp (fun hs_ => (fun e_ => (zad HO_8.out BK366.out zG84) e_) hs_))) (zA_ (za (zab zG70 hkp (fun hs_ => (fun e_ => (zad HO_8.out BK382.out zG84) e_) hs_))) (za (hb))))))); clear HO_4 HO_8 HO_367005 HO_383005 BK366 BK382 HB; obtain ⟨HO_4, HO_8, HO_367005, HO_383005, BK366, BK382, HB⟩ := n_; (try clear hb); (try clear hkp); (try clear hy0); have hnb84 := NB382_366.out; have hnc84 := NB366_382.out; have hcz85_0 : w83.cell? ⟨gb382, 0, none⟩ = some (.int .i64 t373) := (q20a BK382.out 0).trans rfl; have hcz85_1 : w83.cell? ⟨gb382, 1, none⟩ = some (.int .i64 t374) := (q20a BK382.out 1).trans rfl; have hcz85_2 : w83.cell? ⟨gb382, 2, none⟩ = some (.int .i64 t375) := (q20a BK382.out 2).trans rfl; have hcz85_3 : w83.cell? ⟨gb382, 3, none⟩ = some (.int .i64 t376) := (q20a BK382.out 3).trans rfl; have hcz85_4 : w83.cell? ⟨gb382, 4, none⟩ = some (.int .i64 t377) := (q20a BK382.out 4).trans rfl; have hcz85_5 : w83.cell? ⟨gb382, 5, none⟩ = some (.slice Ao23 t378.length co23) := (q20a BK382.out 5).trans rfl; have hfz85_0 := zc BK382.out 0; have hfz85_1 := zc BK382.out 1; have hfz85_2 := zc BK382.out 2; have hfz85_3 := zc BK382.out 3; have hfz85_4 := zc BK382.out 4; have hfz85_5 := zc BK382.out 5) | ((with_reducible refine gate_callee (f := 18) rfl ?_); refine goesL_ (some 84) rfl rfl Try.func18 zG83 rfl #[.agg (zs6 t373 t374 t375 t376 t377 (.slice Ao23 t378.length co23)), .int .i64 t393] rfl zG54 ?_; (with_reducible refine (laws_markStock.calls kj49 t373 t374 t375 t376 t377 (fun k_ => some k_ = (.slice Ao23 t378.length co23 : Value).ownBlock) (.slice Ao23 t378.length co23) t378 t393 t395 t396 w _ ?side1 ?side2 A79.out).mono ?_); (case side1 => exact zH30); (case side2 => exact zaj rfl HO_383005.out); rintro e w86 ⟨rfl, hy0, hb, hkp⟩; refine ⟨_, rfl, ?_⟩; have n_ := zA_ (za (zs (ok' := fun k_ => some k_ ≠ (.slice Ao82 t370.length co82 : Value).ownBlock) (zac ((zae HO_4.out (zaf HO_383005.out) zG84)) hkp (fun k_ hk_ hs_ => (hk_.2) hs_)) (fun k_ hk_ => hk_.1.1))) (zA_ (za (zs (ok' := fun k_ => some k_ ≠ (v355 : Value).ownBlock) (zac ((zae HO_8.out (zaf HO_383005.out) zG84)) hkp (fun k_ hk_ hs_ => (hk_.2) hs_)) (fun k_ hk_ => hk_.1.1))) (zA_ (za (zs (ok' := fun k_ => some k_ ≠ (.slice Ao23 t378.length co23 : Value).ownBlock) (zac (HO_367005.out) hkp (fun k_ hk_ hs_ => (hk_) hs_)) (fun k_ hk_ => hk_.1))) (zA_ (za (zap rfl hy0 (fun k_ e_ => HO_383005.out.1 k_ e_))) (zA_ (za (zab zG69 hkp (fun hs_ => (fun e_ => (zad HO_383005.out BK366.out zG84) e_) hs_))) (zA_ (za (zab zG70 hkp (fun hs_ => (fun e_ => (zad HO_383005.out BK382.out zG84) e_) hs_))) (za (hb))))))); clear HO_4 HO_8 HO_367005 HO_383005 BK366 BK382 HB; obtain ⟨HO_4, HO_8, HO_367005, HO_383005, BK366, BK382, HB⟩ := n_; (try clear hb); (try clear hkp); (try clear hy0)) | ((with_reducible refine gate_callee (f := 19) rfl ?_); refine goesL_ (some 87) rfl rfl Try.func19 zG83 rfl #[.slice Ao82 t394.length co82, .int .i64 1] rfl zK129 ?_; (with_reducible refine (laws_heldStockObsS.calls kj49 _ _ t394 1 t397 _ ?side1 ?side2 A80.out).mono ?_); (case side1 => exact zH37); (case side2 => exact zH61); rintro e w' ⟨rfl, ⟨nd, rfl⟩⟩; refine ⟨_, rfl, ?_⟩))
      go_ret
      exact zH9
     rw [if_neg c81] at H
     have c81b0 := decide_eq_false c81
     clear c81
     replace H := Option.bind_eq_some_iff.mp H
     obtain ⟨t398, A870, H⟩ := H
     replace H : (if t398 < 0 then (some false) else (if t398 = t395 then ((laws_toStockActS.f kj49 l0).bind fun t399 => ((impl_StockRun.f kj49 t399).bind fun bt402 => ((laws_eqStockObsS.f kj49 bt402.1 t354).bind fun t415 => (if t415 = true then ((laws_eqStock.f kj49 bt402.2.1 bt402.2.2.1 bt402.2.2.2.1 bt402.2.2.2.2.1 bt402.2.2.2.2.2.1 bt402.2.2.2.2.2.2.1 t357 t358 t359 t360 t361 t362).bind fun t416 => (if t416 = true then (laws_FnExactStockRun.j2 kj49 t394 t395 (bt402.2.2.2.2.2.2.2 != t365) t373 t374 t375 t376 t377 t396) else (laws_FnExactStockRun.j2 kj49 t394 t395 true t373 t374 t375 t376 t377 t396))) else (laws_FnExactStockRun.j2 kj49 t394 t395 true t373 t374 t375 t376 t377 t396))))) else (some false))) = some r := H
     have A87 := za A870
     clear A870
     by_cases c88 : t398 < 0
     ·rw [if_pos c88] at H
      have c88b0 := decide_eq_true c88
      clear c88
      obtain rfl := Option.some.inj H
      obtain ⟨Ao89, co89, eo89⟩ := zx HO_8.out
      subst eo89
      go_wp2_with (first | ((with_reducible refine gate_callee (f := 17) rfl ?_); refine goesL_ (some 81) rfl rfl Try.func17 zG83 rfl #[.slice Ao89 t370.length co89, .int .i64 1] rfl zG54 ?_; (with_reducible refine (laws_markStockObsS.calls kj49 (fun k_ => some k_ = (.slice Ao89 t370.length co89 : Value).ownBlock) (.slice Ao89 t370.length co89) t370 1 t393 t394 w _ ?side1 ?side2 A78.out).mono ?_); (case side1 => exact zH30); (case side2 => exact zaj rfl HO_8.out); rintro e w90 ⟨rfl, hy0, hb, hkp⟩; refine ⟨_, rfl, ?_⟩; have n_ := zA_ (za (zs (ok' := fun k_ => some k_ ≠ (.slice Ao89 t370.length co89 : Value).ownBlock) (zac (HO_4.out) hkp (fun k_ hk_ hs_ => (hk_) hs_)) (fun k_ hk_ => hk_.1))) (zA_ (za (zap rfl hy0 (fun k_ e_ => HO_8.out.1 k_ e_))) (zA_ (za (zs (ok' := fun k_ => some k_ ≠ (.slice Ao23 t378.length co23 : Value).ownBlock) (zac ((zae HO_367005.out (zaf HO_8.out) zG84)) hkp (fun k_ hk_ hs_ => (hk_.2) hs_)) (fun k_ hk_ => hk_.1.1))) (zA_ (za (zs (ok' := fun k_ => some k_ ≠ (.slice Ao16 t362.length co16 : Value).ownBlock) (zac ((zae HO_383005.out (zaf HO_8.out) zG84)) hkp (fun k_ hk_ hs_ => (hk_.2) hs_)) (fun k_ hk_ => hk_.1.1))) (zA_ (za (zab zG69 hkp (fun hs_ => (fun e_ => (zad HO_8.out BK366.out zG84) e_) hs_))) (zA_ (za (zab zG70 hkp (fun hs_ => (fun e_ => (zad HO_8.out BK382.out zG84) e_) hs_))) (za (hb))))))); clear HO_4 HO_8 HO_367005 HO_383005 BK366 BK382 HB; obtain ⟨HO_4, HO_8, HO_367005, HO_383005, BK366, BK382, HB⟩ := n_; (try clear hb); (try clear hkp); (try clear hy0); have hnb91 := NB382_366.out; have hnc91 := NB366_382.out; have hcz92_0 : w90.cell? ⟨gb382, 0, none⟩ = some (.int .i64 t373) := (q20a BK382.out 0).trans rfl; have hcz92_1 : w90.cell? ⟨gb382, 1, none⟩ = some (.int .i64 t374) := (q20a BK382.out 1).trans rfl; have hcz92_2 : w90.cell? ⟨gb382, 2, none⟩ = some (.int .i64 t375) := (q20a BK382.out 2).trans rfl; have hcz92_3 : w90.cell? ⟨gb382, 3, none⟩ = some (.int .i64 t376) := (q20a BK382.out 3).trans rfl; have hcz92_4 : w90.cell? ⟨gb382, 4, none⟩ = some (.int .i64 t377) := (q20a BK382.out 4).trans rfl; have hcz92_5 : w90.cell? ⟨gb382, 5, none⟩ = some (.slice Ao23 t378.length co23) := (q20a BK382.out 5).trans rfl; have hfz92_0 := zc BK382.out 0; have hfz92_1 := zc BK382.out 1; have hfz92_2 := zc BK382.out 2; have hfz92_3 := zc BK382.out 3; have hfz92_4 := zc BK382.out 4; have hfz92_5 := zc BK382.out 5) | ((with_reducible refine gate_callee (f := 18) rfl ?_); refine goesL_ (some 84) rfl rfl Try.func18 zG83 rfl #[.agg (zs6 t373 t374 t375 t376 t377 (.slice Ao23 t378.length co23)), .int .i64 t393] rfl zG54 ?_; (with_reducible refine (laws_markStock.calls kj49 t373 t374 t375 t376 t377 (fun k_ => some k_ = (.slice Ao23 t378.length co23 : Value).ownBlock) (.slice Ao23 t378.length co23) t378 t393 t395 t396 w _ ?side1 ?side2 A79.out).mono ?_); (case side1 => exact zH30); (case side2 => exact zaj rfl HO_383005.out); rintro e w93 ⟨rfl, hy0, hb, hkp⟩; refine ⟨_, rfl, ?_⟩; have n_ := zA_ (za (zs (ok' := fun k_ => some k_ ≠ (.slice Ao89 t370.length co89 : Value).ownBlock) (zac ((zae HO_4.out (zaf HO_383005.out) zG84)) hkp (fun k_ hk_ hs_ => (hk_.2) hs_)) (fun k_ hk_ => hk_.1.1))) (zA_ (za (zs (ok' := fun k_ => some k_ ≠ (v355 : Value).ownBlock) (zac ((zae HO_8.out (zaf HO_383005.out) zG84)) hkp (fun k_ hk_ hs_ => (hk_.2) hs_)) (fun k_ hk_ => hk_.1.1))) (zA_ (za (zs (ok' := fun k_ => some k_ ≠ (.slice Ao23 t378.length co23 : Value).ownBlock) (zac (HO_367005.out) hkp (fun k_ hk_ hs_ => (hk_) hs_)) (fun k_ hk_ => hk_.1))) (zA_ (za (zap rfl hy0 (fun k_ e_ => HO_383005.out.1 k_ e_))) (zA_ (za (zab zG69 hkp (fun hs_ => (fun e_ => (zad HO_383005.out BK366.out zG84) e_) hs_))) (zA_ (za (zab zG70 hkp (fun hs_ => (fun e_ => (zad HO_383005.out BK382.out zG84) e_) hs_))) (za (hb))))))); clear HO_4 HO_8 HO_367005 HO_383005 BK366 BK382 HB; obtain ⟨HO_4, HO_8, HO_367005, HO_383005, BK366, BK382, HB⟩ := n_; (try clear hb); (try clear hkp); (try clear hy0)) | ((with_reducible refine gate_callee (f := 19) rfl ?_); refine goesL_ (some 87) rfl rfl Try.func19 zG83 rfl #[.slice Ao89 t394.length co89, .int .i64 1] rfl zK129 ?_; (with_reducible refine (laws_heldStockObsS.calls kj49 _ _ t394 1 t397 _ ?side1 ?side2 A80.out).mono ?_); (case side1 => exact zH37); (case side2 => exact zH61); rintro e w' ⟨rfl, ⟨nd, rfl⟩⟩; refine ⟨_, rfl, ?_⟩; have hcz94_0 : w93.cell? ⟨gb382, 0, none⟩ = some (.int .i64 t373) := (q20a BK382.out 0).trans rfl; have hcz94_1 : w93.cell? ⟨gb382, 1, none⟩ = some (.int .i64 t374) := (q20a BK382.out 1).trans rfl; have hcz94_2 : w93.cell? ⟨gb382, 2, none⟩ = some (.int .i64 t375) := (q20a BK382.out 2).trans rfl; have hcz94_3 : w93.cell? ⟨gb382, 3, none⟩ = some (.int .i64 t376) := (q20a BK382.out 3).trans rfl; have hcz94_4 : w93.cell? ⟨gb382, 4, none⟩ = some (.int .i64 t377) := (q20a BK382.out 4).trans rfl; have hcz94_5 : w93.cell? ⟨gb382, 5, none⟩ = some (.slice Ao23 t378.length co23) := (q20a BK382.out 5).trans rfl; have hfz94_0 := zc BK382.out 0; have hfz94_1 := zc BK382.out 1; have hfz94_2 := zc BK382.out 2; have hfz94_3 := zc BK382.out 3; have hfz94_4 := zc BK382.out 4; have hfz94_5 := zc BK382.out 5) | ((with_reducible refine gate_callee (f := 20) rfl ?_); refine goesL_ (some 92) rfl rfl Try.func20 zG83 rfl #[.agg (zs6 t373 t374 t375 t376 t377 (.slice Ao23 t396.length co23)), .int .i64 t397] rfl zK128 ?_; (with_reducible refine (laws_heldStock.calls kj49 t373 t374 t375 t376 t377 _ _ t396 t397 t398 _ ?side1 ?side2 A87.out).mono ?_); (case side1 => exact zH25); (case side2 => exact zH51); rintro e w95 ⟨rfl, hb⟩; refine ⟨_, rfl, ?_⟩; have n_ := zA_ (za (zo zG75 hb)) (zA_ (za (zo zG76 hb)) (zA_ (za (zo zG72 hb)) (zA_ (za (zo zG73 hb)) (zA_ (za (zq (g := gb366) (o := .cells (zs6 t357 t358 t359 t360 t361 (.slice Ao16 t362.length co16)) 29 (0, 0)) zG69 hb)) (zA_ (za (zq (g := gb382) (o := .cells (zs6 t373 t374 t375 t376 t377 (.slice Ao23 t378.length co23)) 29 (0, 0)) zG70 hb)) (za (zr zG53 hb))))))); clear HO_4 HO_8 HO_367005 HO_383005 BK366 BK382 HB; obtain ⟨HO_4, HO_8, HO_367005, HO_383005, BK366, BK382, HB⟩ := n_; (try clear hb)))
      go_ret
      exact zH9
     rw [if_neg c88] at H
     have c88b0 := decide_eq_false c88
     clear c88
     by_cases c96 : t398 = t395
     rotate_left
     ·rw [if_neg c96] at H
      have c96b0 : (t398 == t395) = false := beq_eq_false_iff_ne.mpr c96
      have c96b1 : (t398 != t395) = true := bne_iff_ne.mpr c96
      obtain rfl := Option.some.inj H
      obtain ⟨Ao160, co160, eo160⟩ := zx HO_8.out
      subst eo160
      go_wp2_with (first | ((with_reducible refine gate_callee (f := 17) rfl ?_); refine goesL_ (some 81) rfl rfl Try.func17 zG83 rfl #[.slice Ao160 t370.length co160, .int .i64 1] rfl zG54 ?_; (with_reducible refine (laws_markStockObsS.calls kj49 (fun k_ => some k_ = (.slice Ao160 t370.length co160 : Value).ownBlock) (.slice Ao160 t370.length co160) t370 1 t393 t394 w _ ?side1 ?side2 A78.out).mono ?_); (case side1 => exact zH30); (case side2 => exact zaj rfl HO_8.out); rintro e w161 ⟨rfl, hy0, hb, hkp⟩; refine ⟨_, rfl, ?_⟩; have n_ := zA_ (za (zs (ok' := fun k_ => some k_ ≠ (.slice Ao160 t370.length co160 : Value).ownBlock) (zac (HO_4.out) hkp (fun k_ hk_ hs_ => (hk_) hs_)) (fun k_ hk_ => hk_.1))) (zA_ (za (zap rfl hy0 (fun k_ e_ => HO_8.out.1 k_ e_))) (zA_ (za (zs (ok' := fun k_ => some k_ ≠ (.slice Ao23 t378.length co23 : Value).ownBlock) (zac ((zae HO_367005.out (zaf HO_8.out) zG84)) hkp (fun k_ hk_ hs_ => (hk_.2) hs_)) (fun k_ hk_ => hk_.1.1))) (zA_ (za (zs (ok' := fun k_ => some k_ ≠ (.slice Ao16 t362.length co16 : Value).ownBlock) (zac ((zae HO_383005.out (zaf HO_8.out) zG84)) hkp (fun k_ hk_ hs_ => (hk_.2) hs_)) (fun k_ hk_ => hk_.1.1))) (zA_ (za (zab zG69 hkp (fun hs_ => (fun e_ => (zad HO_8.out BK366.out zG84) e_) hs_))) (zA_ (za (zab zG70 hkp (fun hs_ => (fun e_ => (zad HO_8.out BK382.out zG84) e_) hs_))) (za (hb))))))); clear HO_4 HO_8 HO_367005 HO_383005 BK366 BK382 HB; obtain ⟨HO_4, HO_8, HO_367005, HO_383005, BK366, BK382, HB⟩ := n_; (try clear hb); (try clear hkp); (try clear hy0); have hnb162 := NB382_366.out; have hnc162 := NB366_382.out; have hcz163_0 : w161.cell? ⟨gb382, 0, none⟩ = some (.int .i64 t373) := (q20a BK382.out 0).trans rfl; have hcz163_1 : w161.cell? ⟨gb382, 1, none⟩ = some (.int .i64 t374) := (q20a BK382.out 1).trans rfl; have hcz163_2 : w161.cell? ⟨gb382, 2, none⟩ = some (.int .i64 t375) := (q20a BK382.out 2).trans rfl; have hcz163_3 : w161.cell? ⟨gb382, 3, none⟩ = some (.int .i64 t376) := (q20a BK382.out 3).trans rfl; have hcz163_4 : w161.cell? ⟨gb382, 4, none⟩ = some (.int .i64 t377) := (q20a BK382.out 4).trans rfl; have hcz163_5 : w161.cell? ⟨gb382, 5, none⟩ = some (.slice Ao23 t378.length co23) := (q20a BK382.out 5).trans rfl; have hfz163_0 := zc BK382.out 0; have hfz163_1 := zc BK382.out 1; have hfz163_2 := zc BK382.out 2; have hfz163_3 := zc BK382.out 3; have hfz163_4 := zc BK382.out 4; have hfz163_5 := zc BK382.out 5) | ((with_reducible refine gate_callee (f := 18) rfl ?_); refine goesL_ (some 84) rfl rfl Try.func18 zG83 rfl #[.agg (zs6 t373 t374 t375 t376 t377 (.slice Ao23 t378.length co23)), .int .i64 t393] rfl zG54 ?_; (with_reducible refine (laws_markStock.calls kj49 t373 t374 t375 t376 t377 (fun k_ => some k_ = (.slice Ao23 t378.length co23 : Value).ownBlock) (.slice Ao23 t378.length co23) t378 t393 t395 t396 w _ ?side1 ?side2 A79.out).mono ?_); (case side1 => exact zH30); (case side2 => exact zaj rfl HO_383005.out); rintro e w164 ⟨rfl, hy0, hb, hkp⟩; refine ⟨_, rfl, ?_⟩; have n_ := zA_ (za (zs (ok' := fun k_ => some k_ ≠ (.slice Ao160 t370.length co160 : Value).ownBlock) (zac ((zae HO_4.out (zaf HO_383005.out) zG84)) hkp (fun k_ hk_ hs_ => (hk_.2) hs_)) (fun k_ hk_ => hk_.1.1))) (zA_ (za (zs (ok' := fun k_ => some k_ ≠ (v355 : Value).ownBlock) (zac ((zae HO_8.out (zaf HO_383005.out) zG84)) hkp (fun k_ hk_ hs_ => (hk_.2) hs_)) (fun k_ hk_ => hk_.1.1))) (zA_ (za (zs (ok' := fun k_ => some k_ ≠ (.slice Ao23 t378.length co23 : Value).ownBlock) (zac (HO_367005.out) hkp (fun k_ hk_ hs_ => (hk_) hs_)) (fun k_ hk_ => hk_.1))) (zA_ (za (zap rfl hy0 (fun k_ e_ => HO_383005.out.1 k_ e_))) (zA_ (za (zab zG69 hkp (fun hs_ => (fun e_ => (zad HO_383005.out BK366.out zG84) e_) hs_))) (zA_ (za (zab zG70 hkp (fun hs_ => (fun e_ => (zad HO_383005.out BK382.out zG84) e_) hs_))) (za (hb))))))); clear HO_4 HO_8 HO_367005 HO_383005 BK366 BK382 HB; obtain ⟨HO_4, HO_8, HO_367005, HO_383005, BK366, BK382, HB⟩ := n_; (try clear hb); (try clear hkp); (try clear hy0)) | ((with_reducible refine gate_callee (f := 19) rfl ?_); refine goesL_ (some 87) rfl rfl Try.func19 zG83 rfl #[.slice Ao160 t394.length co160, .int .i64 1] rfl zK129 ?_; (with_reducible refine (laws_heldStockObsS.calls kj49 _ _ t394 1 t397 _ ?side1 ?side2 A80.out).mono ?_); (case side1 => exact zH37); (case side2 => exact zH61); rintro e w' ⟨rfl, ⟨nd, rfl⟩⟩; refine ⟨_, rfl, ?_⟩; have hcz165_0 : w164.cell? ⟨gb382, 0, none⟩ = some (.int .i64 t373) := (q20a BK382.out 0).trans rfl; have hcz165_1 : w164.cell? ⟨gb382, 1, none⟩ = some (.int .i64 t374) := (q20a BK382.out 1).trans rfl; have hcz165_2 : w164.cell? ⟨gb382, 2, none⟩ = some (.int .i64 t375) := (q20a BK382.out 2).trans rfl; have hcz165_3 : w164.cell? ⟨gb382, 3, none⟩ = some (.int .i64 t376) := (q20a BK382.out 3).trans rfl; have hcz165_4 : w164.cell? ⟨gb382, 4, none⟩ = some (.int .i64 t377) := (q20a BK382.out 4).trans rfl; have hcz165_5 : w164.cell? ⟨gb382, 5, none⟩ = some (.slice Ao23 t378.length co23) := (q20a BK382.out 5).trans rfl; have hfz165_0 := zc BK382.out 0; have hfz165_1 := zc BK382.out 1; have hfz165_2 := zc BK382.out 2; have hfz165_3 := zc BK382.out 3; have hfz165_4 := zc BK382.out 4; have hfz165_5 := zc BK382.out 5) | ((with_reducible refine gate_callee (f := 20) rfl ?_); refine goesL_ (some 92) rfl rfl Try.func20 zG83 rfl #[.agg (zs6 t373 t374 t375 t376 t377 (.slice Ao23 t396.length co23)), .int .i64 t397] rfl zK128 ?_; (with_reducible refine (laws_heldStock.calls kj49 t373 t374 t375 t376 t377 _ _ t396 t397 t398 _ ?side1 ?side2 A87.out).mono ?_); (case side1 => exact zH25); (case side2 => exact zH51); rintro e w166 ⟨rfl, hb⟩; refine ⟨_, rfl, ?_⟩; have n_ := zA_ (za (zo zG75 hb)) (zA_ (za (zo zG76 hb)) (zA_ (za (zo zG72 hb)) (zA_ (za (zo zG73 hb)) (zA_ (za (zq (g := gb366) (o := .cells (zs6 t357 t358 t359 t360 t361 (.slice Ao16 t362.length co16)) 29 (0, 0)) zG69 hb)) (zA_ (za (zq (g := gb382) (o := .cells (zs6 t373 t374 t375 t376 t377 (.slice Ao23 t378.length co23)) 29 (0, 0)) zG70 hb)) (za (zr zG53 hb))))))); clear HO_4 HO_8 HO_367005 HO_383005 BK366 BK382 HB; obtain ⟨HO_4, HO_8, HO_367005, HO_383005, BK366, BK382, HB⟩ := n_; (try clear hb)))
      go_ret
      exact zH9
     rw [if_pos c96] at H
     have c96b0 : (t398 == t395) = true := beq_iff_eq.mpr c96
     have c96b1 : (t398 != t395) = false := bne_eq_false_iff_eq.mpr c96
     clear c96
     replace H := Option.bind_eq_some_iff.mp H
     obtain ⟨t399, A970, H⟩ := H
     replace H : ((impl_StockRun.f kj49 t399).bind fun bt402 => ((laws_eqStockObsS.f kj49 bt402.1 t354).bind fun t415 => (if t415 = true then ((laws_eqStock.f kj49 bt402.2.1 bt402.2.2.1 bt402.2.2.2.1 bt402.2.2.2.2.1 bt402.2.2.2.2.2.1 bt402.2.2.2.2.2.2.1 t357 t358 t359 t360 t361 t362).bind fun t416 => (if t416 = true then (laws_FnExactStockRun.j2 kj49 t394 t395 (bt402.2.2.2.2.2.2.2 != t365) t373 t374 t375 t376 t377 t396) else (laws_FnExactStockRun.j2 kj49 t394 t395 true t373 t374 t375 t376 t377 t396))) else (laws_FnExactStockRun.j2 kj49 t394 t395 true t373 t374 t375 t376 t377 t396)))) = some r := H
     have A97 := za A970
     clear A970
     replace H := Option.bind_eq_some_iff.mp H
     obtain ⟨⟨t402, t405, t406, t407, t408, t409, t410, t413⟩, A980, H⟩ := H
     replace H : ((laws_eqStockObsS.f kj49 t402 t354).bind fun t415 => (if t415 = true then ((laws_eqStock.f kj49 t405 t406 t407 t408 t409 t410 t357 t358 t359 t360 t361 t362).bind fun t416 => (if t416 = true then (laws_FnExactStockRun.j2 kj49 t394 t395 (t413 != t365) t373 t374 t375 t376 t377 t396) else (laws_FnExactStockRun.j2 kj49 t394 t395 true t373 t374 t375 t376 t377 t396))) else (laws_FnExactStockRun.j2 kj49 t394 t395 true t373 t374 t375 t376 t377 t396))) = some r := H
     obtain ⟨A98, HC99⟩ := zD2 A980 H
     clear A980 H
     obtain ⟨Ao100, co100, eo100⟩ := zx HO_8.out
     subst eo100
     go_upto_region 29 with (first | ((with_reducible refine gate_callee (f := 17) rfl ?_); refine goesL_ (some 81) rfl rfl Try.func17 zG83 rfl #[.slice Ao100 t370.length co100, .int .i64 1] rfl zG54 ?_; (with_reducible refine (laws_markStockObsS.calls kj49 (fun k_ => some k_ = (.slice Ao100 t370.length co100 : Value).ownBlock) (.slice Ao100 t370.length co100) t370 1 t393 t394 w _ ?side1 ?side2 A78.out).mono ?_); (case side1 => exact zH30); (case side2 => exact zaj rfl HO_8.out); rintro e w101 ⟨rfl, hy0, hb, hkp⟩; refine ⟨_, rfl, ?_⟩; have n_ := zA_ (za (zs (ok' := fun k_ => some k_ ≠ (.slice Ao100 t370.length co100 : Value).ownBlock) (zac (HO_4.out) hkp (fun k_ hk_ hs_ => (hk_) hs_)) (fun k_ hk_ => hk_.1))) (zA_ (za (zap rfl hy0 (fun k_ e_ => HO_8.out.1 k_ e_))) (zA_ (za (zs (ok' := fun k_ => some k_ ≠ (.slice Ao23 t378.length co23 : Value).ownBlock) (zac ((zae HO_367005.out (zaf HO_8.out) zG84)) hkp (fun k_ hk_ hs_ => (hk_.2) hs_)) (fun k_ hk_ => hk_.1.1))) (zA_ (za (zs (ok' := fun k_ => some k_ ≠ (.slice Ao16 t362.length co16 : Value).ownBlock) (zac ((zae HO_383005.out (zaf HO_8.out) zG84)) hkp (fun k_ hk_ hs_ => (hk_.2) hs_)) (fun k_ hk_ => hk_.1.1))) (zA_ (za (zab zG69 hkp (fun hs_ => (fun e_ => (zad HO_8.out BK366.out zG84) e_) hs_))) (zA_ (za (zab zG70 hkp (fun hs_ => (fun e_ => (zad HO_8.out BK382.out zG84) e_) hs_))) (za (hb))))))); clear HO_4 HO_8 HO_367005 HO_383005 BK366 BK382 HB; obtain ⟨HO_4, HO_8, HO_367005, HO_383005, BK366, BK382, HB⟩ := n_; (try clear hb); (try clear hkp); (try clear hy0); have hnb102 := NB382_366.out; have hnc102 := NB366_382.out; have hcz103_0 : w101.cell? ⟨gb382, 0, none⟩ = some (.int .i64 t373) := (q20a BK382.out 0).trans rfl; have hcz103_1 : w101.cell? ⟨gb382, 1, none⟩ = some (.int .i64 t374) := (q20a BK382.out 1).trans rfl; have hcz103_2 : w101.cell? ⟨gb382, 2, none⟩ = some (.int .i64 t375) := (q20a BK382.out 2).trans rfl; have hcz103_3 : w101.cell? ⟨gb382, 3, none⟩ = some (.int .i64 t376) := (q20a BK382.out 3).trans rfl; have hcz103_4 : w101.cell? ⟨gb382, 4, none⟩ = some (.int .i64 t377) := (q20a BK382.out 4).trans rfl; have hcz103_5 : w101.cell? ⟨gb382, 5, none⟩ = some (.slice Ao23 t378.length co23) := (q20a BK382.out 5).trans rfl; have hfz103_0 := zc BK382.out 0; have hfz103_1 := zc BK382.out 1; have hfz103_2 := zc BK382.out 2; have hfz103_3 := zc BK382.out 3; have hfz103_4 := zc BK382.out 4; have hfz103_5 := zc BK382.out 5) | ((with_reducible refine gate_callee (f := 18) rfl ?_); refine goesL_ (some 84) rfl rfl Try.func18 zG83 rfl #[.agg (zs6 t373 t374 t375 t376 t377 (.slice Ao23 t378.length co23)), .int .i64 t393] rfl zG54 ?_; (with_reducible refine (laws_markStock.calls kj49 t373 t374 t375 t376 t377 (fun k_ => some k_ = (.slice Ao23 t378.length co23 : Value).ownBlock) (.slice Ao23 t378.length co23) t378 t393 t395 t396 w _ ?side1 ?side2 A79.out).mono ?_); (case side1 => exact zH30); (case side2 => exact zaj rfl HO_383005.out); rintro e w104 ⟨rfl, hy0, hb, hkp⟩; refine ⟨_, rfl, ?_⟩; have n_ := zA_ (za (zs (ok' := fun k_ => some k_ ≠ (.slice Ao100 t370.length co100 : Value).ownBlock) (zac ((zae HO_4.out (zaf HO_383005.out) zG84)) hkp (fun k_ hk_ hs_ => (hk_.2) hs_)) (fun k_ hk_ => hk_.1.1))) (zA_ (za (zs (ok' := fun k_ => some k_ ≠ (v355 : Value).ownBlock) (zac ((zae HO_8.out (zaf HO_383005.out) zG84)) hkp (fun k_ hk_ hs_ => (hk_.2) hs_)) (fun k_ hk_ => hk_.1.1))) (zA_ (za (zs (ok' := fun k_ => some k_ ≠ (.slice Ao23 t378.length co23 : Value).ownBlock) (zac (HO_367005.out) hkp (fun k_ hk_ hs_ => (hk_) hs_)) (fun k_ hk_ => hk_.1))) (zA_ (za (zap rfl hy0 (fun k_ e_ => HO_383005.out.1 k_ e_))) (zA_ (za (zab zG69 hkp (fun hs_ => (fun e_ => (zad HO_383005.out BK366.out zG84) e_) hs_))) (zA_ (za (zab zG70 hkp (fun hs_ => (fun e_ => (zad HO_383005.out BK382.out zG84) e_) hs_))) (za (hb))))))); clear HO_4 HO_8 HO_367005 HO_383005 BK366 BK382 HB; obtain ⟨HO_4, HO_8, HO_367005, HO_383005, BK366, BK382, HB⟩ := n_; (try clear hb); (try clear hkp); (try clear hy0)) | ((with_reducible refine gate_callee (f := 19) rfl ?_); refine goesL_ (some 87) rfl rfl Try.func19 zG83 rfl #[.slice Ao100 t394.length co100, .int .i64 1] rfl zK129 ?_; (with_reducible refine (laws_heldStockObsS.calls kj49 _ _ t394 1 t397 _ ?side1 ?side2 A80.out).mono ?_); (case side1 => exact zH37); (case side2 => exact zH61); rintro e w' ⟨rfl, ⟨nd, rfl⟩⟩; refine ⟨_, rfl, ?_⟩; (try (rw [drewN_self w104]; generalize hq_ : World.drewN w104 _ = w104; have n0_ : Aside0 (Kd.R k38 38 w104 w.heap.size (fun k_ => some k_ ≠ (.slice Ao23 t378.length co23 : Value).ownBlock) (.slice Ao16 t362.length co16) t362) := ⟨by rw [← hq_]; exact zG72⟩; have n1_ : Aside0 (Kd.R k38 38 w104 w.heap.size (fun k_ => some k_ ≠ (.slice Ao16 t362.length co16 : Value).ownBlock) (.slice Ao23 t378.length co23) t396) := ⟨by rw [← hq_]; exact zG73⟩; have n2_ : Aside0 (Kd.R k36 36 w104 w.heap.size (fun k_ => some k_ ≠ (.slice Ao100 t370.length co100 : Value).ownBlock) v355 t354) := ⟨by rw [← hq_]; exact zG75⟩; have n3_ : Aside0 (Kd.R k36 36 w104 w.heap.size (fun k_ => some k_ ≠ (v355 : Value).ownBlock) (.slice Ao100 t370.length co100) t394) := ⟨by rw [← hq_]; exact zG76⟩; have n4_ : Aside0 (w104.heap[gb366]? = some (.cells (zs6 t357 t358 t359 t360 t361 (.slice Ao16 t362.length co16)) 29 (0, 0))) := ⟨by rw [← hq_]; exact zG69⟩; have n5_ : Aside0 (w104.heap[gb382]? = some (.cells (zs6 t373 t374 t375 t376 t377 (.slice Ao23 t378.length co23)) 29 (0, 0))) := ⟨by rw [← hq_]; exact zG70⟩; have n6_ : Aside0 (Below w.heap.size w w104) := ⟨by rw [← hq_]; exact zG53⟩; clear HO_367005 HO_383005 HO_4 HO_8 BK366 BK382 HB hq_; have HO_367005 := n0_; have HO_383005 := n1_; have HO_4 := n2_; have HO_8 := n3_; have BK366 := n4_; have BK382 := n5_; have HB := n6_; clear n0_ n1_ n2_ n3_ n4_ n5_ n6_)); (try have hcu105_0 : w104.cell? ⟨gb366, 0, none⟩ = some (.int .i64 t357) := (q20a BK366.out 0).trans rfl); (try have hcu105_1 : w104.cell? ⟨gb366, 1, none⟩ = some (.int .i64 t358) := (q20a BK366.out 1).trans rfl); (try have hcu105_2 : w104.cell? ⟨gb366, 2, none⟩ = some (.int .i64 t359) := (q20a BK366.out 2).trans rfl); (try have hcu105_3 : w104.cell? ⟨gb366, 3, none⟩ = some (.int .i64 t360) := (q20a BK366.out 3).trans rfl); (try have hcu105_4 : w104.cell? ⟨gb366, 4, none⟩ = some (.int .i64 t361) := (q20a BK366.out 4).trans rfl); (try have hcu105_5 : w104.cell? ⟨gb366, 5, none⟩ = some (.slice Ao16 t362.length co16) := (q20a BK366.out 5).trans rfl); (try have hfcu105_0 := zc BK366.out 0); (try have hfcu105_1 := zc BK366.out 1); (try have hfcu105_2 := zc BK366.out 2); (try have hfcu105_3 := zc BK366.out 3); (try have hfcu105_4 := zc BK366.out 4); (try have hfcu105_5 := zc BK366.out 5); (try have hcu106_0 : w104.cell? ⟨gb382, 0, none⟩ = some (.int .i64 t373) := (q20a BK382.out 0).trans rfl); (try have hcu106_1 : w104.cell? ⟨gb382, 1, none⟩ = some (.int .i64 t374) := (q20a BK382.out 1).trans rfl); (try have hcu106_2 : w104.cell? ⟨gb382, 2, none⟩ = some (.int .i64 t375) := (q20a BK382.out 2).trans rfl); (try have hcu106_3 : w104.cell? ⟨gb382, 3, none⟩ = some (.int .i64 t376) := (q20a BK382.out 3).trans rfl); (try have hcu106_4 : w104.cell? ⟨gb382, 4, none⟩ = some (.int .i64 t377) := (q20a BK382.out 4).trans rfl); (try have hcu106_5 : w104.cell? ⟨gb382, 5, none⟩ = some (.slice Ao23 t378.length co23) := (q20a BK382.out 5).trans rfl); (try have hfcu106_0 := zc BK382.out 0); (try have hfcu106_1 := zc BK382.out 1); (try have hfcu106_2 := zc BK382.out 2); (try have hfcu106_3 := zc BK382.out 3); (try have hfcu106_4 := zc BK382.out 4); (try have hfcu106_5 := zc BK382.out 5); have hcz107_0 : w104.cell? ⟨gb382, 0, none⟩ = some (.int .i64 t373) := (q20a BK382.out 0).trans rfl; have hcz107_1 : w104.cell? ⟨gb382, 1, none⟩ = some (.int .i64 t374) := (q20a BK382.out 1).trans rfl; have hcz107_2 : w104.cell? ⟨gb382, 2, none⟩ = some (.int .i64 t375) := (q20a BK382.out 2).trans rfl; have hcz107_3 : w104.cell? ⟨gb382, 3, none⟩ = some (.int .i64 t376) := (q20a BK382.out 3).trans rfl; have hcz107_4 : w104.cell? ⟨gb382, 4, none⟩ = some (.int .i64 t377) := (q20a BK382.out 4).trans rfl; have hcz107_5 : w104.cell? ⟨gb382, 5, none⟩ = some (.slice Ao23 t378.length co23) := (q20a BK382.out 5).trans rfl; have hfz107_0 := zc BK382.out 0; have hfz107_1 := zc BK382.out 1; have hfz107_2 := zc BK382.out 2; have hfz107_3 := zc BK382.out 3; have hfz107_4 := zc BK382.out 4; have hfz107_5 := zc BK382.out 5) | ((with_reducible refine gate_callee (f := 20) rfl ?_); refine goesL_ (some 92) rfl rfl Try.func20 zG83 rfl #[.agg (zs6 t373 t374 t375 t376 t377 (.slice Ao23 t396.length co23)), .int .i64 t397] rfl zK128 ?_; (with_reducible refine (laws_heldStock.calls kj49 t373 t374 t375 t376 t377 _ _ t396 t397 t398 _ ?side1 ?side2 A87.out).mono ?_); (case side1 => exact zH25); (case side2 => exact zH51); rintro e w108 ⟨rfl, hb⟩; refine ⟨_, rfl, ?_⟩; have n_ := zA_ (za (zo zG75 hb)) (zA_ (za (zo zG76 hb)) (zA_ (za (zo zG72 hb)) (zA_ (za (zo zG73 hb)) (zA_ (za (zq (g := gb366) (o := .cells (zs6 t357 t358 t359 t360 t361 (.slice Ao16 t362.length co16)) 29 (0, 0)) zG69 hb)) (zA_ (za (zq (g := gb382) (o := .cells (zs6 t373 t374 t375 t376 t377 (.slice Ao23 t378.length co23)) 29 (0, 0)) zG70 hb)) (za (zr zG53 hb))))))); clear HO_4 HO_8 HO_367005 HO_383005 BK366 BK382 HB; obtain ⟨HO_4, HO_8, HO_367005, HO_383005, BK366, BK382, HB⟩ := n_; (try clear hb)) | ((with_reducible refine gate_callee (f := 12) rfl ?_); refine goesL_ (some 100) rfl rfl Try.func12 zG83 rfl #[.slice A0 l0.length c0] rfl zG54 ?_; (with_reducible refine (laws_toStockActS.calls kj49 _ _ l0 t399 _ ?side1 ?side2 A97.out).mono ?_); (case side1 => exact zH40); (case side2 => exact HC0.out); rintro e w109 ⟨v400, rfl, ho0, hb⟩; refine ⟨_, rfl, ?_⟩; have n_ := zA_ (za (zo zG75 hb)) (zA_ (za (zo zG76 hb)) (zA_ (za (zo zG72 hb)) (zA_ (za (zo zG73 hb)) (zA_ (za (zai ho0 (zp zG53))) (zA_ (za (zq (g := gb366) (o := .cells (zs6 t357 t358 t359 t360 t361 (.slice Ao16 t362.length co16)) 29 (0, 0)) zG69 hb)) (zA_ (za (zq (g := gb382) (o := .cells (zs6 t373 t374 t375 t376 t377 (.slice Ao23 t378.length co23)) 29 (0, 0)) zG70 hb)) (za (zr zG53 hb)))))))); clear HO_4 HO_8 HO_367005 HO_383005 BK366 BK382 HB; obtain ⟨HO_4, HO_8, HO_367005, HO_383005, HO401, BK366, BK382, HB⟩ := n_; (try clear hb); (try clear ho0); obtain ⟨Ao110, co110, eo110⟩ := zx HO401.out; subst eo110) | ((with_reducible refine gate_callee (f := 7) rfl ?_); refine goesL_ (some 101) rfl rfl Try.func7 zG83 rfl #[.slice Ao110 t399.length co110] rfl zG54 ?_; (with_reducible refine (impl_StockRun.calls kj49 _ _ t399 t402 t405 t406 t407 t408 t409 t410 t413 _ ?side1 ?side2 A98.out).mono ?_); (case side1 => repeat (first | exact (Kd.R_reads' HO401.out).2.2 | (with_reducible refine zy ?_ _) | (with_reducible refine zz ?_ _) | (with_reducible refine zaa ?_))); (case side2 => exact (Kd.R_reads' HO401.out).2.1); rintro e w111 ⟨v403, v411, rfl, ho0, ho1, hb⟩; refine ⟨_, rfl, ?_⟩; have n_ := zA_ (za (zan zG75 (zaq ho0) hb)) (zA_ (za (zan zG76 (zaq ho0) hb)) (zA_ (za (zan zG72 (zaq ho1) hb)) (zA_ (za (zan zG73 (zaq ho1) hb)) (zA_ (za (zo zK176 hb)) (zA_ (za (zai (zar (zar ho0 (zas zG75)) (zas zG76)) (zp zG53))) (zA_ (za (zai (zar (zar ho1 (zas zG72)) (zas zG73)) (zp zG53))) (zA_ (za (zq (g := gb366) (o := .cells (zs6 t357 t358 t359 t360 t361 (.slice Ao16 t362.length co16)) 29 (0, 0)) zG69 hb)) (zA_ (za (zq (g := gb382) (o := .cells (zs6 t373 t374 t375 t376 t377 (.slice Ao23 t378.length co23)) 29 (0, 0)) zG70 hb)) (za (zr zG53 hb)))))))))); clear HO_4 HO_8 HO_367005 HO_383005 HO401 BK366 BK382 HB; obtain ⟨HO_4, HO_8, HO_367005, HO_383005, HO401, HO404, HO412, BK366, BK382, HB⟩ := n_; (try clear hb); (try clear ho0); (try clear ho1)) | ((with_reducible refine gate_dst (N := 15) rfl ?_); refine box_event ?hg (N := 15) ?hd (cs := (zs6 0 0 0 0 0 (.slice none 0 0))) (t := 29) ?hr ?_; (case hd => rfl); (case hg => rfl); (case hr => exact zH83); intro gb414 hg w112 hbox hb; have n_ := zA_ (za (zo zG75 hb)) (zA_ (za (zo zG76 hb)) (zA_ (za (zo zG72 hb)) (zA_ (za (zo zG73 hb)) (zA_ (za (zo zK176 hb)) (zA_ (za (zo zK177 hb)) (zA_ (za (zo zK178 hb)) (zA_ (za (zq (g := gb366) (o := .cells (zs6 t357 t358 t359 t360 t361 (.slice Ao16 t362.length co16)) 29 (0, 0)) zG69 hb)) (zA_ (za (zq (g := gb382) (o := .cells (zs6 t373 t374 t375 t376 t377 (.slice Ao23 t378.length co23)) 29 (0, 0)) zG70 hb)) (zA_ (za (zr zG53 hb)) (zA_ (za (hbox)) (zA_ (zN1 w.heap.size hg (zp zG53)) (zA_ (zN1 w.heap.size hg (zp zG53)) (zN3 hg (zv (g := gb366) (o := .cells (zs6 t357 t358 t359 t360 t361 (.slice Ao16 t362.length co16)) 29 (0, 0)) zG69) (zN2 hg (zv (g := gb382) (o := .cells (zs6 t373 t374 t375 t376 t377 (.slice Ao23 t378.length co23)) 29 (0, 0)) zG70))))))))))))))); clear HO_4 HO_8 HO_367005 HO_383005 HO401 HO404 HO412 BK366 BK382 HB; obtain ⟨HO_4, HO_8, HO_367005, HO_383005, HO401, HO404, HO412, BK366, BK382, HB, BK414, GW414, GE414, NB366_414, NB414_366, NB382_414, NB414_382⟩ := n_; clear hb hbox hg; have hnb113 := NB414_366.out; have hnc113 := NB366_414.out; have hnb114 := NB414_382.out; have hnc114 := NB382_414.out; have hcz115_0 : w112.cell? ⟨gb414, 0, none⟩ = some (.int .i64 0) := (q20a BK414.out 0).trans rfl; have hcz115_1 : w112.cell? ⟨gb414, 1, none⟩ = some (.int .i64 0) := (q20a BK414.out 1).trans rfl; have hcz115_2 : w112.cell? ⟨gb414, 2, none⟩ = some (.int .i64 0) := (q20a BK414.out 2).trans rfl; have hcz115_3 : w112.cell? ⟨gb414, 3, none⟩ = some (.int .i64 0) := (q20a BK414.out 3).trans rfl; have hcz115_4 : w112.cell? ⟨gb414, 4, none⟩ = some (.int .i64 0) := (q20a BK414.out 4).trans rfl; have hcz115_5 : w112.cell? ⟨gb414, 5, none⟩ = some (.slice none 0 0) := (q20a BK414.out 5).trans rfl; have hfz115_0 := zc BK414.out 0; have hfz115_1 := zc BK414.out 1; have hfz115_2 := zc BK414.out 2; have hfz115_3 := zc BK414.out 3; have hfz115_4 := zc BK414.out 4; have hfz115_5 := zc BK414.out 5; obtain ⟨Ao116, co116, eo116⟩ := zx HO412.out; subst eo116))
     (try simp only [Act.put, List.setIfInBounds_toArray, List.set_cons_zero, List.set_cons_succ])
     go_cut [119] (fun v119 wc => ∃ (kq : Nat) (x119_98 : Bool), v119 = .bool x119_98 ∧ Aside0 (laws_FnExactStockRun.j2 kq t394 t395 x119_98 t373 t374 t375 t376 t377 t396 = some r) ∧ Aside0 (kq ≤ kj49) ∧ Aside0 (Kd.R k36 36 wc w.heap.size (fun _ => True) (.slice Ao100 t370.length co100) t394) ∧ Aside0 (Kd.R k38 38 wc w.heap.size (fun k_ => some k_ ≠ ((.slice Ao23 t378.length co23) : Value).ownBlock ∧ some k_ ≠ ((.slice Ao116 t410.length co116) : Value).ownBlock) (.slice Ao16 t362.length co16) t362) ∧ Aside0 (Kd.R k38 38 wc w.heap.size (fun k_ => some k_ ≠ ((.slice Ao16 t362.length co16) : Value).ownBlock ∧ some k_ ≠ ((.slice Ao116 t410.length co116) : Value).ownBlock) (.slice Ao23 t378.length co23) t396) ∧ Aside0 (Kd.R k38 38 wc w.heap.size (fun k_ => some k_ ≠ ((.slice Ao16 t362.length co16) : Value).ownBlock ∧ some k_ ≠ ((.slice Ao23 t378.length co23) : Value).ownBlock) (.slice Ao116 t410.length co116) t410) ∧ Aside0 (wc.heap[gb366]? = some (.cells (zs6 t357 t358 t359 t360 t361 (.slice Ao16 t362.length co16)) 29 (0, 0))) ∧ Aside0 (wc.heap[gb382]? = some (.cells (zs6 t373 t374 t375 t376 t377 (.slice Ao23 t378.length co23)) 29 (0, 0))) ∧ Aside0 (wc.heap[gb414]? = some (.cells (zs6 t405 t406 t407 t408 t409 (.slice Ao116 t410.length co116)) 29 (0, 0))) ∧ Aside0 (Below w.heap.size w wc))
     case first =>
      have H := HC99.out
      clear HC99
      replace H := Option.bind_eq_some_iff.mp H
      obtain ⟨t415, A1170, H⟩ := H
      replace H : (if t415 = true then ((laws_eqStock.f kj49 t405 t406 t407 t408 t409 t410 t357 t358 t359 t360 t361 t362).bind fun t416 => (if t416 = true then (laws_FnExactStockRun.j2 kj49 t394 t395 (t413 != t365) t373 t374 t375 t376 t377 t396) else (laws_FnExactStockRun.j2 kj49 t394 t395 true t373 t374 t375 t376 t377 t396))) else (laws_FnExactStockRun.j2 kj49 t394 t395 true t373 t374 t375 t376 t377 t396)) = some r := H
      have A117 := za A1170
      clear A1170
      by_cases c118 : t415 = true
      rotate_left
      ·replace c118 := Bool.eq_false_iff.mpr c118
       subst c118
       have H1 : (laws_FnExactStockRun.j2 kj49 t394 t395 true t373 t374 t375 t376 t377 t396) = some r := by rw [if_neg (show ¬ (false = true) by decide)] at H; exact H
       clear H
       have H := H1
       clear H1
       have H' := za H
       clear H
       obtain ⟨Ao139, co139, eo139⟩ := zx HO404.out
       subst eo139
       obtain ⟨Ao140, co140, eo140⟩ := zx HO_4.out
       subst eo140
       go_wp2_with (first | ((with_reducible refine gate_callee (f := 13) rfl ?_); refine goesL_ (some 107) rfl rfl Try.func13 zG83 rfl #[.slice Ao139 t402.length co139, .slice Ao140 t354.length co140] rfl zG54 ?_; (with_reducible refine (laws_eqStockObsS.calls kj49 _ _ t402 _ _ t354 false _ ?side1 ?side2 ?side3 ?side4 A117.out).mono ?_); (case side1 => refine (Kd.R_reads' (e := 36) (base := w.heap.size) (ok := fun k_ => ((True ∧ some k_ ≠ (.slice Ao140 t354.length co140 : Value).ownBlock) ∧ some k_ ≠ (.slice Ao100 t370.length co100 : Value).ownBlock)) (n := t402.length) (c := co139) ?_).2.2; exact zK101); (case side2 => exact (Kd.R_reads' HO404.out).2.1); (case side3 => refine (Kd.R_reads' (e := 36) (base := w.heap.size) (ok := fun k_ => (some k_ ≠ (.slice Ao100 t370.length co100 : Value).ownBlock ∧ some k_ ≠ (.slice Ao139 t402.length co139 : Value).ownBlock)) (n := t354.length) (c := co140) ?_).2.2; exact zK104); (case side4 => exact zH86); rintro e w141 ⟨rfl, hb⟩; refine ⟨_, rfl, ?_⟩; have n_ := zA_ (za (zo zK104 hb)) (zA_ (za (zo zK105 hb)) (zA_ (za (zo zK99 hb)) (zA_ (za (zo zK100 hb)) (zA_ (za (zo zK102 hb)) (zA_ (za (zo zK101 hb)) (zA_ (za (zo zK103 hb)) (zA_ (za (zq (g := gb366) (o := .cells (zs6 t357 t358 t359 t360 t361 (.slice Ao16 t362.length co16)) 29 (0, 0)) zK97 hb)) (zA_ (za (zq (g := gb382) (o := .cells (zs6 t373 t374 t375 t376 t377 (.slice Ao23 t378.length co23)) 29 (0, 0)) zK98 hb)) (zA_ (za (zq (g := gb414) (o := .cells (zs6 t405 t406 t407 t408 t409 (.slice Ao116 t410.length co116)) 29 (0, 0)) zK93 hb)) (za (zr zK136 hb))))))))))); clear HO_4 HO_8 HO_367005 HO_383005 HO401 HO404 HO412 BK366 BK382 BK414 HB; obtain ⟨HO_4, HO_8, HO_367005, HO_383005, HO401, HO404, HO412, BK366, BK382, BK414, HB⟩ := n_; (try clear hb); (try clear hk)))
       go_meet
       case rel => exact ⟨_, (true), zG82, H', ⟨zH76⟩, ⟨zH53⟩, ⟨zH69⟩, ⟨zH70⟩, ⟨zH50⟩, ⟨zH65⟩, ⟨zH66⟩, ⟨zH64⟩, ⟨zH15⟩⟩
      subst c118
      have H1 : ((laws_eqStock.f kj49 t405 t406 t407 t408 t409 t410 t357 t358 t359 t360 t361 t362).bind fun t416 => (if t416 = true then (laws_FnExactStockRun.j2 kj49 t394 t395 (t413 != t365) t373 t374 t375 t376 t377 t396) else (laws_FnExactStockRun.j2 kj49 t394 t395 true t373 t374 t375 t376 t377 t396))) = some r := by rw [if_pos rfl] at H; exact H
      clear H
      have H := H1
      clear H1
      replace H := Option.bind_eq_some_iff.mp H
      obtain ⟨t416, A1190, H⟩ := H
      replace H : (if t416 = true then (laws_FnExactStockRun.j2 kj49 t394 t395 (t413 != t365) t373 t374 t375 t376 t377 t396) else (laws_FnExactStockRun.j2 kj49 t394 t395 true t373 t374 t375 t376 t377 t396)) = some r := H
      have A119 := za A1190
      clear A1190
      by_cases c120 : t416 = true
      ·subst c120
       have H1 : (laws_FnExactStockRun.j2 kj49 t394 t395 (t413 != t365) t373 t374 t375 t376 t377 t396) = some r := by rw [if_pos rfl] at H; exact H
       clear H
       have H := H1
       clear H1
       have H' := za H
       clear H
       obtain ⟨Ao121, co121, eo121⟩ := zx HO404.out
       subst eo121
       obtain ⟨Ao122, co122, eo122⟩ := zx HO_4.out
       subst eo122
       go_wp2_with (first | ((with_reducible refine gate_callee (f := 13) rfl ?_); refine goesL_ (some 107) rfl rfl Try.func13 zG83 rfl #[.slice Ao121 t402.length co121, .slice Ao122 t354.length co122] rfl zG54 ?_; (with_reducible refine (laws_eqStockObsS.calls kj49 _ _ t402 _ _ t354 true _ ?side1 ?side2 ?side3 ?side4 A117.out).mono ?_); (case side1 => refine (Kd.R_reads' (e := 36) (base := w.heap.size) (ok := fun k_ => ((True ∧ some k_ ≠ (.slice Ao122 t354.length co122 : Value).ownBlock) ∧ some k_ ≠ (.slice Ao100 t370.length co100 : Value).ownBlock)) (n := t402.length) (c := co121) ?_).2.2; exact zK101); (case side2 => exact (Kd.R_reads' HO404.out).2.1); (case side3 => refine (Kd.R_reads' (e := 36) (base := w.heap.size) (ok := fun k_ => (some k_ ≠ (.slice Ao100 t370.length co100 : Value).ownBlock ∧ some k_ ≠ (.slice Ao121 t402.length co121 : Value).ownBlock)) (n := t354.length) (c := co122) ?_).2.2; exact zK104); (case side4 => exact zH86); rintro e w123 ⟨rfl, hb⟩; refine ⟨_, rfl, ?_⟩; have n_ := zA_ (za (zo zK104 hb)) (zA_ (za (zo zK105 hb)) (zA_ (za (zo zK99 hb)) (zA_ (za (zo zK100 hb)) (zA_ (za (zo zK102 hb)) (zA_ (za (zo zK101 hb)) (zA_ (za (zo zK103 hb)) (zA_ (za (zq (g := gb366) (o := .cells (zs6 t357 t358 t359 t360 t361 (.slice Ao16 t362.length co16)) 29 (0, 0)) zK97 hb)) (zA_ (za (zq (g := gb382) (o := .cells (zs6 t373 t374 t375 t376 t377 (.slice Ao23 t378.length co23)) 29 (0, 0)) zK98 hb)) (zA_ (za (zq (g := gb414) (o := .cells (zs6 t405 t406 t407 t408 t409 (.slice Ao116 t410.length co116)) 29 (0, 0)) zK93 hb)) (za (zr zK136 hb))))))))))); clear HO_4 HO_8 HO_367005 HO_383005 HO401 HO404 HO412 BK366 BK382 BK414 HB; obtain ⟨HO_4, HO_8, HO_367005, HO_383005, HO401, HO404, HO412, BK366, BK382, BK414, HB⟩ := n_; (try clear hb); (try clear hk); have hnb124 := NB414_366.out; have hnc124 := NB366_414.out; have hnb125 := NB414_382.out; have hnc125 := NB382_414.out; have hcz126_0 : w123.cell? ⟨gb414, 0, none⟩ = some (.int .i64 t405) := (q20a BK414.out 0).trans rfl; have hcz126_1 : w123.cell? ⟨gb414, 1, none⟩ = some (.int .i64 t406) := (q20a BK414.out 1).trans rfl; have hcz126_2 : w123.cell? ⟨gb414, 2, none⟩ = some (.int .i64 t407) := (q20a BK414.out 2).trans rfl; have hcz126_3 : w123.cell? ⟨gb414, 3, none⟩ = some (.int .i64 t408) := (q20a BK414.out 3).trans rfl; have hcz126_4 : w123.cell? ⟨gb414, 4, none⟩ = some (.int .i64 t409) := (q20a BK414.out 4).trans rfl; have hcz126_5 : w123.cell? ⟨gb414, 5, none⟩ = some (.slice Ao116 t410.length co116) := (q20a BK414.out 5).trans rfl; have hfz126_0 := zc BK414.out 0; have hfz126_1 := zc BK414.out 1; have hfz126_2 := zc BK414.out 2; have hfz126_3 := zc BK414.out 3; have hfz126_4 := zc BK414.out 4; have hfz126_5 := zc BK414.out 5; have hnb127 := NB366_382.out; have hnc127 := NB382_366.out; have hcz128_0 : w123.cell? ⟨gb366, 0, none⟩ = some (.int .i64 t357) := (q20a BK366.out 0).trans rfl; have hcz128_1 : w123.cell? ⟨gb366, 1, none⟩ = some (.int .i64 t358) := (q20a BK366.out 1).trans rfl; have hcz128_2 : w123.cell? ⟨gb366, 2, none⟩ = some (.int .i64 t359) := (q20a BK366.out 2).trans rfl; have hcz128_3 : w123.cell? ⟨gb366, 3, none⟩ = some (.int .i64 t360) := (q20a BK366.out 3).trans rfl; have hcz128_4 : w123.cell? ⟨gb366, 4, none⟩ = some (.int .i64 t361) := (q20a BK366.out 4).trans rfl; have hcz128_5 : w123.cell? ⟨gb366, 5, none⟩ = some (.slice Ao16 t362.length co16) := (q20a BK366.out 5).trans rfl; have hfz128_0 := zc BK366.out 0; have hfz128_1 := zc BK366.out 1; have hfz128_2 := zc BK366.out 2; have hfz128_3 := zc BK366.out 3; have hfz128_4 := zc BK366.out 4; have hfz128_5 := zc BK366.out 5) | (go_at_call 14; (with_reducible refine (laws_eqStock.calls kj49 t405 t406 t407 t408 t409 _ _ t410 t357 t358 t359 t360 t361 _ _ t362 true _ ?side1 ?side2 ?side3 ?side4 A119.out).mono ?_); (case side1 => exact zH34); (case side2 => exact (Kd.R_reads' HO412.out).2.1); (case side3 => exact zH22); (case side4 => exact (Kd.R_reads' HO_367005.out).2.1); rintro e w129 ⟨rfl, hb⟩; have n_ := zA_ (za (zo zG75 hb)) (zA_ (za (zo zG76 hb)) (zA_ (za (zo zG72 hb)) (zA_ (za (zo zG73 hb)) (zA_ (za (zo zK176 hb)) (zA_ (za (zo zK177 hb)) (zA_ (za (zo zK178 hb)) (zA_ (za (zq (g := gb366) (o := .cells (zs6 t357 t358 t359 t360 t361 (.slice Ao16 t362.length co16)) 29 (0, 0)) zG69 hb)) (zA_ (za (zq (g := gb382) (o := .cells (zs6 t373 t374 t375 t376 t377 (.slice Ao23 t378.length co23)) 29 (0, 0)) zG70 hb)) (zA_ (za (zq (g := gb414) (o := .cells (zs6 t405 t406 t407 t408 t409 (.slice Ao116 t410.length co116)) 29 (0, 0)) zK161 hb)) (za (zr zK136 hb))))))))))); clear HO_4 HO_8 HO_367005 HO_383005 HO401 HO404 HO412 BK366 BK382 BK414 HB; obtain ⟨HO_4, HO_8, HO_367005, HO_383005, HO401, HO404, HO412, BK366, BK382, BK414, HB⟩ := n_; (try clear hb); (try clear hk)))
       go_meet
       case rel => exact ⟨_, ((t413 != t365)), zG82, H', ⟨zH76⟩, ⟨zH53⟩, ⟨zH69⟩, ⟨zH70⟩, ⟨zH50⟩, ⟨zH65⟩, ⟨zH66⟩, ⟨zH64⟩, ⟨zH15⟩⟩
      replace c120 := Bool.eq_false_iff.mpr c120
      subst c120
      have H1 : (laws_FnExactStockRun.j2 kj49 t394 t395 true t373 t374 t375 t376 t377 t396) = some r := by rw [if_neg (show ¬ (false = true) by decide)] at H; exact H
      clear H
      have H := H1
      clear H1
      have H' := za H
      clear H
      obtain ⟨Ao130, co130, eo130⟩ := zx HO404.out
      subst eo130
      obtain ⟨Ao131, co131, eo131⟩ := zx HO_4.out
      subst eo131
      go_wp2_with (first | ((with_reducible refine gate_callee (f := 13) rfl ?_); refine goesL_ (some 107) rfl rfl Try.func13 zG83 rfl #[.slice Ao130 t402.length co130, .slice Ao131 t354.length co131] rfl zG54 ?_; (with_reducible refine (laws_eqStockObsS.calls kj49 _ _ t402 _ _ t354 true _ ?side1 ?side2 ?side3 ?side4 A117.out).mono ?_); (case side1 => refine (Kd.R_reads' (e := 36) (base := w.heap.size) (ok := fun k_ => ((True ∧ some k_ ≠ (.slice Ao131 t354.length co131 : Value).ownBlock) ∧ some k_ ≠ (.slice Ao100 t370.length co100 : Value).ownBlock)) (n := t402.length) (c := co130) ?_).2.2; exact zK101); (case side2 => exact (Kd.R_reads' HO404.out).2.1); (case side3 => refine (Kd.R_reads' (e := 36) (base := w.heap.size) (ok := fun k_ => (some k_ ≠ (.slice Ao100 t370.length co100 : Value).ownBlock ∧ some k_ ≠ (.slice Ao130 t402.length co130 : Value).ownBlock)) (n := t354.length) (c := co131) ?_).2.2; exact zK104); (case side4 => exact zH86); rintro e w132 ⟨rfl, hb⟩; refine ⟨_, rfl, ?_⟩; have n_ := zA_ (za (zo zK104 hb)) (zA_ (za (zo zK105 hb)) (zA_ (za (zo zK99 hb)) (zA_ (za (zo zK100 hb)) (zA_ (za (zo zK102 hb)) (zA_ (za (zo zK101 hb)) (zA_ (za (zo zK103 hb)) (zA_ (za (zq (g := gb366) (o := .cells (zs6 t357 t358 t359 t360 t361 (.slice Ao16 t362.length co16)) 29 (0, 0)) zK97 hb)) (zA_ (za (zq (g := gb382) (o := .cells (zs6 t373 t374 t375 t376 t377 (.slice Ao23 t378.length co23)) 29 (0, 0)) zK98 hb)) (zA_ (za (zq (g := gb414) (o := .cells (zs6 t405 t406 t407 t408 t409 (.slice Ao116 t410.length co116)) 29 (0, 0)) zK93 hb)) (za (zr zK136 hb))))))))))); clear HO_4 HO_8 HO_367005 HO_383005 HO401 HO404 HO412 BK366 BK382 BK414 HB; obtain ⟨HO_4, HO_8, HO_367005, HO_383005, HO401, HO404, HO412, BK366, BK382, BK414, HB⟩ := n_; (try clear hb); (try clear hk); have hnb133 := NB414_366.out; have hnc133 := NB366_414.out; have hnb134 := NB414_382.out; have hnc134 := NB382_414.out; have hcz135_0 : w132.cell? ⟨gb414, 0, none⟩ = some (.int .i64 t405) := (q20a BK414.out 0).trans rfl; have hcz135_1 : w132.cell? ⟨gb414, 1, none⟩ = some (.int .i64 t406) := (q20a BK414.out 1).trans rfl; have hcz135_2 : w132.cell? ⟨gb414, 2, none⟩ = some (.int .i64 t407) := (q20a BK414.out 2).trans rfl; have hcz135_3 : w132.cell? ⟨gb414, 3, none⟩ = some (.int .i64 t408) := (q20a BK414.out 3).trans rfl; have hcz135_4 : w132.cell? ⟨gb414, 4, none⟩ = some (.int .i64 t409) := (q20a BK414.out 4).trans rfl; have hcz135_5 : w132.cell? ⟨gb414, 5, none⟩ = some (.slice Ao116 t410.length co116) := (q20a BK414.out 5).trans rfl; have hfz135_0 := zc BK414.out 0; have hfz135_1 := zc BK414.out 1; have hfz135_2 := zc BK414.out 2; have hfz135_3 := zc BK414.out 3; have hfz135_4 := zc BK414.out 4; have hfz135_5 := zc BK414.out 5; have hnb136 := NB366_382.out; have hnc136 := NB382_366.out; have hcz137_0 : w132.cell? ⟨gb366, 0, none⟩ = some (.int .i64 t357) := (q20a BK366.out 0).trans rfl; have hcz137_1 : w132.cell? ⟨gb366, 1, none⟩ = some (.int .i64 t358) := (q20a BK366.out 1).trans rfl; have hcz137_2 : w132.cell? ⟨gb366, 2, none⟩ = some (.int .i64 t359) := (q20a BK366.out 2).trans rfl; have hcz137_3 : w132.cell? ⟨gb366, 3, none⟩ = some (.int .i64 t360) := (q20a BK366.out 3).trans rfl; have hcz137_4 : w132.cell? ⟨gb366, 4, none⟩ = some (.int .i64 t361) := (q20a BK366.out 4).trans rfl; have hcz137_5 : w132.cell? ⟨gb366, 5, none⟩ = some (.slice Ao16 t362.length co16) := (q20a BK366.out 5).trans rfl; have hfz137_0 := zc BK366.out 0; have hfz137_1 := zc BK366.out 1; have hfz137_2 := zc BK366.out 2; have hfz137_3 := zc BK366.out 3; have hfz137_4 := zc BK366.out 4; have hfz137_5 := zc BK366.out 5) | (go_at_call 14; (with_reducible refine (laws_eqStock.calls kj49 t405 t406 t407 t408 t409 _ _ t410 t357 t358 t359 t360 t361 _ _ t362 false _ ?side1 ?side2 ?side3 ?side4 A119.out).mono ?_); (case side1 => exact zH34); (case side2 => exact (Kd.R_reads' HO412.out).2.1); (case side3 => exact zH22); (case side4 => exact (Kd.R_reads' HO_367005.out).2.1); rintro e w138 ⟨rfl, hb⟩; have n_ := zA_ (za (zo zG75 hb)) (zA_ (za (zo zG76 hb)) (zA_ (za (zo zG72 hb)) (zA_ (za (zo zG73 hb)) (zA_ (za (zo zK176 hb)) (zA_ (za (zo zK177 hb)) (zA_ (za (zo zK178 hb)) (zA_ (za (zq (g := gb366) (o := .cells (zs6 t357 t358 t359 t360 t361 (.slice Ao16 t362.length co16)) 29 (0, 0)) zG69 hb)) (zA_ (za (zq (g := gb382) (o := .cells (zs6 t373 t374 t375 t376 t377 (.slice Ao23 t378.length co23)) 29 (0, 0)) zG70 hb)) (zA_ (za (zq (g := gb414) (o := .cells (zs6 t405 t406 t407 t408 t409 (.slice Ao116 t410.length co116)) 29 (0, 0)) zK161 hb)) (za (zr zK136 hb))))))))))); clear HO_4 HO_8 HO_367005 HO_383005 HO401 HO404 HO412 BK366 BK382 BK414 HB; obtain ⟨HO_4, HO_8, HO_367005, HO_383005, HO401, HO404, HO412, BK366, BK382, BK414, HB⟩ := n_; (try clear hb); (try clear hk)))
      go_meet
      case rel => exact ⟨_, (true), zG82, H', ⟨zH76⟩, ⟨zH53⟩, ⟨zH69⟩, ⟨zH70⟩, ⟨zH50⟩, ⟨zH65⟩, ⟨zH66⟩, ⟨zH64⟩, ⟨zH15⟩⟩
     case rest =>
      clear HC99
      try clear c3
      try clear c3b0
      try clear c25
      try clear c27
      try clear c45
      try clear c48
      try clear c55
      try clear c55b0
      try clear c57
      try clear c59
      try clear c77
      try clear c81
      try clear c81b0
      try clear c88
      try clear c88b0
      try clear c96
      try clear c96b0
      try clear c96b1
      try clear c118
      try clear c120
      try clear hcz103_0
      try clear hcz103_1
      try clear hcz103_2
      try clear hcz103_3
      try clear hcz103_4
      try clear hcz103_5
      try clear hcz107_0
      try clear hcz107_1
      try clear hcz107_2
      try clear hcz107_3
      try clear hcz107_4
      try clear hcz107_5
      try clear hcz115_0
      try clear hcz115_1
      try clear hcz115_2
      try clear hcz115_3
      try clear hcz115_4
      try clear hcz115_5
      try clear hcz126_0
      try clear hcz126_1
      try clear hcz126_2
      try clear hcz126_3
      try clear hcz126_4
      try clear hcz126_5
      try clear hcz128_0
      try clear hcz128_1
      try clear hcz128_2
      try clear hcz128_3
      try clear hcz128_4
      try clear hcz128_5
      try clear hcz135_0
      try clear hcz135_1
      try clear hcz135_2
      try clear hcz135_3
      try clear hcz135_4
      try clear hcz135_5
      try clear hcz137_0
      try clear hcz137_1
      try clear hcz137_2
      try clear hcz137_3
      try clear hcz137_4
      try clear hcz137_5
      try clear hcz15_0
      try clear hcz15_1
      try clear hcz15_2
      try clear hcz15_3
      try clear hcz15_4
      try clear hcz15_5
      try clear hcz22_0
      try clear hcz22_1
      try clear hcz22_2
      try clear hcz22_3
      try clear hcz22_4
      try clear hcz22_5
      try clear hcz32_0
      try clear hcz32_1
      try clear hcz32_2
      try clear hcz32_3
      try clear hcz32_4
      try clear hcz32_5
      try clear hcz33_0
      try clear hcz33_1
      try clear hcz33_2
      try clear hcz33_3
      try clear hcz33_4
      try clear hcz33_5
      try clear hcz39_0
      try clear hcz39_1
      try clear hcz39_2
      try clear hcz39_3
      try clear hcz39_4
      try clear hcz39_5
      try clear hcz40_0
      try clear hcz40_1
      try clear hcz40_2
      try clear hcz40_3
      try clear hcz40_4
      try clear hcz40_5
      try clear hcz64_0
      try clear hcz64_1
      try clear hcz64_2
      try clear hcz64_3
      try clear hcz64_4
      try clear hcz64_5
      try clear hcz65_0
      try clear hcz65_1
      try clear hcz65_2
      try clear hcz65_3
      try clear hcz65_4
      try clear hcz65_5
      try clear hcz71_0
      try clear hcz71_1
      try clear hcz71_2
      try clear hcz71_3
      try clear hcz71_4
      try clear hcz71_5
      try clear hcz72_0
      try clear hcz72_1
      try clear hcz72_2
      try clear hcz72_3
      try clear hcz72_4
      try clear hcz72_5
      try clear hcz85_0
      try clear hcz85_1
      try clear hcz85_2
      try clear hcz85_3
      try clear hcz85_4
      try clear hcz85_5
      try clear hcz92_0
      try clear hcz92_1
      try clear hcz92_2
      try clear hcz92_3
      try clear hcz92_4
      try clear hcz92_5
      try clear hcz94_0
      try clear hcz94_1
      try clear hcz94_2
      try clear hcz94_3
      try clear hcz94_4
      try clear hcz94_5
      try clear hfz103_0
      try clear hfz103_1
      try clear hfz103_2
      try clear hfz103_3
      try clear hfz103_4
      try clear hfz103_5
      try clear hfz107_0
      try clear hfz107_1
      try clear hfz107_2
      try clear hfz107_3
      try clear hfz107_4
      try clear hfz107_5
      try clear hfz115_0
      try clear hfz115_1
      try clear hfz115_2
      try clear hfz115_3
      try clear hfz115_4
      try clear hfz115_5
      try clear hfz126_0
      try clear hfz126_1
      try clear hfz126_2
      try clear hfz126_3
      try clear hfz126_4
      try clear hfz126_5
      try clear hfz128_0
      try clear hfz128_1
      try clear hfz128_2
      try clear hfz128_3
      try clear hfz128_4
      try clear hfz128_5
      try clear hfz135_0
      try clear hfz135_1
      try clear hfz135_2
      try clear hfz135_3
      try clear hfz135_4
      try clear hfz135_5
      try clear hfz137_0
      try clear hfz137_1
      try clear hfz137_2
      try clear hfz137_3
      try clear hfz137_4
      try clear hfz137_5
      try clear hfz15_0
      try clear hfz15_1
      try clear hfz15_2
      try clear hfz15_3
      try clear hfz15_4
      try clear hfz15_5
      try clear hfz22_0
      try clear hfz22_1
      try clear hfz22_2
      try clear hfz22_3
      try clear hfz22_4
      try clear hfz22_5
      try clear hfz32_0
      try clear hfz32_1
      try clear hfz32_2
      try clear hfz32_3
      try clear hfz32_4
      try clear hfz32_5
      try clear hfz33_0
      try clear hfz33_1
      try clear hfz33_2
      try clear hfz33_3
      try clear hfz33_4
      try clear hfz33_5
      try clear hfz39_0
      try clear hfz39_1
      try clear hfz39_2
      try clear hfz39_3
      try clear hfz39_4
      try clear hfz39_5
      try clear hfz40_0
      try clear hfz40_1
      try clear hfz40_2
      try clear hfz40_3
      try clear hfz40_4
      try clear hfz40_5
      try clear hfz64_0
      try clear hfz64_1
      try clear hfz64_2
      try clear hfz64_3
      try clear hfz64_4
      try clear hfz64_5
      try clear hfz65_0
      try clear hfz65_1
      try clear hfz65_2
      try clear hfz65_3
      try clear hfz65_4
      try clear hfz65_5
      try clear hfz71_0
      try clear hfz71_1
      try clear hfz71_2
      try clear hfz71_3
      try clear hfz71_4
      try clear hfz71_5
      try clear hfz72_0
      try clear hfz72_1
      try clear hfz72_2
      try clear hfz72_3
      try clear hfz72_4
      try clear hfz72_5
      try clear hfz85_0
      try clear hfz85_1
      try clear hfz85_2
      try clear hfz85_3
      try clear hfz85_4
      try clear hfz85_5
      try clear hfz92_0
      try clear hfz92_1
      try clear hfz92_2
      try clear hfz92_3
      try clear hfz92_4
      try clear hfz92_5
      try clear hfz94_0
      try clear hfz94_1
      try clear hfz94_2
      try clear hfz94_3
      try clear hfz94_4
      try clear hfz94_5
      obtain ⟨kq, x119_98, rfl, HA, HJ98, HO_8, HO_367005, HO_383005, HO_415005, BK366, BK382, BK414, HB⟩ := hcut
      have hl8_98 := (Kd.R_reads' HO_8.out).1
      rw [hl8_98] at HO_8
      (try simp only [hl8_98])
      (try simp only [hl8_98] at BK366)
      (try simp only [hl8_98] at BK382)
      (try simp only [hl8_98] at BK414)
      (try simp only [hl8_98] at HO_367005)
      (try simp only [hl8_98] at HO_383005)
      (try simp only [hl8_98] at HO_415005)
      have hl383005_98 := (Kd.R_reads' HO_383005.out).1
      rw [hl383005_98] at HO_383005
      (try simp only [hl383005_98])
      (try simp only [hl383005_98] at BK366)
      (try simp only [hl383005_98] at BK382)
      (try simp only [hl383005_98] at BK414)
      (try simp only [hl383005_98] at HO_8)
      (try simp only [hl383005_98] at HO_367005)
      (try simp only [hl383005_98] at HO_415005)
      cases kq with
      | zero => exact absurd HA.out (by simp [laws_FnExactStockRun.j2])
      | succ kj98 =>
       have H := HA.out
       clear HA
       simp only [laws_FnExactStockRun.j2] at H
       by_cases c142 : x119_98 = true
       ·subst c142
        have H1 : (some false) = some r := by rw [if_pos rfl] at H; exact H
        clear H
        have H := H1
        clear H1
        obtain rfl := Option.some.inj H
        go_wp2
        go_ret
        exact zH3
       replace c142 := Bool.eq_false_iff.mpr c142
       subst c142
       have H1 : ((laws_heldStockObsS.f kj98 t394 1).bind fun t417 => (if t417 < 0 then (some false) else ((laws_heldStock.f kj98 t373 t374 t375 t376 t377 t396 t417).bind fun t418 => (if t418 < 0 then (some false) else (if t418 = t395 then (some true) else (some false)))))) = some r := by rw [if_neg (show ¬ (false = true) by decide)] at H; exact H
       clear H
       have H := H1
       clear H1
       replace H := Option.bind_eq_some_iff.mp H
       obtain ⟨t417, A1430, H⟩ := H
       replace H : (if t417 < 0 then (some false) else ((laws_heldStock.f kj98 t373 t374 t375 t376 t377 t396 t417).bind fun t418 => (if t418 < 0 then (some false) else (if t418 = t395 then (some true) else (some false))))) = some r := H
       have A143 := za A1430
       clear A1430
       by_cases c144 : t417 < 0
       ·rw [if_pos c144] at H
        have c144b0 := decide_eq_true c144
        clear c144
        obtain rfl := Option.some.inj H
        go_wp2_with (first | ((with_reducible refine gate_callee (f := 19) rfl ?_); refine goesL_ (some 122) rfl rfl Try.func19 zG83 rfl #[.slice Ao100 t394.length co100, .int .i64 1] rfl zG54 ?_; (with_reducible refine (laws_heldStockObsS.calls kj98 _ _ t394 1 t417 _ ?side1 ?side2 A143.out).mono ?_); (case side1 => exact zH37); (case side2 => exact zH87); rintro e w' ⟨rfl, ⟨nd, rfl⟩⟩; refine ⟨_, rfl, ?_⟩))
        go_ret
        exact zH3
       rw [if_neg c144] at H
       have c144b0 := decide_eq_false c144
       clear c144
       replace H := Option.bind_eq_some_iff.mp H
       obtain ⟨t418, A1450, H⟩ := H
       replace H : (if t418 < 0 then (some false) else (if t418 = t395 then (some true) else (some false))) = some r := H
       have A145 := za A1450
       clear A1450
       by_cases c146 : t418 < 0
       ·rw [if_pos c146] at H
        have c146b0 := decide_eq_true c146
        clear c146
        obtain rfl := Option.some.inj H
        go_wp2_with (first | ((with_reducible refine gate_callee (f := 19) rfl ?_); refine goesL_ (some 122) rfl rfl Try.func19 zG83 rfl #[.slice Ao100 t394.length co100, .int .i64 1] rfl zG54 ?_; (with_reducible refine (laws_heldStockObsS.calls kj98 _ _ t394 1 t417 _ ?side1 ?side2 A143.out).mono ?_); (case side1 => exact zH37); (case side2 => exact zH87); rintro e w' ⟨rfl, ⟨nd, rfl⟩⟩; refine ⟨_, rfl, ?_⟩; have hnb147 := NB382_366.out; have hnc147 := NB366_382.out; have hnb148 := NB382_414.out; have hnc148 := NB414_382.out; have hcz149_0 : wc.cell? ⟨gb382, 0, none⟩ = some (.int .i64 t373) := (q20a BK382.out 0).trans rfl; have hcz149_1 : wc.cell? ⟨gb382, 1, none⟩ = some (.int .i64 t374) := (q20a BK382.out 1).trans rfl; have hcz149_2 : wc.cell? ⟨gb382, 2, none⟩ = some (.int .i64 t375) := (q20a BK382.out 2).trans rfl; have hcz149_3 : wc.cell? ⟨gb382, 3, none⟩ = some (.int .i64 t376) := (q20a BK382.out 3).trans rfl; have hcz149_4 : wc.cell? ⟨gb382, 4, none⟩ = some (.int .i64 t377) := (q20a BK382.out 4).trans rfl; have hcz149_5 : wc.cell? ⟨gb382, 5, none⟩ = some (.slice Ao23 t396.length co23) := (q20a BK382.out 5).trans rfl; have hfz149_0 := zc BK382.out 0; have hfz149_1 := zc BK382.out 1; have hfz149_2 := zc BK382.out 2; have hfz149_3 := zc BK382.out 3; have hfz149_4 := zc BK382.out 4; have hfz149_5 := zc BK382.out 5) | ((with_reducible refine gate_callee (f := 20) rfl ?_); refine goesL_ (some 127) rfl rfl Try.func20 zG83 rfl #[.agg (zs6 t373 t374 t375 t376 t377 (.slice Ao23 t396.length co23)), .int .i64 t417] rfl zG54 ?_; (with_reducible refine (laws_heldStock.calls kj98 t373 t374 t375 t376 t377 _ _ t396 t417 t418 _ ?side1 ?side2 A145.out).mono ?_); (case side1 => exact zH25); (case side2 => exact zH85); rintro e w150 ⟨rfl, hb⟩; refine ⟨_, rfl, ?_⟩; have n_ := zA_ (za (zo zG76 hb)) (zA_ (za (zo zG72 hb)) (zA_ (za (zo zG73 hb)) (zA_ (za (zo zK165 hb)) (zA_ (za (zq (g := gb366) (o := .cells (zs6 t357 t358 t359 t360 t361 (.slice Ao16 t362.length co16)) 29 (0, 0)) zG69 hb)) (zA_ (za (zq (g := gb382) (o := .cells (zs6 t373 t374 t375 t376 t377 (.slice Ao23 t396.length co23)) 29 (0, 0)) zG70 hb)) (zA_ (za (zq (g := gb414) (o := .cells (zs6 t405 t406 t407 t408 t409 (.slice Ao116 t410.length co116)) 29 (0, 0)) zK161 hb)) (za (zr zK136 hb)))))))); clear HO_8 HO_367005 HO_383005 HO_415005 BK366 BK382 BK414 HB; obtain ⟨HO_8, HO_367005, HO_383005, HO_415005, BK366, BK382, BK414, HB⟩ := n_; (try clear hb)))
        go_ret
        exact zH3
       rw [if_neg c146] at H
       have c146b0 := decide_eq_false c146
       clear c146
       by_cases c151 : t418 = t395
       rotate_left
       ·rw [if_neg c151] at H
        have c151b0 : (t418 == t395) = false := beq_eq_false_iff_ne.mpr c151
        have c151b1 : (t418 != t395) = true := bne_iff_ne.mpr c151
        obtain rfl := Option.some.inj H
        go_wp2_with (first | ((with_reducible refine gate_callee (f := 19) rfl ?_); refine goesL_ (some 122) rfl rfl Try.func19 zG83 rfl #[.slice Ao100 t394.length co100, .int .i64 1] rfl zG54 ?_; (with_reducible refine (laws_heldStockObsS.calls kj98 _ _ t394 1 t417 _ ?side1 ?side2 A143.out).mono ?_); (case side1 => exact zH37); (case side2 => exact zH87); rintro e w' ⟨rfl, ⟨nd, rfl⟩⟩; refine ⟨_, rfl, ?_⟩; have hnb156 := NB382_366.out; have hnc156 := NB366_382.out; have hnb157 := NB382_414.out; have hnc157 := NB414_382.out; have hcz158_0 : wc.cell? ⟨gb382, 0, none⟩ = some (.int .i64 t373) := (q20a BK382.out 0).trans rfl; have hcz158_1 : wc.cell? ⟨gb382, 1, none⟩ = some (.int .i64 t374) := (q20a BK382.out 1).trans rfl; have hcz158_2 : wc.cell? ⟨gb382, 2, none⟩ = some (.int .i64 t375) := (q20a BK382.out 2).trans rfl; have hcz158_3 : wc.cell? ⟨gb382, 3, none⟩ = some (.int .i64 t376) := (q20a BK382.out 3).trans rfl; have hcz158_4 : wc.cell? ⟨gb382, 4, none⟩ = some (.int .i64 t377) := (q20a BK382.out 4).trans rfl; have hcz158_5 : wc.cell? ⟨gb382, 5, none⟩ = some (.slice Ao23 t396.length co23) := (q20a BK382.out 5).trans rfl; have hfz158_0 := zc BK382.out 0; have hfz158_1 := zc BK382.out 1; have hfz158_2 := zc BK382.out 2; have hfz158_3 := zc BK382.out 3; have hfz158_4 := zc BK382.out 4; have hfz158_5 := zc BK382.out 5) | ((with_reducible refine gate_callee (f := 20) rfl ?_); refine goesL_ (some 127) rfl rfl Try.func20 zG83 rfl #[.agg (zs6 t373 t374 t375 t376 t377 (.slice Ao23 t396.length co23)), .int .i64 t417] rfl zG54 ?_; (with_reducible refine (laws_heldStock.calls kj98 t373 t374 t375 t376 t377 _ _ t396 t417 t418 _ ?side1 ?side2 A145.out).mono ?_); (case side1 => exact zH25); (case side2 => exact zH85); rintro e w159 ⟨rfl, hb⟩; refine ⟨_, rfl, ?_⟩; have n_ := zA_ (za (zo zG76 hb)) (zA_ (za (zo zG72 hb)) (zA_ (za (zo zG73 hb)) (zA_ (za (zo zK165 hb)) (zA_ (za (zq (g := gb366) (o := .cells (zs6 t357 t358 t359 t360 t361 (.slice Ao16 t362.length co16)) 29 (0, 0)) zG69 hb)) (zA_ (za (zq (g := gb382) (o := .cells (zs6 t373 t374 t375 t376 t377 (.slice Ao23 t396.length co23)) 29 (0, 0)) zG70 hb)) (zA_ (za (zq (g := gb414) (o := .cells (zs6 t405 t406 t407 t408 t409 (.slice Ao116 t410.length co116)) 29 (0, 0)) zK161 hb)) (za (zr zK136 hb)))))))); clear HO_8 HO_367005 HO_383005 HO_415005 BK366 BK382 BK414 HB; obtain ⟨HO_8, HO_367005, HO_383005, HO_415005, BK366, BK382, BK414, HB⟩ := n_; (try clear hb)))
        go_ret
        exact zH3
       rw [if_pos c151] at H
       have c151b0 : (t418 == t395) = true := beq_iff_eq.mpr c151
       have c151b1 : (t418 != t395) = false := bne_eq_false_iff_eq.mpr c151
       clear c151
       obtain rfl := Option.some.inj H
       go_wp2_with (first | ((with_reducible refine gate_callee (f := 19) rfl ?_); refine goesL_ (some 122) rfl rfl Try.func19 zG83 rfl #[.slice Ao100 t394.length co100, .int .i64 1] rfl zG54 ?_; (with_reducible refine (laws_heldStockObsS.calls kj98 _ _ t394 1 t417 _ ?side1 ?side2 A143.out).mono ?_); (case side1 => exact zH37); (case side2 => exact zH87); rintro e w' ⟨rfl, ⟨nd, rfl⟩⟩; refine ⟨_, rfl, ?_⟩; have hnb152 := NB382_366.out; have hnc152 := NB366_382.out; have hnb153 := NB382_414.out; have hnc153 := NB414_382.out; have hcz154_0 : wc.cell? ⟨gb382, 0, none⟩ = some (.int .i64 t373) := (q20a BK382.out 0).trans rfl; have hcz154_1 : wc.cell? ⟨gb382, 1, none⟩ = some (.int .i64 t374) := (q20a BK382.out 1).trans rfl; have hcz154_2 : wc.cell? ⟨gb382, 2, none⟩ = some (.int .i64 t375) := (q20a BK382.out 2).trans rfl; have hcz154_3 : wc.cell? ⟨gb382, 3, none⟩ = some (.int .i64 t376) := (q20a BK382.out 3).trans rfl; have hcz154_4 : wc.cell? ⟨gb382, 4, none⟩ = some (.int .i64 t377) := (q20a BK382.out 4).trans rfl; have hcz154_5 : wc.cell? ⟨gb382, 5, none⟩ = some (.slice Ao23 t396.length co23) := (q20a BK382.out 5).trans rfl; have hfz154_0 := zc BK382.out 0; have hfz154_1 := zc BK382.out 1; have hfz154_2 := zc BK382.out 2; have hfz154_3 := zc BK382.out 3; have hfz154_4 := zc BK382.out 4; have hfz154_5 := zc BK382.out 5) | ((with_reducible refine gate_callee (f := 20) rfl ?_); refine goesL_ (some 127) rfl rfl Try.func20 zG83 rfl #[.agg (zs6 t373 t374 t375 t376 t377 (.slice Ao23 t396.length co23)), .int .i64 t417] rfl zG54 ?_; (with_reducible refine (laws_heldStock.calls kj98 t373 t374 t375 t376 t377 _ _ t396 t417 t418 _ ?side1 ?side2 A145.out).mono ?_); (case side1 => exact zH25); (case side2 => exact zH85); rintro e w155 ⟨rfl, hb⟩; refine ⟨_, rfl, ?_⟩; have n_ := zA_ (za (zo zG76 hb)) (zA_ (za (zo zG72 hb)) (zA_ (za (zo zG73 hb)) (zA_ (za (zo zK165 hb)) (zA_ (za (zq (g := gb366) (o := .cells (zs6 t357 t358 t359 t360 t361 (.slice Ao16 t362.length co16)) 29 (0, 0)) zG69 hb)) (zA_ (za (zq (g := gb382) (o := .cells (zs6 t373 t374 t375 t376 t377 (.slice Ao23 t396.length co23)) 29 (0, 0)) zG70 hb)) (zA_ (za (zq (g := gb414) (o := .cells (zs6 t405 t406 t407 t408 t409 (.slice Ao116 t410.length co116)) 29 (0, 0)) zK161 hb)) (za (zr zK136 hb)))))))); clear HO_8 HO_367005 HO_383005 HO_415005 BK366 BK382 BK414 HB; obtain ⟨HO_8, HO_367005, HO_383005, HO_415005, BK366, BK382, BK414, HB⟩ := n_; (try clear hb)))
       go_ret
       exact zH3
end Go.Proofs.Ytnkceaibkfbeaaa.E
